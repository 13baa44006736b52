/- Short rules for the printed walks. -/
import Derived.Test.YtohillieiccgdaaGreatGLiftM
namespace Go.Lift
open Go
theorem aHg(b:Bool){P:Prop}(h0:b=false→P)(h1:b=true→P):P:=by
 cases b with
 |false=>exact h0 rfl
 |true=>exact h1 rfl
theorem VsLe.of_eq{vs vs':List V}(h:vs=vs'):VsLe vs vs':=h▸VsLe.refl vs
section
variable {K:Ctx} {s:S} {ops:Array Oper} {rest:List Oper} {Q:S→Prop} {d:Nat} {ty:TypeId} {pos:String} {af:Array Edge} {j:Nat} {want:Bool} {t:Nat}
theorem ga{x:Operand}(v:V)(hv:s.get x=v)(hd:Nat.blt d K.nt=true)(hj:(ops[j]?).bind (·.dst)=some t)(ht:s.t t=vB want)
  (hn:zX K ops rest (s.put (some d) v) Q):zX K ops (⟨some d,.assign x,ty,pos,af,some (j,want)⟩::rest) s Q:=
 aGX _ rfl hj ht (xP (vals:=[v]) (aI0 hd) ⟨VLe.of_eq hv,trivial⟩ (aAt _ _)) hn
end
end Go.Lift
