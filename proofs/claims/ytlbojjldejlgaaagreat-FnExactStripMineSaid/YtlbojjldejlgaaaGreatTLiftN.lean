/- Short rules for the printed walks. -/
import Derived.Test.YtlbojjldejlgaaaGreatTLiftM
namespace Go.Lift
open Go
theorem tY(b:Bool){P:Prop}(h0:b=false→P)(h1:b=true→P):P:=by
 cases b with
 |false=>exact h0 rfl
 |true=>exact h1 rfl
theorem VsLe.of_eq{vs vs':List V}(h:vs=vs'):VsLe vs vs':=h▸VsLe.refl vs
section
variable {K:Ctx} {s:S} {ops:Array Oper} {rest:List Oper} {Q:S→Prop} {d:Nat} {ty:TypeId} {pos:String} {af:Array Edge} {j:Nat} {want:Bool} {t:Nat}
end
end Go.Lift
