/- Programs compose. -/
import Derived.Test.YtlbojjldejlgaaaGreatTDraw1
set_option maxRecDepth 110000000
set_option linter.unusedVariables false
namespace Go.Lift
open Go
theorem tX{α:Type}{l:List α}{i:Nat}{x:α}(h:l[i]? =some x):l.take (i+1)=l.take i++[x]:=by rw [R5,h];rfl
theorem aMX{α:Type}{n:Int}(h:0≤n∧n≤1000000000)(x:α):mk n x=some (List.replicate n.toNat x):=by unfold mk;rw [if_pos h]
def pick(l:List Inst)(o:List Int):List Inst:=o.filterMap fun c=>l[c.toNat]?
def com(p:Prog)(a b:Inst):Prop:= ∀m,R4 p.arrays m→vU p (vU p m a) b=vU p (vU p m b) a
def places(o:List Int):Nat→List Int
 |0=>List.replicate o.length 0
 |k+1=>(places o k).set (o.getD k 0).toNat (k:Int)
end Go.Lift
