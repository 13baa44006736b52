/- What is held in marked lists of numbers. -/
import Derived.Test.YtcihigfifglboaaGreatVExM
import Derived.Test.YtcihigfifglboaaGreatVRun1
set_option maxRecDepth 100000
set_option linter.unusedVariables false
namespace Go.Lift
open Go
theorem U3{n m:Nat}(hn:2000000≤n)(hm:m≤1048576):kI n (upF 1 m) 1=some (1+(m:Int)):=by unfold kI;refine Ev.eq (Ev.loop (fun z:Int×Int=> ∃j:Nat,z.2=j∧j≤m∧z.1=1+j) (fun z=>m-z.2.toNat) ?_ n _ ⟨0,rfl,by omega,by simp⟩ (by dsimp only;omega));rintro again ⟨k1,i⟩ ⟨j,rfl,hj,rfl⟩ hr;dsimp only;rw [iG];refine aI (fun hlt=>?_) fun hge=>Ev.some (show 1+(j:Int)=1+(m:Int) by omega);refine aB (aQ (aFi (by omega))) (dM (fun h=>absurd rfl h) fun _=>?_);rw [aK (by omega),aK (by omega)];exact hr _ ⟨j+1,by dsimp only;omega,by omega,by dsimp only;omega⟩ (by dsimp only;omega)
theorem v2(p:Prog): ∀(l:List Inst) (m:List Int),(mB p m l).length=m.length
 | [],_=>rfl
 |x::l,m=>by
  show(mB p (wS p m x) l).length=_;rw [v2 p l];unfold wS;split
  ·simp
  rfl
theorem B4(b:Bool):(!(b==b))=false:=by cases b<;>rfl
end Go.Lift
