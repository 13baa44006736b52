/- What is held in marked lists of numbers. -/
import Derived.Test.YtcihigfifglboaaGreatWExM
import Derived.Test.YtcihigfifglboaaGreatWRun1
set_option maxRecDepth 100000
set_option linter.unusedVariables false
namespace Go.Lift
open Go
theorem W4{n m:Nat}(hn:2000000≤n)(hm:m≤1048576):kQ n (upF 1 m) 1=some (1+(m:Int)):=by unfold kQ;refine Ev.eq (Ev.loop (fun z:Int×Int=> ∃j:Nat,z.2=j∧j≤m∧z.1=1+j) (fun z=>m-z.2.toNat) ?_ n _ ⟨0,rfl,by omega,by simp⟩ (by dsimp only;omega));rintro again ⟨k1,i⟩ ⟨j,rfl,hj,rfl⟩ hr;dsimp only;rw [gJ];refine aI (fun hlt=>?_) fun hge=>Ev.some (show 1+(j:Int)=1+(m:Int) by omega);refine aB (aQ (aFM (by omega))) (dR (fun h=>absurd rfl h) fun _=>?_);rw [aK (by omega),aK (by omega)];exact hr _ ⟨j+1,by dsimp only;omega,by omega,by dsimp only;omega⟩ (by dsimp only;omega)
theorem wM(p:Prog): ∀(l:List Inst) (m:List Int),(nG p m l).length=m.length
 | [],_=>rfl
 |x::l,m=>by
  show(nG p (xC p m x) l).length=_;rw [wM p l];unfold xC;split
  ·simp
  rfl
theorem D0(b:Bool):(!(b==b))=false:=by cases b<;>rfl
end Go.Lift
