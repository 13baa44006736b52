/- The law of strip mined parallel loops. -/
import Derived.Test.YtjmaejilmokdgaaGreatFDist1
set_option maxRecDepth 100000
set_option linter.unusedVariables false
namespace Go.Lift
open Go
theorem aKu(code:List UInt8):Ev (Option.bind (qC N code) fun x1=>Option.bind (yC N x1) fun x2=>some (x2.1,x2.2.1,x2.2.2.1)) (fun x=>BG 1000 x.1):=by have hN:N=100000:=rfl;refine aI (aLE code) fun x1 r1=>aI (P:=fun x=>BG 1000 x.1) ?_ fun x2 h2=>Ev.some h2;unfold yC P8;refine aI (P:=fun x=>BG 1000 x.1) ?_ fun x h=>Ev.some h;refine aI (aHH r1 (by omega)) fun x1 ⟨h1,r1⟩=>aI (aLK (by omega) r1 (by omega) h1) fun x2 ⟨h2,r2⟩=>aI (iL N r2 (by omega) (by simp)) fun x3 ⟨_,r3⟩=>aI (iL N r3 (by omega) (by simp)) fun x4 ⟨_,r4⟩=>aI (iL N r4 (by omega) (by simp)) fun x5 ⟨_,r5⟩=>Ev.some (h2.mono (show 30≤1000 by omega))
end Go.Lift
