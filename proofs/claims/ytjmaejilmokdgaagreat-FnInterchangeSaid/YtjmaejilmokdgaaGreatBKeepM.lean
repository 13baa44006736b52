/- Interchanged loops lead to the same memory. -/
import Derived.Test.YtjmaejilmokdgaaGreatBDist1
set_option maxRecDepth 100000
set_option linter.unusedVariables false
namespace Go.Lift
open Go
theorem R4(code more:List UInt8):m4 N code more=some true:=by
 have hN:N=100000:=rfl;refine Ev.eq ?_;unfold m4;refine aOY fun hml=>aN (aLB code) fun x1 hp=>?_;obtain⟨p,part,loop⟩:=x1;dsimp only at hp⊢;have hR:=aMe hp part loop;refine aOX (REST:=fun x4 x5=>_) hR (aKS (by omega) hp part loop) (aKf (by omega) hp part loop) fun h=>?_;have hq:yC p part loop=((yC p part loop).1,true):=by rw [←h]
 obtain⟨hv,hw,i,k,P,rfl,rfl,hP,hM,hK⟩:=aPH hq;have hval:=eG (n:=N) (by omega) hR.sm;rw [hw] at hval;exact Ev.jn (fun z=>z=true) (fun j hj=>aA hval (cA (aA (aLS hp.sm hR.sm hv hw hM.arr (aM2 hv hw hP hM hK) (s:=(more.length:Int)) ⟨by omega,hml⟩) (hj _ rfl)))) fun z hz=>Ev.some hz
end Go.Lift
