/- A reversed loop leads to the same memory. -/
import Derived.Test.YtjmaejilmokdgaaGreatADist1
set_option maxRecDepth 100000
set_option linter.unusedVariables false
namespace Go.Lift
open Go
theorem R7(code more:List UInt8):m8 N code more=some true:=by
 have hN:N=100000:=rfl;refine Ev.eq ?_;unfold m8;refine aPw fun hml=>aO (aL6 code) fun x1 hp=>?_;obtain⟨p,part,loop⟩:=x1;dsimp only at hp⊢;have hR:=aNr hp part loop;refine aPv (REST:=fun x4 x5=>_) hR (aLm (by omega) hp part loop) (aKG (by omega) hp part loop) fun h=>?_;have hq:L4 p part loop=((L4 p part loop).1,true):=by rw [←h]
 obtain⟨hv,hw,i,k,P,l,rfl,rfl,hP,hl,hb,hf,e,hM,hK⟩:=aQx hq;have hval:=eG (n:=N) (by omega) hR.sm;rw [hw] at hval;exact Ev.jn (fun z=>z=true) (fun j hj=>aA hval (b9 (aA (aMn hp.sm hR.sm hv hw hM.arr (aNC hv hw hP hM hK) (s:=(more.length:Int)) ⟨by omega,hml⟩) (hj _ rfl)))) fun z hz=>Ev.some hz
end Go.Lift
