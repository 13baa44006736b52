/- The law of exchanged parts. -/
import Derived.Test.YtdcjmccimcppbaaGreatBTran1
import Derived.Test.YtdcjmccimcppbaaGreatBDrawD
set_option maxRecDepth 100000
set_option linter.unusedVariables false
namespace Go.Lift
open Go
theorem aBi(code:List UInt8):Ev (gA N code) (fun x=>BG 1000 x.1∧ -1≤x.2∧x.2≤9):=by
 have hN:N=100000:=rfl
 unfold gA tT
 refine aH (aHw code) (fun x1 r1=>aH (P:=fun x=>BG 1000 x.1∧ -1≤x.2.1∧x.2.1≤9) ?_ (fun x2 h2=>Ev.some h2))
 refine aH (aCr r1 (by omega)) (fun x1 ⟨h1,r1⟩=>aH (aHB (by omega) r1 (by omega) h1) (fun x2 ⟨h2,r2⟩=>aH (jK N r2 (by omega) (by simp)) (fun x3 ⟨m3,r3⟩=>Ev.some ⟨h2.mono (show 30≤1000 by omega),?_⟩)))
 simp at m3
 dsimp only
 omega
theorem O0(code more:List UInt8):lO N code more=some true:=by
 have hN:N=100000:=rfl
 refine Ev.eq ?_
 unfold lO
 refine aI3 (fun hml=>aH (aBi code) (fun x1 hp=> ?_))
 obtain⟨p,part⟩:=x1
 dsimp only at hp⊢
 obtain⟨hp,hb⟩:=hp
 have hR:=aFe p part
 refine aI2 (REST:=fun x4 x5=>_) hR (S8 (by omega) hp hb) (aD8 (by omega) hp hb) (fun h=> ?_)
 have hc:pS p part (part+1)=true:=by
  cases hc:pS p part (part+1) with
  |true=>rfl
  |false=>
   unfold wE at h
   rw [if_neg (by rw [hc];simp)] at h
   cases h
 obtain⟨i,P1,P2,rfl,h1,h2,hi⟩:=B3 hc
 obtain⟨hv,_,_,hind⟩:=u7 hc
 rw [sA hc h1 h2] at hR⊢
 have hc2:=aFd hv h1 h2 hind
 obtain⟨s1,s2⟩:=aAI (a:=P1) (b:=P2) hi
 refine aA (S8 (by omega) hR hb) ?_
 rw [sA hc2 s1 s2]
 dsimp only
 rw [aD3 h1 h2]
 refine Ev.jn (fun z=>z=true) (fun j hj=> ?_) (fun z hz=>Ev.some hz)
 refine aA (aGF hp.sm hR.sm hv (V7 hv h1 h2) rfl (fun m hm=>aFc hv h1 h2 hind hm) (s:=(more.length:Int)) ⟨by omega,hml⟩) (bQ (bQ (aA (aAT (by omega) hp) (hj _ rfl))))
end Go.Lift
