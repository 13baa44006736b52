/- The law of running an instance, for every program, memory and instance. -/
import Derived.Test.YtaedfpoebdhocaaGreatYExB
import Derived.Test.YtaedfpoebdhocaaGreatYModels
import Derived.Test.YtaedfpoebdhocaaGreatYLawInst
set_option maxRecDepth 100000
set_option linter.unusedVariables false
namespace Go.Lift
open Go
theorem pL{m:Nat}{p:Prog}(hp:QP 9223372036854775807 m p){l:List Int}(_:l.length≤9223372036854775807){x:Inst}(hx:x.point.length≤9223372036854775807):eU (30000000+m) p l x=some true:=by
 have hn:20000001+m≤30000000+m:=by omega
 generalize hN:30000000+m=n at hn;obtain⟨r,e,hr⟩:=aFW (n:=n) (by omega) hp 1048576 (by omega) (by omega);unfold eU;refine Ev.eq (aI (fun _=>Ev.some rfl) fun hlen=>aB e ?_);have hl:l.length≤1048576:=by omega
 rcases hr with rfl|⟨h0,hc,hb⟩
 ·exact aI (fun _=>Ev.some rfl) fun h=>absurd h (by decide)
 obtain⟨r2,e2,hr2⟩:=(M9 (n:=n) hx).end r h0 (by omega);refine aI (fun h=>absurd h (by omega)) fun _=>aB e2 ?_;rcases hr2 with rfl|⟨g0,gc,gb⟩
 ·exact aI (fun _=>Ev.some rfl) fun h=>absurd h (by decide)
 have ht:=aFT (n:=n) (by omega) hb;have hti:=xQ (n:=n) (by omega) hl;have hto:dU n x=some x:=by unfold dU;rw [xQ (by omega) gb];rfl
 have hqo:jQ n x x=some true:=by
  unfold jQ;exact Ev.eq (dB (fun h=>absurd rfl h) fun _=>dB (fun h=>absurd rfl h) fun _=>aB (tV (by omega) gb) (bB (Ev.some rfl)))
 have hi:=v8 (n:=n) (by omega) (aGV hb) (m:=l) (by omega) (x:=x) (by omega);have hs:=vJ (n:=n) (by omega) (aGV hb) (m:=l) (by omega) (x:=x) (by omega);have hgl:(yZ p l x).1.length≤1048576:=by
  unfold yZ;split
  ·dsimp only;unfold E3;split
   ·simpa using hl
   exact hl
  simp
 generalize yZ p l x=g at hi hs hgl;obtain⟨q,hq,q1,q2⟩:=aHv (n:=n) (m:=m) (by omega) hb (k:=1) (by omega) (by omega);have hx':=eX (n:=n) (by omega) hl (k:=q.1) (by omega) (by omega);have hy:gH n x (q.1+l.length)=some (q.1+l.length+x.point.length,upF (q.1+l.length) x.point.length):=by
  unfold gH;rw [eX (n:=n) (by omega) gb (k:=q.1+l.length) (by omega) (by omega)];rfl
 have hm:=eX (n:=n) (by omega) hgl (k:=1) (by omega) (by omega);have hh:=W0 (n:=n) (by omega) hgl;have he:=tV (n:=n) (by omega) hgl;refine aI (fun h=>absurd h (by omega)) fun _=>aB ht (aB hti (aB hto (aB hs (aB ht (aB hti (aB hto (aB hi ?_)))))));refine Ev.jn (fun z=>z=false) (fun j hj=>aB he (bB (hj _ (C9 _)))) fun z hz=>?_;subst hz;refine Ev.cond (fun h=>by cases h) fun _=>aB ht (aB (aGu (by omega) hb) (bB (aB hti (aB (tV (by omega) hl) (bB (aB hto (aB hqo (bB (aB hq (aB hx' (aB (bT (iK _ _)) (aB hy ?_))))))))))));refine Ev.jn (fun z=>z=false) (fun j hj=>aI (fun h=>absurd h (by dsimp only;omega)) fun _=>aB he (bB (hj _ (C9 _)))) fun z hz=>?_;subst hz;refine Ev.cond (fun h=>by cases h) fun _=>aB hm (aB (bT (iK _ _)) (aB hh (aI (fun h=>absurd h (by omega)) fun _=>dB (fun h=>absurd rfl h) fun _=>aB ht (aB hti (aB hto (aB hi ?_))))));refine Ev.jn (fun z=>z=false) (fun j hj=>aB he (bB (hj _ (C9 _)))) fun z hz=>?_;subst hz;exact Ev.cond (fun h=>by cases h) fun _=>aB hh (aI (fun h=>absurd h (by omega)) fun _=>dB (fun h=>absurd rfl h) fun _=>Ev.some rfl)
end Go.Lift
