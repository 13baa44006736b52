/- The law of running a program, for every program and memory. -/
import Derived.Test.YtcihigfifglboaaGreatVExB
import Derived.Test.YtcihigfifglboaaGreatVModels
import Derived.Test.YtcihigfifglboaaGreatVRun1
set_option maxRecDepth 100000
set_option linter.unusedVariables false
namespace Go.Lift
open Go
theorem qH{m:Nat}{p:Prog}(hp:QP 9223372036854775807 m p){l:List Int}(_:l.length≤9223372036854775807):fJ (30000000+m) p l=some true:=by
 have hn:20000001+m≤30000000+m:=by omega
 generalize hN:30000000+m=n at hn;obtain⟨r,e,hr⟩:=aFE (n:=n) (by omega) hp 1048576 (by omega) (by omega);unfold fJ;refine Ev.eq (aI (fun _=>Ev.some rfl) fun hlen=>aB e ?_);have hl:l.length≤1048576:=by omega
 rcases hr with rfl|⟨h0,hc,hb⟩
 ·exact aI (fun _=>Ev.some rfl) fun h=>absurd h (by decide)
 have ht:=aFB (n:=n) (by omega) hb;have hti:=L0 (n:=n) (by omega) hl;have hi:=wV (n:=n) (by omega) (aGD hb) (m:=l) (by omega);have hs:=wP (n:=n) (by omega) (aGD hb) (m:=l) (by omega);have hgl:(aAm p l).1.length≤1048576:=by
  unfold aAm;split
  ·dsimp only;rw [v2];exact hl
  simp
 generalize aAm p l=g at hi hs hgl;obtain⟨q,hq,q1,q2⟩:=aHc (n:=n) (m:=m) (by omega) hb (k:=1) (by omega) (by omega);have hx:=f5 (n:=n) (by omega) hl (k:=q.1) (by omega) (by omega);have hm:=f5 (n:=n) (by omega) hgl (k:=1) (by omega) (by omega);have hh:=U3 (n:=n) (by omega) hgl;have he:=xJ (n:=n) (by omega) hgl;refine aI (fun h=>absurd h (by omega)) fun _=>aB ht (aB hti (aB hs (aB ht (aB hti (aB hi ?_)))));refine Ev.jn (fun z=>z=false) (fun j hj=>aB he (bD (hj _ (B4 _)))) fun z hz=>?_;subst hz;refine Ev.cond (fun h=>by cases h) fun _=>aB ht (aB (aGb (by omega) hb) (bD (aB hti (aB (xJ (by omega) hl) (bD (aB hq (aB hx (aB (bR (iG _ _)) ?_))))))));refine Ev.jn (fun z=>z=false) (fun j hj=>aI (fun h=>absurd h (by dsimp only;omega)) fun _=>aB he (bD (hj _ (B4 _)))) fun z hz=>?_;subst hz;refine Ev.cond (fun h=>by cases h) fun _=>aB hm (aB (bR (iG _ _)) (aB hh (aI (fun h=>absurd h (by omega)) fun _=>dM (fun h=>absurd rfl h) fun _=>aB ht (aB hti (aB hi ?_)))));refine Ev.jn (fun z=>z=false) (fun j hj=>aB he (bD (hj _ (B4 _)))) fun z hz=>?_;subst hz;exact Ev.cond (fun h=>by cases h) fun _=>aB hh (aI (fun h=>absurd h (by omega)) fun _=>dM (fun h=>absurd rfl h) fun _=>Ev.some rfl)
end Go.Lift
