/- The law of running an order, for every program, memory and order. -/
import Derived.Test.YtcihigfifglboaaGreatWExB
import Derived.Test.YtcihigfifglboaaGreatWModels
import Derived.Test.YtcihigfifglboaaGreatWRun1
set_option maxRecDepth 100000
set_option linter.unusedVariables false
namespace Go.Lift
open Go
theorem tN{m:Nat}{p:Prog}(hp:QP 9223372036854775807 m p){l:List Int}(_:l.length≤9223372036854775807){o:List Int}(_:o.length≤9223372036854775807):gI (30000000+m) p l o=some true:=by
 have hn:20000001+m≤30000000+m:=by omega
 generalize hN:30000000+m=n at hn;obtain⟨r,e,hr⟩:=aF8 (n:=n) (by omega) hp 1048576 (by omega) (by omega);unfold gI;refine Ev.eq (aI (fun _=>Ev.some rfl) fun hlen=>aI (fun _=>Ev.some rfl) fun hlen2=>aB e ?_);have hl:l.length≤1048576:=by omega
 have ho:o.length≤1048576:=by omega
 rcases hr with rfl|⟨h0,hc,hb⟩
 ·exact aI (fun _=>Ev.some rfl) fun h=>absurd h (by decide)
 have ht:=aF5 (n:=n) (by omega) hb;have hti:=xL (n:=n) (by omega) hl;have hto:=xL (n:=n) (by omega) ho;have hi:=E7 (n:=n) (by omega) (aG6 hb) (m:=l) (by omega) (o:=o) (by omega);have hs:=E2 (n:=n) (by omega) (aG6 hb) (m:=l) (by omega) (o:=o) (by omega);have hgl:(yY p l o).1.length≤1048576:=by
  unfold yY;split
  ·dsimp only;rw [wM];exact hl
  simp
 generalize yY p l o=g at hi hs hgl;obtain⟨q,hq,q1,q2⟩:=aHE (n:=n) (m:=m) (by omega) hb (k:=1) (by omega) (by omega);have hx:=eX (n:=n) (by omega) hl (k:=q.1) (by omega) (by omega);have hy:=eX (n:=n) (by omega) ho (k:=q.1+l.length) (by omega) (by omega);have hm:=eX (n:=n) (by omega) hgl (k:=1) (by omega) (by omega);have hh:=W4 (n:=n) (by omega) hgl;have he:=tP (n:=n) (by omega) hgl;refine aI (fun h=>absurd h (by omega)) fun _=>aB ht (aB hti (aB hto (aB hs (aB ht (aB hti (aB hto (aB hi ?_)))))));refine Ev.jn (fun z=>z=false) (fun j hj=>aB he (bA (hj _ (D0 _)))) fun z hz=>?_;subst hz;refine Ev.cond (fun h=>by cases h) fun _=>aB ht (aB (aGE (by omega) hb) (bA (aB hti (aB (tP (by omega) hl) (bA (aB hto (aB (tP (by omega) ho) (bA (aB hq (aB hx (aB (bP (gJ _ _)) (aB hy (aB (bP (gJ _ _)) ?_)))))))))))));refine Ev.jn (fun z=>z=false) (fun j hj=>aI (fun h=>absurd h (by dsimp only;omega)) fun _=>aB he (bA (hj _ (D0 _)))) fun z hz=>?_;subst hz;refine Ev.cond (fun h=>by cases h) fun _=>aB hm (aB (bP (gJ _ _)) (aB hh (aI (fun h=>absurd h (by omega)) fun _=>dR (fun h=>absurd rfl h) fun _=>aB ht (aB hti (aB hto (aB hi ?_))))));refine Ev.jn (fun z=>z=false) (fun j hj=>aB he (bA (hj _ (D0 _)))) fun z hz=>?_;subst hz;exact Ev.cond (fun h=>by cases h) fun _=>aB hh (aI (fun h=>absurd h (by omega)) fun _=>dR (fun h=>absurd rfl h) fun _=>Ev.some rfl)
end Go.Lift
