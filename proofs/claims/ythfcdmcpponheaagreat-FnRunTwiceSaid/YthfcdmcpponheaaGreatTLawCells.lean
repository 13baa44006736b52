/- Other cells are unchanged; inputs determine outputs; programs without feedback are idempotent. -/
import Derived.Test.YthfcdmcpponheaaGreatTRunC
set_option maxRecDepth 100000
set_option linter.unusedVariables false
namespace Go.Lift
open Go
theorem insts_ok {p : Prog} {x : Inst} (h : x ∈ insts p.parts) : InstOk p x := insts_mem h
theorem list_ext {a b : List Int} (h : a.length = b.length) (h2 : ∀ c, c < a.length → a.getD c 0 = b.getD c 0) : a = b := by
 refine List.ext_getElem h (fun i h1 h3 => ?_)
 have := h2 i h1
 rw [List.getD_eq_getElem?_getD, List.getD_eq_getElem?_getD, List.getElem?_eq_getElem h1, List.getElem?_eq_getElem h3] at this
 exact this
theorem fl_len {p : Prog} (hv : progV p = true) (l : List Inst) : (flagged (wfl p l)).length ≤ 144 ∧ (flagged (ifl p l).2).length ≤ 144 := by
 have h1 := flagged_len (wfl p l)
 have h2 := flagged_len (ifl p l).2
 rw [wfl_len] at h1
 rw [ifl_len] at h2
 have := tot_b hv
 unfold tot at h1 h2
 omega
theorem written_iff {p : Prog} (hv : progV p = true) {c : Nat} : (c : Int) ∈ flagged (wfl p (insts p.parts)) ↔ ∃ x ∈ insts p.parts, wc p x = c := by
 rw [flagged_mem, Int.toNat_natCast, wfl_mem hv (fun x hx => insts_ok hx)]
 exact ⟨fun h => h.2, fun h => ⟨by omega, h⟩⟩
theorem outputs {p : Prog} (hv : progV p = true) {m m' : List Int} (hm : m.length = m'.length) (h : ∀ c : Nat, (c : Int) ∈ flagged (ifl p (insts p.parts)).2 → m.getD c 0 = m'.getD c 0) {c : Nat} (hc : (c : Int) ∈ flagged (wfl p (insts p.parts))) :
  (runAll p m (insts p.parts)).getD c 0 = (runAll p m' (insts p.parts)).getD c 0 := by
 have := run_agree hv (l := insts p.parts) (fun x hx => insts_ok hx) (I := fun c => (ifl p (insts p.parts)).2.getD c false = true) (fun k x hg d hd => ifl_reads hv (fun y hy => insts_ok hy) k x hg d hd) hm
  (fun c hc => h c (flagged_mem.2 ⟨by omega, by rw [Int.toNat_natCast]; exact hc⟩)) (insts p.parts).length (Nat.le_refl _) c
 rw [List.take_length] at this
 exact this (.inr ((written_iff hv).1 hc))
theorem unwritten {p : Prog} (hv : progV p = true) {m : List Int} {c : Nat} (hc : (c : Int) ∉ flagged (wfl p (insts p.parts))) : (runAll p m (insts p.parts)).getD c 0 = m.getD c 0 :=
 run_other hv (fun x hx => insts_ok hx) (fun x hx e => hc ((written_iff hv).2 ⟨x, hx, e⟩))
theorem runTwice_law (code : List UInt8) : w_FnRunTwice N code = some true := by
 have hN : N = 100000 := rfl
 refine Ev.eq ?_
 unfold w_FnRunTwice
 refine Ev.cond (fun _ => Ev.some rfl) (fun _ => ?_)
 refine Ev.bind' (drawRun_ev code) (fun x3 ⟨hs, hm⟩ => ?_)
 obtain ⟨p, m⟩ := x3
 dsimp only at hs hm ⊢
 refine Ev.bindE (i_RunProgram_eq (by omega) hs hm) (Ev.bindE (s_RunProgram_eq (by omega) hs hm) ?_)
 cases hv : memV p m with
 | false =>
  rw [runR_no hv]
  have hl : w_lnInts N [] [] = some true := lnInts_self (by omega) (by simp)
  rw [hl]
  exact Ev.some rfl
 | true =>
  obtain ⟨hp, hmo⟩ := mem_d hv
  rw [runR_yes hv]
  have hok : MemOk p.arrays (runAll p m (insts p.parts)) := runAll_ok hp (fun x hx => insts_mem hx) hmo
  have hl : w_lnInts N (runAll p m (insts p.parts)) (runAll p m (insts p.parts)) = some true := lnInts_self (by omega) (mem_len hp hok)
  dsimp only
  rw [hl]
  obtain ⟨f1, f2⟩ := fl_len hp (insts p.parts)
  have hrl : ∀ m, (runAll p m (insts p.parts)).length = m.length := fun m => run_len hp (fun x hx => insts_ok hx)
  refine Ev.jn (fun z => z = false) (fun j hj => hj _ rfl) (fun z hz => ?_)
  subst hz
  refine Ev.ff (Ev.bindE (i_InputCells_eq (by omega) hs) (Ev.bindE (i_WrittenCells_eq (by omega) hs) ?_))
  rw [if_pos hp, if_pos hp]
  generalize hA : flagged (ifl p (insts p.parts)).2 = A at *
  refine Ev.loop (fun x : Int => ∃ i : Nat, x = i ∧ i ≤ A.length ∧ ∀ c ∈ A.take i, c ∉ flagged (wfl p (insts p.parts))) (fun x => A.length - x.toNat) ?_ N 0 ⟨0, rfl, by omega, by simp⟩ (by omega)
  rintro again z ⟨i, rfl, hi, hno⟩ hr
  refine Ev.dec (fun hlt => ?_) (fun hge => ?_)
  ·have hg := List.getElem?_eq_getElem (show i < A.length by omega)
   refine Ev.bindE (ix_nat hg) (Ev.bindE (lnHas_eq (by omega) (by omega) _) (Ev.dec (fun _ => Ev.some rfl) (fun h => ?_)))
   rw [wr_in (by omega)]
   refine hr _ ⟨i + 1, by omega, by omega, fun c hc => ?_⟩ (by omega)
   rw [take_snoc hg, List.mem_append, List.mem_singleton] at hc
   rcases hc with hc | rfl
   ·exact hno c hc
   ·exact h
  ·have e : i = A.length := by omega
   rw [e, List.take_length] at hno
   have same : runAll p (runAll p m (insts p.parts)) (insts p.parts) = runAll p m (insts p.parts) := by
    refine list_ext (by rw [hrl]) (fun c _ => ?_)
    by_cases hc : (c : Int) ∈ flagged (wfl p (insts p.parts))
    ·refine outputs hp (hrl m) (fun d hd => ?_) hc
     rw [hA] at hd
     exact unwritten hp (hno _ hd)
    ·exact unwritten hp hc
   refine Ev.bindE (i_RunProgram_eq (by omega) hs (mem_len hp hok)) ?_
   rw [runR_yes (memV_of hp hok), same]
   exact Ev.jn (fun z => z = true) (fun j hj => Ev.tt (Ev.bindE hl (hj _ rfl))) (fun z hz => Ev.some hz)
end Go.Lift
