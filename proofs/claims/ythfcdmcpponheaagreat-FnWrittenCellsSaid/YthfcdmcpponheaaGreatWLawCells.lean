/- Other cells are unchanged; inputs determine outputs; programs without feedback are idempotent. -/
import Derived.Test.YthfcdmcpponheaaGreatWRunC
set_option maxRecDepth 100000
set_option linter.unusedVariables false
namespace Go.Lift
open Go
theorem insts_ok {p : Prog} {x : Inst} (h : x ∈ insts p.parts) : InstOk p x := insts_mem h
theorem getD_ix {l : List Int} {i : Nat} (h : i < l.length) : ix l (i : Int) = some (l.getD i 0) := by
 rw [ix_nat (List.getElem?_eq_getElem h), List.getD_eq_getElem?_getD, List.getElem?_eq_getElem h]; rfl
theorem fl_len {p : Prog} (hv : progV p = true) (l : List Inst) : (flagged (wfl p l)).length ≤ 144 ∧ (flagged (ifl p l).2).length ≤ 144 := by
 have h1 := flagged_len (wfl p l)
 have h2 := flagged_len (ifl p l).2
 rw [wfl_len] at h1
 rw [ifl_len] at h2
 have := tot_b hv
 unfold tot at h1 h2
 omega
theorem written_iff {p : Prog} (hv : progV p = true) {c : Nat} : (c : Int) ∈ flagged (wfl p (insts p.parts)) ↔ ∃ x ∈ insts p.parts, wc p x = c := by
 rw [flagged_mem, Int.toNat_natCast, wfl_mem hv (fun x hx => insts_ok hx)]
 exact ⟨fun h => h.2, fun h => ⟨by omega, h⟩⟩
theorem outputs {p : Prog} (hv : progV p = true) {m m' : List Int} (hm : m.length = m'.length) (h : ∀ c : Nat, (c : Int) ∈ flagged (ifl p (insts p.parts)).2 → m.getD c 0 = m'.getD c 0) {c : Nat} (hc : (c : Int) ∈ flagged (wfl p (insts p.parts))) :
  (runAll p m (insts p.parts)).getD c 0 = (runAll p m' (insts p.parts)).getD c 0 := by
 have := run_agree hv (l := insts p.parts) (fun x hx => insts_ok hx) (I := fun c => (ifl p (insts p.parts)).2.getD c false = true) (fun k x hg d hd => ifl_reads hv (fun y hy => insts_ok hy) k x hg d hd) hm
  (fun c hc => h c (flagged_mem.2 ⟨by omega, by rw [Int.toNat_natCast]; exact hc⟩)) (insts p.parts).length (Nat.le_refl _) c
 rw [List.take_length] at this
 exact this (.inr ((written_iff hv).1 hc))
theorem unwritten {p : Prog} (hv : progV p = true) {m : List Int} {c : Nat} (hc : (c : Int) ∉ flagged (wfl p (insts p.parts))) : (runAll p m (insts p.parts)).getD c 0 = m.getD c 0 :=
 run_other hv (fun x hx => insts_ok hx) (fun x hx e => hc ((written_iff hv).2 ⟨x, hx, e⟩))
theorem writtenCells_law (code : List UInt8) : w_FnWrittenCells N code = some true := by
 have hN : N = 100000 := rfl
 refine Ev.eq ?_
 unfold w_FnWrittenCells
 refine Ev.cond (fun _ => Ev.some rfl) (fun _ => ?_)
 refine Ev.bind' (drawRun_ev code) (fun x3 ⟨hs, hm⟩ => ?_)
 obtain ⟨p, m⟩ := x3
 dsimp only at hs hm ⊢
 refine Ev.bindE (i_RunProgram_eq (by omega) hs hm) (Ev.bindE (i_WrittenCells_eq (by omega) hs) ?_)
 have hsw := s_WrittenCells_eq (n := N) (by omega) hs
 have hlen : (if progV p = true then flagged (wfl p (insts p.parts)) else []).length ≤ 1000 := by
  split
  ·rename_i h; have := (fl_len h (insts p.parts)).1; omega
  ·simp
 have hl := lnInts_self (n := N) (by omega) hlen
 refine Ev.jn (fun z => z.2 = !(runR p m).2) (fun j hj => Ev.bindE hsw (Ev.bindE hl (Ev.ff (hj _ rfl)))) (fun z hz => ?_)
 obtain ⟨z1, z2⟩ := z
 dsimp only at hz ⊢
 subst hz
 cases hv : memV p m with
 | false =>
  rw [runR_no hv]
  exact Ev.tt (Ev.bindE hsw (Ev.bindE hl (Ev.some rfl)))
 | true =>
  obtain ⟨hp, hmo⟩ := mem_d hv
  rw [runR_yes hv, if_pos hp]
  dsimp only
  have hrl : (runAll p m (insts p.parts)).length = m.length := run_len hp (fun x hx => insts_ok hx)
  have hfl := (fl_len hp (insts p.parts)).1
  refine Ev.ff (Ev.loop (fun x : Int => ∃ i : Nat, x = i ∧ i ≤ m.length) (fun x => m.length - x.toNat) ?_ N 0 ⟨0, rfl, by omega⟩ (by omega))
  rintro again z ⟨i, rfl, hi⟩ hr
  refine Ev.dec (fun hlt => ?_) (fun hge => Ev.some rfl)
  refine Ev.jn (fun z => z = false) (fun j hj => Ev.bindE (getD_ix (by omega)) (Ev.bindE (getD_ix (by omega)) (Ev.ndec (fun h => Ev.bindE (lnHas_eq (by omega) (by omega) _) (hj _ ?_)) (fun h => hj _ rfl)))) (fun z hz => ?_)
  ·by_cases hc : (i : Int) ∈ flagged (wfl p (insts p.parts))
   ·rw [decide_eq_true hc]; rfl
   ·exact absurd (unwritten hp hc) h
  ·subst hz
   rw [wr_in (by omega)]
   exact Ev.ff (hr _ ⟨i + 1, by omega, by omega⟩ (by omega))
end Go.Lift
