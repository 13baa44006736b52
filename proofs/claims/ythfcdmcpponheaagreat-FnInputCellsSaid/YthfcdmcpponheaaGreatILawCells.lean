/- Other cells are unchanged; inputs determine outputs; programs without feedback are idempotent. -/
import Derived.Test.YthfcdmcpponheaaGreatIRunC
set_option maxRecDepth 100000
set_option linter.unusedVariables false
namespace Go.Lift
open Go
theorem insts_ok {p : Prog} {x : Inst} (h : x ∈ insts p.parts) : InstOk p x := insts_mem h
theorem getD_ix {l : List Int} {i : Nat} (h : i < l.length) : ix l (i : Int) = some (l.getD i 0) := by
 rw [ix_nat (List.getElem?_eq_getElem h), List.getD_eq_getElem?_getD, List.getElem?_eq_getElem h]; rfl
theorem fl_len {p : Prog} (hv : progV p = true) (l : List Inst) : (flagged (wfl p l)).length ≤ 144 ∧ (flagged (ifl p l).2).length ≤ 144 := by
 have h1 := flagged_len (wfl p l)
 have h2 := flagged_len (ifl p l).2
 rw [wfl_len] at h1
 rw [ifl_len] at h2
 have := tot_b hv
 unfold tot at h1 h2
 omega
theorem written_iff {p : Prog} (hv : progV p = true) {c : Nat} : (c : Int) ∈ flagged (wfl p (insts p.parts)) ↔ ∃ x ∈ insts p.parts, wc p x = c := by
 rw [flagged_mem, Int.toNat_natCast, wfl_mem hv (fun x hx => insts_ok hx)]
 exact ⟨fun h => h.2, fun h => ⟨by omega, h⟩⟩
theorem outputs {p : Prog} (hv : progV p = true) {m m' : List Int} (hm : m.length = m'.length) (h : ∀ c : Nat, (c : Int) ∈ flagged (ifl p (insts p.parts)).2 → m.getD c 0 = m'.getD c 0) {c : Nat} (hc : (c : Int) ∈ flagged (wfl p (insts p.parts))) :
  (runAll p m (insts p.parts)).getD c 0 = (runAll p m' (insts p.parts)).getD c 0 := by
 have := run_agree hv (l := insts p.parts) (fun x hx => insts_ok hx) (I := fun c => (ifl p (insts p.parts)).2.getD c false = true) (fun k x hg d hd => ifl_reads hv (fun y hy => insts_ok hy) k x hg d hd) hm
  (fun c hc => h c (flagged_mem.2 ⟨by omega, by rw [Int.toNat_natCast]; exact hc⟩)) (insts p.parts).length (Nat.le_refl _) c
 rw [List.take_length] at this
 exact this (.inr ((written_iff hv).1 hc))
theorem inputCells_law (code more : List UInt8) : w_FnInputCells N code more = some true := by
 have hN : N = 100000 := rfl
 refine Ev.eq ?_
 unfold w_FnInputCells
 refine Ev.jn (fun z => True) (fun j hj => Ev.dec (fun _ => hj _ trivial) (fun _ => hj _ trivial)) (fun z _ => Ev.cond (fun _ => Ev.some rfl) (fun _ => ?_))
 refine Ev.bind' (drawRun_ev code) (fun x3 ⟨hs, hm⟩ => ?_)
 obtain ⟨p, m⟩ := x3
 dsimp only at hs hm ⊢
 refine Ev.bindE (i_RunProgram_eq (by omega) hs hm) (Ev.bindE (i_InputCells_eq (by omega) hs) ?_)
 have hsw := s_InputCells_eq (n := N) (by omega) hs
 have hlen : (if progV p = true then flagged (ifl p (insts p.parts)).2 else []).length ≤ 1000 := by
  split
  ·rename_i h; have := (fl_len h (insts p.parts)).2; omega
  ·simp
 have hl := lnInts_self (n := N) (by omega) hlen
 refine Ev.jn (fun z => z.2 = !(runR p m).2) (fun j hj => Ev.bindE hsw (Ev.bindE hl (Ev.ff (hj _ rfl)))) (fun z hz => ?_)
 obtain ⟨z1, z2⟩ := z
 dsimp only at hz ⊢
 subst hz
 cases hv : memV p m with
 | false =>
  rw [runR_no hv]
  exact Ev.tt (Ev.bindE hsw (Ev.bindE hl (Ev.some rfl)))
 | true =>
  obtain ⟨hp, hmo⟩ := mem_d hv
  rw [runR_yes hv, if_pos hp]
  dsimp only
  have hrl : ∀ m, (runAll p m (insts p.parts)).length = m.length := fun m => run_len hp (fun x hx => insts_ok hx)
  obtain ⟨f1, f2⟩ := fl_len hp (insts p.parts)
  refine Ev.ff (Ev.bindE (app_nil_int m hm) ?_)
  have hk : 0 ≤ Int.tmod (more.length : Int) 9 ∧ Int.tmod (more.length : Int) 9 ≤ 8 := by
   have h0 := Int.tmod_nonneg 9 (show (0 : Int) ≤ more.length by omega)
   have h1 := Int.tmod_lt_of_pos (more.length : Int) (show (0 : Int) < 9 by omega)
   omega
  generalize Int.tmod (more.length : Int) 9 = k at hk ⊢
  generalize hA : flagged (ifl p (insts p.parts)).2 = A at *
  refine Ev.loop (fun z : List Int × Int => ∃ i : Nat, z.2 = i ∧ i ≤ m.length ∧ z.1.length = m.length ∧ MemOk p.arrays z.1 ∧ ∀ c : Nat, (c : Int) ∈ A → m.getD c 0 = z.1.getD c 0) (fun z => m.length - z.2.toNat) ?_ N _ ⟨0, rfl, by omega, rfl, hmo, fun _ _ => rfl⟩ (by dsimp only; omega)
  rintro again ⟨m', z⟩ ⟨i, hz, hi, hol, ho, hag⟩ hr
  dsimp only at hz hol ho hag ⊢
  subst hz
  refine Ev.dec (fun hlt => ?_) (fun hge => ?_)
  ·refine Ev.jn (fun z => z.length = m.length ∧ MemOk p.arrays z ∧ ∀ c : Nat, (c : Int) ∈ A → m.getD c 0 = z.getD c 0) (fun j hj => Ev.bindE (lnHas_eq (by omega) (by omega) _) (Ev.ndec (fun h => Ev.bindE (getD_ix (by omega)) (Ev.bindE (setx_nat (by omega) (by rw [Int.toNat_natCast]; omega) _) (hj _ ?_))) (fun h => hj _ ⟨hol, ho, hag⟩))) (fun z hz => ?_)
   ·rw [Int.toNat_natCast]
    have hb := getD_b ho i
    have e1 : wr (m'.getD i 0 + 1) = m'.getD i 0 + 1 := wr_in (by omega)
    have e2 : wr (m'.getD i 0 + 1 + k) = m'.getD i 0 + 1 + k := wr_in (by omega)
    rw [e1, e2]
    refine ⟨by rw [List.length_set]; exact hol, ⟨by rw [List.length_set]; exact ho.1, fun v hv => ?_⟩, fun c hc => ?_⟩
    ·rcases List.mem_or_eq_of_mem_set hv with hv | rfl
     ·exact ho.2 v hv
     ·rw [tmod1000, if_pos (by omega)]; omega
    ·rw [getD_set, if_neg]
     ·exact hag c hc
     ·rintro ⟨rfl, _⟩; exact h hc
   ·rw [wr_in (by omega)]
    exact hr _ ⟨i + 1, by dsimp only; omega, by omega, hz.1, hz.2.1, hz.2.2⟩ (by dsimp only; omega)
  clear hr hge
  refine Ev.bindE (i_RunProgram_eq (by omega) hs (mem_len hp ho)) (Ev.bindE (i_WrittenCells_eq (by omega) hs) ?_)
  rw [runR_yes (memV_of hp ho), if_pos hp]
  dsimp only
  generalize hW : flagged (wfl p (insts p.parts)) = B at *
  refine Ev.loop (fun x : Int => ∃ i : Nat, x = i ∧ i ≤ B.length) (fun x => B.length - x.toNat) ?_ N 0 ⟨0, rfl, by omega⟩ (by omega)
  rintro again z ⟨i, rfl, hi⟩ hr
  refine Ev.dec (fun hlt => ?_) (fun hge => Ev.some rfl)
  have hg := List.getElem?_eq_getElem (show i < B.length by omega)
  have hB := List.mem_of_getElem? hg
  generalize B[i] = b at hg hB
  have hB2 := hB
  rw [← hW] at hB2
  have hB3 := flagged_mem.1 hB2
  obtain ⟨c, hc⟩ : ∃ c : Nat, b = (c : Int) := ⟨b.toNat, by omega⟩
  have hcl : c < tot p := by
   refine Nat.lt_of_not_le fun hge => ?_
   have := hB3.2
   rw [hc, Int.toNat_natCast, List.getD_eq_getElem?_getD, List.getElem?_eq_none (by rw [wfl_len]; exact hge)] at this
   cases this
  have hml : m.length = tot p := by have := hmo.1; unfold tot; omega
  have hsame := outputs hp (m := m) (m' := m') hol.symm (by rw [hA]; exact hag) (c := c) (by rw [← hc]; exact hB2)
  refine Ev.jn (fun z => z = false) (fun j hj => Ev.ff (Ev.bindE (ix_nat hg) ?_)) (fun z hz => ?_)
  ·subst hc
   refine Ev.bindE (getD_ix (by rw [hrl]; omega)) (Ev.bindE (getD_ix (by rw [hrl]; omega)) (hj _ ?_))
   rw [hsame, decide_eq_true rfl]; rfl
  ·subst hz
   rw [wr_in (by omega)]
   exact Ev.ff (hr _ ⟨i + 1, by omega, by omega⟩ (by omega))
end Go.Lift
