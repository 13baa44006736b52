/- The cells that a program writes, and those that it takes in. -/
import Derived.Test.YthfcdmcpponheaaGreatWRunB
set_option maxRecDepth 100000
set_option linter.unusedVariables false
namespace Go.Lift
open Go
theorem i_instances2 {n : Nat} (hn : 7000 ≤ n) {p : Prog} (hp : SmP p) : ∃ L, i_Program_instances n p = some (L, progV p) ∧ (progV p = true → L = insts p.parts) := by
 rw [i_instances_eq hn hp]
 cases ha : allOk p with
 | false =>
  refine ⟨[], ?_, fun h => ?_⟩
  ·rw [if_neg (by simp), show progV p = false by unfold progV; rw [ha]; rfl]
  ·unfold progV at h; rw [ha] at h; cases h
 | true =>
  refine ⟨insts p.parts, ?_, fun _ => rfl⟩
  rw [if_pos rfl, show progV p = decide ((insts p.parts).length ≤ 120) by
   unfold progV; rw [ha, Bool.true_and]; exact decide_eq_decide.2 (by have := insts_len' p.parts; omega)]
abbrev tot (p : Prog) : Nat := (total p.arrays).toNat
def wfl (p : Prog) (l : List Inst) : List Bool := l.foldl (fun f x => f.set (wc p x) true) (List.replicate (tot p) false)
def inF (w : List Bool) (r : List Bool) (cs : List Int) : List Bool := cs.foldl (fun r c => r.set c.toNat (r.getD c.toNat false || !w.getD c.toNat false)) r
def ifl (p : Prog) (l : List Inst) : List Bool × List Bool := l.foldl (fun s x => (s.1.set (wc p x) true, inF s.1 s.2 (rc p x))) (List.replicate (tot p) false, List.replicate (tot p) false)
theorem wfl_snoc (p : Prog) (l : List Inst) (x : Inst) : wfl p (l ++ [x]) = (wfl p l).set (wc p x) true := by unfold wfl; rw [List.foldl_append]; rfl
theorem ifl_snoc (p : Prog) (l : List Inst) (x : Inst) : ifl p (l ++ [x]) = ((ifl p l).1.set (wc p x) true, inF (ifl p l).1 (ifl p l).2 (rc p x)) := by unfold ifl; rw [List.foldl_append]; rfl
theorem inF_len (w : List Bool) : ∀ (cs : List Int) (r : List Bool), (inF w r cs).length = r.length
 | [], r => rfl
 | c :: cs, r => by
  show (inF w (r.set c.toNat _) cs).length = _
  rw [inF_len w cs, List.length_set]
theorem ifl_gen (p : Prog) : ∀ (l : List Inst) (s : List Bool × List Bool), let t := l.foldl (fun s x => (s.1.set (wc p x) true, inF s.1 s.2 (rc p x))) s; t.1 = l.foldl (fun f x => f.set (wc p x) true) s.1 ∧ t.1.length = s.1.length ∧ t.2.length = s.2.length
 | [], s => ⟨rfl, rfl, rfl⟩
 | x :: l, s => by
  obtain ⟨h1, h2, h3⟩ := ifl_gen p l (s.1.set (wc p x) true, inF s.1 s.2 (rc p x))
  refine ⟨h1, ?_, ?_⟩
  ·refine Eq.trans h2 ?_; exact List.length_set
  ·refine Eq.trans h3 ?_; exact inF_len _ _ _
theorem ifl_fst (p : Prog) (l : List Inst) : (ifl p l).1 = wfl p l := (ifl_gen p l _).1
theorem wfl_len (p : Prog) (l : List Inst) : (wfl p l).length = tot p := by rw [← ifl_fst]; exact Eq.trans (ifl_gen p l _).2.1 (by simp)
theorem ifl_len (p : Prog) (l : List Inst) : (ifl p l).2.length = tot p := Eq.trans (ifl_gen p l _).2.2 (by simp)
theorem wfl_gen {p : Prog} {c : Nat} : ∀ {l : List Inst} {f : List Bool}, (∀ x ∈ l, wc p x < f.length) → ((l.foldl (fun f x => f.set (wc p x) true) f).getD c false = true ↔ f.getD c false = true ∨ ∃ x ∈ l, wc p x = c)
 | [], f, _ => by simp
 | x :: l, f, h => by
  have ih := wfl_gen (p := p) (c := c) (l := l) (f := f.set (wc p x) true) (fun y hy => by rw [List.length_set]; exact h y (by simp [hy]))
  show (l.foldl _ (f.set (wc p x) true)).getD c false = true ↔ _
  rw [ih, getD_set]
  have hx := h x (by simp)
  constructor
  ·rintro (h1 | ⟨y, hy, hc⟩)
   ·split at h1
    ·rename_i e; exact .inr ⟨x, by simp, e.1⟩
    ·exact .inl h1
   ·exact .inr ⟨y, by simp [hy], hc⟩
  ·rintro (h1 | ⟨y, hy, hc⟩)
   ·left; split
    ·rfl
    ·exact h1
   ·rcases List.mem_cons.1 hy with rfl | hy
    ·left; rw [if_pos ⟨hc, hx⟩]
    ·exact .inr ⟨y, hy, hc⟩
theorem wc_tot {p : Prog} (hv : progV p = true) {x : Inst} (hx : InstOk p x) : wc p x < tot p := by have := (inst_c hv hx).1; unfold tot; omega
theorem wfl_mem {p : Prog} (hv : progV p = true) {l : List Inst} (hl : ∀ x ∈ l, InstOk p x) {c : Nat} : (wfl p l).getD c false = true ↔ ∃ x ∈ l, wc p x = c := by
 unfold wfl
 rw [wfl_gen (fun x hx => by rw [List.length_replicate]; exact wc_tot hv (hl x hx))]
 simp [List.getD_eq_getElem?_getD, List.getElem?_replicate]
 intro h
 split at h <;> simp at h
theorem inF_mono {w : List Bool} : ∀ {cs : List Int} {r : List Bool} {c : Nat}, r.getD c false = true → (inF w r cs).getD c false = true
 | [], r, c, h => h
 | d :: cs, r, c, h => by
  refine inF_mono (cs := cs) ?_
  rw [getD_set]
  split
  ·rename_i e; rw [e.1, h]; rfl
  ·exact h
theorem inF_new {w : List Bool} : ∀ {cs : List Int} {r : List Bool} {c : Int}, c ∈ cs → c.toNat < r.length → w.getD c.toNat false = false → (inF w r cs).getD c.toNat false = true
 | d :: cs, r, c, h, hl, hw => by
  rcases List.mem_cons.1 h with rfl | h
  ·refine inF_mono (cs := cs) ?_
   rw [getD_set, if_pos ⟨rfl, hl⟩, hw]; simp
  ·exact inF_new (cs := cs) h (by rw [List.length_set]; exact hl) hw
theorem ifl_mono (p : Prog) (l : List Inst) {c : Nat} : ∀ (k : Nat), k ≤ l.length → ∀ j, j ≤ k → (ifl p (l.take j)).2.getD c false = true → (ifl p (l.take k)).2.getD c false = true
 | 0, _, j, hj, h => by
  obtain rfl : j = 0 := by omega
  exact h
 | k + 1, hk, j, hj, h => by
  by_cases e : j = k + 1
  ·subst e; exact h
  ·have ih := ifl_mono p l k (by omega) j (by omega) h
   rw [take_snoc (List.getElem?_eq_getElem (show k < l.length by omega)), ifl_snoc]
   exact inF_mono ih
theorem ifl_reads {p : Prog} (hv : progV p = true) {l : List Inst} (hl : ∀ x ∈ l, InstOk p x) (k : Nat) (x : Inst) (hg : l[k]? = some x) (c : Int) (hc : c ∈ rc p x) : (ifl p l).2.getD c.toNat false = true ∨ ∃ y ∈ l.take k, wc p y = c.toNat := by
 have hk := (List.getElem?_eq_some_iff.1 hg).1
 have hb := (inst_c hv (hl x (List.mem_of_getElem? hg))).2.1 c hc
 cases hw : (wfl p (l.take k)).getD c.toNat false with
 | true => exact .inr ((wfl_mem hv (fun y hy => hl y (List.mem_of_mem_take hy))).1 hw)
 | false =>
  refine .inl ?_
  have h1 : (ifl p (l.take (k + 1))).2.getD c.toNat false = true := by
   rw [take_snoc hg, ifl_snoc]
   exact inF_new hc (by rw [ifl_len]; unfold tot; omega) (by rw [ifl_fst]; exact hw)
  have := ifl_mono p l l.length (Nat.le_refl _) (k + 1) (by omega) h1
  rwa [List.take_length] at this
theorem mk_ok {α : Type} {n : Int} (h : 0 ≤ n ∧ n ≤ 1000000000) (x : α) : mk n x = some (List.replicate n.toNat x) := by unfold mk; rw [if_pos h]
theorem tot_b {p : Prog} (hv : progV p = true) : 0 ≤ total p.arrays ∧ total p.arrays ≤ 144 := by
 obtain ⟨hl, hd, h4, hpo, hil⟩ := prog_d hv
 have := total_b hd
 omega
theorem i_WrittenCells_eq {n : Nat} (hn : 7100 ≤ n) {p : Prog} (hp : SmP p) : i_WrittenCells n p = some (if progV p = true then flagged (wfl p (insts p.parts)) else []) := by
 obtain ⟨L, h1, h2⟩ := i_instances2 (n := n) (by omega) hp
 refine Ev.eq ?_
 unfold i_WrittenCells
 refine Ev.bindE h1 ?_
 dsimp only
 cases hv : progV p with
 | false => exact Ev.some rfl
 | true =>
  rw [h2 hv]
  obtain ⟨hl, hd, h4, hpo, hil⟩ := prog_d hv
  have tb := tot_b hv
  refine Ev.ff (Ev.bindE (i_cells_eq (by omega) hl hd) (Ev.bindE (mk_ok (by omega) false) ?_))
  rw [if_pos rfl]
  generalize hL : insts p.parts = l at *
  have hio : ∀ x ∈ l, InstOk p x := fun x hx => insts_mem (hL ▸ hx)
  refine Ev.loop (fun z : List Bool × Int => ∃ i : Nat, z.2 = i ∧ i ≤ l.length ∧ z.1 = wfl p (l.take i)) (fun z => l.length - z.2.toNat) ?_ n _ ⟨0, rfl, by omega, rfl⟩ (by dsimp only; omega)
  rintro again ⟨f, z⟩ ⟨i, hz, hi, hf⟩ hr
  dsimp only at hz hf ⊢
  subst hz
  refine Ev.dec (fun hlt => ?_) (fun hge => ?_)
  ·have hg := List.getElem?_eq_getElem (show i < l.length by omega)
   have hx := hio _ (List.mem_of_getElem? hg)
   have hw := wc_tot hv hx
   have hfl : f.length = tot p := by rw [hf, wfl_len]
   refine Ev.bindE (ix_nat hg) (Ev.bindE (i_touched_eq hn hv hx) (Ev.bindE (ix_nat (List.getElem?_eq_getElem (show wc p l[i] < f.length by omega))) (Ev.bindE (setx_nat (by omega) (by rw [Int.toNat_natCast]; omega) true) ?_)))
   rw [wr_in (by omega)]
   refine hr _ ⟨i + 1, by dsimp only; omega, by omega, ?_⟩ (by dsimp only; omega)
   dsimp only
   rw [take_snoc hg, wfl_snoc, Int.toNat_natCast, hf]
  ·have e : i = l.length := by omega
   rw [hf, e, List.take_length]
   exact Ev.bindE (i_chosen_eq (by rw [wfl_len]; unfold tot; omega) (by rw [wfl_len]; unfold tot; omega)) (Ev.some rfl)
theorem s_WrittenCells_eq {n : Nat} (hn : 7100 ≤ n) {p : Prog} (hp : SmP p) : s_WrittenCells n p = some (if progV p = true then flagged (wfl p (insts p.parts)) else []) := by
 refine Ev.eq ?_
 unfold s_WrittenCells
 refine Ev.bindE (s_ProgramValid_eq (by omega) hp) ?_
 cases hv : progV p with
 | false => exact Ev.some rfl
 | true =>
  obtain ⟨hl, hd, h4, hpo, hil⟩ := prog_d hv
  have tb := tot_b hv
  refine Ev.ff (Ev.bindE (s_total_eq (by omega) hl hd) (Ev.bindE (mk_ok (by omega) false) (Ev.bindE (s_instances_eq (by omega) hv) ?_)))
  rw [if_pos rfl]
  generalize hL : insts p.parts = l at *
  have hio : ∀ x ∈ l, InstOk p x := fun x hx => insts_mem (hL ▸ hx)
  refine Ev.loop (fun z : List Bool × Int => ∃ i : Nat, z.2 = i ∧ i ≤ l.length ∧ z.1 = wfl p (l.take i)) (fun z => l.length - z.2.toNat) ?_ n _ ⟨0, rfl, by omega, rfl⟩ (by dsimp only; omega)
  rintro again ⟨f, z⟩ ⟨i, hz, hi, hf⟩ hr
  dsimp only at hz hf ⊢
  subst hz
  refine Ev.dec (fun hlt => ?_) (fun hge => ?_)
  ·have hg := List.getElem?_eq_getElem (show i < l.length by omega)
   have hx := hio _ (List.mem_of_getElem? hg)
   have hw := wc_tot hv hx
   have hfl : f.length = tot p := by rw [hf, wfl_len]
   obtain ⟨P, s, q1, q2, q3⟩ := s_cellsAt hn hv hx
   refine Ev.bindE (ix_nat hg) (Ev.bindE q1 (Ev.bindE q2 (Ev.bindE q3 (Ev.bindE (ix_nat (List.getElem?_eq_getElem (show wc p l[i] < f.length by omega))) (Ev.bindE (setx_nat (by dsimp only; omega) (by dsimp only; rw [Int.toNat_natCast]; omega) true) ?_)))))
   rw [wr_in (by omega)]
   refine hr _ ⟨i + 1, by dsimp only; omega, by omega, ?_⟩ (by dsimp only; omega)
   dsimp only
   rw [take_snoc hg, wfl_snoc, Int.toNat_natCast, hf]
  ·have e : i = l.length := by omega
   rw [hf, e, List.take_length]
   exact Ev.bindE (s_flagged_eq (by rw [wfl_len]; unfold tot; omega) (by rw [wfl_len]; unfold tot; omega)) (Ev.some rfl)
end Go.Lift
