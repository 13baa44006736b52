/- Orders are executed. -/
import Derived.Test.YthfcdmcpponheaaGreatORunD
set_option maxRecDepth 100000
set_option linter.unusedVariables false
namespace Go.Lift
open Go
theorem s_ProgramInstances_eq {n : Nat} (hn : 7000 ≤ n) {p : Prog} (hp : SmP p) : s_ProgramInstances n p = some (if progV p = true then insts p.parts else []) := by
 refine Ev.eq ?_
 unfold s_ProgramInstances
 refine Ev.bindE (s_ProgramValid_eq hn hp) ?_
 cases hv : progV p with
 | false => exact Ev.some rfl
 | true => exact Ev.ff (Ev.bindE (s_instances_eq hn hv) (Ev.some rfl))
theorem order_ev {n : Nat} (hn : 7100 ≤ n) {k : Int} {r : L16Rd} (hr : RdOk k r) (hk : 0 ≤ k ∧ k ≤ 80000000) {p : Prog} (hp : SmP p) : Ev (s_l5Order n r p) (fun x => x.1.length ≤ 1000 ∧ RdOk (k + 100) x.2) := by
 have hL : (if progV p = true then insts p.parts else []).length ≤ 120 := by
  split
  ·rename_i h; exact (prog_d h).2.2.2.2
  ·simp
 have hi := s_ProgramInstances_eq (n := n) (by omega) hp
 unfold s_l5Order
 generalize (if progV p = true then insts p.parts else []) = L at hL hi
 refine Ev.loop (fun z : List Int × Int => ∃ i : Nat, z.2 = i ∧ i ≤ L.length ∧ z.1.length = i) (fun z => L.length - z.2.toNat) ?_ n _ ⟨0, rfl, by omega, rfl⟩ (by dsimp only; omega)
 rintro again ⟨o, z⟩ ⟨i, hz, hil, ho⟩ hrr
 dsimp only at hz ho ⊢
 subst hz
 refine Ev.bindE hi (Ev.dec (fun hlt => Ev.bindE (app_ok (by simp; omega)) ?_) (fun hge => ?_))
 ·rw [wr_in (by omega)]
  exact hrr _ ⟨i + 1, by dsimp only; omega, by omega, by simp [ho]⟩ (by dsimp only; omega)
 clear hrr again
 refine Ev.bind' (num_n n hr (by omega) (by simp)) (fun x7 ⟨hm, r7⟩ => ?_)
 have hc : 0 ≤ x7.1 ∧ x7.1 ≤ 8 := by
  simp only [List.mem_cons, List.not_mem_nil, or_false] at hm
  omega
 refine Ev.loop (fun z : List UInt8 × Int × List Int × Int => 0 ≤ z.2.2.2 ∧ z.2.2.2 ≤ 8 ∧ z.2.2.1.length ≤ 120 ∧ RdOk (k + 1 + 2 * (8 - z.2.2.2)) ⟨z.1, z.2.1⟩) (fun z => z.2.2.2.toNat) ?_ n _ ⟨hc.1, hc.2, by dsimp only; omega, r7.mono (by dsimp only; omega)⟩ (by dsimp only; omega)
 rintro again ⟨b, q, o2, c⟩ ⟨c0, c1, ho2, r8⟩ hr2
 dsimp only at c0 c1 ho2 r8 ⊢
 refine Ev.jn (fun z => z = true → 0 < c ∧ 1 < o2.length) (fun j hj => Ev.dec (fun h => hj _ (fun e => ⟨h, by have := of_decide_eq_true e; omega⟩)) (fun h => hj _ (fun e => by cases e))) (fun z hz => ?_)
 refine Ev.cond (fun e => ?_) (fun e => ?_)
 ·obtain ⟨hc0, hl1⟩ := hz e
  refine Ev.bind' (pick_n n r8 (by omega)) (fun x16 ⟨a0, a1, r16⟩ => Ev.bind' (pick_n n r16 (by omega)) (fun x17 ⟨b0, b1, r17⟩ => ?_))
  have a2 := a1 (by omega)
  have b2 := b1 (by omega)
  obtain ⟨y, hy, _⟩ := ix_lt (l := o2) (i := x16.1) a0 a2
  obtain ⟨y2, hy2, _⟩ := ix_lt (l := o2) (i := x17.1) b0 b2
  refine Ev.bindE hy (Ev.bindE hy2 (Ev.bindE (setx_ok ⟨a0, a2⟩ y2) ?_))
  have hl : (o2.set x16.1.toNat y2).length = o2.length := List.length_set
  obtain ⟨y3, hy3, _⟩ := ix_lt (l := o2.set x16.1.toNat y2) (i := x17.1) b0 (by omega)
  refine Ev.bindE hy3 (Ev.bindE (setx_ok ⟨b0, by omega⟩ y) ?_)
  rw [wr_in (by omega)]
  refine hr2 _ ⟨by dsimp only; omega, by dsimp only; omega, by dsimp only; rw [List.length_set, hl]; exact ho2, r17.mono (by dsimp only; omega)⟩ (by dsimp only; omega)
 ·refine Ev.jn (fun z : List UInt8 × Int × List Int => z.2.2.length ≤ 120 ∧ RdOk (k + 100) ⟨z.1, z.2.1⟩) (fun j hj => ?_) (fun z hz => Ev.some ⟨Nat.le_trans hz.1 (by omega), hz.2⟩)
  refine Ev.jn (fun z : List UInt8 × Int × Bool => (z.2.2 = true → 0 < o2.length) ∧ RdOk (k + 50) ⟨z.1, z.2.1⟩) (fun j2 hj2 => Ev.dec (fun h => Ev.bind' (pick_n n r8 (by omega)) (fun x25 ⟨_, _, r25⟩ => hj2 _ ⟨(fun _ => by omega), r25.mono (by omega)⟩)) (fun h => hj2 _ ⟨(fun e => by cases e), r8.mono (by omega)⟩)) (fun z2 hz2 => ?_)
  obtain ⟨b2, q2, t2⟩ := z2
  obtain ⟨h1, h2⟩ := hz2
  dsimp only at h1 h2 ⊢
  refine Ev.cond (fun e => ?_) (fun e => hj _ ⟨ho2, h2.mono (by omega)⟩)
  have hpos := h1 e
  obtain ⟨y, hy, _⟩ := ix_lt (l := o2) (i := 0) (by omega) (by omega)
  refine Ev.bind' (num_n n h2 (by omega) (by simp)) (fun x29 ⟨_, r29⟩ => Ev.bindE hy (Ev.bindE (setx_ok ⟨by omega, by omega⟩ _) (hj _ ⟨by dsimp only; rw [List.length_set]; exact ho2, r29.mono (by omega)⟩)))
theorem drawOrder_ev (code : List UInt8) : Ev (s_DrawRunOrder N code) (fun x => SmP x.1 ∧ x.2.1.length ≤ 1000 ∧ x.2.2.length ≤ 1000) := by
 have hN : N = 100000 := rfl
 unfold s_DrawRunOrder
 refine Ev.bind' (open_ev code) (fun x1 r1 => Ev.bind' (l4Draw_ev r1 (by omega)) (fun x2 ⟨h2, r2⟩ => Ev.bind' (mut4_ev (by omega) r2 (by omega) h2) (fun x3 ⟨h3, r3⟩ => ?_)))
 have hs := (h3.mono (show 30 ≤ 1000 by omega)).sm
 exact Ev.bind' (memory_ev (by omega) r3 (by omega) hs) (fun x4 ⟨h4, r4⟩ => Ev.bind' (bend_ev r4 (by omega) h4) (fun x5 ⟨h5, r5⟩ => Ev.bind' (order_ev (by omega) r5 (by omega) hs) (fun x6 ⟨h6, r6⟩ => Ev.some ⟨hs, by dsimp only; omega, h6⟩)))
theorem runOrder_law (code : List UInt8) : w_FnRunOrder N code = some true := by
 have hN : N = 100000 := rfl
 refine Ev.eq ?_
 unfold w_FnRunOrder
 refine Ev.cond (fun _ => Ev.some rfl) (fun _ => ?_)
 refine Ev.bind' (drawOrder_ev code) (fun x3 ⟨hs, hm, ho⟩ => ?_)
 obtain ⟨p, m, o⟩ := x3
 dsimp only at hs hm ho ⊢
 refine Ev.bindE (i_RunOrder_eq (by omega) hs hm ho) (Ev.bindE (s_RunOrder_eq (by omega) hs hm ho) ?_)
 by_cases hc : memV p m = true ∧ ordV p o = true
 ·obtain ⟨hv, hov⟩ := hc
  obtain ⟨hp, hmo⟩ := mem_d hv
  obtain ⟨_, hol, hb⟩ := ordV_d hov
  rw [show runOR p m o = (runAll p m (pick (insts p.parts) o), true) by unfold runOR; rw [if_pos ⟨hv, hov⟩]]
  have hio : ∀ x ∈ insts p.parts, InstOk p x := fun x hx => insts_mem hx
  have hok : MemOk p.arrays (runAll p m (pick (insts p.parts) o)) := runAll_ok hp (fun x hx => hio x (pick_mem hx)) hmo
  have hl : w_lnInts N (runAll p m (pick (insts p.parts) o)) (runAll p m (pick (insts p.parts) o)) = some true := lnInts_self (by omega) (mem_len hp hok)
  dsimp only
  rw [hl]
  have hil := (prog_d hp).2.2.2.2
  refine Ev.jn (fun z => z = false) (fun j hj => hj _ rfl) (fun z hz => ?_)
  subst hz
  refine Ev.ff (Ev.bindE (app_nil_int m hm) (Ev.bindE (i_ProgramInstances_eq (by omega) hs) ?_))
  rw [if_pos hp]
  generalize hL : insts p.parts = l at *
  refine Ev.loop (fun x : List Int × List Int × Int => ∃ i : Nat, x.2.2 = i ∧ i ≤ o.length ∧ x.1 = iota 0 i ∧ x.2.1 = runAll p m (pick l (o.take i))) (fun x => o.length - x.2.2.toNat) ?_ N _ ⟨0, rfl, by omega, rfl, rfl⟩ (by dsimp only; omega)
  rintro again ⟨s, x, z⟩ ⟨i, hz, hi, hs1, hx1⟩ hr
  dsimp only at hz hs1 hx1 ⊢
  subst hz
  have hok1 : MemOk p.arrays x := by rw [hx1]; exact runAll_ok hp (fun y hy => hio y (pick_mem hy)) hmo
  refine Ev.dec (fun hlt => ?_) (fun hge => ?_)
  ·have hg := List.getElem?_eq_getElem (show i < o.length by omega)
   obtain ⟨b0, b1⟩ := hb _ (List.mem_of_getElem? hg)
   have hx := List.getElem?_eq_getElem (show o[i].toNat < l.length by omega)
   have hxo := hio _ (List.mem_of_getElem? hx)
   refine Ev.bindE (ix_nat hg) (Ev.bindE (ix_in b0 (by omega)) (Ev.bindE (i_RunInstance_eq (by omega) hs (mem_len hp hok1) (by have := point_len hp hxo; omega)) ?_))
   rw [runIR_ok hp hok1 hxo, wr_in (by omega)]
   refine Ev.ff (Ev.bindE (app_ok (by rw [hs1, iota_len, List.length_singleton]; omega)) (hr _ ⟨i + 1, by dsimp only; omega, by omega, ?_, ?_⟩ (by dsimp only; omega)))
   ·dsimp only
    rw [iota_snoc, Nat.zero_add, hs1]
   ·dsimp only
    rw [take_snoc hg, pick_snoc hx, runAll_snoc, ← hx1]
  ·have hie : i = o.length := by omega
   subst hie
   rw [List.take_length] at hx1
   rw [hx1, hs1, hol]
   have hov2 : ordV p (iota 0 l.length) = true := by unfold ordV; rw [hp, hL]; exact ordOk_iota _
   refine Ev.bindE (i_RunOrder_eq (by omega) hs hm (by rw [iota_len]; omega)) (Ev.bindE (i_RunProgram_eq (by omega) hs hm) ?_)
   have e1 : runOR p m (iota 0 l.length) = (runAll p m l, true) := by
    unfold runOR
    rw [if_pos ⟨hv, hov2⟩, hL, pick_iota l l.length (Nat.le_refl _), List.take_length]
   have e2 : runR p m = (runAll p m l, true) := by rw [runR_yes hv, hL]
   rw [e1, e2]
   have hok2 : MemOk p.arrays (runAll p m l) := runAll_ok hp hio hmo
   have hl2 : w_lnInts N (runAll p m l) (runAll p m l) = some true := lnInts_self (by omega) (mem_len hp hok2)
   exact Ev.jn (fun z => z = true) (fun j hj => Ev.bindE hl (Ev.tt (Ev.tt (Ev.tt (Ev.bindE hl2 (hj _ rfl)))))) (fun z hz => Ev.some hz)
 ·rw [show runOR p m o = ([], false) by unfold runOR; rw [if_neg hc]]
  have hl : w_lnInts N [] [] = some true := lnInts_self (by omega) (by simp)
  rw [hl]
  exact Ev.some rfl
end Go.Lift
