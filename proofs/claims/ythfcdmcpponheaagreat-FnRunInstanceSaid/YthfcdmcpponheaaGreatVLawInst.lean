/- Instances are local. -/
import Derived.Test.YthfcdmcpponheaaGreatVLawOrd
set_option maxRecDepth 100000
set_option linter.unusedVariables false
namespace Go.Lift
open Go
theorem s_PointIn_eq {n : Nat} (hn : 6000 ≤ n) {nest : List Loop} (h : SmN nest) {q : List Int} (hq : q.length ≤ 1000) : s_PointIn n nest q = some (pIn nest q) := by
 refine Ev.eq ?_
 unfold s_PointIn pIn
 refine Ev.jn (fun z => z = !(nestOk nest && (ptV q && decide (q.length = nest.length)))) (fun j hj => ?_) (fun z hz => ?_)
 ·refine Ev.bindE (s_NestValid_eq (by omega) h) ?_
  cases h1 : nestOk nest with
  | false => rw [h1] at hj; exact hj true rfl
  | true =>
   refine Ev.ff (Ev.bindE (s_l1Point_eq (by omega) hq) ?_)
   rw [h1] at hj
   cases h2 : ptV q with
   | false => rw [h2] at hj; exact hj true rfl
   | true =>
    rw [h2] at hj
    refine Ev.ff (hj _ ?_)
    rw [show decide ((q.length : Int) = (nest.length : Int)) = decide (q.length = nest.length) from decide_eq_decide.2 (by omega)]; rfl
 ·subst hz
  cases h1 : nestOk nest with
  | false => exact Ev.some rfl
  | true =>
   cases h2 : ptV q with
   | false => exact Ev.some rfl
   | true =>
    by_cases h3 : q.length = nest.length
    ·rw [decide_eq_true h3]
     have := point_loop hn (fit_of h1) h3 (span := fun l p => s_l2Range n l p) (fun l d k p a b c => s_range_eq (by omega) a b c)
     rw [← h3] at this
     exact Ev.of this rfl
    ·rw [decide_eq_false h3]; exact Ev.some rfl
theorem s_l4In_eq {n : Nat} (hn : 7000 ≤ n) {p : Prog} (hp : SmP p) {x : Inst} (hx : x.point.length ≤ 1000) : s_l4In n p x = some (instB p x) := by
 obtain ⟨hp1, hp2, hp3⟩ := hp
 refine Ev.eq ?_
 unfold s_l4In instB
 refine Ev.jn (fun z => z = !decide (0 ≤ x.part ∧ x.part < p.parts.length)) (fun j hj => Ev.dec (fun h => hj _ (by rw [decide_eq_false (by omega)]; rfl)) (fun h => hj _ ?_)) (fun z hz => ?_)
 ·by_cases h2 : (p.parts.length : Int) ≤ x.part
  ·rw [decide_eq_true h2, decide_eq_false (by omega)]; rfl
  ·rw [decide_eq_false h2, decide_eq_true (by omega)]; rfl
 ·subst hz
  by_cases h : 0 ≤ x.part ∧ x.part < p.parts.length
  ·have hg := List.getElem?_eq_getElem (show x.part.toNat < p.parts.length by omega)
   obtain ⟨q1, q2, q3⟩ := hp3 _ (List.mem_of_getElem? hg)
   rw [decide_eq_true h, hg]
   refine Ev.ff (Ev.bindE (ix_in h.1 (by omega)) ?_)
   refine Ev.jn (fun z => z = (decide (0 ≤ x.part) && (decide (0 ≤ x.stmt ∧ x.stmt < p.parts[x.part.toNat].body.length) && pIn p.parts[x.part.toNat].nest x.point))) (fun j hj => Ev.dec (fun a => Ev.dec (fun b => Ev.bindE (s_PointIn_eq (by omega) q1 hx) (hj _ ?_)) (fun b => hj _ ?_)) (fun a => hj _ ?_)) (fun z hz => Ev.some hz)
   ·rw [decide_eq_true h.1, decide_eq_true (show 0 ≤ x.stmt ∧ x.stmt < _ by omega)]; rfl
   ·rw [decide_eq_true h.1, decide_eq_false (show ¬ (0 ≤ x.stmt ∧ x.stmt < _) by omega)]; rfl
   ·rw [decide_eq_true h.1, decide_eq_false (show ¬ (0 ≤ x.stmt ∧ x.stmt < _) by omega)]; rfl
  ·rw [decide_eq_false h]
   refine Ev.tt (Ev.some ?_)
   split
   ·rename_i P hP
    have := (List.getElem?_eq_some_iff.1 hP).1
    rw [decide_eq_false (by omega)]; rfl
   ·rfl
theorem s_RunInstance_eq {n : Nat} (hn : 7100 ≤ n) {p : Prog} (hp : SmP p) {m : List Int} (hm : m.length ≤ 1000) {x : Inst} (hx : x.point.length ≤ 1000) : s_RunInstance n p m x = some (runIR p m x) := by
 refine Ev.eq ?_
 unfold s_RunInstance runIR
 refine Ev.jn (fun z => z = !(memV p m && instB p x)) (fun j hj => ?_) (fun z hz => ?_)
 ·refine Ev.bindE (s_MemoryValid_eq (by omega) hp hm) ?_
  cases h1 : memV p m with
  | false => rw [h1] at hj; exact hj true rfl
  | true => rw [h1] at hj; exact Ev.ff (Ev.bindE (s_l4In_eq (by omega) hp hx) (hj _ rfl))
 ·subst hz
  cases h1 : memV p m with
  | false => exact Ev.some (by simp)
  | true =>
   cases h2 : instB p x with
   | false => exact Ev.some (by simp)
   | true =>
    obtain ⟨hv, hmo⟩ := mem_d h1
    have hio := (instB_iff hv).1 h2
    have hok2 := runI_ok hv hmo hio
    have hsl : sameLen m (runI p m x) = some () := by
     unfold sameLen; rw [if_pos]
     have := hmo.1; have := hok2.1; omega
    refine Ev.ff (Ev.bindE (app_nil_int m hm) (Ev.bindE (s_run_eq hn hv hmo hio) (Ev.bindE hsl (Ev.some ?_))))
    simp
def valIR (p : Prog) (m : List Int) (x : Inst) : Int × Bool := if memV p m = true ∧ instB p x = true then (vl p m x, true) else (0, false)
theorem i_InstanceValue_eq {n : Nat} (hn : 7100 ≤ n) {p : Prog} (hp : SmP p) {m : List Int} (hm : m.length ≤ 1000) {x : Inst} (hx : x.point.length ≤ 1000) : i_InstanceValue n p m x = some (valIR p m x) := by
 refine Ev.eq ?_
 unfold i_InstanceValue valIR
 refine Ev.jn (fun z => z = !(memV p m && instB p x)) (fun j hj => ?_) (fun z hz => ?_)
 ·refine Ev.bindE (i_MemoryValid_eq (by omega) hp hm) ?_
  cases h1 : memV p m with
  | false => rw [h1] at hj; exact hj true rfl
  | true => rw [h1] at hj; exact Ev.ff (Ev.bindE (i_isInstance_eq (by omega) hp hx) (hj _ rfl))
 ·subst hz
  cases h1 : memV p m with
  | false => exact Ev.some (by simp)
  | true =>
   cases h2 : instB p x with
   | false => exact Ev.some (by simp)
   | true =>
    obtain ⟨hv, hmo⟩ := mem_d h1
    obtain ⟨hl, hd, h4, hpo, hil⟩ := prog_d hv
    obtain ⟨i, k, P, s, d, e1, e2, e3, e4, e5, e6, e7, e8⟩ := inst_d hv ((instB_iff hv).1 h2)
    obtain ⟨s1, s2, s3, s4⟩ := stmt_d e6
    obtain ⟨n, rfl⟩ : ∃ j, n = j + 1 := ⟨n - 1, by omega⟩
    have hst : i_Program_stmt (n + 1) p x = some s := by
     unfold i_Program_stmt
     rw [e1, e2, ix_nat e3]
     show Option.bind (ix P.body (k : Int)) _ = _
     rw [ix_nat e4]; rfl
    refine Ev.ff (Ev.bindE hst (Ev.bindE (i_value_eq hl hd hmo e7 5 n s.value (by omega) s2 (cells_d e8).2) (Ev.some ?_)))
    rw [if_pos ⟨rfl, rfl⟩]
    unfold vl
    rw [e5]
theorem s_InstanceValue_eq {n : Nat} (hn : 7100 ≤ n) {p : Prog} (hp : SmP p) {m : List Int} (hm : m.length ≤ 1000) {x : Inst} (hx : x.point.length ≤ 1000) : s_InstanceValue n p m x = some (valIR p m x) := by
 refine Ev.eq ?_
 unfold s_InstanceValue valIR
 refine Ev.jn (fun z => z = !(memV p m && instB p x)) (fun j hj => ?_) (fun z hz => ?_)
 ·refine Ev.bindE (s_MemoryValid_eq (by omega) hp hm) ?_
  cases h1 : memV p m with
  | false => rw [h1] at hj; exact hj true rfl
  | true => rw [h1] at hj; exact Ev.ff (Ev.bindE (s_l4In_eq (by omega) hp hx) (hj _ rfl))
 ·subst hz
  cases h1 : memV p m with
  | false => exact Ev.some (by simp)
  | true =>
   cases h2 : instB p x with
   | false => exact Ev.some (by simp)
   | true =>
    obtain ⟨hv, hmo⟩ := mem_d h1
    obtain ⟨hl, hd, h4, hpo, hil⟩ := prog_d hv
    obtain ⟨i, k, P, s, d, e1, e2, e3, e4, e5, e6, e7, e8⟩ := inst_d hv ((instB_iff hv).1 h2)
    obtain ⟨s1, s2, s3, s4⟩ := stmt_d e6
    obtain ⟨n, rfl⟩ : ∃ j, n = j + 1 := ⟨n - 1, by omega⟩
    refine Ev.ff (Ev.bindE (x := P) (by rw [e1]; exact ix_nat e3) (Ev.bindE (x := s) (by rw [e2]; exact ix_nat e4) (Ev.bindE (s_eval5_eq hl hd hmo e7 5 n s.value (by omega) s2 (cells_d e8).2) (Ev.some ?_))))
    rw [if_pos ⟨rfl, rfl⟩]
    unfold vl
    rw [e5]
theorem i_InstanceCells_eq {n : Nat} (hn : 7100 ≤ n) {p : Prog} (hp : SmP p) {x : Inst} (hx : x.point.length ≤ 1000) : i_InstanceCells n p x = some (if progV p = true ∧ instB p x = true then (rc p x, (wc p x : Int), true) else ([], 0, false)) := by
 refine Ev.eq ?_
 unfold i_InstanceCells
 refine Ev.jn (fun z => z = !(progV p && instB p x)) (fun j hj => ?_) (fun z hz => ?_)
 ·refine Ev.bindE (i_ProgramValid_eq (by omega) hp) ?_
  cases h1 : progV p with
  | false => rw [h1] at hj; exact hj true rfl
  | true => rw [h1] at hj; exact Ev.ff (Ev.bindE (i_isInstance_eq (by omega) hp hx) (hj _ rfl))
 ·subst hz
  cases h1 : progV p with
  | false => exact Ev.some (by simp)
  | true =>
   cases h2 : instB p x with
   | false => exact Ev.some (by simp)
   | true =>
    refine Ev.ff (Ev.bindE (i_touched_eq hn h1 ((instB_iff h1).1 h2)) (Ev.some ?_))
    simp
theorem place_ev {n : Nat} (hn : 5000 ≤ n) {k : Int} {r : L16Rd} (hr : RdOk k r) (hk : 0 ≤ k ∧ k ≤ 80000000) : Ev (s_l1Place n r) (fun x => x.1.length ≤ 1000 ∧ RdOk (k + 20) x.2) := by
 unfold s_l1Place
 refine Ev.bind' (num_n n hr (by omega) (by simp)) (fun x1 ⟨hm, r1⟩ => ?_)
 have hc : 0 ≤ x1.1 ∧ x1.1 ≤ 4 := by
  simp only [List.mem_cons, List.not_mem_nil, or_false] at hm
  omega
 refine Ev.loop (fun z : List UInt8 × Int × List Int × Int => 0 ≤ z.2.2.2 ∧ z.2.2.2 ≤ 4 ∧ (z.2.2.1.length : Int) ≤ 4 - z.2.2.2 ∧ RdOk (k + 1 + (4 - z.2.2.2)) ⟨z.1, z.2.1⟩) (fun z => z.2.2.2.toNat) ?_ n _ ⟨hc.1, hc.2, by simp; omega, r1.mono (by dsimp only; omega)⟩ (by dsimp only; omega)
 rintro again ⟨b, q, o, c⟩ ⟨c0, c1, ho, r2⟩ hr2
 dsimp only at c0 c1 ho r2 ⊢
 refine Ev.dec (fun h => Ev.bind' (num_n n r2 (by omega) (by simp)) (fun x8 ⟨_, r8⟩ => Ev.bindE (app_ok (by simp; omega)) ?_)) (fun h => ?_)
 ·rw [wr_in (by omega)]
  exact hr2 _ ⟨by dsimp only; omega, by dsimp only; omega, by simp; omega, r8.mono (by dsimp only; omega)⟩ (by dsimp only; omega)
 ·refine Ev.jn (fun z : List UInt8 × Int × List Int => z.2.2.length ≤ 1000 ∧ RdOk (k + 20) ⟨z.1, z.2.1⟩) (fun j hj => Ev.bind' (pick_n n r2 (by omega)) (fun x11 ⟨_, _, r11⟩ => Ev.dec (fun _ => Ev.bind' (num_n n r11 (by omega) (by simp)) (fun x12 ⟨_, r12⟩ => Ev.bindE (app_ok (by simp; omega)) (hj _ ⟨by simp; omega, r12.mono (by omega)⟩))) (fun _ => hj _ ⟨by dsimp only; omega, r11.mono (by omega)⟩))) (fun z hz => Ev.some ⟨hz.1, hz.2⟩)
theorem one_ev {n : Nat} (hn : 7100 ≤ n) {k : Int} {r : L16Rd} (hr : RdOk k r) (hk : 0 ≤ k ∧ k ≤ 70000000) {p : Prog} (hp : SmP p) : Ev (s_l4One n r p) (fun x => x.1.point.length ≤ 1000 ∧ RdOk (k + 50) x.2) := by
 have hL : ∀ x ∈ (if progV p = true then insts p.parts else []), x.point.length ≤ 1000 := by
  intro x hx
  split at hx
  ·rename_i h; have := point_len h (insts_mem hx); omega
  ·cases hx
 unfold s_l4One
 refine Ev.bindE (s_ProgramInstances_eq (by omega) hp) ?_
 generalize (if progV p = true then insts p.parts else []) = L at hL
 refine Ev.jn (fun z : List UInt8 × Int × Bool => (z.2.2 = true → 0 < L.length) ∧ RdOk (k + 1) ⟨z.1, z.2.1⟩) (fun j hj => Ev.dec (fun h => Ev.bind' (pick_n n hr (by omega)) (fun x3 ⟨_, _, r3⟩ => hj _ ⟨(fun _ => by omega), r3⟩)) (fun h => hj _ ⟨(fun e => by cases e), hr.mono (by omega)⟩)) (fun z hz => ?_)
 obtain ⟨b, q, t⟩ := z
 obtain ⟨h1, r1⟩ := hz
 dsimp only at h1 r1 ⊢
 refine Ev.cond (fun e => ?_) (fun e => ?_)
 ·have hpos := h1 e
  refine Ev.bind' (pick_n n r1 (by omega)) (fun x7 ⟨a0, a1, r7⟩ => ?_)
  obtain ⟨y, hy, hy2⟩ := ix_lt (l := L) (i := x7.1) a0 (a1 (by omega))
  exact Ev.bindE hy (Ev.some ⟨hL y (List.mem_of_getElem? hy2), r7.mono (by omega)⟩)
 ·exact Ev.bind' (num_n n r1 (by omega) (by simp)) (fun x9 ⟨_, r9⟩ => Ev.bind' (num_n n r9 (by omega) (by simp)) (fun x10 ⟨_, r10⟩ => Ev.bind' (place_ev (by omega) r10 (by omega)) (fun x11 ⟨h11, r11⟩ => Ev.some ⟨h11, r11.mono (by omega)⟩)))
theorem drawValue_ev (code : List UInt8) : Ev (s_DrawInstanceValue N code) (fun x => SmP x.1 ∧ x.2.1.length ≤ 1000 ∧ x.2.2.point.length ≤ 1000) := by
 have hN : N = 100000 := rfl
 unfold s_DrawInstanceValue
 refine Ev.bind' (open_ev code) (fun x1 r1 => Ev.bind' (l4Draw_ev r1 (by omega)) (fun x2 ⟨h2, r2⟩ => Ev.bind' (mut4_ev (by omega) r2 (by omega) h2) (fun x3 ⟨h3, r3⟩ => ?_)))
 have hs := (h3.mono (show 30 ≤ 1000 by omega)).sm
 exact Ev.bind' (memory_ev (by omega) r3 (by omega) hs) (fun x4 ⟨h4, r4⟩ => Ev.bind' (bend_ev r4 (by omega) h4) (fun x5 ⟨h5, r5⟩ => Ev.bind' (one_ev (by omega) r5 (by omega) hs) (fun x6 ⟨h6, r6⟩ => Ev.some ⟨hs, by dsimp only; omega, h6⟩)))
theorem drawInst_ev (code : List UInt8) : Ev (s_DrawRunInstance N code) (fun x => SmP x.1 ∧ x.2.1.length ≤ 1000 ∧ x.2.2.point.length ≤ 1000) := by
 unfold s_DrawRunInstance
 exact Ev.bind' (drawValue_ev code) (fun x h => Ev.some h)
theorem runInstance_law (code : List UInt8) : w_FnRunInstance N code = some true := by
 have hN : N = 100000 := rfl
 refine Ev.eq ?_
 unfold w_FnRunInstance
 refine Ev.cond (fun _ => Ev.some rfl) (fun _ => ?_)
 refine Ev.bind' (drawInst_ev code) (fun x3 ⟨hs, hm, hx⟩ => ?_)
 obtain ⟨p, m, x⟩ := x3
 dsimp only at hs hm hx ⊢
 refine Ev.bindE (i_RunInstance_eq (by omega) hs hm hx) (Ev.bindE (s_RunInstance_eq (by omega) hs hm hx) (Ev.bindE (i_InstanceValue_eq (by omega) hs hm hx) (Ev.bindE (s_InstanceValue_eq (by omega) hs hm hx) ?_)))
 by_cases hc : memV p m = true ∧ instB p x = true
 ·obtain ⟨hv, hov⟩ := hc
  obtain ⟨hp, hmo⟩ := mem_d hv
  have hio := (instB_iff hp).1 hov
  rw [show runIR p m x = (runI p m x, true) by unfold runIR; rw [if_pos ⟨hv, hov⟩], show valIR p m x = (vl p m x, true) by unfold valIR; rw [if_pos ⟨hv, hov⟩]]
  have hok : MemOk p.arrays (runI p m x) := runI_ok hp hmo hio
  have hl : w_lnInts N (runI p m x) (runI p m x) = some true := lnInts_self (by omega) (mem_len hp hok)
  dsimp only
  rw [hl]
  refine Ev.jn (fun z => z = false) (fun j hj => ?_) (fun z hz => ?_)
  ·refine Ev.ff (Ev.bindE rfl (Ev.ff (Ev.ff ?_)))
   rw [decide_eq_true rfl]
   exact Ev.ff (Ev.ff (hj _ rfl))
  ·subst hz
   refine Ev.ff (Ev.bindE (i_InstanceCells_eq (by omega) hs hx) ?_)
   rw [if_pos ⟨hp, hov⟩]
   dsimp only
   obtain ⟨w1, w2, w3, w4⟩ := inst_c hp hio
   have hwl : wc p x < m.length := by have := hmo.1; omega
   have hvb : 0 ≤ vl p m x ∧ vl p m x ≤ 999 := by
    obtain ⟨i, k, P, s, d, e1, e2, e3, e4, e5, e6, e7, e8⟩ := inst_d hp hio
    unfold vl
    rw [e5]
    exact valF_b hmo (stmt_d e6).2.1
   rw [w4]
   refine Ev.loop (fun x : Int => ∃ i : Nat, x = i ∧ i ≤ m.length) (fun x => m.length - x.toNat) ?_ N 0 ⟨0, rfl, by omega⟩ (by omega)
   rintro again z ⟨i, rfl, hi⟩ hr
   refine Ev.dec (fun hlt => ?_) (fun hge => ?_)
   ·refine Ev.jn (fun z => z = false) (fun j hj => Ev.ndec (fun h => Ev.bindE (getD_ix (by rw [List.length_set]; omega)) (Ev.bindE (getD_ix (by omega)) (hj _ ?_))) (fun h => hj _ rfl)) (fun z hz => ?_)
    ·rw [getD_set, if_neg (by omega), decide_eq_true rfl]; rfl
    ·subst hz
     rw [wr_in (by omega)]
     exact Ev.ff (hr _ ⟨i + 1, by omega, by omega⟩ (by omega))
   ·refine Ev.jn (fun z => z = true) (fun j hj => Ev.tt (Ev.bindE (getD_ix (by rw [List.length_set]; omega)) ?_)) (fun z hz => Ev.some hz)
    rw [getD_set, if_pos ⟨rfl, hwl⟩, decide_eq_true rfl, decide_eq_true hvb.1, decide_eq_true hvb.2]
    exact Ev.tt (Ev.tt (hj _ rfl))
 ·rw [show runIR p m x = ([], false) by unfold runIR; rw [if_neg hc], show valIR p m x = (0, false) by unfold valIR; rw [if_neg hc]]
  have hl : w_lnInts N [] [] = some true := lnInts_self (by omega) (by simp)
  rw [hl]
  exact Ev.some rfl
end Go.Lift
