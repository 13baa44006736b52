/- Orders of the instances. -/
import Derived.Test.YthfcdmcpponheaaGreatORunC
set_option maxRecDepth 100000
set_option linter.unusedVariables false
namespace Go.Lift
open Go
def permL : List Bool → List Int → Bool
 | _, [] => true
 | f, c :: cs => decide (0 ≤ c ∧ c < f.length) && (!f.getD c.toNat false && permL (f.set c.toNat true) cs)
def ordOk (T : Nat) (o : List Int) : Bool := permL (List.replicate T false) o && decide (o.length = T)
theorem permL_mem : ∀ {o : List Int} {f : List Bool}, permL f o = true → ∀ c ∈ o, 0 ≤ c ∧ c < f.length
 | [], f, _, c, hc => by cases hc
 | d :: o, f, h, c, hc => by
  simp only [permL, Bool.and_eq_true, decide_eq_true_eq] at h
  rcases List.mem_cons.1 hc with rfl | hc
  ·exact h.1
  ·have := permL_mem h.2.2 c hc
   rwa [List.length_set] at this
theorem i_isOrder_eq {n : Nat} (hn : 5000 ≤ n) {T : Nat} (hT : T ≤ 1000) {o : List Int} (ho : o.length ≤ 1000) : i_isOrder n o (T : Int) = some (ordOk T o) := by
 refine Ev.eq ?_
 unfold i_isOrder ordOk
 refine Ev.bindE (mk_ok (by omega) false) ?_
 rw [Int.toNat_natCast]
 generalize hf : List.replicate T false = f0
 have hf0 : f0.length = T := by rw [← hf]; simp
 refine Ev.loop (fun z : List Bool × Int => ∃ i : Nat, z.2 = i ∧ i ≤ o.length ∧ z.1.length = T ∧ permL f0 o = permL z.1 (o.drop i)) (fun z => o.length - z.2.toNat) ?_ n _ ⟨0, rfl, by omega, hf0, rfl⟩ (by dsimp only; omega)
 rintro again ⟨f, z⟩ ⟨i, hz, hi, hfl, hp⟩ hr
 dsimp only at hz hfl hp ⊢
 subst hz
 refine Ev.dec (fun hlt => ?_) (fun hge => Ev.some ?_)
 ·have hg := List.getElem?_eq_getElem (show i < o.length by omega)
  rw [drop_get hg] at hp
  simp only [permL] at hp
  rw [hfl] at hp
  refine Ev.bindE (ix_nat hg) ?_
  have ew : wr ((T : Int) - 1) = (T : Int) - 1 := wr_in (by omega)
  refine Ev.jn (fun z => z = !(decide (0 ≤ o[i] ∧ o[i] < T) && !f.getD o[i].toNat false)) (fun j hj => Ev.bindE (within_eq _ _ _ _) ?_) (fun z hz => ?_)
  ·rw [ew]
   by_cases h1 : 0 ≤ o[i] ∧ o[i] < T
   ·rw [decide_eq_true (show 0 ≤ o[i] ∧ o[i] ≤ (T : Int) - 1 by omega)]
    rw [decide_eq_true h1] at hj
    refine Ev.ff (Ev.bindE (ix_in h1.1 (by omega)) (hj _ ?_))
    rw [List.getD_eq_getElem?_getD, List.getElem?_eq_getElem (show o[i].toNat < f.length by omega)]
    simp
   ·rw [decide_eq_false (show ¬ (0 ≤ o[i] ∧ o[i] ≤ (T : Int) - 1) by omega)]
    rw [decide_eq_false h1] at hj
    exact Ev.tt (hj _ rfl)
  ·subst hz
   by_cases h1 : 0 ≤ o[i] ∧ o[i] < T
   ·rw [decide_eq_true h1] at hp ⊢
    cases h2 : f.getD o[i].toNat false with
    | true => rw [h2] at hp; exact Ev.tt (Ev.some (by rw [hp]; rfl))
    | false =>
     rw [h2] at hp
     refine Ev.ff (Ev.bindE (ix_in h1.1 (by omega)) (Ev.bindE (setx_nat h1.1 (by omega) true) ?_))
     rw [wr_in (by omega)]
     refine hr _ ⟨i + 1, by dsimp only; omega, by omega, by dsimp only; rw [List.length_set]; exact hfl, ?_⟩ (by dsimp only; omega)
     dsimp only
     rw [hp]; rfl
   ·rw [decide_eq_false h1] at hp ⊢
    exact Ev.tt (Ev.some (by rw [hp]; rfl))
 ·have e : i = o.length := by omega
  rw [e, List.drop_length] at hp
  rw [hp]
  show decide ((o.length : Int) = (T : Int)) = (true && decide (o.length = T))
  rw [Bool.true_and]; exact decide_eq_decide.2 (by omega)
theorem s_perm_eq {n : Nat} (hn : 5000 ≤ n) {T : Nat} (hT : T ≤ 1000) {o : List Int} (ho : o.length ≤ 1000) : s_l5Perm n o (T : Int) = some (ordOk T o) := by
 refine Ev.eq ?_
 unfold s_l5Perm ordOk
 refine Ev.bindE (mk_ok (by omega) false) ?_
 rw [Int.toNat_natCast]
 generalize hf : List.replicate T false = f0
 have hf0 : f0.length = T := by rw [← hf]; simp
 refine Ev.loop (fun z : List Bool × Int => ∃ i : Nat, z.2 = i ∧ i ≤ o.length ∧ z.1.length = T ∧ permL f0 o = permL z.1 (o.drop i)) (fun z => o.length - z.2.toNat) ?_ n _ ⟨0, rfl, by omega, hf0, rfl⟩ (by dsimp only; omega)
 rintro again ⟨f, z⟩ ⟨i, hz, hi, hfl, hp⟩ hr
 dsimp only at hz hfl hp ⊢
 subst hz
 refine Ev.dec (fun hlt => ?_) (fun hge => Ev.some ?_)
 ·have hg := List.getElem?_eq_getElem (show i < o.length by omega)
  rw [drop_get hg] at hp
  simp only [permL] at hp
  rw [hfl] at hp
  refine Ev.jn (fun z => z = !(decide (0 ≤ o[i] ∧ o[i] < T) && !f.getD o[i].toNat false)) (fun j hj => Ev.bindE (ix_nat hg) (Ev.dec (fun h => ?_) (fun h => Ev.dec (fun h2 => ?_) (fun h2 => Ev.bindE (ix_in (by omega) (by omega)) (hj _ ?_))))) (fun z hz => ?_)
  ·rw [decide_eq_false (by omega)] at hj; exact hj _ rfl
  ·rw [decide_eq_false (by omega)] at hj; exact hj _ rfl
  ·rw [decide_eq_true (by omega), List.getD_eq_getElem?_getD, List.getElem?_eq_getElem (show o[i].toNat < f.length by omega)]
   simp
  ·subst hz
   by_cases h1 : 0 ≤ o[i] ∧ o[i] < T
   ·rw [decide_eq_true h1] at hp ⊢
    cases h2 : f.getD o[i].toNat false with
    | true => rw [h2] at hp; exact Ev.tt (Ev.some (by rw [hp]; rfl))
    | false =>
     rw [h2] at hp
     refine Ev.ff (Ev.bindE (ix_nat hg) (Ev.bindE (ix_in h1.1 (by omega)) (Ev.bindE (setx_nat h1.1 (by omega) true) ?_)))
     rw [wr_in (by omega)]
     refine hr _ ⟨i + 1, by dsimp only; omega, by omega, by dsimp only; rw [List.length_set]; exact hfl, ?_⟩ (by dsimp only; omega)
     dsimp only
     rw [hp]; rfl
   ·rw [decide_eq_false h1] at hp ⊢
    exact Ev.tt (Ev.some (by rw [hp]; rfl))
 ·have e : i = o.length := by omega
  rw [e, List.drop_length] at hp
  rw [hp]
  show decide ((o.length : Int) = (T : Int)) = (true && decide (o.length = T))
  rw [Bool.true_and]; exact decide_eq_decide.2 (by omega)
def ordV (p : Prog) (o : List Int) : Bool := progV p && ordOk (insts p.parts).length o
theorem i_OrderValid_eq {n : Nat} (hn : 7100 ≤ n) {p : Prog} (hp : SmP p) {o : List Int} (ho : o.length ≤ 1000) : i_OrderValid n p o = some (ordV p o) := by
 obtain ⟨L, h1, h2⟩ := i_instances2 (n := n) (by omega) hp
 refine Ev.eq ?_
 unfold i_OrderValid ordV
 refine Ev.bindE h1 ?_
 dsimp only
 cases hv : progV p with
 | false => exact Ev.some rfl
 | true =>
  rw [h2 hv]
  have hil := (prog_d hv).2.2.2.2
  exact Ev.jn (fun z => z = ordOk (insts p.parts).length o) (fun j hj => Ev.tt (Ev.bindE (i_isOrder_eq (by omega) (by omega) ho) (hj _ rfl))) (fun z hz => Ev.some hz)
theorem s_OrderValid_eq {n : Nat} (hn : 7100 ≤ n) {p : Prog} (hp : SmP p) {o : List Int} (ho : o.length ≤ 1000) : s_OrderValid n p o = some (ordV p o) := by
 refine Ev.eq ?_
 unfold s_OrderValid ordV
 refine Ev.jn (fun z => z = (progV p && ordOk (insts p.parts).length o)) (fun j hj => Ev.bindE (s_ProgramValid_eq (by omega) hp) ?_) (fun z hz => Ev.some hz)
 cases hv : progV p with
 | false => rw [hv] at hj; exact Ev.ff (hj _ rfl)
 | true =>
  rw [hv] at hj
  have hil := (prog_d hv).2.2.2.2
  exact Ev.tt (Ev.bindE (s_instances_eq (by omega) hv) (Ev.bindE (s_perm_eq (by omega) (by omega) ho) (hj _ rfl)))
def pick (l : List Inst) (o : List Int) : List Inst := o.filterMap (fun c => l[c.toNat]?)
theorem pick_snoc {l : List Inst} {o : List Int} {c : Int} {x : Inst} (h : l[c.toNat]? = some x) : pick l (o ++ [c]) = pick l o ++ [x] := by
 unfold pick; rw [List.filterMap_append]; simp [h]
theorem pick_mem {l : List Inst} {o : List Int} {x : Inst} (h : x ∈ pick l o) : x ∈ l := by
 unfold pick at h
 obtain ⟨c, _, hc⟩ := List.mem_filterMap.1 h
 exact List.mem_of_getElem? hc
def runOR (p : Prog) (m : List Int) (o : List Int) : List Int × Bool := if memV p m = true ∧ ordV p o = true then (runAll p m (pick (insts p.parts) o), true) else ([], false)
theorem ord_loop {n : Nat} (hn : 7100 ≤ n) {p : Prog} (hv : progV p = true) {m : List Int} (hm : MemOk p.arrays m) {l : List Inst} (hl : ∀ x ∈ l, InstOk p x) {o : List Int} (ho : o.length ≤ 1000) (hb : ∀ c ∈ o, 0 ≤ c ∧ c < l.length) {f : List Int → Inst → Option (List Int)} (hf : ∀ m x, MemOk p.arrays m → InstOk p x → f m x = some (runI p m x)) :
  loopM (fun again10 ((x7, x8) : (List Int) × Int) => bif decide (x8 < (o.length : Int)) then (Option.bind (ix o x8) fun x11 => Option.bind (ix l x11) fun x12 => Option.bind (f x7 x12) fun x13 => Option.bind (sameLen x7 x13) fun x14 => again10 (x13, wr (x8 + 1))) else (some (x7, true))) n (m, 0) = some (runAll p m (pick l o), true) := by
 refine Ev.eq ?_
 refine Ev.loop (fun x : List Int × Int => ∃ i : Nat, x.2 = i ∧ i ≤ o.length ∧ x.1 = runAll p m (pick l (o.take i))) (fun x => o.length - x.2.toNat) ?_ n _ ⟨0, rfl, by omega, rfl⟩ (by dsimp only; omega)
 rintro again ⟨x, z⟩ ⟨i, hz, hi, hx1⟩ hr
 dsimp only at hz hx1 ⊢
 subst hz
 have hok : MemOk p.arrays x := by rw [hx1]; exact runAll_ok hv (fun y hy => hl y (pick_mem hy)) hm
 refine Ev.dec (fun hlt => ?_) (fun hge => Ev.some ?_)
 ·have hg := List.getElem?_eq_getElem (show i < o.length by omega)
  obtain ⟨b0, b1⟩ := hb _ (List.mem_of_getElem? hg)
  have hx := List.getElem?_eq_getElem (show o[i].toNat < l.length by omega)
  have hxo := hl _ (List.mem_of_getElem? hx)
  have hok2 := runI_ok hv hok hxo
  have hsl : sameLen x (runI p x l[o[i].toNat]) = some () := by
   unfold sameLen; rw [if_pos]
   have := hok.1; have := hok2.1; omega
  refine Ev.bindE (ix_nat hg) (Ev.bindE (ix_in b0 (by omega)) (Ev.bindE (hf x _ hok hxo) (Ev.bindE hsl ?_)))
  rw [wr_in (by omega)]
  refine hr _ ⟨i + 1, by dsimp only; omega, by omega, ?_⟩ (by dsimp only; omega)
  dsimp only
  rw [take_snoc hg, pick_snoc hx, runAll_snoc, ← hx1]
 ·have hie : i = o.length := by omega
  rw [hx1, hie, List.take_length]
theorem ordV_d {p : Prog} {o : List Int} (h : ordV p o = true) : progV p = true ∧ o.length = (insts p.parts).length ∧ ∀ c ∈ o, 0 ≤ c ∧ c < ((insts p.parts).length : Int) := by
 simp only [ordV, ordOk, Bool.and_eq_true, decide_eq_true_eq] at h
 obtain ⟨h1, h2, h3⟩ := h
 refine ⟨h1, h3, fun c hc => ?_⟩
 have := permL_mem h2 c hc
 rwa [List.length_replicate] at this
theorem i_RunOrder_eq {n : Nat} (hn : 7100 ≤ n) {p : Prog} (hp : SmP p) {m : List Int} (hm : m.length ≤ 1000) {o : List Int} (ho : o.length ≤ 1000) : i_RunOrder n p m o = some (runOR p m o) := by
 refine Ev.eq ?_
 unfold i_RunOrder runOR
 refine Ev.jn (fun z => z = !(memV p m && ordV p o)) (fun j hj => ?_) (fun z hz => ?_)
 ·refine Ev.bindE (i_MemoryValid_eq (by omega) hp hm) ?_
  cases h1 : memV p m with
  | false => rw [h1] at hj; exact hj true rfl
  | true => rw [h1] at hj; exact Ev.ff (Ev.bindE (i_OrderValid_eq hn hp ho) (hj _ rfl))
 ·subst hz
  cases h1 : memV p m with
  | false => exact Ev.some (by simp)
  | true =>
   cases h2 : ordV p o with
   | false => exact Ev.some (by simp)
   | true =>
    obtain ⟨hv, hmo⟩ := mem_d h1
    obtain ⟨_, _, hb⟩ := ordV_d h2
    have hc : m_ownClone m = some m := by unfold m_ownClone; rw [if_pos (by omega)]
    refine Ev.ff (Ev.bindE (i_ProgramInstances_eq (by omega) hp) (Ev.bindE hc ?_))
    rw [if_pos hv, if_pos ⟨rfl, rfl⟩]
    exact Ev.of (ord_loop hn hv hmo (fun x hx => insts_mem hx) ho hb (fun m x hm hx => i_do_eq hn hv hm hx)) rfl
theorem s_RunOrder_eq {n : Nat} (hn : 7100 ≤ n) {p : Prog} (hp : SmP p) {m : List Int} (hm : m.length ≤ 1000) {o : List Int} (ho : o.length ≤ 1000) : s_RunOrder n p m o = some (runOR p m o) := by
 refine Ev.eq ?_
 unfold s_RunOrder runOR
 refine Ev.jn (fun z => z = !(memV p m && ordV p o)) (fun j hj => ?_) (fun z hz => ?_)
 ·refine Ev.bindE (s_MemoryValid_eq (by omega) hp hm) ?_
  cases h1 : memV p m with
  | false => rw [h1] at hj; exact hj true rfl
  | true => rw [h1] at hj; exact Ev.ff (Ev.bindE (s_OrderValid_eq hn hp ho) (hj _ rfl))
 ·subst hz
  cases h1 : memV p m with
  | false => exact Ev.some (by simp)
  | true =>
   cases h2 : ordV p o with
   | false => exact Ev.some (by simp)
   | true =>
    obtain ⟨hv, hmo⟩ := mem_d h1
    obtain ⟨_, _, hb⟩ := ordV_d h2
    refine Ev.ff (Ev.bindE (app_nil_int m hm) (Ev.bindE (s_instances_eq (by omega) hv) ?_))
    rw [if_pos ⟨rfl, rfl⟩]
    exact Ev.of (ord_loop hn hv hmo (fun x hx => insts_mem hx) ho hb (fun m x hm hx => s_run_eq hn hv hm hx)) rfl
def iota (a : Nat) : Nat → List Int
 | 0 => []
 | k + 1 => (a : Int) :: iota (a + 1) k
theorem iota_snoc : ∀ (k a : Nat), iota a (k + 1) = iota a k ++ [((a + k : Nat) : Int)]
 | 0, a => rfl
 | k + 1, a => by
  show (a : Int) :: iota (a + 1) (k + 1) = (a : Int) :: iota (a + 1) k ++ _
  rw [iota_snoc k (a + 1), show a + 1 + k = a + (k + 1) by omega]; rfl
theorem iota_len : ∀ (k a : Nat), (iota a k).length = k
 | 0, _ => rfl
 | k + 1, a => by simp [iota, iota_len k]
theorem permL_iota : ∀ (k a : Nat) (f : List Bool), a + k ≤ f.length → (∀ i, a ≤ i → f.getD i false = false) → permL f (iota a k) = true
 | 0, _, _, _, _ => rfl
 | k + 1, a, f, h, hf => by
  simp only [iota, permL, Bool.and_eq_true, decide_eq_true_eq, Int.toNat_natCast]
  refine ⟨by omega, by rw [hf a (Nat.le_refl _)]; rfl, permL_iota k (a + 1) _ (by rw [List.length_set]; omega) (fun i hi => ?_)⟩
  rw [getD_set, if_neg (by omega)]; exact hf i (by omega)
theorem ordOk_iota (T : Nat) : ordOk T (iota 0 T) = true := by
 unfold ordOk
 rw [permL_iota T 0 _ (by simp) (fun i _ => by rw [List.getD_eq_getElem?_getD, List.getElem?_replicate]; split <;> rfl), iota_len]; simp
theorem pick_iota (l : List Inst) : ∀ k, k ≤ l.length → pick l (iota 0 k) = l.take k
 | 0, _ => rfl
 | k + 1, h => by
  have hg := List.getElem?_eq_getElem (show k < l.length by omega)
  rw [iota_snoc, Nat.zero_add, pick_snoc (x := l[k]) (by rw [Int.toNat_natCast]; exact hg), pick_iota l k (by omega), take_snoc hg]
end Go.Lift
