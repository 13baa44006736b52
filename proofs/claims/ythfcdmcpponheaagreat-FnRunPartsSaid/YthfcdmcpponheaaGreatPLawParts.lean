/- Programs compose. -/
import Derived.Test.YthfcdmcpponheaaGreatPDraw1
set_option maxRecDepth 100000
set_option linter.unusedVariables false
namespace Go.Lift
open Go
theorem lnInts_self {n : Nat} (hn : 5000 ≤ n) {a : List Int} (h : a.length ≤ 1000) : w_lnInts n a a = some true := by
  refine Ev.eq ?_
  unfold w_lnInts
  refine Ev.ndec (fun h => absurd rfl h) (fun _ => ?_)
  refine Ev.loop (fun x : Int => 0 ≤ x ∧ x ≤ a.length) (fun x => (a.length - x).toNat) ?_ n 0 ⟨by omega, by omega⟩ (by omega)
  rintro again x ⟨h0, h1⟩ hr
  refine Ev.dec (fun hlt => ?_) (fun _ => Ev.some rfl)
  obtain ⟨y, hy, _⟩ := ix_lt h0 hlt
  refine Ev.bindE hy (Ev.bindE hy (Ev.ndec (fun h => absurd rfl h) (fun _ => ?_)))
  rw [wr_in (by omega)]
  exact hr _ ⟨by omega, by omega⟩ (by omega)
def shiftI (k : Nat) (x : Inst) : Inst := ⟨x.part + (k : Int), x.stmt, x.point⟩
theorem instP_shift (k i : Nat) (x : Part) : instP (k + i) x = (instP i x).map (shiftI k) := by
  unfold instP
  rw [List.map_flatMap]
  congr 1
  funext q
  rw [List.map_map]
  congr 1
  funext m
  simp only [Function.comp, shiftI, Int.natCast_add]
  rw [Int.add_comm]
theorem insts_app (a b : List Part) : insts (a ++ b) = insts a ++ (insts b).map (shiftI a.length) := by
  unfold insts
  rw [List.zipIdx_append, List.flatMap_append, List.map_flatMap, Nat.zero_add]
  congr 1
  have e : b.zipIdx a.length = b.zipIdx.map (fun y => (y.1, a.length + y.2)) := List.zipIdx_eq_map_add
  rw [e, List.flatMap_map]
  congr 1
  funext y
  exact instP_shift a.length y.2 y.1
theorem foldl_same {α β : Type} {f g : β → α → β} : ∀ {l : List α} {b : β}, (∀ x ∈ l, ∀ b, f b x = g b x) → l.foldl f b = l.foldl g b
  | [], _, _ => rfl
  | x :: l, b, h => by
    simp only [List.foldl_cons]
    rw [h x (by simp) b]
    exact foldl_same (fun y hy => h y (by simp [hy]))
theorem run_left (arr : List Arr) (a b : List Part) (m : List Int) : runAll ⟨arr, a ++ b⟩ m (insts a) = runAll ⟨arr, a⟩ m (insts a) := by
  unfold runAll
  refine foldl_same (fun x hx m => ?_)
  obtain ⟨i, k, P, s, e1, e2, e3, e4, e5⟩ := insts_mem hx
  have hi := (List.getElem?_eq_some_iff.1 e3).1
  have : stmtAt ⟨arr, a ++ b⟩ x = stmtAt ⟨arr, a⟩ x := by
    unfold stmtAt
    rw [e1, Int.toNat_natCast]
    show ((a ++ b)[i]?).bind _ = (a[i]?).bind _
    rw [List.getElem?_append_left hi]
  unfold runI
  rw [this]
theorem run_right (arr : List Arr) (a b : List Part) (m : List Int) : runAll ⟨arr, a ++ b⟩ m ((insts b).map (shiftI a.length)) = runAll ⟨arr, b⟩ m (insts b) := by
  unfold runAll
  rw [List.foldl_map]
  refine foldl_same (fun x hx m => ?_)
  obtain ⟨i, k, P, s, e1, e2, e3, e4, e5⟩ := insts_mem hx
  have : stmtAt ⟨arr, a ++ b⟩ (shiftI a.length x) = stmtAt ⟨arr, b⟩ x := by
    unfold stmtAt shiftI
    dsimp only
    rw [e1, show ((i : Int) + (a.length : Int)).toNat = a.length + i by omega, Int.toNat_natCast, List.getElem?_append_right (by omega), Nat.add_sub_cancel_left]
  unfold runI
  rw [this]
  rfl
theorem runAll_app (p : Prog) (m : List Int) (a b : List Inst) : runAll p m (a ++ b) = runAll p (runAll p m a) b := by
  unfold runAll; rw [List.foldl_append]
theorem run_parts (arr : List Arr) (a b : List Part) (m : List Int) : runAll ⟨arr, a ++ b⟩ m (insts (a ++ b)) = runAll ⟨arr, b⟩ (runAll ⟨arr, a⟩ m (insts a)) (insts b) := by
  rw [insts_app, runAll_app, run_left, run_right]
theorem progV_sub {arr : List Arr} {a b : List Part} (h : progV ⟨arr, a ++ b⟩ = true) : progV ⟨arr, a⟩ = true ∧ progV ⟨arr, b⟩ = true := by
  simp only [progV, allOk, Bool.and_eq_true, decide_eq_true_eq, List.all_eq_true] at h ⊢
  obtain ⟨⟨h1, h2, h3⟩, h4⟩ := h
  have ha : ∀ x ∈ a, partOk arr x = true := fun x hx => h3 x (List.mem_append.2 (.inl hx))
  have hb : ∀ x ∈ b, partOk arr x = true := fun x hx => h3 x (List.mem_append.2 (.inr hx))
  have pos : ∀ l : List Part, (∀ x ∈ l, partOk arr x = true) → 0 ≤ (l.map cntPart).sum := by
    intro l
    induction l with
    | nil => intro _; simp
    | cons x l ih =>
      intro h
      have := cntPart_b (h x (by simp))
      have := ih (fun y hy => h y (by simp [hy]))
      simp only [List.map_cons, List.sum_cons]; omega
  have pa := pos a ha
  have pb := pos b hb
  rw [List.map_append, List.sum_append] at h4
  rw [List.length_append] at h2
  exact ⟨⟨⟨h1, by omega, ha⟩, by omega⟩, ⟨h1, by omega, hb⟩, by omega⟩
theorem memV_of {p : Prog} {m : List Int} (h : progV p = true) (hm : MemOk p.arrays m) : memV p m = true := by
  simp only [memV, Bool.and_eq_true, decide_eq_true_eq, List.all_eq_true]
  exact ⟨h, hm.1, hm.2⟩
theorem mem_len {p : Prog} {m : List Int} (h : progV p = true) (hm : MemOk p.arrays m) : m.length ≤ 1000 := by
  obtain ⟨hl, hd, _⟩ := prog_d h
  have := total_b hd
  have := hm.1
  omega
theorem SmP_sub {arr : List Arr} {a b : List Part} (h : SmP ⟨arr, a ++ b⟩) : SmP ⟨arr, a⟩ ∧ SmP ⟨arr, b⟩ := by
  obtain ⟨h1, h2, h3⟩ := h
  have h2' : (a ++ b).length ≤ 1000 := h2
  rw [List.length_append] at h2'
  exact ⟨⟨h1, by show a.length ≤ 1000; omega, fun x hx => h3 x (List.mem_append.2 (.inl hx))⟩, h1, by show b.length ≤ 1000; omega, fun x hx => h3 x (List.mem_append.2 (.inr hx))⟩
theorem runParts_law (code more : List UInt8) : w_FnRunParts N code more = some true := by
  have hN : N = 100000 := rfl
  refine Ev.eq ?_
  unfold w_FnRunParts
  refine Ev.jn (fun z => True) (fun j hj => Ev.dec (fun _ => hj _ trivial) (fun _ => hj _ trivial)) (fun z _ => Ev.cond (fun _ => Ev.some rfl) (fun _ => ?_))
  refine Ev.bind' (drawRun_ev code) (fun x3 ⟨hs, hm⟩ => ?_)
  obtain ⟨⟨arr, parts⟩, m⟩ := x3
  dsimp only at hs hm ⊢
  refine Ev.bindE (i_RunProgram_eq (by omega) hs hm) (Ev.bindE (s_RunProgram_eq (by omega) hs hm) ?_)
  cases hv : memV ⟨arr, parts⟩ m with
  | false =>
    have hr : runR ⟨arr, parts⟩ m = ([], false) := by unfold runR; rw [hv]; rfl
    rw [hr]
    have hl : w_lnInts N [] [] = some true := lnInts_self (by omega) (by simp)
    rw [hl]
    exact Ev.some rfl
  | true =>
    obtain ⟨hp, hmo⟩ := mem_d hv
    have hr : runR ⟨arr, parts⟩ m = (runAll ⟨arr, parts⟩ m (insts parts), true) := by unfold runR; rw [hv]; rfl
    have hok : MemOk arr (runAll ⟨arr, parts⟩ m (insts parts)) := runAll_ok hp (fun x hx => insts_mem hx) hmo
    have hl : w_lnInts N (runAll ⟨arr, parts⟩ m (insts parts)) (runAll ⟨arr, parts⟩ m (insts parts)) = some true := lnInts_self (by omega) (mem_len hp hok)
    rw [hr]
    dsimp only
    rw [hl]
    have h4 : parts.length ≤ 4 := (prog_d hp).2.2.1
    refine Ev.jn (fun z => z = false) (fun j hj => hj _ rfl) (fun z hz => ?_)
    subst hz
    have ew : wr ((parts.length : Int) + 1) = (parts.length : Int) + 1 := wr_in (by omega)
    rw [ew]
    have k0 : 0 ≤ Int.tmod (more.length : Int) ((parts.length : Int) + 1) := Int.tmod_nonneg _ (by omega)
    have k1 : Int.tmod (more.length : Int) ((parts.length : Int) + 1) < (parts.length : Int) + 1 := Int.tmod_lt_of_pos _ (by omega)
    generalize Int.tmod (more.length : Int) ((parts.length : Int) + 1) = k at k0 k1
    have hab : parts.take k.toNat ++ parts.drop k.toNat = parts := List.take_append_drop _ _
    have s1 : sub parts 0 k = some (parts.take k.toNat) := by rw [sub_ok (by omega) k0 (by omega)]; rfl
    have s2 : sub parts k (parts.length : Int) = some (parts.drop k.toNat) := by rw [sub_ok k0 (by omega) (by omega), Int.toNat_natCast, List.take_length]
    have hp' := hp
    have hs' := hs
    rw [← hab] at hp' hs'
    obtain ⟨pa, pb⟩ := progV_sub hp'
    obtain ⟨sa, sb⟩ := SmP_sub hs'
    have hra : runR ⟨arr, parts.take k.toNat⟩ m = (runAll ⟨arr, parts.take k.toNat⟩ m (insts (parts.take k.toNat)), true) := by unfold runR; rw [memV_of pa hmo]; rfl
    have hma : MemOk arr (runAll ⟨arr, parts.take k.toNat⟩ m (insts (parts.take k.toNat))) := runAll_ok pa (fun x hx => insts_mem hx) hmo
    have hrb : runR ⟨arr, parts.drop k.toNat⟩ (runAll ⟨arr, parts.take k.toNat⟩ m (insts (parts.take k.toNat))) = (runAll ⟨arr, parts⟩ m (insts parts), true) := by
      unfold runR
      rw [memV_of pb hma, if_pos rfl]
      have := run_parts arr (parts.take k.toNat) (parts.drop k.toNat) m
      rw [hab] at this
      rw [this]
    refine Ev.ff (Ev.bindE (nzc_ok (by omega)) (Ev.bindE s1 (Ev.bindE (i_RunProgram_eq (by omega) sa hm) (Ev.bindE s2 ?_))))
    rw [hra]
    refine Ev.bindE (i_RunProgram_eq (by omega) sb (mem_len pb hma)) ?_
    rw [hrb]
    dsimp only
    rw [hl]
    exact Ev.some rfl
end Go.Lift
