/- The steps' texts: the plain law, first part. -/
import Derived.Test.YtphjadokdbfccaaDoorModels
import Derived.Test.YtphjadokdbfccaaDoorLawDraw
set_option maxRecDepth 100000
set_option linter.unusedVariables false
namespace Go.Lift
open Go
def nf (k : Int) : Nat := if k = 1 ∨ k = 2 ∨ k = 7 ∨ k = 8 then 2 else if k = 3 ∨ k = 4 ∨ k = 5 then 3 else if k = 6 ∨ k = 9 ∨ k = 10 then 1 else 0
def small (n : Int) : Bool := decide (-99 ≤ n ∧ n ≤ 99)
/-- A step that has a text. -/
def good (s : Step) : Bool := decide (1 ≤ s.kind ∧ s.kind ≤ 11) && (decide (nf s.kind < 1 → s.part = 0) && (decide (nf s.kind < 2 → s.a = 0) && (decide (nf s.kind < 3 → s.b = 0) && (small s.part && (small s.a && small s.b)))))
def wordsL : List (List UInt8) := [[105, 110, 116, 101, 114, 99, 104, 97, 110, 103, 101], [114, 101, 118, 101, 114, 115, 101], [115, 107, 101, 119], [115, 104, 105, 102, 116], [115, 116, 114, 105, 112], [102, 117, 115, 101], [100, 105, 115, 116, 114, 105, 98, 117, 116, 101], [115, 112, 108, 105, 116], [115, 119, 97, 112], [100, 114, 111, 112], [102, 111, 108, 100]]
def wordK (k : Int) : List UInt8 := wordsL.getD (k - 1).toNat []
def args (s : Step) : List Int := [s.part, s.a, s.b].take (nf s.kind)
def tail : List Int → List UInt8
  | [] => []
  | v :: r => 32 :: Lib.itoa v ++ tail r
def lineS (s : Step) : List UInt8 := wordK s.kind ++ tail (args s)
theorem kinds {k : Int} (h : 1 ≤ k ∧ k ≤ 11) : k = 1 ∨ k = 2 ∨ k = 3 ∨ k = 4 ∨ k = 5 ∨ k = 6 ∨ k = 7 ∨ k = 8 ∨ k = 9 ∨ k = 10 ∨ k = 11 := by omega
theorem i_fields_in {k : Int} (h : 1 ≤ k ∧ k ≤ 11) : i_fields N k = some (nf k : Int) := by
  rcases kinds h with rfl | rfl | rfl | rfl | rfl | rfl | rfl | rfl | rfl | rfl | rfl <;> decide
theorem i_fields_out {k : Int} (h : ¬ (1 ≤ k ∧ k ≤ 11)) : i_fields N k = some (-1) := by
  have h1 : k ≠ 1 ∧ k ≠ 2 ∧ k ≠ 3 ∧ k ≠ 4 ∧ k ≠ 5 ∧ k ≠ 6 ∧ k ≠ 7 ∧ k ≠ 8 ∧ k ≠ 9 ∧ k ≠ 10 ∧ k ≠ 11 := by omega
  obtain ⟨a1, a2, a3, a4, a5, a6, a7, a8, a9, a10, a11⟩ := h1
  simp [i_fields, jn, *]
theorem s_fields_in {k : Int} (h : 1 ≤ k ∧ k ≤ 11) : s_l14Fields N k = some (nf k : Int) := by
  rcases kinds h with rfl | rfl | rfl | rfl | rfl | rfl | rfl | rfl | rfl | rfl | rfl <;> decide
theorem s_fields_out {k : Int} (h : ¬ (1 ≤ k ∧ k ≤ 11)) : s_l14Fields N k = some 0 := by
  have h1 : k ≠ 1 ∧ k ≠ 2 ∧ k ≠ 3 ∧ k ≠ 4 ∧ k ≠ 5 ∧ k ≠ 6 ∧ k ≠ 7 ∧ k ≠ 8 ∧ k ≠ 9 ∧ k ≠ 10 ∧ k ≠ 11 := by omega
  obtain ⟨a1, a2, a3, a4, a5, a6, a7, a8, a9, a10, a11⟩ := h1
  simp [s_l14Fields, jn, *]
/-- The loop that looks for one. -/
theorem indexFunc_eq (f : Int → Option Bool) (p : Int → Bool) (hf : ∀ x, f x = some (p x)) (l : List Int) (hl : l.length < 1000) : ∃ r : Int, l_IndexFunc_int N l f = some r ∧ (0 ≤ r ↔ l.any p = true) := by
  suffices h : Ev (l_IndexFunc_int N l f) (fun r => (0 ≤ r ↔ l.any p = true)) by exact h
  unfold l_IndexFunc_int
  refine Ev.loop (fun x : Int => 0 ≤ x ∧ x ≤ l.length ∧ (l.take x.toNat).any p = false) (fun x : Int => l.length - x.toNat) ?_ N 0 ⟨by omega, by omega, by simp⟩ (by simp [N]; omega)
  rintro again x ⟨h0, h1, h2⟩ hr
  refine Ev.dec (fun hlt => ?_) (fun hge => ?_)
  · obtain ⟨y, hy, hy2⟩ := ix_lt h0 hlt
    refine Ev.bindE hy (Ev.bindE (hf y) (Ev.cond (fun ht => Ev.some ?_) (fun hfl => ?_)))
    · constructor
      · intro _; rw [List.any_eq_true]; exact ⟨y, List.mem_of_getElem? hy2, ht⟩
      · intro _; exact h0
    · rw [wr_in (by omega)]
      refine hr _ ⟨by omega, by omega, ?_⟩ (by omega)
      rw [show (x + 1).toNat = x.toNat + 1 by omega, List.take_add_one, hy2]
      simp [h2, hfl]
  · refine Ev.some ?_
    have hx : x.toNat = l.length := by omega
    rw [hx, List.take_length] at h2
    rw [h2]; simp
theorem containsFunc_eq (f : Int → Option Bool) (p : Int → Bool) (hf : ∀ x, f x = some (p x)) (l : List Int) (hl : l.length < 1000) : l_ContainsFunc_int N l f = some (l.any p) := by
  obtain ⟨r, h1, h2⟩ := indexFunc_eq f p hf l hl
  unfold l_ContainsFunc_int
  rw [h1]
  show some (decide (0 ≤ r)) = _
  congr 1
  rw [Bool.eq_iff_iff, decide_eq_true_eq]; exact h2
theorem hasText_eq (s : Step) : i_hasText N s = some (good s) := by
  have h1 : ∀ x, i_isRight_1 N x = some (!decide (x = 0)) := fun _ => rfl
  have h2 : ∀ x, i_hasText_1 N x = some (!small x) := fun x => by
    unfold i_hasText_1 i_isConst i_within small
    by_cases a : -99 ≤ x <;> by_cases b : x ≤ 99 <;> simp [jn, a, b]
  have hr : i_isRight N s = some (decide (1 ≤ s.kind ∧ s.kind ≤ 11) && (decide (nf s.kind < 1 → s.part = 0) && (decide (nf s.kind < 2 → s.a = 0) && decide (nf s.kind < 3 → s.b = 0)))) := by
    unfold i_isRight
    by_cases hk : 1 ≤ s.kind ∧ s.kind ≤ 11
    · rw [i_fields_in hk]
      have hn : nf s.kind = 0 ∨ nf s.kind = 1 ∨ nf s.kind = 2 ∨ nf s.kind = 3 := by unfold nf; split; simp; split; simp; split <;> simp
      simp only [Option.bind, jn, i_Step_list]
      rcases hn with h | h | h | h <;> rw [h]
      · simp [sub, containsFunc_eq _ _ h1, hk]
      · simp [sub, containsFunc_eq _ _ h1, hk]
      · simp [sub, containsFunc_eq _ _ h1, hk]
      · simp [sub, containsFunc_eq _ _ h1, hk]
    · rw [i_fields_out hk]
      simp [jn, hk]
  unfold i_hasText
  rw [hr]
  simp only [jn, Option.bind, i_Step_list, good]
  generalize decide (1 ≤ s.kind ∧ s.kind ≤ 11) = a1
  generalize decide (nf s.kind < 1 → s.part = 0) = a2
  generalize decide (nf s.kind < 2 → s.a = 0) = a3
  generalize decide (nf s.kind < 3 → s.b = 0) = a4
  cases a1 <;> cases a2 <;> cases a3 <;> cases a4 <;> simp [containsFunc_eq _ _ h2]
theorem s_text_eq (s : Step) : ∃ a b, s_l14Right N s = some a ∧ s_l14Small N s = some b ∧ (a && b) = good s := by
  have hw : ∀ x, s_l1Within N x 99 = some (small x) := fun x => by
    unfold s_l1Within small
    rw [wr_in (by omega)]
    by_cases a : -99 ≤ x <;> by_cases b : x ≤ 99 <;> simp [jn, a, b]
  have hs : s_l14Small N s = some (small s.part && (small s.a && small s.b)) := by
    unfold s_l14Small
    simp only [hw, jn, Option.bind]
    cases small s.part <;> cases small s.a <;> cases small s.b <;> rfl
  have hr : s_l14Right N s = some (decide (1 ≤ s.kind ∧ s.kind ≤ 11) && (decide (nf s.kind < 1 → s.part = 0) && (decide (nf s.kind < 2 → s.a = 0) && decide (nf s.kind < 3 → s.b = 0)))) := by
    unfold s_l14Right
    by_cases hk : 1 ≤ s.kind ∧ s.kind ≤ 11
    · rw [s_fields_in hk]
      have hn : nf s.kind = 0 ∨ nf s.kind = 1 ∨ nf s.kind = 2 ∨ nf s.kind = 3 := by unfold nf; split; simp; split; simp; split <;> simp
      simp only [Option.bind, jn]
      rcases hn with h | h | h | h <;> rw [h] <;> simp [hk]
      · by_cases a : s.part = 0 <;> by_cases b : s.a = 0 <;> simp [a, b]
      · by_cases b : s.a = 0 <;> simp [b]
    · rw [s_fields_out hk]
      simp only [Option.bind, jn]
      by_cases a : 1 ≤ s.kind <;> by_cases b : s.kind ≤ 11 <;> simp [a, b] <;> omega
  refine ⟨_, _, hr, hs, ?_⟩
  unfold good
  simp only [Bool.and_assoc]
end Go.Lift
