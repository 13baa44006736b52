/- Plain tools for showing what the plain functions come to. -/
import Derived.Test.YtphjadokdbfccaaDoorLiftLib
import Derived.Lib.SplitLaws
namespace Go.Lift
open Go
theorem wr_in {n : Int} (h : -9223372036854775808 ≤ n ∧ n ≤ 9223372036854775807) : wr n = n := IntWalk.i64_in n (by omega)
/-- The plain function comes to an end, and what it gives is so. -/
def Ev {α : Type} (o : Option α) (Q : α → Prop) : Prop := ∃ r, o = some r ∧ Q r
section
variable {α β R σ : Type} {Q : R → Prop}
theorem Ev.some {r : R} (h : Q r) : Ev (some r) Q := ⟨r, rfl, h⟩
theorem Ev.bind {o : Option α} {f : α → Option R} (h : Ev o (fun x => Ev (f x) Q)) : Ev (Option.bind o f) Q := by
  obtain ⟨x, rfl, r, h1, h2⟩ := h
  exact ⟨r, h1, h2⟩
theorem Ev.bind' {o : Option α} {f : α → Option R} {P : α → Prop} (h : Ev o P) (k : ∀ x, P x → Ev (f x) Q) : Ev (Option.bind o f) Q := by
  obtain ⟨x, rfl, h⟩ := h
  exact k x h
theorem Ev.bindE {o : Option α} {f : α → Option R} {x : α} (h : o = Option.some x) (k : Ev (f x) Q) : Ev (Option.bind o f) Q := by
  subst h; exact k
theorem Ev.mono {o : Option R} {P : R → Prop} (h : Ev o P) (k : ∀ x, P x → Q x) : Ev o Q := by
  obtain ⟨x, rfl, h⟩ := h
  exact ⟨x, rfl, k x h⟩
theorem Ev.cond {c : Bool} {A B : Option R} (h1 : c = true → Ev A Q) (h2 : c = false → Ev B Q) : Ev (bif c then A else B) Q := by
  cases c with
  | true => exact h1 rfl
  | false => exact h2 rfl
theorem Ev.dec {p : Prop} [Decidable p] {A B : Option R} (h1 : p → Ev A Q) (h2 : ¬ p → Ev B Q) : Ev (bif decide p then A else B) Q :=
  Ev.cond (fun h => h1 (of_decide_eq_true h)) (fun h => h2 (of_decide_eq_false h))
theorem Ev.ndec {p : Prop} [Decidable p] {A B : Option R} (h1 : ¬ p → Ev A Q) (h2 : p → Ev B Q) : Ev (bif !decide p then A else B) Q :=
  Ev.cond (fun h => h1 (by simpa using h)) (fun h => h2 (by simpa using h))
/-- Ways that come together: what is known where they meet. -/
theorem Ev.jn {J : σ → Option R} {t : (σ → Option R) → Option R} (P : σ → Prop) (h1 : ∀ j, (∀ z, P z → Ev (j z) Q) → Ev (t j) Q) (h2 : ∀ z, P z → Ev (J z) Q) : Ev (jn J t) Q := h1 J h2
theorem Ev.loop {body : (σ → Option R) → σ → Option R} (I : σ → Prop) (μ : σ → Nat)
    (h : ∀ again x, I x → (∀ y, I y → μ y < μ x → Ev (again y) Q) → Ev (body again x) Q) : ∀ (n : Nat) (x : σ), I x → μ x < n → Ev (loopM body n x) Q
  | 0, _, _, hm => absurd hm (Nat.not_lt_zero _)
  | n + 1, x, hI, hm => h _ x hI (fun y hy hlt => Ev.loop I μ h n y hy (by omega))
theorem Ev.eq {o : Option R} {r : R} (h : Ev o (fun x => x = r)) : o = Option.some r := by
  obtain ⟨x, rfl, rfl⟩ := h; rfl
theorem Ev.of {o : Option R} {r : R} (h : o = Option.some r) (k : Q r) : Ev o Q := ⟨r, h, k⟩
end
theorem ix_nat {α : Type} {l : List α} {i : Nat} {x : α} (h : l[i]? = some x) : ix l (i : Int) = some x := by
  unfold ix; rw [if_pos (by omega), Int.toNat_natCast]; exact h
theorem ix_lt {α : Type} {l : List α} {i : Int} (h0 : 0 ≤ i) (h : i < l.length) : ∃ x, ix l i = some x ∧ l[i.toNat]? = some x := by
  have hl : i.toNat < l.length := by omega
  exact ⟨l[i.toNat], by unfold ix; rw [if_pos h0, List.getElem?_eq_getElem hl], List.getElem?_eq_getElem hl⟩
theorem sub_ok {α : Type} {l : List α} {a b : Int} (h0 : 0 ≤ a) (h1 : a ≤ b) (h2 : b ≤ l.length) : sub l a b = some ((l.take b.toNat).drop a.toNat) := by
  unfold sub; rw [if_pos ⟨h0, h1, h2⟩]
theorem app_ok {α : Type} {a b : List α} (h : a.length + b.length ≤ 1000000000) : app a b = some (a ++ b) := by unfold app; rw [if_pos h]
theorem cat_ok {a b : List UInt8} (h : (a.length : Int) + b.length ≤ 9223372036854775807) : cat a b = some (a ++ b) := by unfold cat; rw [if_pos h]

/-! ### A text cut at a byte -/
def consHd (b : UInt8) : List (List UInt8) → List (List UInt8)
  | [] => [[b]]
  | h :: t => (b :: h) :: t
def cutB (c : UInt8) : List UInt8 → List (List UInt8)
  | [] => [[]]
  | b :: l => if b = c then [] :: cutB c l else consHd b (cutB c l)
theorem cutB_ne (c : UInt8) : ∀ l, cutB c l ≠ []
  | [] => by simp [cutB]
  | b :: l => by
    unfold cutB
    split
    · simp
    · cases cutB c l <;> simp [consHd]
theorem splitK_cons {c b : UInt8} (h : b ≠ c) (k : Nat) (l : List UInt8) : Lib.splitK [c] 0 k (b :: l) = consHd b (Lib.splitK [c] 0 k l) := by
  have hi : Lib.index (b :: l) [c] = if Lib.index l [c] == -1 then -1 else Lib.index l [c] + 1 := by
    conv => lhs; unfold Lib.index
    rw [if_neg (by simp; exact fun e => h e.symm)]
  cases k with
  | zero => rfl
  | succ k =>
    unfold Lib.splitK
    rw [hi]
    have hge := Lib.index_ge l [c]
    by_cases hm : Lib.index l [c] = -1
    · simp [hm, consHd]
    · rw [if_neg (show ¬ (Lib.index l [c] == -1) = true by simpa using hm), if_neg (show ¬ (Lib.index l [c] + 1 == -1) = true by simp; omega), if_neg (show ¬ (Lib.index l [c] == -1) = true by simpa using hm)]
      obtain ⟨i, hi⟩ : ∃ i : Nat, Lib.index l [c] = i := ⟨(Lib.index l [c]).toNat, by omega⟩
      rw [hi]
      have e1 : ((i : Int) + 1).toNat = i + 1 := by omega
      rw [e1]
      simp [consHd]
theorem splitK_hit (c : UInt8) (k : Nat) (l : List UInt8) : Lib.splitK [c] 0 (1 + k) (c :: l) = [] :: Lib.splitK [c] 0 k l := by
  have hi : Lib.index (c :: l) [c] = 0 := by unfold Lib.index; simp
  rw [Nat.add_comm]
  conv => lhs; unfold Lib.splitK
  rw [hi]; simp
theorem split_cut (c : UInt8) : ∀ l, Lib.split l [c] = cutB c l
  | [] => by unfold Lib.split; rw [Lib.count_one]; rfl
  | b :: l => by
    have ih := split_cut c l
    unfold Lib.split at ih ⊢
    unfold cutB
    by_cases h : b = c
    · subst h
      rw [if_pos rfl, Lib.count_cons_eq, splitK_hit, ih]
    · rw [if_neg h, Lib.count_cons_ne _ _ _ h, splitK_cons h, ih]
theorem m_split_ok {l : List UInt8} (c : UInt8) (h : l.length < 4294967281) : m_split l [c] = some (cutB c l) := by
  unfold m_split; rw [if_pos ⟨h, by simp⟩, split_cut]
theorem cutB_app {c : UInt8} : ∀ {a : List UInt8} (b : List UInt8), c ∉ a → cutB c (a ++ c :: b) = a :: cutB c b
  | [], b, _ => by simp [cutB]
  | x :: a, b, h => by
    have hx : x ≠ c := fun e => h (by simp [e])
    rw [List.cons_append, cutB, if_neg hx, cutB_app b (fun hm => h (List.mem_cons_of_mem _ hm))]; rfl
theorem cutB_one {c : UInt8} : ∀ {a : List UInt8}, c ∉ a → cutB c a = [a]
  | [], _ => rfl
  | x :: a, h => by
    have hx : x ≠ c := fun e => h (by simp [e])
    rw [cutB, if_neg hx, cutB_one (fun hm => h (List.mem_cons_of_mem _ hm))]; rfl
theorem cutB_len (c : UInt8) : ∀ l, (cutB c l).length ≤ l.length + 1
  | [] => by simp [cutB]
  | b :: l => by
    have ih := cutB_len c l
    have := cutB_ne c l
    unfold cutB
    split
    · simp; exact ih
    · cases hq : cutB c l with
      | nil => exact absurd hq this
      | cons h t => rw [hq] at ih; simp [consHd] at ih ⊢; omega
/-- The text again, out of its pieces. -/
def glue (c : UInt8) : List (List UInt8) → List UInt8
  | [] => []
  | [x] => x
  | x :: y :: r => x ++ c :: glue c (y :: r)
theorem glue_consHd (c b : UInt8) {p : List (List UInt8)} (h : p ≠ []) : glue c (consHd b p) = b :: glue c p := by
  match p, h with
  | [x], _ => rfl
  | x :: y :: r, _ => rfl
theorem glue_cut (c : UInt8) : ∀ l, glue c (cutB c l) = l
  | [] => rfl
  | b :: l => by
    have ih := glue_cut c l
    have hn := cutB_ne c l
    unfold cutB
    split
    · rename_i h; subst h
      cases hq : cutB b l with
      | nil => exact absurd hq hn
      | cons x y => rw [hq] at ih; simp [glue, ih]
    · rw [glue_consHd c b hn, ih]
theorem cutB_mem {c : UInt8} : ∀ {l : List UInt8} {x : List UInt8}, x ∈ cutB c l → c ∉ x ∧ x.length ≤ l.length
  | [], x, h => by simp [cutB] at h; subst h; simp
  | b :: l, x, h => by
    unfold cutB at h
    split at h
    · rename_i hb
      rcases List.mem_cons.1 h with rfl | h
      · simp
      · obtain ⟨h1, h2⟩ := cutB_mem h; exact ⟨h1, by simp; omega⟩
    · rename_i hb
      have hn := cutB_ne c l
      cases hq : cutB c l with
      | nil => exact absurd hq hn
      | cons h0 t =>
        rw [hq] at h
        simp only [consHd] at h
        rcases List.mem_cons.1 h with rfl | h
        · obtain ⟨h1, h2⟩ := cutB_mem (c := c) (l := l) (x := h0) (by rw [hq]; simp)
          refine ⟨fun hm => ?_, by simp; exact h2⟩
          rcases List.mem_cons.1 hm with e | hm
          · exact hb e.symm
          · exact h1 hm
        · obtain ⟨h1, h2⟩ := cutB_mem (c := c) (l := l) (x := x) (by rw [hq]; simp [h])
          exact ⟨h1, by simp; omega⟩
end Go.Lift
