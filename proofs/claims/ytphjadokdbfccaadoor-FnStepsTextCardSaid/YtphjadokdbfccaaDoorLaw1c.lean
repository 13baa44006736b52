/- The steps' texts: reading. -/
import Derived.Test.YtphjadokdbfccaaDoorLaw1b
set_option maxRecDepth 100000
set_option linter.unusedVariables false
namespace Go.Lift
open Go
theorem lnSteps_ev (a b : List Step) (ha : a.length ≤ 10000) : Ev (w_lnSteps N a b) (fun r => r = true ↔ a = b) := by
  unfold w_lnSteps
  refine Ev.ndec (fun h => Ev.some ⟨fun e => (by cases e), fun e => by subst e; exact absurd rfl h⟩) (fun hlen => ?_)
  have hlen : a.length = b.length := by omega
  refine Ev.loop (fun i : Int => 0 ≤ i ∧ i ≤ a.length ∧ a.take i.toNat = b.take i.toNat) (fun i : Int => a.length - i.toNat) ?_ N 0 ⟨by omega, by omega, by simp⟩ (by simp [N]; omega)
  rintro again i ⟨h0, h1, h2⟩ hr
  refine Ev.dec (fun hlt => ?_) (fun hge => Ev.some ⟨fun _ => ?_, fun _ => rfl⟩)
  · obtain ⟨x, hx, hx2⟩ := ix_lt h0 hlt
    obtain ⟨y, hy, hy2⟩ := ix_lt (l := b) h0 (by omega)
    refine Ev.bindE hx (Ev.bindE hy (Ev.ndec (fun hne => Ev.some ⟨fun e => (by cases e), fun e => ?_⟩) (fun he => ?_)))
    · subst e; rw [hx2] at hy2; cases hy2; exact absurd rfl hne
    · have hxy : x = y := by cases x; cases y; simp at he; simp [he]
      subst hxy
      rw [wr_in (by omega)]
      refine hr _ ⟨by omega, by omega, ?_⟩ (by omega)
      rw [show (i + 1).toNat = i.toNat + 1 by omega, List.take_add_one, List.take_add_one, hx2, hy2, h2]
  · rw [show i.toNat = a.length by omega, List.take_length, hlen, List.take_length] at h2
    exact h2
/-- What is glued in front of the first piece. -/
def glueHd (p : List UInt8) : List (List UInt8) → List (List UInt8)
  | [] => [p]
  | h :: t => (p ++ h) :: t
theorem glueHd_nil {l : List (List UInt8)} (h : l ≠ []) : glueHd [] l = l := by cases l; exact absurd rfl h; rfl
theorem glueHd_cons (p : List UInt8) (b : UInt8) {l : List (List UInt8)} (h : l ≠ []) : glueHd p (consHd b l) = glueHd (p ++ [b]) l := by
  cases l with
  | nil => exact absurd rfl h
  | cons x t => simp [glueHd, consHd]
theorem cut_eq (s : List UInt8) (c : UInt8) (hs : s.length ≤ 90000) : s_l16Cut N s c = some (cutB c s) := by
  refine Ev.eq ?_
  unfold s_l16Cut
  refine Ev.loop (fun x : List (List UInt8) × Int × Int => 0 ≤ x.2.1 ∧ x.2.1 ≤ x.2.2 ∧ x.2.2 ≤ s.length + 1 ∧ x.1.length ≤ x.2.2 ∧ (x.2.2 ≤ s.length → x.1 ++ glueHd ((s.take x.2.2.toNat).drop x.2.1.toNat) (cutB c (s.drop x.2.2.toNat)) = cutB c s) ∧ (¬ x.2.2 ≤ s.length → x.1 = cutB c s))
    (fun x => s.length + 1 - x.2.2.toNat) ?_ N _ ⟨by simp, by simp, by simp; try omega, by simp, fun _ => by simp [glueHd_nil (cutB_ne c s)], fun h => absurd (Int.natCast_nonneg _) h⟩ (by simp [N]; omega)
  rintro again ⟨acc, from_, i⟩ ⟨h0, h1, h2, hl, h3, h4⟩ hr
  dsimp only at h0 h1 h2 hl h3 h4 ⊢
  refine Ev.dec (fun hle => ?_) (fun hgt => Ev.some (h4 hgt))
  have h3 := h3 hle
  refine Ev.jn (fun z => z.2 = from_ ∧ z.1 = acc ∧ (∃ b, s[i.toNat]? = some b ∧ b ≠ c) ∨ z.2 = i + 1 ∧ z.1 = acc ++ [(s.take i.toNat).drop from_.toNat] ∧ (i = s.length ∨ s[i.toNat]? = some c)) (fun j6 hj6 => ?_) (fun z hz => ?_)
  · refine Ev.jn (fun b => (b = true ∧ (i = s.length ∨ s[i.toNat]? = some c)) ∨ (b = false ∧ ∃ b, s[i.toNat]? = some b ∧ b ≠ c)) (fun j7 hj7 => ?_) (fun b hb => ?_)
    · refine Ev.dec (fun he => hj7 _ (.inl ⟨rfl, .inl he⟩)) (fun hne => ?_)
      obtain ⟨x, hx, hx2⟩ := ix_lt (l := s) (i := i) (by omega) (by omega)
      refine Ev.bindE hx ?_
      by_cases hxc : x = c
      · subst hxc; exact hj7 _ (.inl ⟨by simp, .inr hx2⟩)
      · refine hj7 _ (.inr ⟨?_, x, hx2, hxc⟩)
        have : ¬ (x.toNat : Int) = (c.toNat : Int) := fun e => hxc (UInt8.toNat_inj.1 (by omega))
        simpa using this
    · rcases hb with ⟨rfl, hb⟩ | ⟨rfl, hb⟩
      · refine Ev.bindE (sub_ok h0 h1 hle) (Ev.bindE (app_ok (by simp; omega)) ?_)
        rw [wr_in (by omega)]
        exact hj6 _ (.inr ⟨rfl, rfl, hb⟩)
      · exact hj6 _ (.inl ⟨rfl, rfl, hb⟩)
  · obtain ⟨z1, z2⟩ := z
    dsimp only at hz
    rw [wr_in (by omega)]
    rcases hz with ⟨rfl, rfl, b, hb, hbc⟩ | ⟨rfl, rfl, hb⟩
    · have hlt : i.toNat < s.length := (List.getElem?_eq_some_iff.1 hb).1
      have hd := drop_cons' (show 0 ≤ i by omega) hb
      refine hr _ ⟨h0, by dsimp only; omega, by dsimp only; omega, by dsimp only; omega, fun _ => ?_, fun h => ?_⟩ (by dsimp only; omega)
      · dsimp only
        rw [← h3, hd]
        conv => rhs; rw [cutB, if_neg hbc, glueHd_cons _ _ (cutB_ne _ _)]
        rw [show (i + 1).toNat = i.toNat + 1 by omega, List.take_add_one, hb, List.drop_append_of_le_length (by simp; omega)]
        rfl
      · exact absurd (show i + 1 ≤ (s.length : Int) by omega) h
    · by_cases he : i = s.length
      · refine hr _ ⟨by dsimp only; omega, by dsimp only; omega, by dsimp only; omega, by simp; omega, fun h => ?_, fun _ => ?_⟩ (by dsimp only; omega)
        · dsimp only at h; omega
        · dsimp only
          have hi : i.toNat = s.length := by omega
          rw [← h3, hi, List.drop_length]
          simp [cutB, glueHd]
      · have hb : s[i.toNat]? = some c := by rcases hb with h | h; exact absurd h he; exact h
        have hlt : i.toNat < s.length := (List.getElem?_eq_some_iff.1 hb).1
        have hd := drop_cons' (show 0 ≤ i by omega) hb
        refine hr _ ⟨by dsimp only; omega, by dsimp only; omega, by dsimp only; omega, by simp; omega, fun _ => ?_, fun h => ?_⟩ (by dsimp only; omega)
        · dsimp only
          rw [← h3, hd]
          conv => rhs; rw [cutB, if_pos rfl]
          have : ((s.take (i + 1).toNat).drop (i + 1).toNat) = [] := by simp
          rw [this, glueHd_nil (cutB_ne _ _)]
          simp [glueHd]
        · exact absurd (show i + 1 ≤ (s.length : Int) by omega) h
theorem words_eq (s : List UInt8) (hs : s.length ≤ 90000) : s_l16Words N s = some ((cutB 32 s).filter (fun w => !decide (w = []))) := by
  refine Ev.eq ?_
  unfold s_l16Words
  refine Ev.bindE (cut_eq s 32 hs) ?_
  have hlen := cutB_len 32 s
  generalize cutB 32 s = l at hlen
  refine Ev.loop (fun x : List (List UInt8) × Int => 0 ≤ x.2 ∧ x.2 ≤ l.length ∧ x.1 = (l.take x.2.toNat).filter (fun w => !decide (w = []))) (fun x => l.length - x.2.toNat) ?_ N _ ⟨by simp, by simp, by simp⟩ (by simp [N]; omega)
  rintro again ⟨x, i⟩ ⟨h0, h1, h2⟩ hr
  dsimp only at h0 h1 h2 ⊢
  refine Ev.dec (fun hlt => ?_) (fun hge => Ev.some ?_)
  · obtain ⟨w, hw, hw2⟩ := ix_lt h0 hlt
    refine Ev.jn (fun z => z = (l.take (i + 1).toNat).filter (fun w => !decide (w = []))) (fun j hj => Ev.bindE hw ?_) (fun z hz => ?_)
    · have ht : l.take (i + 1).toNat = l.take i.toNat ++ [w] := by rw [show (i + 1).toNat = i.toNat + 1 by omega, List.take_add_one, hw2]; rfl
      refine Ev.ndec (fun hne => ?_) (fun he => ?_)
      · have hxl : x.length ≤ i.toNat := by rw [h2]; exact Nat.le_trans (List.length_filter_le _ _) (by simp; omega)
        refine Ev.bindE (app_ok (by simp; omega)) (hj _ ?_)
        rw [ht, List.filter_append, h2]; simp [hne]
      · refine hj _ ?_
        rw [ht, List.filter_append, h2]; simp [he]
    · rw [wr_in (by omega)]
      exact hr _ ⟨by dsimp only; omega, by dsimp only; omega, hz⟩ (by dsimp only; omega)
  · rw [h2, show i.toNat = l.length by omega, List.take_length]
theorem cut_tail : ∀ {l : List Int} (w : List UInt8), (32 : UInt8) ∉ w → (∀ v ∈ l, small v = true) → cutB 32 (w ++ tail l) = w :: l.map Lib.itoa
  | [], w, hw, _ => by simp [tail, cutB_one hw]
  | v :: l, w, hw, h => by
    rw [show w ++ tail (v :: l) = w ++ 32 :: (Lib.itoa v ++ tail l) from rfl, cutB_app _ hw, cut_tail (Lib.itoa v) (small_itoa (h v (by simp))).2.1 (fun x hx => h x (by simp [hx]))]
    rfl
theorem cut_line {s : Step} (h : good s = true) : cutB 32 (lineS s) = wordK s.kind :: (args s).map Lib.itoa :=
  cut_tail _ (wordK_p (good_kind h)).2.1 (fun v hv => good_args h hv)
theorem words_line {s : Step} (h : good s = true) : (cutB 32 (lineS s)).filter (fun w => !decide (w = [])) = wordK s.kind :: (args s).map Lib.itoa := by
  rw [cut_line h]
  have h1 := (wordK_p (good_kind h)).2.2.2.1
  rw [List.filter_eq_self.2]
  intro w hw
  rcases List.mem_cons.1 hw with rfl | hw
  · simpa using h1
  · obtain ⟨v, hv, rfl⟩ := List.mem_map.1 hw
    simpa using (small_itoa (good_args h hv)).2.2.2
/-- What a step of a good kind is, out of its fields. -/
theorem good_eq {s : Step} (h : good s = true) {p a b : Int} (hp : p = (args s).getD 0 0) (ha : a = (args s).getD 1 0) (hb : b = (args s).getD 2 0) : (⟨s.kind, p, a, b⟩ : Step) = s := by
  obtain ⟨k, sp, sa, sb⟩ := s
  simp only [good, Bool.and_eq_true, decide_eq_true_eq] at h
  obtain ⟨_, h1, h2, h3, _⟩ := h
  have hn : nf k = 0 ∨ nf k = 1 ∨ nf k = 2 ∨ nf k = 3 := by unfold nf; split; simp; split; simp; split <;> simp
  subst hp; subst ha; subst hb
  rcases hn with e | e | e | e <;> simp only [e] at h1 h2 h3 <;> simp [args, e]
  · exact ⟨(h1 (by omega)).symm, (h2 (by omega)).symm, (h3 (by omega)).symm⟩
  · exact ⟨(h2 (by omega)).symm, (h3 (by omega)).symm⟩
  · exact (h3 (by omega)).symm
end Go.Lift
