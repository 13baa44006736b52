/- The steps' texts: reading a line. -/
import Derived.Test.YtphjadokdbfccaaDoorLaw1c
set_option maxRecDepth 100000
set_option linter.unusedVariables false
namespace Go.Lift
open Go
theorem l16Num_ev (s : List UInt8) (hs : s.length ≤ 90000) : Ev (s_l16Num N s) (fun _ => True) := by
  unfold s_l16Num
  refine Ev.jn (fun z => z = true → 0 < s.length) (fun j hj => Ev.dec (fun h => ?_) (fun h => hj _ (fun h => by cases h))) (fun z hz => ?_)
  · obtain ⟨x, hx, _⟩ := ix_lt (l := s) (i := 0) (by omega) h
    exact Ev.bindE hx (hj _ (fun _ => by omega))
  refine Ev.jn (fun t => t.length ≤ 90000) (fun j hj => Ev.cond (fun h => Ev.bindE (sub_ok (by omega) (by have := hz h; omega) (by omega)) (hj _ (by simp; omega))) (fun _ => hj _ hs)) (fun t ht => ?_)
  refine Ev.jn (fun _ => True) (fun j hj => ?_) (fun b _ => ?_)
  · refine Ev.dec (fun h => hj _ trivial) (fun h => Ev.dec (fun _ => hj _ trivial) (fun _ => ?_))
    obtain ⟨x, hx, _⟩ := ix_lt (l := t) (i := 0) (by omega) (by omega)
    exact Ev.bindE hx (Ev.dec (fun _ => Ev.dec (fun _ => hj _ trivial) (fun _ => hj _ trivial)) (fun _ => hj _ trivial))
  refine Ev.cond (fun _ => Ev.some trivial) (fun _ => ?_)
  refine Ev.loop (fun x : Int × Int => 0 ≤ x.2 ∧ x.2 ≤ t.length) (fun x => t.length - x.2.toNat) ?_ N _ ⟨by simp, by simp⟩ (by simp [N]; omega)
  rintro again ⟨x, i⟩ ⟨h0, h1⟩ hr
  dsimp only at h0 h1 ⊢
  refine Ev.dec (fun hlt => ?_) (fun _ => Ev.jn (fun _ => True) (fun j hj => Ev.cond (fun _ => hj _ trivial) (fun _ => hj _ trivial)) (fun _ _ => Ev.some trivial))
  obtain ⟨y, hy, _⟩ := ix_lt h0 hlt
  refine Ev.jn (fun _ => True) (fun j hj => Ev.bindE hy (Ev.dec (fun _ => hj _ trivial) (fun _ => hj _ trivial))) (fun z _ => ?_)
  refine Ev.cond (fun _ => Ev.some trivial) (fun _ => Ev.bindE hy ?_)
  rw [wr_in (n := i + 1) (by omega)]
  exact hr _ ⟨by dsimp only; omega, by dsimp only; omega⟩ (by dsimp only; omega)
theorem number_ev (w : List UInt8) (hw : w.length ≤ 90000) : Ev (s_l14Number N w) (fun r => ∀ v, small v = true → w = Lib.itoa v → r = v) := by
  have h : Ev (s_l14Number N w) (fun _ => True) := by
    unfold s_l14Number
    refine Ev.jn (fun z => z = true → 1 < w.length) (fun j hj => Ev.dec (fun h => ?_) (fun h => hj _ (fun h => by cases h))) (fun z hz => ?_)
    · obtain ⟨x, hx, _⟩ := ix_lt (l := w) (i := 0) (by omega) (by omega)
      exact Ev.bindE hx (hj _ (fun _ => by omega))
    · refine Ev.cond (fun h => Ev.bindE (sub_ok (by omega) (by have := hz h; omega) (by omega)) (Ev.bind' (l16Num_ev _ (by simp; omega)) (fun _ _ => Ev.some trivial))) (fun _ => Ev.bind' (l16Num_ev w hw) (fun _ _ => Ev.some trivial))
  obtain ⟨r, hr, _⟩ := h
  refine ⟨r, hr, fun v hv he => ?_⟩
  subst he
  rw [small_number hv] at hr
  exact (Option.some.inj hr).symm
def words12 : List (List UInt8) := [[], [105, 110, 116, 101, 114, 99, 104, 97, 110, 103, 101], [114, 101, 118, 101, 114, 115, 101], [115, 107, 101, 119], [115, 104, 105, 102, 116], [115, 116, 114, 105, 112], [102, 117, 115, 101], [100, 105, 115, 116, 114, 105, 98, 117, 116, 101], [115, 112, 108, 105, 116], [115, 119, 97, 112], [100, 114, 111, 112], [102, 111, 108, 100]]
theorem words12_at {k i : Int} (hk : 1 ≤ k ∧ k ≤ 11) (hi : 1 ≤ i ∧ i ≤ 11) {w : List UInt8} (hw : words12[i.toNat]? = some w) : w = wordK k ↔ i = k := by
  rcases kinds hk with rfl | rfl | rfl | rfl | rfl | rfl | rfl | rfl | rfl | rfl | rfl <;> rcases kinds hi with rfl | rfl | rfl | rfl | rfl | rfl | rfl | rfl | rfl | rfl | rfl <;> (cases hw; decide)
theorem arg_at {s : Step} {j : Nat} {v : Int} (h : (args s)[j]? = some v) (r : List (List UInt8)) : (wordK s.kind :: (args s).map Lib.itoa ++ r)[j + 1]? = some (Lib.itoa v) := by
  have hlt := (List.getElem?_eq_some_iff.1 h).1
  rw [List.cons_append, List.getElem?_cons_succ, List.getElem?_append_left (by simpa using hlt), List.getElem?_map, h]; rfl
theorem args_get {s : Step} {j : Nat} (hj : j < nf s.kind) : (args s)[j]? = some ((args s).getD j 0) := by
  rw [List.getD, List.getElem?_eq_getElem (by rw [args_len]; exact hj)]; rfl
theorem args_out {s : Step} {j : Nat} (hj : ¬ j < nf s.kind) : (args s).getD j 0 = 0 := by
  rw [List.getD, List.getElem?_eq_none (by rw [args_len]; omega)]; rfl
theorem line_ev (l : List UInt8) (hl : l.length ≤ 80000) : Ev (s_l14Line N l) (fun t => ∀ s, good s = true → l = lineS s → t = s) := by
  unfold s_l14Line
  refine Ev.bindE (words_eq l (by omega)) ?_
  have hws : ∀ s, good s = true → l = lineS s → (cutB 32 l).filter (fun w => !decide (w = [])) = wordK s.kind :: (args s).map Lib.itoa := fun s hs he => by rw [he]; exact words_line hs
  have hwl : ((cutB 32 l).filter (fun w => !decide (w = []))).length ≤ 80001 := Nat.le_trans (List.length_filter_le _ _) (by have := cutB_len 32 l; omega)
  have hwm : ∀ w ∈ (cutB 32 l).filter (fun w => !decide (w = [])), w.length ≤ 80000 := fun w hw => by have := (cutB_mem (List.mem_filter.1 hw).1).2; omega
  generalize (cutB 32 l).filter (fun w => !decide (w = [])) = ws at hws hwl hwm
  refine Ev.bindE (app_ok (by simp; omega)) ?_
  have hxm : ∀ w ∈ ws ++ [[], [], [], []], w.length ≤ 90000 := fun w hw => by
    rcases List.mem_append.1 hw with h | h
    · have := hwm w h; omega
    · simp at h; subst h; simp
  have hxl : 4 ≤ (ws ++ [[], [], [], []] : List (List UInt8)).length := by simp
  have hx0 : ∀ s, good s = true → l = lineS s → (ws ++ [[], [], [], []])[0]? = some (wordK s.kind) := fun s hs he => by rw [hws s hs he]; rfl
  have hxa : ∀ s, good s = true → l = lineS s → ∀ (j : Nat) v, (args s)[j]? = some v → (ws ++ [[], [], [], []])[j + 1]? = some (Lib.itoa v) := fun s hs he j v hv => by rw [hws s hs he]; exact arg_at hv _
  generalize ws ++ [[], [], [], []] = X at hxm hxl hx0 hxa
  refine Ev.bindE (show s_l14Words N = some words12 from rfl) ?_
  refine Ev.loop (fun x : Int × Int => 1 ≤ x.2 ∧ x.2 ≤ 12 ∧ 0 ≤ x.1 ∧ x.1 ≤ 11 ∧ ∀ s, good s = true → l = lineS s → x.1 = if s.kind < x.2 then s.kind else 0) (fun x => 12 - x.2.toNat) ?_ N _ ⟨by simp, by simp, by simp, by simp, fun s hs _ => by have := good_kind hs; dsimp only; rw [if_neg (by omega)]⟩ (by simp [N])
  rintro again ⟨k, i⟩ ⟨h0, h1, h2, h3, h4⟩ hr
  dsimp only at h0 h1 h2 h3 h4 ⊢
  refine Ev.dec (fun hlt => ?_) (fun hge => ?_)
  · have hlt : i < 12 := hlt
    obtain ⟨w, hw, hw2⟩ := ix_lt (l := words12) (i := i) (by omega) (show i < (12 : Int) from hlt)
    obtain ⟨x, hx, hx2⟩ := ix_lt (l := X) (i := 0) (by omega) (by omega)
    refine Ev.jn (fun z => 0 ≤ z ∧ z ≤ 11 ∧ ∀ s, good s = true → l = lineS s → z = if s.kind < i + 1 then s.kind else 0) (fun j hj => Ev.bindE hw (Ev.bindE hx ?_)) (fun z hz => ?_)
    · have key : ∀ s, good s = true → l = lineS s → (w = x ↔ i = s.kind) := fun s hs he => by
        have e := hx0 s hs he
        rw [show (0 : Int).toNat = 0 from rfl, e] at hx2
        cases hx2
        exact words12_at (good_kind hs) ⟨h0, by omega⟩ hw2
      refine Ev.dec (fun he => hj _ ⟨by omega, by omega, fun s hs hl => ?_⟩) (fun hne => hj _ ⟨h2, h3, fun s hs hl => ?_⟩)
      · have := (key s hs hl).1 he; rw [if_pos (by omega)]; exact this
      · have := mt (key s hs hl).2 hne
        rw [h4 s hs hl]
        by_cases hc : s.kind < i
        · rw [if_pos hc, if_pos (by omega)]
        · rw [if_neg hc, if_neg (by omega)]
    · rw [wr_in (by omega)]
      exact hr _ ⟨by dsimp only; omega, by dsimp only; omega, hz.1, hz.2.1, hz.2.2⟩ (by dsimp only; omega)
  · have hge : ¬ i < 12 := hge
    have hk : ∀ s, good s = true → l = lineS s → k = s.kind := fun s hs he => by
      have := h4 s hs he; rw [this, if_pos (by have := good_kind hs; omega)]
    have hf : ∃ f : Nat, s_l14Fields N k = some (f : Int) ∧ f ≤ 3 ∧ ∀ s, good s = true → l = lineS s → f = nf s.kind := by
      by_cases hkk : 1 ≤ k ∧ k ≤ 11
      · exact ⟨nf k, s_fields_in hkk, nf_le k, fun s hs he => by rw [hk s hs he]⟩
      · exact ⟨0, s_fields_out hkk, by omega, fun s hs he => by have := hk s hs he; have := good_kind hs; omega⟩
    obtain ⟨f, hf1, hf2, hf3⟩ := hf
    refine Ev.bindE hf1 ?_
    have step : ∀ (j : Nat), j < 3 → j < f → ∃ w, ix X ((j + 1 : Nat) : Int) = some w ∧ w.length ≤ 90000 ∧ ∀ s, good s = true → l = lineS s → w = Lib.itoa ((args s).getD j 0) := fun j hj hjf => by
      obtain ⟨w, hw, hw2⟩ := ix_lt (l := X) (i := ((j + 1 : Nat) : Int)) (by omega) (by omega)
      refine ⟨w, hw, hxm w (List.mem_of_getElem? hw2), fun s hs he => ?_⟩
      have := hxa s hs he j _ (args_get (by rw [← hf3 s hs he]; exact hjf))
      rw [Int.toNat_natCast, this] at hw2
      exact (Option.some.inj hw2).symm
    have hsm : ∀ s, good s = true → ∀ j, small ((args s).getD j 0) = true := fun s hs j => by
      by_cases hj : j < nf s.kind
      · exact good_args hs (List.mem_of_getElem? (args_get hj))
      · rw [args_out hj]; rfl
    refine Ev.jn (fun z => ∀ s, good s = true → l = lineS s → z = (args s).getD 0 0) (fun j hj => Ev.dec (fun h => ?_) (fun h => hj _ (fun s hs he => (args_out (by rw [← hf3 s hs he]; omega)).symm))) (fun z0 hz0 => ?_)
    · obtain ⟨w, hw, hwl, hwe⟩ := step 0 (by omega) (by omega)
      exact Ev.bindE hw (Ev.bind' (number_ev w hwl) (fun v hv => hj _ (fun s hs he => hv _ (hsm s hs 0) (hwe s hs he))))
    refine Ev.jn (fun z => ∀ s, good s = true → l = lineS s → z = (args s).getD 1 0) (fun j hj => Ev.dec (fun h => ?_) (fun h => hj _ (fun s hs he => (args_out (by rw [← hf3 s hs he]; omega)).symm))) (fun z1 hz1 => ?_)
    · obtain ⟨w, hw, hwl, hwe⟩ := step 1 (by omega) (by omega)
      exact Ev.bindE hw (Ev.bind' (number_ev w hwl) (fun v hv => hj _ (fun s hs he => hv _ (hsm s hs 1) (hwe s hs he))))
    refine Ev.jn (fun z => ∀ s, good s = true → l = lineS s → z = (args s).getD 2 0) (fun j hj => Ev.dec (fun h => ?_) (fun h => hj _ (fun s hs he => (args_out (by rw [← hf3 s hs he]; omega)).symm))) (fun z2 hz2 => ?_)
    · obtain ⟨w, hw, hwl, hwe⟩ := step 2 (by omega) (by omega)
      exact Ev.bindE hw (Ev.bind' (number_ev w hwl) (fun v hv => hj _ (fun s hs he => hv _ (hsm s hs 2) (hwe s hs he))))
    refine Ev.some (fun s hs he => ?_)
    rw [hk s hs he]
    exact good_eq hs (hz0 s hs he) (hz1 s hs he) (hz2 s hs he)
theorem index_ev (w : List UInt8) : Ev (l_Index_string N wordsL w) (fun r => -1 ≤ r ∧ r ≤ 10) := by
  unfold l_Index_string
  refine Ev.loop (fun i : Int => 0 ≤ i ∧ i ≤ 11) (fun i : Int => 11 - i.toNat) ?_ N 0 ⟨by omega, by omega⟩ (by simp [N])
  rintro again i ⟨h0, h1⟩ hr
  refine Ev.dec (fun hlt => ?_) (fun hge => Ev.some ⟨by omega, by omega⟩)
  have hlt : i < 11 := hlt
  obtain ⟨x, hx, _⟩ := ix_lt (l := wordsL) (i := i) h0 (show i < (11 : Int) from hlt)
  refine Ev.bindE hx (Ev.dec (fun _ => Ev.some ⟨by omega, by omega⟩) (fun _ => ?_))
  rw [wr_in (by omega)]
  exact hr _ ⟨by omega, by omega⟩ (by omega)
theorem atoi_total (w : List UInt8) (hw : w.length ≤ 1000000) : ∃ r, m_atoi w = some r := by
  unfold m_atoi; rw [if_pos (by omega)]; exact ⟨_, rfl⟩
theorem read_ev (l : List UInt8) (hl : l.length ≤ 1000000) : Ev (i_readStep N l) (fun r => (r.2 = true → good r.1 = true ∧ lineS r.1 = l) ∧ ∀ s, good s = true → l = lineS s → r = (s, true)) := by
  unfold i_readStep
  refine Ev.bindE (m_split_ok 32 (by omega)) (Ev.bindE (show i_stepWords N = some wordsL from rfl) ?_)
  have hws : ∀ s, good s = true → l = lineS s → cutB 32 l = wordK s.kind :: (args s).map Lib.itoa := fun s hs he => by rw [he]; exact cut_line hs
  have hwm : ∀ w ∈ cutB 32 l, w.length ≤ 1000000 := fun w hw => by have := (cutB_mem hw).2; omega
  have hwl := cutB_len 32 l
  have hwn := cutB_ne 32 l
  generalize cutB 32 l = X at hws hwm hwl hwn
  obtain ⟨h, t, rfl⟩ : ∃ h t, X = h :: t := by cases X with | nil => exact absurd rfl hwn | cons h t => exact ⟨h, t, rfl⟩
  refine Ev.bindE (show ix (h :: t) 0 = some h from rfl) ?_
  obtain ⟨r, hr1, hr2⟩ := index_ev h
  have hrk : ∀ s, good s = true → l = lineS s → r = s.kind - 1 := fun s hs he => by
    have := hws s hs he
    simp only [List.cons.injEq] at this
    rw [this.1, (wordK_p (good_kind hs)).2.2.2.2.2] at hr1
    exact (Option.some.inj hr1).symm
  have hrt : ∀ s, good s = true → l = lineS s → t = (args s).map Lib.itoa := fun s hs he => by
    have := hws s hs he
    simp only [List.cons.injEq] at this
    exact this.2
  refine Ev.bindE hr1 ?_
  rw [wr_in (n := 1 + r) (by omega), wr_in (n := ((h :: t).length : Int) - 1) (by simp at hwl ⊢; omega)]
  have hnogood : (¬ ∃ s, good s = true ∧ l = lineS s) → Ev (some ((⟨0, 0, 0, 0⟩ : Step), false)) (fun r : Step × Bool => (r.2 = true → good r.1 = true ∧ lineS r.1 = l) ∧ ∀ s, good s = true → l = lineS s → r = (s, true)) := fun hn =>
    Ev.some ⟨fun h => (by cases h), fun s hs he => absurd ⟨s, hs, he⟩ hn⟩
  refine Ev.jn (fun b => (b = true → ¬ ∃ s, good s = true ∧ l = lineS s) ∧ (b = false → 0 ≤ r ∧ t.length = nf (1 + r))) (fun j hj => ?_) (fun b hb => ?_)
  · refine Ev.dec (fun hlt => hj _ ⟨fun _ ⟨s, hs, he⟩ => ?_, fun h => by cases h⟩) (fun hge => ?_)
    · have := hrk s hs he; have := good_kind hs; omega
    · refine Ev.bindE (i_fields_in ⟨by omega, by omega⟩) (hj _ ⟨fun hq ⟨s, hs, he⟩ => ?_, fun hq => ?_⟩)
      · have h1 := hrk s hs he
        have h2 := hrt s hs he
        simp only [Bool.not_eq_true', decide_eq_false_iff_not] at hq
        apply hq
        rw [h1, h2, show 1 + (s.kind - 1) = s.kind by omega]
        simp [args_len]
      · simp at hq; exact ⟨by omega, by omega⟩
  refine Ev.cond (fun hbt => hnogood (hb.1 hbt)) (fun hbf => ?_)
  obtain ⟨hr0, htl⟩ := hb.2 hbf
  have hn3 := nf_le (1 + r)
  refine Ev.bindE (sub_ok (by omega) (by simp; omega) (by omega)) ?_
  rw [show ((h :: t).take ((h :: t).length : Int).toNat).drop (1 : Int).toNat = t by simp]
  refine Ev.loop (fun x : Int × Int × Int × Int => 0 ≤ x.2.2.2 ∧ x.2.2.2 ≤ t.length ∧ ∀ s, good s = true → l = lineS s → x.1 = (if 0 < x.2.2.2 then (args s).getD 0 0 else 0) ∧ x.2.1 = (if 1 < x.2.2.2 then (args s).getD 1 0 else 0) ∧ x.2.2.1 = (if 2 < x.2.2.2 then (args s).getD 2 0 else 0))
    (fun x => t.length - x.2.2.2.toNat) ?_ N _ ⟨by simp, by simp, fun s _ _ => by simp⟩ (by simp [N]; omega)
  rintro again ⟨a, b1, c, i⟩ ⟨h0, h1, h2⟩ hrr
  dsimp only at h0 h1 h2 ⊢
  refine Ev.dec (fun hlt => ?_) (fun hge => ?_)
  · obtain ⟨w, hw, hw2⟩ := ix_lt h0 hlt
    obtain ⟨v, hv⟩ := atoi_total w (hwm w (List.mem_cons_of_mem _ (List.mem_of_getElem? hw2)))
    have hva : ∀ s, good s = true → l = lineS s → v = ((args s).getD i.toNat 0, false) := fun s hs he => by
      have e := hrt s hs he
      have hk := hrk s hs he
      have hi : i.toNat < nf s.kind := by rw [show s.kind = 1 + r by omega, ← htl]; omega
      have := args_get hi
      rw [e, List.getElem?_map, this] at hw2
      have hw2 : Lib.itoa ((args s).getD i.toNat 0) = w := Option.some.inj hw2
      rw [← hw2, small_atoi (good_args hs (List.mem_of_getElem? this))] at hv
      exact (Option.some.inj hv).symm
    refine Ev.bindE hw (Ev.bindE hv (Ev.cond (fun hv2 => hnogood (fun ⟨s, hs, he⟩ => ?_)) (fun hv2 => ?_)))
    · rw [hva s hs he] at hv2; cases hv2
    · rw [wr_in (n := i + 1) (by omega)]
      refine Ev.dec (fun hi => ?_) (fun hi0 => Ev.dec (fun hi => ?_) (fun hi1 => Ev.dec (fun hi => ?_) (fun hi2 => ?_)))
      · subst hi
        refine hrr _ ⟨by dsimp only; omega, by dsimp only; omega, fun s hs he => ?_⟩ (by dsimp only; omega)
        obtain ⟨e1, e2, e3⟩ := h2 s hs he
        rw [hva s hs he]
        exact ⟨rfl, by dsimp only; rw [e2]; rfl, by dsimp only; rw [e3]; rfl⟩
      · subst hi
        refine hrr _ ⟨by dsimp only; omega, by dsimp only; omega, fun s hs he => ?_⟩ (by dsimp only; omega)
        obtain ⟨e1, e2, e3⟩ := h2 s hs he
        rw [hva s hs he]
        exact ⟨by dsimp only; rw [e1]; rfl, rfl, by dsimp only; rw [e3]; rfl⟩
      · subst hi
        refine hrr _ ⟨by dsimp only; omega, by dsimp only; omega, fun s hs he => ?_⟩ (by dsimp only; omega)
        obtain ⟨e1, e2, e3⟩ := h2 s hs he
        rw [hva s hs he]
        exact ⟨by dsimp only; rw [e1]; rfl, by dsimp only; rw [e2]; rfl, rfl⟩
      · omega
  · have hi : i = t.length := by omega
    have hfin : ∀ s, good s = true → l = lineS s → (⟨1 + r, a, b1, c⟩ : Step) = s := fun s hs he => by
      obtain ⟨e1, e2, e3⟩ := h2 s hs he
      have hk := hrk s hs he
      rw [show 1 + r = s.kind by omega]
      have hnf : (nf s.kind : Int) = i := by rw [hi, htl, show s.kind = 1 + r by omega]
      refine good_eq hs ?_ ?_ ?_
      · rw [e1]; split
        · rfl
        · exact (args_out (by omega)).symm
      · rw [e2]; split
        · rfl
        · exact (args_out (by omega)).symm
      · rw [e3]; split
        · rfl
        · exact (args_out (by omega)).symm
    refine Ev.jn (fun z => (z = true ↔ good ⟨1 + r, a, b1, c⟩ = true ∧ lineS ⟨1 + r, a, b1, c⟩ = l)) (fun j hj => Ev.bindE (hasText_eq _) (Ev.cond (fun hg => Ev.bindE (stepText_eq hg) (hj _ (by simp [hg]))) (fun hg => hj _ (by simp [hg])))) (fun z hz => Ev.some ⟨fun hq => hz.1 hq, fun s hs he => ?_⟩)
    have e := hfin s hs he
    rw [e] at hz ⊢
    rw [hz.2 ⟨hs, he.symm⟩]
end Go.Lift
