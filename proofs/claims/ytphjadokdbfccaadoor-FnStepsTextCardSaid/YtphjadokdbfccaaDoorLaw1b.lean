/- The steps' texts: formatting. -/
import Derived.Test.YtphjadokdbfccaaDoorLaw1a
set_option maxRecDepth 100000
set_option linter.unusedVariables false
namespace Go.Lift
open Go
theorem smallP {P : Int → Bool} (h : (List.range 199).all (fun k => P ((k : Int) - 99)) = true) {v : Int} (hv : small v = true) : P v = true := by
  simp only [small, decide_eq_true_eq] at hv
  have := List.all_eq_true.1 h (v + 99).toNat (by simp; omega)
  rwa [show (((v + 99).toNat : Int) - 99) = v by omega] at this
theorem small_itoa {v : Int} (hv : small v = true) : (Lib.itoa v).length ≤ 3 ∧ (32 : UInt8) ∉ Lib.itoa v ∧ (10 : UInt8) ∉ Lib.itoa v ∧ Lib.itoa v ≠ [] := by
  have := smallP (P := fun v => decide ((Lib.itoa v).length ≤ 3) && (!(Lib.itoa v).contains 32 && (!(Lib.itoa v).contains 10 && !(Lib.itoa v).isEmpty))) (by decide +kernel) hv
  simpa using this
theorem small_atoi {v : Int} (hv : small v = true) : m_atoi (Lib.itoa v) = some (v, false) := by
  have h1 := smallP (P := fun v => decide (Lib.atoiAll (Lib.itoa v) = .ok v)) (by decide +kernel) hv
  have h1 := of_decide_eq_true h1
  unfold m_atoi
  rw [if_pos (by have := (small_itoa hv).1; omega), h1]
theorem small_signed {v : Int} (hv : small v = true) : s_l14Signed N v = some (Lib.itoa v) :=
  of_decide_eq_true (smallP (P := fun v => decide (s_l14Signed N v = some (Lib.itoa v))) (by decide +kernel) hv)
theorem small_number {v : Int} (hv : small v = true) : s_l14Number N (Lib.itoa v) = some v :=
  of_decide_eq_true (smallP (P := fun v => decide (s_l14Number N (Lib.itoa v) = some v)) (by decide +kernel) hv)
theorem small_range {v : Int} (hv : small v = true) : -99 ≤ v ∧ v ≤ 99 := by simpa [small] using hv
theorem good_kind {s : Step} (h : good s = true) : 1 ≤ s.kind ∧ s.kind ≤ 11 := by
  simp only [good, Bool.and_eq_true] at h; exact of_decide_eq_true h.1
theorem good_small {s : Step} (h : good s = true) : small s.part = true ∧ small s.a = true ∧ small s.b = true := by
  simp only [good, Bool.and_eq_true] at h
  exact ⟨h.2.2.2.2.1, h.2.2.2.2.2.1, h.2.2.2.2.2.2⟩
theorem good_args {s : Step} (h : good s = true) {v : Int} (hv : v ∈ args s) : small v = true := by
  obtain ⟨h1, h2, h3⟩ := good_small h
  have := List.mem_of_mem_take hv
  simp at this
  rcases this with rfl | rfl | rfl <;> assumption
theorem nf_le (k : Int) : nf k ≤ 3 := by unfold nf; split; simp; split; simp; split <;> simp
theorem args_len (s : Step) : (args s).length = nf s.kind := by
  have := nf_le s.kind
  simp [args]; omega
theorem tail_len : ∀ {l : List Int}, (∀ v ∈ l, small v = true) → (tail l).length ≤ 4 * l.length
  | [], _ => by simp [tail]
  | v :: l, h => by
    have h1 := (small_itoa (h v (by simp))).1
    have h2 := tail_len (l := l) (fun x hx => h x (by simp [hx]))
    simp [tail]; omega
theorem tail_no {c : UInt8} (hc : c = 10) : ∀ {l : List Int}, (∀ v ∈ l, small v = true) → c ∉ tail l
  | [], _ => by simp [tail]
  | v :: l, h => by
    subst hc
    have h1 := (small_itoa (h v (by simp))).2.2.1
    have h2 := tail_no rfl (l := l) (fun x hx => h x (by simp [hx]))
    simp [tail]; exact ⟨h1, h2⟩
theorem wordK_p {k : Int} (hk : 1 ≤ k ∧ k ≤ 11) : (wordK k).length ≤ 11 ∧ (32 : UInt8) ∉ wordK k ∧ (10 : UInt8) ∉ wordK k ∧ wordK k ≠ [] ∧ ix wordsL (wr (k - 1)) = some (wordK k) ∧ l_Index_string N wordsL (wordK k) = some (k - 1) := by
  rcases kinds hk with rfl | rfl | rfl | rfl | rfl | rfl | rfl | rfl | rfl | rfl | rfl <;> decide +kernel
theorem line_len {s : Step} (h : good s = true) : (lineS s).length ≤ 23 := by
  have h1 := (wordK_p (good_kind h)).1
  have h2 := tail_len (fun v hv => good_args h hv)
  rw [args_len] at h2
  have := nf_le s.kind
  simp [lineS]; omega
theorem line_no {s : Step} (h : good s = true) : (10 : UInt8) ∉ lineS s := by
  have h1 := (wordK_p (good_kind h)).2.2.1
  have h2 := tail_no rfl (fun v hv => good_args h hv)
  simp [lineS]; exact ⟨h1, h2⟩
theorem drop_cons' {α : Type} {l : List α} {i : Int} {x : α} (h0 : 0 ≤ i) (h : l[i.toNat]? = some x) : l.drop i.toNat = x :: l.drop (i + 1).toNat := by
  obtain ⟨h1, h2⟩ := List.getElem?_eq_some_iff.1 h
  rw [List.drop_eq_getElem_cons h1, h2, show (i + 1).toNat = i.toNat + 1 by omega]
theorem stepText_eq {s : Step} (h : good s = true) : i_stepText N s = some (lineS s) := by
  have hk := good_kind h
  have hlen := line_len h
  have hal := args_len s
  have hn := nf_le s.kind
  refine Ev.eq ?_
  unfold i_stepText
  refine Ev.bindE (show i_stepWords N = some wordsL from rfl) (Ev.bindE (wordK_p hk).2.2.2.2.1 (Ev.bindE (show i_Step_list N s = some [s.part, s.a, s.b] from rfl) (Ev.bindE (i_fields_in hk)
    (Ev.bindE (sub_ok (by omega) (by omega) (by simp; omega)) ?_))))
  rw [show (List.take (nf s.kind : Int).toNat [s.part, s.a, s.b]).drop (0 : Int).toNat = args s from by simp [args]]
  refine Ev.loop (fun x : List UInt8 × Int => 0 ≤ x.2 ∧ x.2 ≤ (args s).length ∧ x.1 ++ tail ((args s).drop x.2.toNat) = lineS s) (fun x => (args s).length - x.2.toNat) ?_ N _ ⟨by simp, by simp, rfl⟩ (by simp [N]; omega)
  rintro again ⟨x, i⟩ ⟨h0, h1, h2⟩ hr
  dsimp only at h0 h1 h2 ⊢
  refine Ev.dec (fun hlt => ?_) (fun hge => ?_)
  · obtain ⟨v, hv, hv2⟩ := ix_lt h0 hlt
    have hsm := good_args h (List.mem_of_getElem? hv2)
    have hrg := small_range hsm
    have hd := drop_cons' h0 hv2
    rw [hd] at h2
    have hxl : x.length ≤ 23 := by have := congrArg List.length h2; simp at this; omega
    have hil := (small_itoa hsm).1
    refine Ev.bindE hv (Ev.bindE (show m_itoa v = some (Lib.itoa v) by unfold m_itoa; rw [if_pos (by omega)]) (Ev.bindE (cat_ok (by simp; omega)) (Ev.bindE (cat_ok (by simp; omega)) ?_)))
    rw [wr_in (by omega)]
    refine hr _ ⟨by dsimp only; omega, by dsimp only; omega, ?_⟩ (by dsimp only; omega)
    dsimp only
    rw [← h2]; simp [tail]
  · refine Ev.some ?_
    have hx : i.toNat = (args s).length := by omega
    rw [hx, List.drop_length] at h2
    simpa [tail] using h2
def fmtL (l : List Step) : List UInt8 := (l.map (fun s => lineS s ++ [10])).flatten
def fits (l : List Step) : Bool := decide (l.length ≤ 12) && l.all good
def fmt (l : List Step) : List UInt8 := bif fits l then fmtL l else []
theorem fmtL_take {l : List Step} (h : l.all good = true) : (fmtL l).length ≤ 24 * l.length := by
  induction l with
  | nil => simp [fmtL]
  | cons s l ih =>
    simp only [List.all_cons, Bool.and_eq_true] at h
    have := ih h.2
    have := line_len h.1
    simp [fmtL] at *; omega
theorem fmt_bad {l : List Step} {s : Step} (hm : s ∈ l) (h : good s = false) : fmt l = [] := by
  have : l.all good = false := by rw [List.all_eq_false]; exact ⟨s, hm, by rw [h]; simp⟩
  simp [fmt, fits, this]
theorem fmt_end {l : List Step} {x : List UInt8} {i : Int} (hx : x = fmtL (l.take i.toNat)) (hg : (l.take i.toNat).all good = true) (h12 : i.toNat = 0 ∨ l.length ≤ 12) (h1 : i ≤ l.length) (hge : ¬ i < l.length) : x = fmt l := by
  have hi : i.toNat = l.length := by omega
  rw [hi, List.take_length] at hx hg
  unfold fmt fits
  rw [hg]
  have : l.length ≤ 12 := by rcases h12 with h | h <;> omega
  simp [this, hx]
theorem fmtL_next {l : List Step} {i : Int} {s : Step} (h0 : 0 ≤ i) (h : l[i.toNat]? = some s) : fmtL (l.take (i + 1).toNat) = fmtL (l.take i.toNat) ++ (lineS s ++ [10]) := by
  rw [show (i + 1).toNat = i.toNat + 1 by omega, List.take_add_one, h]
  simp [fmtL]
theorem good_next {l : List Step} {i : Int} {s : Step} (h0 : 0 ≤ i) (h : l[i.toNat]? = some s) (hg : (l.take i.toNat).all good = true) (hs : good s = true) : (l.take (i + 1).toNat).all good = true := by
  rw [show (i + 1).toNat = i.toNat + 1 by omega, List.take_add_one, h]
  simp only [Option.toList_some, List.all_append, hg, List.all_cons, hs, List.all_nil, Bool.and_true]
theorem fmtL_small {l : List Step} {i : Int} (h12 : i.toNat = 0 ∨ l.length ≤ 12) (hg : (l.take i.toNat).all good = true) : (fmtL (l.take i.toNat)).length ≤ 300 := by
  have h1 := fmtL_take hg
  have h2 : (l.take i.toNat).length ≤ 12 := by rcases h12 with h | h <;> simp <;> omega
  omega
theorem i_format_eq (l : List Step) (hl : l.length ≤ 10000) : i_FormatSteps N l = some (fmt l) := by
  refine Ev.eq ?_
  unfold i_FormatSteps
  refine Ev.loop (fun x : List UInt8 × Int => 0 ≤ x.2 ∧ x.2 ≤ l.length ∧ x.1 = fmtL (l.take x.2.toNat) ∧ (l.take x.2.toNat).all good = true ∧ (x.2.toNat = 0 ∨ l.length ≤ 12)) (fun x => l.length - x.2.toNat) ?_ N _ ⟨by simp, by simp, by simp [fmtL], by simp, .inl rfl⟩ (by simp [N]; omega)
  rintro again ⟨x, i⟩ ⟨h0, h1, h2, h3, h4⟩ hr
  dsimp only at h0 h1 h2 h3 h4 ⊢
  refine Ev.dec (fun hlt => ?_) (fun hge => Ev.some (fmt_end h2 h3 h4 h1 hge))
  obtain ⟨s, hs, hs2⟩ := ix_lt h0 hlt
  refine Ev.bindE hs (Ev.jn (fun b => b = (decide (12 < (l.length : Int)) || !good s)) (fun j hj => ?_) (fun b hb => ?_))
  · refine Ev.dec (fun h => hj _ (by simp [h])) (fun h => Ev.bindE (hasText_eq s) (hj _ (by simp [h])))
  · subst hb
    refine Ev.cond (fun hb => Ev.some ?_) (fun hb => ?_)
    · simp only [Bool.or_eq_true, decide_eq_true_eq, Bool.not_eq_true'] at hb
      rcases hb with hb | hb
      · have : ¬ l.length ≤ 12 := by omega
        simp [fmt, fits, this]
      · rw [fmt_bad (List.mem_of_getElem? hs2) hb]
    · simp only [Bool.or_eq_false_iff, decide_eq_false_iff_not, Bool.not_eq_false'] at hb
      obtain ⟨hb1, hb2⟩ := hb
      have h12 : l.length ≤ 12 := by omega
      have hll := line_len hb2
      have hfl := fmtL_small (.inr h12) h3
      refine Ev.bindE (stepText_eq hb2) (Ev.bindE (cat_ok (by simp; omega)) (Ev.bindE (cat_ok (by subst h2; simp; omega)) ?_))
      rw [wr_in (by omega)]
      exact hr _ ⟨by dsimp only; omega, by dsimp only; omega, by dsimp only; rw [fmtL_next h0 hs2, h2], good_next h0 hs2 h3 hb2, .inr h12⟩ (by dsimp only; omega)
theorem s_format_eq (l : List Step) (hl : l.length ≤ 10000) : s_FormatSteps N l = some (fmt l) := by
  refine Ev.eq ?_
  unfold s_FormatSteps
  refine Ev.loop (fun x : List UInt8 × Int => 0 ≤ x.2 ∧ x.2 ≤ l.length ∧ x.1 = fmtL (l.take x.2.toNat) ∧ (l.take x.2.toNat).all good = true ∧ (x.2.toNat = 0 ∨ l.length ≤ 12)) (fun x => l.length - x.2.toNat) ?_ N _ ⟨by simp, by simp, by simp [fmtL], by simp, .inl rfl⟩ (by simp [N]; omega)
  rintro again ⟨x, i⟩ ⟨h0, h1, h2, h3, h4⟩ hr
  dsimp only at h0 h1 h2 h3 h4 ⊢
  refine Ev.dec (fun hlt => ?_) (fun hge => Ev.some (fmt_end h2 h3 h4 h1 hge))
  obtain ⟨s, hs, hs2⟩ := ix_lt h0 hlt
  obtain ⟨a, b, ha, hb, hab⟩ := s_text_eq s
  refine Ev.jn (fun z => z = (!good s || decide (12 < (l.length : Int)))) (fun j hj => ?_) (fun z hz => ?_)
  · refine Ev.bindE hs (Ev.bindE ha (Ev.cond (fun h => hj _ ?_) (fun h => Ev.bindE hb (Ev.cond (fun h' => hj _ ?_) (fun h' => hj _ ?_)))))
    · simp at h; subst h; rw [← hab]; simp
    · simp at h h'; subst h; subst h'; rw [← hab]; simp
    · simp at h h'; subst h; subst h'; rw [← hab]; simp
  · subst hz
    refine Ev.cond (fun hz => Ev.some ?_) (fun hz => ?_)
    · simp only [Bool.or_eq_true, decide_eq_true_eq, Bool.not_eq_true'] at hz
      rcases hz with hz | hz
      · rw [fmt_bad (List.mem_of_getElem? hs2) hz]
      · have : ¬ l.length ≤ 12 := by omega
        simp [fmt, fits, this]
    · simp only [Bool.or_eq_false_iff, decide_eq_false_iff_not, Bool.not_eq_false'] at hz
      obtain ⟨hg, hz2⟩ := hz
      have h12 : l.length ≤ 12 := by omega
      have hll := line_len hg
      have hfl := fmtL_small (.inr h12) h3
      have hk := good_kind hg
      have hw : ix ([[], [105, 110, 116, 101, 114, 99, 104, 97, 110, 103, 101], [114, 101, 118, 101, 114, 115, 101], [115, 107, 101, 119], [115, 104, 105, 102, 116], [115, 116, 114, 105, 112], [102, 117, 115, 101], [100, 105, 115, 116, 114, 105, 98, 117, 116, 101], [115, 112, 108, 105, 116], [115, 119, 97, 112], [100, 114, 111, 112], [102, 111, 108, 100]] : List (List UInt8)) s.kind = some (wordK s.kind) := by
        rcases kinds hk with h | h | h | h | h | h | h | h | h | h | h <;> rw [h] <;> decide
      have hwl := (wordK_p hk).1
      have hal := args_len s
      have hn := nf_le s.kind
      refine Ev.bindE hs (Ev.bindE (show s_l14Words N = some _ from rfl) (Ev.bindE hw (Ev.bindE (cat_ok (by subst h2; omega)) ?_)))
      refine Ev.loop (fun y : List UInt8 × Int => 0 ≤ y.2 ∧ y.2 ≤ (args s).length ∧ y.1 ++ tail ((args s).drop y.2.toNat) = x ++ lineS s) (fun y => (args s).length - y.2.toNat) ?_ N _ ⟨by simp, by simp, by simp [lineS]⟩ (by simp [N]; omega)
      rintro again2 ⟨y, k⟩ ⟨k0, k1, k2⟩ hr2
      dsimp only at k0 k1 k2 ⊢
      refine Ev.bindE (s_fields_in hk) (Ev.dec (fun hlt2 => ?_) (fun hge2 => ?_))
      · obtain ⟨v, hv, hv2⟩ := ix_lt k0 (show k < ((args s).length : Int) by omega)
        have hsm := good_args hg (List.mem_of_getElem? hv2)
        have hil := (small_itoa hsm).1
        have hd := drop_cons' k0 hv2
        rw [hd] at k2
        have hyl : y.length ≤ 400 := by have := congrArg List.length k2; subst h2; simp at this; omega
        have hv3 : ix [s.part, s.a, s.b] k = some v := by
          unfold ix; rw [if_pos k0]
          have := hv2
          unfold args at this
          rw [List.getElem?_take] at this
          split at this
          · exact this
          · cases this
        refine Ev.bindE (cat_ok (by simp; omega)) (Ev.bindE hv3 (Ev.bindE (small_signed hsm) (Ev.bindE (cat_ok (by simp; omega)) ?_)))
        rw [wr_in (by omega)]
        refine hr2 _ ⟨by dsimp only; omega, by dsimp only; omega, ?_⟩ (by dsimp only; omega)
        dsimp only
        rw [← k2]; simp [tail]
      · have hx : k.toNat = (args s).length := by omega
        rw [hx, List.drop_length] at k2
        have k2 : y = x ++ lineS s := by simpa [tail] using k2
        refine Ev.bindE (cat_ok (by subst h2; subst k2; simp; omega)) ?_
        rw [wr_in (by omega)]
        exact hr _ ⟨by dsimp only; omega, by dsimp only; omega, by dsimp only; rw [fmtL_next h0 hs2, k2, h2]; simp, good_next h0 hs2 h3 hg, .inr h12⟩ (by dsimp only; omega)
end Go.Lift
