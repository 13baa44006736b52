/- The steps' texts: formatting and reading are inverse. -/
import Derived.Test.YtphjadokdbfccaaDoorLaw1d
set_option maxRecDepth 100000
set_option linter.unusedVariables false
namespace Go.Lift
open Go
/-- What either reader answers. -/
def Reads (T : List UInt8) (r : List Step × Bool) : Prop := (r.2 = true → fits r.1 = true ∧ T = fmtL r.1) ∧ (r.2 = false → r.1 = []) ∧ ∀ L, fits L = true → T = fmtL L → r = (L, true)
theorem fits_good {L : List Step} (h : fits L = true) : L.length ≤ 12 ∧ ∀ s ∈ L, good s = true := by
  simp only [fits, Bool.and_eq_true, decide_eq_true_eq] at h
  exact ⟨h.1, List.all_eq_true.1 h.2⟩
theorem cut_fmt : ∀ {L : List Step}, (∀ s ∈ L, good s = true) → cutB 10 (fmtL L) = L.map lineS ++ [[]]
  | [], _ => rfl
  | s :: L, h => by
    have e : fmtL (s :: L) = lineS s ++ 10 :: fmtL L := by simp [fmtL]
    rw [e, cutB_app _ (line_no (h s (by simp))), cut_fmt (fun x hx => h x (by simp [hx]))]
    rfl
theorem glue_fmt : ∀ {L : List Step}, glue 10 (L.map lineS ++ [[]]) = fmtL L
  | [] => rfl
  | s :: L => by
    have ih := glue_fmt (L := L)
    have e : fmtL (s :: L) = lineS s ++ 10 :: fmtL L := by simp [fmtL]
    rw [e, ← ih]
    cases L with
    | nil => rfl
    | cons t L => rfl
theorem reads_no {T : List UInt8} (h : ¬ ∃ L, fits L = true ∧ T = fmtL L) : Reads T ([], false) := ⟨fun h => (by cases h), fun _ => rfl, fun L h1 h2 => absurd ⟨L, h1, h2⟩ h⟩
theorem iparse_ev (T : List UInt8) (hT : T.length ≤ 80000) : Ev (i_ParseSteps N T) (Reads T) := by
  unfold i_ParseSteps
  refine Ev.bindE (m_split_ok 10 (by omega)) ?_
  have hcut : ∀ L, fits L = true → T = fmtL L → cutB 10 T = L.map lineS ++ [[]] := fun L h e => by rw [e]; exact cut_fmt (fits_good h).2
  have hglue := glue_cut 10 T
  have hm : ∀ w ∈ cutB 10 T, w.length ≤ 1000000 := fun w hw => by have := (cutB_mem hw).2; omega
  have hl := cutB_len 10 T
  have hn := cutB_ne 10 T
  generalize cutB 10 T = X at hcut hglue hm hl hn
  have hp : 1 ≤ X.length := by cases X; exact absurd rfl hn; simp
  rw [wr_in (n := (X.length : Int) - 1) (by omega)]
  obtain ⟨z, hz, hz2⟩ := ix_lt (l := X) (i := (X.length : Int) - 1) (by omega) (by omega)
  refine Ev.jn (fun b => (b = true → ¬ ∃ L, fits L = true ∧ T = fmtL L) ∧ (b = false → z = [] ∧ X.length ≤ 13)) (fun j hj => Ev.bindE hz (Ev.ndec (fun hne => hj _ ⟨fun _ ⟨L, h1, h2⟩ => ?_, fun h => (by cases h)⟩) (fun he => hj _ ⟨fun h ⟨L, h1, h2⟩ => ?_, fun h => ⟨he, ?_⟩⟩))) (fun b hb => ?_)
  · rw [hcut L h1 h2] at hz2
    simp at hz2
    exact hne hz2
  · have := (fits_good h1).1
    rw [hcut L h1 h2] at h
    simp at h; omega
  · simp at h; omega
  refine Ev.cond (fun h => Ev.some (reads_no (hb.1 h))) (fun h => ?_)
  obtain ⟨rfl, h13⟩ := hb.2 h
  refine Ev.bindE (sub_ok (by omega) (by omega) (by omega)) ?_
  obtain ⟨Y, hY⟩ : ∃ Y, X = Y ++ [[]] := by
    refine ⟨X.dropLast, ?_⟩
    have hlast : X.getLast hn = [] := by
      rw [List.getLast_eq_getElem]
      have := (List.getElem?_eq_some_iff.1 hz2).2
      have e : ((X.length : Int) - 1).toNat = X.length - 1 := by omega
      simpa [e] using this
    rw [← hlast, List.dropLast_concat_getLast]
  have hx5 : (X.take ((X.length : Int) - 1).toNat).drop (0 : Int).toNat = Y := by
    rw [hY]; simp
  rw [hx5]
  have hY12 : Y.length ≤ 12 := by rw [hY] at h13; simp at h13; omega
  have hcutY : ∀ L, fits L = true → T = fmtL L → Y = L.map lineS := fun L h1 h2 => by
    have := hcut L h1 h2
    rw [hY] at this
    exact List.append_cancel_right this
  refine Ev.loop (fun x : List Step × Int => 0 ≤ x.2 ∧ x.2 ≤ Y.length ∧ x.1.length = x.2.toNat ∧ (∀ s ∈ x.1, good s = true) ∧ x.1.map lineS = Y.take x.2.toNat ∧ ∀ L, fits L = true → T = fmtL L → x.1 = L.take x.2.toNat) (fun x => Y.length - x.2.toNat) ?_ N _ ⟨by simp, by simp, by simp, by simp, by simp, fun _ _ _ => by simp⟩ (by simp [N]; omega)
  rintro again ⟨acc, i⟩ ⟨h0, h1, h2, h3, h4, h5⟩ hr
  dsimp only at h0 h1 h2 h3 h4 h5 ⊢
  refine Ev.dec (fun hlt => ?_) (fun hge => Ev.some ?_)
  · obtain ⟨w, hw, hw2⟩ := ix_lt h0 hlt
    refine Ev.bindE hw (Ev.bind' (read_ev w (hm w (by rw [hY]; exact List.mem_append_left _ (List.mem_of_getElem? hw2)))) (fun q hq => ?_))
    have hLi : ∀ L, fits L = true → T = fmtL L → ∃ s, L[i.toNat]? = some s ∧ good s = true ∧ w = lineS s := fun L l1 l2 => by
      have e := hcutY L l1 l2
      rw [e, List.getElem?_map] at hw2
      cases hs : L[i.toNat]? with
      | none => rw [hs] at hw2; cases hw2
      | some s => rw [hs] at hw2; cases hw2; exact ⟨s, rfl, (fits_good l1).2 s (List.mem_of_getElem? hs), rfl⟩
    refine Ev.cond (fun hq2 => Ev.some (reads_no (fun ⟨L, l1, l2⟩ => ?_))) (fun hq2 => ?_)
    · obtain ⟨s, hs, hg, he⟩ := hLi L l1 l2
      rw [hq.2 s hg he] at hq2; cases hq2
    · have hq2 : q.2 = true := by simpa using hq2
      obtain ⟨g1, g2⟩ := hq.1 hq2
      refine Ev.bindE (app_ok (by simp; omega)) ?_
      rw [wr_in (by omega)]
      have e1 : (i + 1).toNat = i.toNat + 1 := by omega
      refine hr _ ⟨by dsimp only; omega, by dsimp only; omega, by simp; omega, ?_, ?_, fun L l1 l2 => ?_⟩ (by dsimp only; omega)
      · intro s hs
        rcases List.mem_append.1 hs with hs | hs
        · exact h3 s hs
        · simp at hs; subst hs; exact g1
      · dsimp only
        rw [e1, List.take_add_one, hw2, List.map_append, h4, ← g2]; rfl
      · obtain ⟨s, hs, hg, he⟩ := hLi L l1 l2
        dsimp only
        rw [e1, List.take_add_one, hs, ← h5 L l1 l2, hq.2 s hg he]; rfl
  · have hi : i.toNat = Y.length := by omega
    rw [hi, List.take_length] at h4
    have hfit : fits acc = true := by
      simp only [fits, Bool.and_eq_true, decide_eq_true_eq]; exact ⟨by omega, List.all_eq_true.2 h3⟩
    refine ⟨fun _ => ⟨hfit, ?_⟩, fun h => (by cases h), fun L l1 l2 => ?_⟩
    · rw [← hglue, hY, ← h4]; exact glue_fmt
    · have := h5 L l1 l2
      have e := hcutY L l1 l2
      rw [hi, e, List.length_map, List.take_length] at this
      rw [this]
theorem sparse_ev (T : List UInt8) (hT : T.length ≤ 80000) : Ev (s_ParseSteps N T) (Reads T) := by
  unfold s_ParseSteps
  refine Ev.bindE (cut_eq T 10 (by omega)) ?_
  have hcut : ∀ L, fits L = true → T = fmtL L → cutB 10 T = L.map lineS ++ [[]] := fun L h e => by rw [e]; exact cut_fmt (fits_good h).2
  have hm : ∀ w ∈ cutB 10 T, w.length ≤ 80000 := fun w hw => by have := (cutB_mem hw).2; omega
  have h0T : T = [] → cutB 10 T = [[]] := fun h => by rw [h]; rfl
  have hn := cutB_ne 10 T
  generalize cutB 10 T = X at hcut hm h0T hn
  have hp : 1 ≤ X.length := by cases X; exact absurd rfl hn; simp
  refine Ev.jn (fun b => (b = true → ¬ ∃ L, fits L = true ∧ T = fmtL L) ∧ (b = false → X.length ≤ 13)) (fun j hj => Ev.dec (fun h => hj _ ⟨fun _ ⟨L, h1, h2⟩ => ?_, fun h => (by cases h)⟩) (fun h => hj _ ⟨fun hq ⟨L, h1, h2⟩ => ?_, fun _ => by omega⟩)) (fun b hb => ?_)
  · have := (fits_good h1).1
    rw [hcut L h1 h2] at h
    simp at h; omega
  · have h3 := fits_good h1
    have := fmtL_take (List.all_eq_true.2 h3.2)
    simp at hq; subst h2; omega
  refine Ev.cond (fun h => Ev.some (reads_no (hb.1 h))) (fun h => ?_)
  have h13 := hb.2 h
  refine Ev.loop (fun x : List Step × Int => 0 ≤ x.2 ∧ x.2 < X.length ∧ x.1.length = x.2.toNat ∧ ∀ L, fits L = true → T = fmtL L → x.1 = L.take x.2.toNat) (fun x => X.length - x.2.toNat) ?_ N _ ⟨by simp, by simp; omega, by simp, fun _ _ _ => by simp⟩ (by simp [N]; omega)
  rintro again ⟨acc, i⟩ ⟨h0, h1, h2, h5⟩ hr
  dsimp only at h0 h1 h2 h5 ⊢
  rw [wr_in (n := i + 1) (by omega)]
  refine Ev.dec (fun hlt => ?_) (fun hge => ?_)
  · obtain ⟨w, hw, hw2⟩ := ix_lt h0 h1
    refine Ev.bindE hw (Ev.bind' (line_ev w (hm w (List.mem_of_getElem? hw2))) (fun q hq => ?_))
    refine Ev.bindE (app_ok (by simp; omega)) ?_
    have e1 : (i + 1).toNat = i.toNat + 1 := by omega
    refine hr _ ⟨by dsimp only; omega, by dsimp only; omega, by simp; omega, fun L l1 l2 => ?_⟩ (by dsimp only; omega)
    have e := hcut L l1 l2
    have hlen : i.toNat < L.length := by rw [e] at hlt; simp at hlt; omega
    rw [e, List.getElem?_append_left (by simpa using hlen), List.getElem?_map, List.getElem?_eq_getElem hlen] at hw2
    cases hw2
    have hg := (fits_good l1).2 _ (List.getElem_mem hlen)
    dsimp only
    rw [e1, List.take_add_one, List.getElem?_eq_getElem hlen, ← h5 L l1 l2, hq _ hg rfl]; rfl
  · have hi : i + 1 = X.length := by omega
    refine Ev.bindE (s_format_eq acc (by omega)) (Ev.ndec (fun hne => Ev.some (reads_no (fun ⟨L, l1, l2⟩ => ?_))) (fun he => Ev.some ?_))
    · have := h5 L l1 l2
      have e := hcut L l1 l2
      have hlen : i.toNat = L.length := by rw [e] at hi; simp at hi; omega
      rw [hlen, List.take_length] at this
      apply hne
      rw [this, l2]; unfold fmt; rw [l1]; rfl
    · have hfit : fits acc = true ∧ T = fmtL acc := by
        unfold fmt at he
        cases hf : fits acc with
        | true => rw [hf] at he; exact ⟨rfl, he.symm⟩
        | false =>
          rw [hf] at he
          have := h0T he.symm
          rw [this] at hi
          simp at hi
          have hacc : acc = [] := List.length_eq_zero_iff.1 (by omega)
          rw [hacc] at hf; cases hf
      refine ⟨fun _ => hfit, fun h => (by cases h), fun L l1 l2 => ?_⟩
      have := h5 L l1 l2
      have e := hcut L l1 l2
      have hlen : i.toNat = L.length := by rw [e] at hi; simp at hi; omega
      rw [hlen, List.take_length] at this
      rw [this]
theorem step_ev {k : Int} {r : L16Rd} (hr : RdOk k r) (hk : k ≤ 100000) : Ev (s_l14Step N r) (fun x => RdOk (k + 6) x.2) := by
  unfold s_l14Step
  refine Ev.bind' (pick_ev hr (by omega)) (fun x1 h1 => ?_)
  refine Ev.bind' (num_ev h1.2.2 (by omega) (by simp)) (fun x2 h2 => ?_)
  refine Ev.bind' (num_ev h2.2 (by omega) (by simp)) (fun x3 h3 => ?_)
  refine Ev.bind' (num_ev h3.2 (by omega) (by simp)) (fun x4 h4 => ?_)
  have hb := h1.2.1 (by omega)
  rw [wr_in (n := 1 + x1.1) (by omega)]
  refine Ev.bindE (s_fields_in ⟨by omega, by omega⟩) ?_
  refine Ev.jn (fun _ => True) (fun j hj => Ev.dec (fun _ => hj _ trivial) (fun _ => hj _ trivial)) (fun a _ => ?_)
  refine Ev.jn (fun _ => True) (fun j hj => Ev.dec (fun _ => hj _ trivial) (fun _ => hj _ trivial)) (fun b _ => ?_)
  refine Ev.jn (fun _ => True) (fun j hj => Ev.dec (fun _ => hj _ trivial) (fun _ => hj _ trivial)) (fun c _ => ?_)
  refine Ev.jn (fun z : List UInt8 × Int × Int => RdOk (k + 6) ⟨z.1, z.2.1⟩) (fun j hj => ?_) (fun z hz => Ev.some hz)
  refine Ev.bind' (pick_ev h4.2 (by omega)) (fun x5 h5 => ?_)
  refine Ev.dec (fun _ => Ev.bind' (num_ev h5.2.2 (by omega) (by simp)) (fun x6 h6 => hj _ (h6.2.mono (by omega)))) (fun _ => hj _ (h5.2.2.mono (by omega)))
theorem drawF_ev (code : List UInt8) : Ev (s_DrawFormatSteps N code) (fun l => l.length ≤ 13) := by
  unfold s_DrawFormatSteps
  refine Ev.bind' (open_ev code) (fun x1 h1 => Ev.bind' (num_ev h1 (by omega) (by simp)) (fun x2 h2 => ?_))
  have hx : 0 ≤ x2.1 ∧ x2.1 ≤ 13 := by have := h2.1; simp at this; omega
  refine Ev.loop (fun x : List UInt8 × Int × List Step × Int => 0 ≤ x.2.2.2 ∧ x.2.2.2 ≤ 13 ∧ (x.2.2.1.length : Int) + x.2.2.2 ≤ 13 ∧ RdOk (1 + 6 * (13 - x.2.2.2)) ⟨x.1, x.2.1⟩) (fun x => x.2.2.2.toNat) ?_ N _ ⟨hx.1, hx.2, by simp; omega, h2.2.mono (by dsimp only; omega)⟩ (by simp [N]; omega)
  rintro again ⟨b, p, l, i⟩ ⟨h0, h1, h2, h3⟩ hr
  dsimp only at h0 h1 h2 h3 ⊢
  refine Ev.dec (fun hlt => Ev.bind' (step_ev h3 (by omega)) (fun q hq => Ev.bindE (app_ok (by simp; omega)) ?_)) (fun _ => Ev.some (by omega))
  rw [wr_in (by omega)]
  exact hr _ ⟨by dsimp only; omega, by dsimp only; omega, by simp; omega, hq.mono (by dsimp only; omega)⟩ (by dsimp only; omega)
theorem of_ev {k : Int} {r : L16Rd} {l : List (List UInt8)} (hr : RdOk k r) (hk : k ≤ 1000000000) (hl : l ≠ []) : Ev (s_l16Rd_of N r l) (fun x => x.1 ∈ l ∧ RdOk (k + 1) x.2) := by
  unfold s_l16Rd_of
  have hp : 1 ≤ l.length := by cases l; exact absurd rfl hl; simp
  refine Ev.bind' (pick_ev hr hk) (fun x ⟨h0, h1, h2⟩ => ?_)
  obtain ⟨y, hy, hy2⟩ := ix_lt h0 (h1 (by omega))
  exact Ev.bindE hy (Ev.some ⟨List.mem_of_getElem? hy2, h2⟩)
theorem bend_ev {k : Int} {r : L16Rd} {s : List UInt8} {l : List (List UInt8)} (hr : RdOk k r) (hk : k ≤ 1000000) (hs : s.length ≤ 10000) (hl : l ≠ []) (hll : ∀ w ∈ l, w.length ≤ 100) : Ev (s_l1Bend N r s l) (fun x => x.1.length ≤ 20100) := by
  unfold s_l1Bend
  refine Ev.jn (fun z : List UInt8 × Int × Bool => RdOk (k + 1) ⟨z.1, z.2.1⟩ ∧ (z.2.2 = false → 1 ≤ s.length)) (fun j hj => Ev.dec (fun h => hj _ ⟨hr.mono (by omega), fun h => (by cases h)⟩) (fun h => Ev.bind' (pick_ev hr (by omega)) (fun x hx => hj _ ⟨hx.2.2, fun _ => by omega⟩))) (fun z hz => ?_)
  refine Ev.cond (fun _ => Ev.some (by dsimp only; omega)) (fun h => ?_)
  have hs1 := hz.2 h
  refine Ev.bind' (pick_ev hz.1 (by omega)) (fun a ha => ?_)
  have ha1 := ha.2.1 (by omega)
  refine Ev.bindE (sub_ok (by omega) ha.1 (by omega)) (Ev.bind' (of_ev ha.2.2 (by omega) hl) (fun b hb => ?_))
  have hbl := hll _ hb.1
  refine Ev.bindE (cat_ok (by simp; omega)) (Ev.bind' (pick_ev hb.2 (by omega)) (fun c hc => ?_))
  have hc1 := hc.2.1 (by omega)
  rw [wr_in (n := a.1 + c.1) (by have := ha.1; have := hc.1; omega)]
  have h00 := ha.1
  have h01 := hc.1
  refine Ev.bindE (sub_ok (by omega) (by omega) (by omega)) (Ev.bindE (cat_ok (by simp; omega)) (Ev.some ?_))
  simp; omega
theorem fmt_len (l : List Step) : (fmt l).length ≤ 300 := by
  unfold fmt
  cases h : fits l with
  | false => simp
  | true =>
    have h3 := fits_good h
    have := fmtL_take (List.all_eq_true.2 h3.2)
    simp only [cond_true]; omega
theorem drawP_ev (code : List UInt8) : Ev (s_DrawParseSteps N code) (fun t => t.length ≤ 80000) := by
  unfold s_DrawParseSteps
  refine Ev.bind' (open_ev code) (fun x1 h1 => Ev.bind' (num_ev h1 (by omega) (by simp)) (fun x2 h2 => ?_))
  have hx : 0 ≤ x2.1 ∧ x2.1 ≤ 13 := by have := h2.1; simp at this; omega
  refine Ev.loop (fun x : List UInt8 × Int × List Step × Int => 0 ≤ x.2.2.2 ∧ x.2.2.2 ≤ 13 ∧ (x.2.2.1.length : Int) + x.2.2.2 ≤ 13 ∧ RdOk (1 + 6 * (13 - x.2.2.2)) ⟨x.1, x.2.1⟩) (fun x => x.2.2.2.toNat) ?_ N _ ⟨hx.1, hx.2, by simp; omega, h2.2.mono (by dsimp only; omega)⟩ (by simp [N]; omega)
  rintro again ⟨b, p, l, i⟩ ⟨h0, h1, h2, h3⟩ hr
  dsimp only at h0 h1 h2 h3 ⊢
  refine Ev.dec (fun hlt => Ev.bind' (step_ev h3 (by omega)) (fun q hq => Ev.bindE (app_ok (by simp; omega)) ?_)) (fun _ => ?_)
  · rw [wr_in (by omega)]
    exact hr _ ⟨by dsimp only; omega, by dsimp only; omega, by simp; omega, hq.mono (by dsimp only; omega)⟩ (by dsimp only; omega)
  · refine Ev.bindE (s_format_eq l (by omega)) (Ev.bind' (bend_ev h3 (by omega) (by have := fmt_len l; omega) (by simp) (by simp)) (fun q hq => Ev.some (by omega)))
theorem law (code more : List UInt8) : w_FnStepsText N code more = some true := by
  refine Ev.eq ?_
  unfold w_FnStepsText
  refine Ev.jn (fun _ => True) (fun j hj => Ev.dec (fun _ => hj _ trivial) (fun _ => hj _ trivial)) (fun z _ => Ev.cond (fun _ => Ev.some rfl) (fun _ => ?_))
  refine Ev.bind' (drawF_ev code) (fun l hl => Ev.bindE (i_format_eq l (by omega)) (Ev.bind' (iparse_ev (fmt l) (by have := fmt_len l; omega)) (fun p hp => ?_)))
  have hp2 : p = (bif fits l then l else [], true) := by
    cases hf : fits l with
    | true => exact hp.2.2 l hf (by unfold fmt; rw [hf]; rfl)
    | false => exact hp.2.2 [] rfl (by unfold fmt; rw [hf]; rfl)
  refine Ev.jn (fun b => b = false) (fun j hj => Ev.bindE (s_format_eq l (by omega)) (Ev.ndec (fun h => absurd rfl h) (fun _ => ?_))) (fun b hb => ?_)
  · subst hp2
    refine Ev.cond (fun h => (by cases h)) (fun _ => ?_)
    have hln : Ev (w_lnSteps N (bif fits l then l else []) l) (fun r => r = true ↔ (bif fits l then l else []) = l) := lnSteps_ev _ _ (by cases fits l <;> simp; omega)
    refine Ev.ndec (fun hne => Ev.bind' hln (fun r hr => hj _ ?_)) (fun he => Ev.dec (fun h0 => Ev.bind' hln (fun r hr => hj _ ?_)) (fun h0 => hj _ rfl))
    · have hf : fits l = true := by
        cases hf : fits l with
        | true => rfl
        | false => exact absurd (by unfold fmt; rw [hf]; rfl) hne
      rw [hf] at hr
      rw [hr.2 rfl]; rfl
    · have hl0 : l = [] := List.length_eq_zero_iff.1 (by omega)
      subst hl0
      rw [hr.2 rfl]; rfl
  · subst hb
    show Ev (Option.bind _ _) _
    refine Ev.bind' (drawP_ev more) (fun T hT => Ev.bind' (iparse_ev T hT) (fun a ha => Ev.bind' (sparse_ev T hT) (fun b hb => ?_)))
    have hab : a = b := by
      cases ha2 : a.2 with
      | true =>
        obtain ⟨h1, h2⟩ := ha.1 ha2
        rw [hb.2.2 a.1 h1 h2]
        exact Prod.ext rfl ha2
      | false =>
        cases hb2 : b.2 with
        | true =>
          obtain ⟨h1, h2⟩ := hb.1 hb2
          rw [ha.2.2 b.1 h1 h2]
          exact Prod.ext rfl hb2.symm
        | false => exact Prod.ext ((ha.2.1 ha2).trans (hb.2.1 hb2).symm) (ha2.trans hb2.symm)
    subst hab
    have hal : a.1.length ≤ 10000 := by
      cases ha2 : a.2 with
      | true => have := (fits_good (ha.1 ha2).1).1; omega
      | false => rw [ha.2.1 ha2]; simp
    refine Ev.jn (fun z => z = true) (fun j hj => ?_) (fun z hz => Ev.some hz)
    refine Ev.cond (fun _ => Ev.bind' (lnSteps_ev a.1 a.1 hal) (fun r hr => Ev.cond (fun _ => Ev.cond (fun _ => hj _ rfl) (fun h2 => ?_)) (fun hf => ?_))) (fun h => ?_)
    · have h2 : a.2 = true := by simpa using h2
      obtain ⟨h3, h4⟩ := ha.1 h2
      refine Ev.bindE (i_format_eq a.1 hal) (hj _ ?_)
      unfold fmt; rw [h3]; simp [h4.symm]
    · rw [hr.2 rfl] at hf; cases hf
    · simp at h
end Go.Lift
