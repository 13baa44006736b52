/- Programs are sequences. -/
import Derived.Test.YthfcdmcpponheaaGreatRRunA
set_option maxRecDepth 100000
set_option linter.unusedVariables false
namespace Go.Lift
open Go
theorem point_len {p : Prog} (hv : progV p = true) {x : Inst} (hx : InstOk p x) : x.point.length ≤ 4 := by
  obtain ⟨i, k, P, s, d, e1, e2, e3, e4, e5, e6, e7, e8⟩ := inst_d hv hx
  have := e7.1
  have := e7.2.1
  omega
theorem runIR_ok {p : Prog} (hv : progV p = true) {m : List Int} (hm : MemOk p.arrays m) {x : Inst} (hx : InstOk p x) : runIR p m x = (runI p m x, true) := by
  unfold runIR; rw [if_pos ⟨memV_of hv hm, (instB_iff hv).2 hx⟩]
theorem runR_no {p : Prog} {m : List Int} (h : memV p m = false) : runR p m = ([], false) := by unfold runR; rw [h]; rfl
theorem runR_yes {p : Prog} {m : List Int} (h : memV p m = true) : runR p m = (runAll p m (insts p.parts), true) := by unfold runR; rw [h]; rfl
theorem runProgram_law (code : List UInt8) : w_FnRunProgram N code = some true := by
  have hN : N = 100000 := rfl
  refine Ev.eq ?_
  unfold w_FnRunProgram
  refine Ev.cond (fun _ => Ev.some rfl) (fun _ => ?_)
  refine Ev.bind' (drawRun_ev code) (fun x3 ⟨hs, hm⟩ => ?_)
  obtain ⟨p, m⟩ := x3
  dsimp only at hs hm ⊢
  refine Ev.bindE (i_RunProgram_eq (by omega) hs hm) (Ev.bindE (s_RunProgram_eq (by omega) hs hm) ?_)
  cases hv : memV p m with
  | false =>
    rw [runR_no hv]
    have hl : w_lnInts N [] [] = some true := lnInts_self (by omega) (by simp)
    rw [hl]
    exact Ev.some rfl
  | true =>
    obtain ⟨hp, hmo⟩ := mem_d hv
    rw [runR_yes hv]
    have hok : MemOk p.arrays (runAll p m (insts p.parts)) := runAll_ok hp (fun x hx => insts_mem hx) hmo
    have hl : w_lnInts N (runAll p m (insts p.parts)) (runAll p m (insts p.parts)) = some true := lnInts_self (by omega) (mem_len hp hok)
    dsimp only
    rw [hl]
    have hil := (prog_d hp).2.2.2.2
    refine Ev.jn (fun z => z = false) (fun j hj => hj _ rfl) (fun z hz => ?_)
    subst hz
    refine Ev.ff (Ev.bindE (app_nil_int m hm) (Ev.bindE (i_ProgramInstances_eq (by omega) hs) ?_))
    rw [if_pos hp]
    refine Ev.loop (fun x : List Int × Int => ∃ i : Nat, x.2 = i ∧ i ≤ (insts p.parts).length ∧ x.1 = runAll p m ((insts p.parts).take i)) (fun x => (insts p.parts).length - x.2.toNat) ?_ N _ ⟨0, rfl, by omega, rfl⟩ (by dsimp only; omega)
    rintro again ⟨x, z⟩ ⟨i, hz, hi, hx1⟩ hr
    dsimp only at hz hx1 ⊢
    subst hz
    have hok1 : MemOk p.arrays x := by rw [hx1]; exact runAll_ok hp (fun y hy => insts_mem (List.mem_of_mem_take hy)) hmo
    refine Ev.dec (fun hlt => ?_) (fun hge => ?_)
    · have hg := List.getElem?_eq_getElem (show i < (insts p.parts).length by omega)
      have hxo : InstOk p (insts p.parts)[i] := insts_mem (List.mem_of_getElem? hg)
      refine Ev.bindE (ix_nat hg) (Ev.bindE (i_RunInstance_eq (by omega) hs (mem_len hp hok1) (by have := point_len hp hxo; omega)) ?_)
      rw [runIR_ok hp hok1 hxo, wr_in (by omega)]
      refine Ev.ff (hr _ ⟨i + 1, by dsimp only; omega, by omega, ?_⟩ (by dsimp only; omega))
      dsimp only
      rw [take_snoc hg, runAll_snoc, ← hx1]
    · have hie : i = (insts p.parts).length := by omega
      rw [hx1, hie, List.take_length]
      refine Ev.jn (fun z => z = true) (fun j hj => Ev.bindE hl (Ev.tt (Ev.bindE (i_MemoryValid_eq (by omega) hs (mem_len hp hok)) (hj _ (memV_of hp hok))))) (fun z hz => Ev.some hz)
end Go.Lift
