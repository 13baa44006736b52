/- Programs are sequences. -/
import Derived.Test.YthfcdmcpponheaaGreatORunA
set_option maxRecDepth 100000
set_option linter.unusedVariables false
namespace Go.Lift
open Go
theorem point_len {p : Prog} (hv : progV p = true) {x : Inst} (hx : InstOk p x) : x.point.length ≤ 4 := by
 obtain ⟨i, k, P, s, d, e1, e2, e3, e4, e5, e6, e7, e8⟩ := inst_d hv hx
 have := e7.1
 have := e7.2.1
 omega
theorem runIR_ok {p : Prog} (hv : progV p = true) {m : List Int} (hm : MemOk p.arrays m) {x : Inst} (hx : InstOk p x) : runIR p m x = (runI p m x, true) := by
 unfold runIR; rw [if_pos ⟨memV_of hv hm, (instB_iff hv).2 hx⟩]
theorem runR_yes {p : Prog} {m : List Int} (h : memV p m = true) : runR p m = (runAll p m (insts p.parts), true) := by unfold runR; rw [h]; rfl
end Go.Lift
