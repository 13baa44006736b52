/- Programs are sequences. -/
import Derived.Test.YthfcdmcpponheaaGreatWRunA
set_option maxRecDepth 100000
set_option linter.unusedVariables false
namespace Go.Lift
open Go
theorem runR_no {p : Prog} {m : List Int} (h : memV p m = false) : runR p m = ([], false) := by unfold runR; rw [h]; rfl
theorem runR_yes {p : Prog} {m : List Int} (h : memV p m = true) : runR p m = (runAll p m (insts p.parts), true) := by unfold runR; rw [h]; rfl
end Go.Lift
