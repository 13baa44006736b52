/- Orders are executed. -/
import Derived.Test.YthfcdmcpponheaaGreatVRun1
set_option maxRecDepth 100000
set_option linter.unusedVariables false
namespace Go.Lift
open Go
theorem s_ProgramInstances_eq {n : Nat} (hn : 7000 ≤ n) {p : Prog} (hp : SmP p) : s_ProgramInstances n p = some (if progV p = true then insts p.parts else []) := by
 refine Ev.eq ?_
 unfold s_ProgramInstances
 refine Ev.bindE (s_ProgramValid_eq hn hp) ?_
 cases hv : progV p with
 | false => exact Ev.some rfl
 | true => exact Ev.ff (Ev.bindE (s_instances_eq hn hv) (Ev.some rfl))
end Go.Lift
