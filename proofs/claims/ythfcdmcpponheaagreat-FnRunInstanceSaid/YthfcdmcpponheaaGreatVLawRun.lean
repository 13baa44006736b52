/- Programs are sequences. -/
import Derived.Test.YthfcdmcpponheaaGreatVRunA
set_option maxRecDepth 100000
set_option linter.unusedVariables false
namespace Go.Lift
open Go
theorem point_len {p : Prog} (hv : progV p = true) {x : Inst} (hx : InstOk p x) : x.point.length ≤ 4 := by
 obtain ⟨i, k, P, s, d, e1, e2, e3, e4, e5, e6, e7, e8⟩ := inst_d hv hx
 have := e7.1
 have := e7.2.1
 omega
end Go.Lift
