/- Orders of the instances. -/
import Derived.Test.YthfcdmcpponheaaGreatVRunC
set_option maxRecDepth 100000
set_option linter.unusedVariables false
namespace Go.Lift
open Go
def pick (l : List Inst) (o : List Int) : List Inst := o.filterMap (fun c => l[c.toNat]?)
end Go.Lift
