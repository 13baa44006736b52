/- The cells that a program writes, and those that it takes in. -/
import Derived.Test.YthfcdmcpponheaaGreatVRunB
set_option maxRecDepth 100000
set_option linter.unusedVariables false
namespace Go.Lift
open Go
end Go.Lift
