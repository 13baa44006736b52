/- Tools. -/
import Derived.Test.YteifkndfpnkalaaGreatEFoldC
set_option maxRecDepth 100000
set_option linter.unusedVariables false
namespace Go.Lift
open Go
end Go.Lift
