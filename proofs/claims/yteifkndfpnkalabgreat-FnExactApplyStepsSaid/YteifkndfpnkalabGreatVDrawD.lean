/- Tools. -/
import Derived.Test.YteifkndfpnkalabGreatVLawDraw
set_option maxRecDepth 110000000
set_option linter.unusedVariables false
namespace Go.Lift
open Go
end Go.Lift
