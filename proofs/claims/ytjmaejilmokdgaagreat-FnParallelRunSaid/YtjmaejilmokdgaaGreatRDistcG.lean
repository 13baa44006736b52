/- The law of strip mined parallel loops. -/
import Derived.Test.YtjmaejilmokdgaaGreatRDist1
set_option maxRecDepth 100000
set_option linter.unusedVariables false
namespace Go.Lift
open Go
end Go.Lift
