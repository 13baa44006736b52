/- Tools. -/
import Derived.Test.YteifkndfpnkalacGreatQDist1
namespace Go.Lift
end Go.Lift
