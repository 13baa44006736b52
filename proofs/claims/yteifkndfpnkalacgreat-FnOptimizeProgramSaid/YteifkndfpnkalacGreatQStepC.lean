/- Tools. -/
import Derived.Test.YteifkndfpnkalacGreatQStepB
namespace Go.Lift
theorem G7(b:Bool):(b==b)=true:=by cases b<;>rfl
end Go.Lift
