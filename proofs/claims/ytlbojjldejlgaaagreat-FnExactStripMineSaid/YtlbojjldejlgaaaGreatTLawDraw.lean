/- What is drawn out of bytes. -/
import Derived.Test.YtlbojjldejlgaaaGreatTModels
import Derived.Test.YtlbojjldejlgaaaGreatTLiftLaw
set_option maxRecDepth 110000000
set_option linter.unusedVariables false
namespace Go.Lift
open Go
abbrev N:Nat:=110000000
end Go.Lift
