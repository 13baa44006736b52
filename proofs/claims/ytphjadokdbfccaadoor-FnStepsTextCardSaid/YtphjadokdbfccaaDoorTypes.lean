/- The data of the program, and how they lie. -/
import Derived.Test.YtphjadokdbfccaaDoorLiftLib
set_option linter.unusedVariables false
namespace Go.Lift
open Go
structure L16Rd where
  b : List UInt8
  p : Int
  deriving Inhabited
abbrev rL16Rd (x : L16Rd) : List T := [T.sl (List.map rY x.b), T.int .i64 x.p]
theorem rL16Rd_len (x : L16Rd) : (rL16Rd x).length = 2 := rfl

structure Step where
  kind : Int
  part : Int
  a : Int
  b : Int
  deriving Inhabited
abbrev rStep (x : Step) : List T := [T.int .i64 x.kind, T.int .i64 x.part, T.int .i64 x.a, T.int .i64 x.b]
theorem rStep_len (x : Step) : (rStep x).length = 4 := rfl

end Go.Lift
