/- What the library's functions compute, as far as the walks lean on them. -/
import Derived.Test.YtphjadokdbfccaaDoorLiftZ
import Derived.Lib.AtoiAll
import Derived.Lib.ItoaNum
import Derived.Lib.Split
namespace Go.Lift
open Go
def m_itoa (n : Int) : Option (List UInt8) := if -9223372036854775808 ≤ n ∧ n ≤ 9223372036854775807 then some (Lib.itoa n) else none
def m_atoi (s : List UInt8) : Option (Int × Bool) := if s.length ≤ 281474976710656 then some (match Lib.atoiAll s with
  | .ok v => (v, false)
  | .range => (Lib.atoiSat s, true)
  | _ => (0, true)) else none
def m_split (s t : List UInt8) : Option (List (List UInt8)) := if s.length < 4294967281 ∧ 1 ≤ t.length then some (Lib.split s t) else none
end Go.Lift
