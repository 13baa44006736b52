/- What the library's functions compute, as far as the walks lean on them. -/
import Derived.Test.YtohillieiccgdaaGreatDoorXLiftZ
import Derived.Lib.AtoiAll
import Derived.Lib.ItoaNum
import Derived.Lib.Split
namespace Go.Lift
open Go
def m_itoa(n:Int):Option (List UInt8):=if-9223372036854775808≤n∧n≤9223372036854775807 then some (Lib.itoa n) else none
def m_contains(s t:List UInt8):Option Bool:=if s.length<4294967281 then some (Lib.contains s t) else none
def m_ownClone(l:List Int):Option (List Int):=if l.length≤1000000000 then some l else none
end Go.Lift
