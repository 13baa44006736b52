/- What the library's functions compute, as far as the walks lean on them. -/
import Derived.Test.YtlbojjldejlgaaaGreatTLiftZ
import Derived.Lib.AtoiAll
import Derived.Lib.ItoaNum
import Derived.Lib.Split
namespace Go.Lift
open Go
def m_contains(s t:List UInt8):Option Bool:=if s.length<4294967281 then some (Lib.contains s t) else none
def m_ownClone(l:List Int):Option (List Int):=if l.length≤1000000000 then some l else none
def newCells:List Int→List Int→Nat
 |_,[]=>0
 |seen,c::t=>(if c∈seen then 0 else 1)+newCells (c::seen) t
end Go.Lift
