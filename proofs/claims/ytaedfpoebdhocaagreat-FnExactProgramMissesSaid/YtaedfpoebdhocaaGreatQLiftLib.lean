/- What the library's functions compute, as far as the walks lean on them. -/
import Derived.Test.YtaedfpoebdhocaaGreatQLiftZ
import Derived.Lib.AtoiAll
import Derived.Lib.ItoaNum
import Derived.Lib.Split
namespace Go.Lift
open Go
def m_contains(s t:List UInt8):Option Bool:=if s.length<4294967281 then some (Lib.contains s t) else none
def m_ownClone(l:List Int):Option (List Int):=if l.length≤1000000000 then some l else none
def f5(size:Nat)(c:Int)(held:List Int):List Int:=
 let h:=held.erase c++[c]
 if size<h.length then h.drop 1 else h
def bW(size:Nat):List Int→List Int→Nat
 |_,[]=>0
 |held,c::t=>(if c∈held then 0 else 1)+bW size (f5 size c held) t
def newCells:List Int→List Int→Nat
 |_,[]=>0
 |seen,c::t=>(if c∈seen then 0 else 1)+newCells (c::seen) t
def m_lru(l:List Int)(size:Int):Option Int:=some (if l.length≤600∧0≤size∧size≤40 then(bW size.toNat [] l:Int) else-1)
end Go.Lift
