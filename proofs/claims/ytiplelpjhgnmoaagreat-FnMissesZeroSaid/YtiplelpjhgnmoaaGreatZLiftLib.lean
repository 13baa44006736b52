/- What the library's functions compute, as far as the walks lean on them. -/
import Derived.Test.YtiplelpjhgnmoaaGreatZLiftZ
import Derived.Lib.AtoiAll
import Derived.Lib.ItoaNum
import Derived.Lib.Split
namespace Go.Lift
open Go
def m_contains(s t:List UInt8):Option Bool:=if s.length<4294967281 then some (Lib.contains s t) else none
def m_ownClone(l:List Int):Option (List Int):=if l.length≤1000000000 then some l else none
def dS(size:Nat)(c:Int)(held:List Int):List Int:=
 let h:=held.erase c++[c]
 if size<h.length then h.drop 1 else h
def bU(size:Nat):List Int→List Int→Nat
 |_,[]=>0
 |held,c::t=>(if c∈held then 0 else 1)+bU size (dS size c held) t
def newCells:List Int→List Int→Nat
 |_,[]=>0
 |seen,c::t=>(if c∈seen then 0 else 1)+newCells (c::seen) t
def m_lru(l:List Int)(size:Int):Option Int:=some (if l.length≤600∧0≤size∧size≤40 then(bU size.toNat [] l:Int) else-1)
def m_newc(l:List Int):Option Int:=if∀x∈l,-9223372036854775808≤x∧x≤9223372036854775807 then some (if l.length≤600 then(newCells [] l:Int) else 0) else none
end Go.Lift
