/- What the library's functions compute, as far as the walks lean on them. -/
import Derived.Test.YtcihigfifglboabGreatELiftZ
import Derived.Lib.AtoiAll
import Derived.Lib.ItoaNum
import Derived.Lib.Split
namespace Go.Lift
open Go
def m_contains(s t:List UInt8):Option Bool:=if s.length<4294967281 then some (Lib.contains s t) else none
def m_ownClone(l:List Int):Option (List Int):=if l.length≤1000000000 then some l else none
def cmpL:List Int→List Int→Int
 | [],[]=>0
 | [],_::_=> -1
 |_::_,[]=>1
 |x::xs,y::ys=>if x<y then-1 else if y<x then 1 else cmpL xs ys
def eJ(rows:List (List Int)):List (List Int):=rows.mergeSort fun x y=> !decide (cmpL y x<0)
def m_sortL(rows:List (List Int)):Option (List (List Int)):=if rows.length≤1000000000∧ ∀l∈rows,l.length≤1000000000 then some (eJ rows) else none
def keptL(kp:Nat→Bool)(m:Nat):List Nat:=(List.range m).filter kp
def ddK(rows:List (List Int))(j:Nat):Bool:=decide (j=0∨rows.getD j []≠rows.getD (j-1) [])
def ddL(rows:List (List Int)):List (List Int):=(keptL (ddK rows) rows.length).map fun j=>rows.getD j []
def newCells:List Int→List Int→Nat
 |_,[]=>0
 |seen,c::t=>(if c∈seen then 0 else 1)+newCells (c::seen) t
end Go.Lift
