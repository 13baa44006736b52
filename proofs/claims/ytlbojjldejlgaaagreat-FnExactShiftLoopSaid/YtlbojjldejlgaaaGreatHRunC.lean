/- Lists. -/
import Derived.Test.YtlbojjldejlgaaaGreatHDraw1
namespace Go.Lift
open Go
theorem s5{α:Type}{l:List α}{i:Nat}{x:α}(h:l[i]? =some x):l.take (i+1)=l.take i++[x]:=by rw [E1,h];rfl
theorem aL4{α:Type}{n:Int}(h:0≤n∧n≤1000000000)(x:α):mk n x=some (List.replicate n.toNat x):=by unfold mk;rw [if_pos h]
end Go.Lift
