/- Rows of a tree, told column by column and put together again: lemmas. -/
import Derived.Test.YtlbojjldejlgaaaGreatHLiftZ
import Derived.Test.YtlbojjldejlgaaaGreatHLiftBor
namespace Go.Lift
open Go
theorem gF{rows:List (List T)}{i:Nat}{r0:List T}(h:rows[i]? =some r0)(r:List T):(rows.set i r)[i]? =some r:=
 S5 (b7.1 h).1
theorem lZ(rows:List (List T))(i:Nat)(a b:List T):(rows.set i a).set i b=rows.set i b:=List.set_set ..
theorem aLV{α:Type}{l r:List α}{i:Int}{x:α}{q:List T}(f:α→List T)(h:cX l i x=some r)(e:f x=q):(l.map f).set (0+i.toNat) q=r.map f:=by subst e;exact(str f h).symm
theorem A6{α:Type}{l r:List α}{i:Int}{x:α}{a q:List T}(f:α→List T)(h:cX l i x=some r)(e:f x=q):((l.map f).set (0+i.toNat) a).set (0+i.toNat) q=r.map f:=by rw [List.set_set];exact aLV f h e
theorem iV{α:Type}{a b:List α}{u:Unit}(f:α→List T)(h:bQ a b=some u):(a.map f).length=(b.map f).length:=by
 unfold bQ at h;split at h
 ·rename_i e;simp [e]
 cases h
end Go.Lift
