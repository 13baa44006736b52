/- Rows of a tree, told column by column and put together again: lemmas. -/
import Derived.Test.YtcihigfifglboaaGreatULiftZ
import Derived.Test.YtcihigfifglboaaGreatULiftBor
namespace Go.Lift
open Go
theorem eH{rows:List (List T)}{i:Nat}{r0:List T}(h:rows[i]? =some r0)(r:List T):(rows.set i r)[i]? =some r:=
 O1 (bO.1 h).1
theorem iX(rows:List (List T))(i:Nat)(a b:List T):(rows.set i a).set i b=rows.set i b:=List.set_set ..
theorem aHq{α:Type}{l r:List α}{i:Int}{x:α}{q:List T}(f:α→List T)(h:gP l i x=some r)(e:f x=q):(l.map f).set (0+i.toNat) q=r.map f:=by subst e;exact(str f h).symm
theorem vP{α:Type}{l r:List α}{i:Int}{x:α}{a q:List T}(f:α→List T)(h:gP l i x=some r)(e:f x=q):((l.map f).set (0+i.toNat) a).set (0+i.toNat) q=r.map f:=by rw [List.set_set];exact aHq f h e
theorem gO{α:Type}{a b:List α}{u:Unit}(f:α→List T)(h:cF a b=some u):(a.map f).length=(b.map f).length:=by
 unfold cF at h;split at h
 ·rename_i e;simp [e]
 cases h
end Go.Lift
