/- Rows of a tree, told column by column and put together again: lemmas. -/
import Derived.Test.YtlbojjldejlgaaaGreatTLiftZ
import Derived.Test.YtlbojjldejlgaaaGreatTLiftBor
namespace Go.Lift
open Go
theorem gK{rows:List (List T)}{i:Nat}{r0:List T}(h:rows[i]? =some r0)(r:List T):(rows.set i r)[i]? =some r:=
 vAu (cC.1 h).1
theorem mI(rows:List (List T))(i:Nat)(a b:List T):(rows.set i a).set i b=rows.set i b:=List.set_set ..
theorem aMO{α:Type}{l r:List α}{i:Int}{x:α}{q:List T}(f:α→List T)(h:dM l i x=some r)(e:f x=q):(l.map f).set (0+i.toNat) q=r.map f:=by subst e;exact(str f h).symm
theorem E0{α:Type}{l r:List α}{i:Int}{x:α}{a q:List T}(f:α→List T)(h:dM l i x=some r)(e:f x=q):((l.map f).set (0+i.toNat) a).set (0+i.toNat) q=r.map f:=by rw [List.set_set];exact aMO f h e
theorem iY{α:Type}{a b:List α}{u:Unit}(f:α→List T)(h:bT a b=some u):(a.map f).length=(b.map f).length:=by
 unfold bT at h;split at h
 ·rename_i e;simp [e]
 cases h
end Go.Lift
