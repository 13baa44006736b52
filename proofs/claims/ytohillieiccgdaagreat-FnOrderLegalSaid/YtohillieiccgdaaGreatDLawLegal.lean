/- Legal orders are equivalent. -/
import Derived.Test.YtohillieiccgdaaGreatDRun1
set_option maxRecDepth 100000
set_option linter.unusedVariables false
namespace Go.Lift
open Go
theorem P8(code:List UInt8):Ev (d7 N code) (fun x=>L3 x.1∧x.2.length≤1000):=by
 have hN:N=100000:=rfl
 unfold d7
 refine aG (aFq code) (fun x1 r1=>aG (aCw r1 (by omega)) (fun x2 ⟨h2,r2⟩=>aG (d8 N r2 (by omega)) (fun x3 ⟨_,_,r3⟩=> ?_)))
 have hs:=(h2.mono (show 10≤1000 by omega)).sm
 refine aF (fun _=> ?_) (fun _=> ?_)
 ·refine aG (d8 N r3 (by omega)) (fun x4 ⟨_,_,r4⟩=>aG (d8 N r4 (by omega)) (fun x5 ⟨_,_,r5⟩=>aG (d8 N r5 (by omega)) (fun x6 _=>aA (vN (by omega) hs _) (Ev.some ⟨hs,?_⟩))))
  dsimp only
  split
  ·rename_i hv
   have:=aAK hv [x4.1,x5.1,x6.1]
   omega
  ·simp
 ·refine aG (aFt (by omega) r3 (by omega) h2) (fun x8 ⟨h8,r8⟩=>aG (aDJ (by omega) r8 (by omega) hs) (fun x9 ⟨h9,_⟩=>Ev.some ⟨(h8.mono (show 30≤1000 by omega)).sm,h9⟩))
theorem zI(code more:List UInt8):iD N code more=some true:=by
 have hN:N=100000:=rfl
 refine Ev.eq ?_
 unfold iD
 refine Ev.jn (fun z=>z=false→more.length≤1048576) (fun j hj=>aF (fun _=>hj _ (fun h=>by cases h)) (fun _=>hj _ (fun h=>by have:=of_decide_eq_false h;omega))) (fun z hz=>Ev.cond (fun _=>Ev.some rfl) (fun ez=> ?_))
 have hml:=hz ez
 refine aG (P8 code) (fun x3 ⟨hs,ho⟩=> ?_)
 obtain⟨p,o⟩:=x3
 dsimp only at hs ho⊢
 have hsl:=xG (n:=N) (by omega) hs ho
 refine aA (xL (by omega) hs ho) (Ev.jn (fun z=>z= !tB p o) (fun j hj=>aA hsl ?_) (fun z hz=> ?_))
 ·rw [beq_self_eq_true]
  exact bI (hj _ rfl)
 ·subst hz
  cases hlb:tB p o with
  |false=>rw [hlb] at hsl;exact bR (aA hsl (Ev.some rfl))
  |true=>
   unfold tB at hlb
   rw [Bool.and_eq_true] at hlb
   obtain⟨hov,hall⟩:=hlb
   obtain⟨hp,hol,hb⟩:=N3 hov
   have ht:=aHj hp
   refine bI (aA (xN (by omega) hs hp) (aA (aBP ⟨by omega,by omega⟩ 0) (aFE (n:=N) (T:=(eQ p.arrays).toNat) (e:=fun i=>Int.tmod (wr ((wr (i*37))+(wr ((more.length:Int)*11)))) 1000) (K:=fun x11=>Option.bind (jK N p x11 o) fun x17=>Option.bind (fU N p x11) fun x18=>jn (fun(x21:Bool)=>some x21) (fun j19=>bif x17.2 then(bif x18.2 then(Option.bind (lH N x17.1 x18.1) fun x20=>j19 x20) else(j19 false)) else(j19 false))) (by omega) (by omega) (fun i h0 h1=> ?_) (fun m h1 h2=> ?_))))
   ·rw [aI (n:=i*37) (by omega),aI (n:=(more.length:Int)*11) (by omega),aI (by omega)]
    exact aHl (by omega)
   ·have hmo:fD p.arrays m:=⟨by omega,h2⟩
    have hmv:=aFv hp hmo
    have hml:=aBR hp hmo
    have hok: ∀x∈insts p.parts,cZ p x:=fun x hx=>insts_mem hx
    refine aA (F8 (by omega) hs hml ho) (aA (xK (by omega) hs hml) ?_)
    have e1:aBI p m o=(cQ p m (insts p.parts),true):=by
     unfold aBI
     rw [if_pos ⟨hmv,hov⟩,aCq hp hok (by unfold uA at hov;rw [Bool.and_eq_true] at hov;exact hov.2) hall hmo]
    rw [e1,aDB hmv]
    have hl:lH N (cQ p m (insts p.parts)) (cQ p m (insts p.parts))=some true:=V1 (by omega) (aBR hp (rJ hp hok hmo))
    exact Ev.jn (fun z=>z=true) (fun j hj=>bR (bR (aA hl (hj _ rfl)))) (fun z hz=>Ev.some hz)
end Go.Lift
