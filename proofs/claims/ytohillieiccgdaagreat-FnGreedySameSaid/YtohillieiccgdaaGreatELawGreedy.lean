/- Greedy orders agree. -/
import Derived.Test.YtohillieiccgdaaGreatERun1
set_option maxRecDepth 100000
set_option linter.unusedVariables false
namespace Go.Lift
open Go
def y6(D:List Dep)(f:List Bool)(k:Nat):List Int:=((List.range k).filter (E6 D f)).map (fun(i:Nat)=>(i:Int))
theorem y5(D:List Dep)(f:List Bool)(k:Nat):y6 D f (k+1)=y6 D f k++(if E6 D f k=true then [(k:Int)] else []):=by
 unfold y6
 rw [List.range_succ,List.filter_append,List.map_append]
 congr 1
 by_cases h:E6 D f k=true
 ·rw [if_pos h,List.filter_cons_of_pos h];rfl
 ·rw [if_neg h,List.filter_cons_of_neg (by simpa using h)];rfl
theorem aCb(D:List Dep)(f:List Bool)(k:Nat):(y6 D f k).length≤k:=by
 unfold y6
 rw [List.length_map]
 exact Nat.le_trans (List.length_filter_le _ _) (by rw [List.length_range];exact Nat.le_refl _)
theorem aAv{n:Nat}{D:List Dep}(hn:D.length<n)(hD:D.length≤15000){f:List Bool}(hd: ∀d∈D,0≤d.1∧d.1<(f.length:Int))(i:Int):dD n D (fun q0=>gJ n q0 i f)=some (D.any (fun d=>decide (d.2=i)&& !f.getD d.1.toNat false)):=by
 obtain⟨r,h1,h2⟩:=uW (f:=fun q0=>gJ n q0 i f) (p:=fun d=>decide (d.2=i)&& !f.getD d.1.toNat false) (l:=D) (n:=n) (fun d hm=>by
  obtain⟨a0,a1⟩:=hd d hm
  unfold gJ
  refine Ev.eq (Ev.jn (fun z=>z=(decide (d.2=i)&& !f.getD d.1.toNat false)) (fun j hj=>Ev.cond (fun e=> ?_) (fun e=>hj _ (by rw [e];rfl))) (fun z hz=>Ev.some hz))
  have h:=U6 (l:=f) (d:=false) a0 a1
  refine aA h (hj _ (by rw [e];rfl))) hn (by omega)
 unfold dD
 exact Ev.eq (aA h1 (Ev.some h2))
theorem U5{n:Nat}{cs:List Int}{k many:Nat}(hm:0<many):qQ n cs (k:Int) (many:Int)=some (oW cs k many:Int):=by
 refine Ev.eq ?_
 unfold qQ oW
 by_cases hc:cs.length=0
 ·rw [if_pos hc,hc];exact Ev.some rfl
 ·rw [if_neg hc,decide_eq_false (by omega)]
  have hlt:k%cs.length<cs.length:=Nat.mod_lt _ (by omega)
  have e:Int.tmod (k:Int) (cs.length:Int)=((k%cs.length:Nat):Int):=rfl
  refine bO (aA (oE (by omega)) ?_)
  rw [e]
  refine aA (xU hlt) (aA (oE (by omega)) ?_)
  generalize Int.tmod (cs.getD (k%cs.length) 0) (many:Int)=q
  refine Ev.some ?_
  omega
theorem wR{n:Nat}(hn:20000≤n){D:List Dep}(hD:D.length≤15000){T:Nat}(hT:T≤1000)(hdb: ∀d∈D,0≤d.1∧d.1<d.2∧d.2<(T:Int))(cs:List Int):qP n D (T:Int) cs=some (bJ D T cs T).2:=by
 refine Ev.eq ?_
 unfold qP
 refine aA (aAq (by omega) false) ?_
 refine Ev.loop (fun z:List Bool×List Int×Int=> ∃k:Nat,z.2.2=k∧k≤T∧z.2.1=(bJ D T cs k).2∧z.1=(bJ D T cs k).1) (fun z=>T-z.2.2.toNat) ?_ n _ ⟨0,rfl,by omega,rfl,rfl⟩ (by dsimp only;omega)
 rintro again ⟨f,o,z⟩ ⟨k,hz,hk,ho,hf⟩ hr
 dsimp only at hz ho hf⊢
 subst hz
 have g:=lR hdb cs k hk
 rw [←hf,←ho] at g
 have hfl:=g.gfl
 refine aF (fun hlt=> ?_) (fun hge=>Ev.some ?_)
 ·refine Ev.loop (fun z:List Int×Int=> ∃i:Nat,z.2=i∧i≤T∧z.1=y6 D f i) (fun z=>T-z.2.toNat) ?_ n _ ⟨0,rfl,by omega,rfl⟩ (by dsimp only;omega)
  rintro again2 ⟨x,z⟩ ⟨i,hz,hi,hx⟩ hr2
  dsimp only at hz hx⊢
  subst hz
  refine aF (fun hlt2=> ?_) (fun hge2=> ?_)
  ·have hl:=aCb D f i
   refine Ev.jn (fun w=>w=y6 D f (i+1)) (fun j hj=>aA (aAv (by omega) hD (fun d hd=>by have:=hdb d hd;omega) _) (Ev.jn (fun w=>w=E6 D f i) (fun j2 hj2=> ?_) (fun w hw=> ?_))) (fun w hw=> ?_)
   ·refine aA (U6 (l:=f) (d:=false) (by omega) (by omega)) ?_
    rw [Int.toNat_natCast]
    have e:E6 D f i=(!f.getD i false&& !D.any (fun d=>decide (d.2=(i:Int))&& !f.getD d.1.toNat false)):=by
     unfold E6;rw [List.not_any_eq_all_not]
    refine Ev.cond (fun c=>hj2 _ (by rw [e,c];rfl)) (fun c=>hj2 _ (by rw [e,c];rfl))
   ·subst hw
    refine Ev.cond (fun c=>aA (bL (by rw [hx,List.length_singleton];omega)) (hj _ ?_)) (fun c=>hj _ ?_)
    ·rw [y5,if_pos c,hx]
    ·rw [y5,if_neg (by rw [c];simp),List.append_nil,hx]
   ·subst hw
    rw [aI (by omega)]
    exact hr2 _ ⟨i+1,by dsimp only;omega,by omega,rfl⟩ (by dsimp only;omega)
  ·have e:i=T:=by omega
   have hx2:x=fT D T f:=by rw [hx,e];rfl
   have hne:=y0 hdb g (by omega)
   have hrl:0<(fT D T f).length:=List.length_pos_iff.2 hne
   have hsel:=L8 (cs:=cs) (n:=k) hne
   obtain⟨x0,x1,_⟩:=t0.1 hsel
   have hch:=wF cs k hrl
   rw [hx2]
   refine aA (U5 hrl) (aA (xU hch) ?_)
   show Ev (Option.bind (ix f (rX D T cs k f)) fun x15=>_) _
   refine aA (sH x0 (by omega)) (aA (kY (l:=f) x0 (by omega) true) (aA (bL (by rw [g.gol,List.length_singleton];omega)) ?_))
   rw [aI (by omega)]
   refine hr _ ⟨k+1,by dsimp only;omega,by omega,?_,?_⟩ (by dsimp only;omega)
   ·show o++[rX D T cs k f]=(bJ D T cs k).2++[rX D T cs k (bJ D T cs k).1]
    rw [←ho,←hf]
   ·show f.set (rX D T cs k f).toNat true=(bJ D T cs k).1.set (rX D T cs k (bJ D T cs k).1).toNat true
    rw [←hf]
 ·have e:k=T:=by omega
  rw [ho,e]
def iK(p:Prog)(cs:List Int):List Int:=if bF p=true then(bJ (dW p (insts p.parts) (insts p.parts).length) (insts p.parts).length cs (insts p.parts).length).2 else []
theorem nJ{n:Nat}(hn:20000≤n){p:Prog}(hp:SmP p)(cs:List Int):eX n p cs=some (iK p cs):=by
 refine Ev.eq ?_
 unfold eX iK
 refine aA (vW (by omega) hp) (aA (iS (by omega) hp) ?_)
 cases hv:bF p with
 |false=>
  rw [if_neg (by simp),if_neg (by simp),if_neg (by simp)]
  exact aA (wR hn (D:=[]) (T:=0) (by simp) (by omega) (fun d hd=>by cases hd) cs) (Ev.some rfl)
 |true=>
  rw [if_pos rfl,if_pos rfl,if_pos rfl]
  have hl:=(eY hv).2.2.2.2
  exact aA (wR hn (V8 hl) (by omega) O9 cs) (Ev.some rfl)
theorem wS{p:Prog}(cs:List Int):(iK p cs).length≤120:=by
 unfold iK
 split
 ·rename_i h;exact aAx h cs
 ·simp
theorem sL{p:Prog}(hv:bF p=true)(cs:List Int):zF p (iK p cs)=true∧(dW p (insts p.parts) (insts p.parts).length).all (s7 (iK p cs))=true:=by
 obtain⟨h1,h2⟩:=aCq (D:=dW p (insts p.parts) (insts p.parts).length) (T:=(insts p.parts).length) O9 cs
 unfold iK zF
 rw [if_pos hv,hv]
 exact⟨h1,h2⟩
theorem F5(code:List UInt8):Ev (dN N code) (fun x=>SmP x.1):=by
 have hN:N=100000:=rfl
 unfold dN
 refine aG (aE8 code) (fun x1 r1=>aG (aCg r1 (by omega)) (fun x2 ⟨h2,r2⟩=>aG (aFb (by omega) r2 (by omega) h2) (fun x3 ⟨h3,r3⟩=>aG (fW N r3 (by omega) (by simp)) (fun x4 ⟨hm,r4⟩=> ?_))))
 have hc:0≤x4.1∧x4.1≤8:=by
  simp only [List.mem_cons,List.not_mem_nil,or_false] at hm
  omega
 refine Ev.loop (fun z:List UInt8×Int×List Int×Int=>0≤z.2.2.2∧z.2.2.2≤8∧z.2.2.1.length+z.2.2.2.toNat≤8∧RdOk (300000+2*(8-z.2.2.2)) ⟨z.1,z.2.1⟩) (fun z=>z.2.2.2.toNat) ?_ N _ ⟨hc.1,hc.2,by simp;omega,r4.mono (by dsimp only;omega)⟩ (by dsimp only;omega)
 rintro again ⟨b,q,o,c⟩ ⟨c0,c1,ho,r5⟩ hr
 dsimp only at c0 c1 ho r5⊢
 refine aF (fun hlt=> ?_) (fun hge=>Ev.some (h3.mono (show 30≤1000 by omega)).sm)
 refine aG (fW N r5 (by omega) (by simp)) (fun x9 ⟨_,r9⟩=>aA (bL (by rw [List.length_singleton];omega)) ?_)
 rw [aI (by omega)]
 exact hr _ ⟨by dsimp only;omega,by dsimp only;omega,by dsimp only;rw [List.length_append,List.length_singleton];omega,r9.mono (by dsimp only;omega)⟩ (by dsimp only;omega)
theorem A7(code more:List UInt8):gY N code more=some true:=by
 have hN:N=100000:=rfl
 refine Ev.eq ?_
 unfold gY
 refine Ev.jn (fun z=>True) (fun j hj=>aF (fun _=>hj _ trivial) (fun _=>hj _ trivial)) (fun z _=>Ev.cond (fun _=>Ev.some rfl) (fun _=> ?_))
 refine aG (F5 code) (fun x3 hs=> ?_)
 obtain⟨p,cs⟩:=x3
 dsimp only at hs⊢
 have hsg:dU N p cs=some (iK p cs):=vA (by omega) hs cs
 have hlen:=wS (p:=p) cs
 have hl:=wQ (n:=N) (a:=iK p cs) (by omega) (by omega)
 refine aA (nJ (by omega) hs cs) (Ev.jn (fun z:List Int×Bool=>z.2= !bF p) (fun j hj=>aA hsg (aA hl (bO (aA (iF (by omega) hs) (hj _ rfl))))) (fun z hz=> ?_))
 obtain⟨z1,z2⟩:=z
 dsimp only at hz⊢
 subst hz
 cases hv:bF p with
 |false=>exact b7 (aA hsg (aA hl (Ev.some rfl)))
 |true=>
  have ht:=aG2 hv
  obtain⟨a1,a2⟩:=sL hv cs
  have hlen2:=wS (p:=p) [Int.tmod (more.length:Int) 9,Int.tmod (more.length:Int) 4]
  obtain⟨b1,b2⟩:=sL hv [Int.tmod (more.length:Int) 9,Int.tmod (more.length:Int) 4]
  refine bO (aA (nJ (by omega) hs _) ?_)
  generalize iK p [Int.tmod (more.length:Int) 9,Int.tmod (more.length:Int) 4]=o2 at*
  generalize iK p cs=o at*
  refine aA (xH (by omega) hs hv) (aA (aDx ⟨by omega,by omega⟩ 0) (aFn (n:=N) (T:=(eO p.arrays).toNat) (e:=fun i=>Int.tmod (wr ((wr (i*61))+5)) 1000) (K:=fun x16=>Option.bind (fH N p x16 o) fun x22=>Option.bind (fH N p x16 o2) fun x23=>jn (fun(x26:Bool)=>some x26) (fun j24=>bif x22.2 then(bif x23.2 then(Option.bind (gX N x22.1 x23.1) fun x25=>j24 x25) else(j24 false)) else(j24 false))) (by omega) (by omega) (fun i h0 h1=> ?_) (fun m h1 h2=> ?_)))
  ·rw [aI (n:=i*61) (by omega),aI (by omega)]
   exact aG4 (by omega)
  ·have hmo:gB p.arrays m:=⟨by omega,h2⟩
   have hmv:=aFd hv hmo
   have hml:=aBC hv hmo
   have hok: ∀x∈insts p.parts,dI p x:=fun x hx=>insts_mem hx
   refine aA (sK (by omega) hs hml (by omega)) (aA (sK (by omega) hs hml (by omega)) ?_)
   have e1: ∀o,zF p o=true→(dW p (insts p.parts) (insts p.parts).length).all (s7 o)=true→aBu p m o=(d8 p m (insts p.parts),true):=fun o hov hall=>by
    unfold aBu
    rw [if_pos ⟨hmv,hov⟩,aB9 hv hok (by unfold zF at hov;rw [Bool.and_eq_true] at hov;exact hov.2) hall hmo]
   rw [e1 o a1 a2,e1 o2 b1 b2]
   have hl2:gX N (d8 p m (insts p.parts)) (d8 p m (insts p.parts))=some true:=wQ (by omega) (aBC hv (vF hv hok hmo))
   exact Ev.jn (fun z=>z=true) (fun j hj=>b7 (b7 (aA hl2 (hj _ rfl)))) (fun z hz=>Ev.some hz)
end Go.Lift
