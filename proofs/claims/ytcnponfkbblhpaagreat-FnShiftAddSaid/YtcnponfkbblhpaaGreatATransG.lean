/- The frames of the transformations' laws; shifts add up. -/
import Derived.Test.YtcnponfkbblhpaaGreatATransF
set_option maxRecDepth 100000
set_option linter.unusedVariables false
namespace Go.Lift
open Go
theorem aH0{B:Option Bool}{a b:Int}(h:Ev B (fun r=>r=true)):Ev (jn (fun(x2:Bool)=>bif x2 then(some true) else B) (fun j1=>bif decide ((1048576:Int)<a) then(j1 true) else(j1 (decide ((1048576:Int)<b))))) (fun r=>r=true):=by
 have k: ∀z:Bool,Ev (bif z then some true else B) (fun r=>r=true):=fun z=>Ev.cond (fun _=>Ev.some rfl) (fun _=>h)
 exact Ev.jn (fun _=>True) (fun j hj=>aI (fun _=>hj _ trivial) (fun _=>hj _ trivial)) (fun z _=>k z)
theorem aHZ{I S:Option (Prog×Bool)}{REST:Prog×Bool→Prog×Bool→Option Bool}{R:Prog×Bool}(hR:BG 1000 R.1)(h1:I=some R)(h2:S=some R)(hb:R.2=true→Ev (REST R R) (fun r=>r=true)):
  Ev (Option.bind I fun x4=>Option.bind S fun x5=>jn (fun(x8:Bool)=>
    bif x8 then(
     jn (fun(x11:Bool)=>
      some x11
     ) (fun j9=>
      bif(x4.2==x5.2) then(
       Option.bind (dE N x4.1 x5.1) fun x10=>
       j9 x10
      ) else(
       j9 false
      )
     )
    ) else(
     REST x4 x5
    )
   ) (fun j6=>
    bif !(x4.2==x5.2) then(
     j6 true
    ) else(
     Option.bind (dE N x4.1 x5.1) fun x7=>
     bif !x7 then(
      j6 true
     ) else(
      j6 (!x4.2)
     )
    )
   )) (fun r=>r=true):=by
 have hN:N=100000:=rfl
 have hs:=Z0 (n:=N) (by omega) hR
 have he:(R.2==R.2)=true:=by cases R.2<;>rfl
 refine aB h1 (aB h2 (Ev.jn (fun z=>z= !R.2) (fun j hj=> ?_) (fun z hz=> ?_)))
 ·rw [he]
  exact bZ (aB hs (bZ (hj _ rfl)))
 ·subst hz
  cases hr:R.2 with
  |false=>exact bW (Ev.jn (fun z=>z=true) (fun j hj=>bW (aB hs (hj _ rfl))) (fun z hz=>Ev.some hz))
  |true=>exact bZ (hb hr)
theorem kQ{α β:Type}{f g:α→β}: ∀{l:List α},(∀x∈l,f x=g x)→l.map f=l.map g
 | [],_=>rfl
 |x::l,h=>by rw [List.map_cons,List.map_cons,h x List.mem_cons_self,kQ (fun y hy=>h y (List.mem_cons_of_mem _ hy))]
theorem N4{f g:Affine→Affine}(h: ∀x,bH x=true→f x=g x){a:Access}{d:Int}(ha:f0 a d=true):iG f a=iG g a:=by
 unfold iG
 rw [kQ (fun x hx=>h x ((sX ha).2.2 x hx))]
theorem aCH{d:Int}{f g:Affine→Affine}(h: ∀x,bH x=true→f x=g x): ∀{L:Nat} {e:Expr},dF L e d=true→pA f L e=pA g L e
 |0,_,_=>rfl
 |L+1,e,he=>by
  obtain⟨hk,ho,hs⟩:=jK he
  unfold pA
  rw [kQ (fun x hx=>aCH h (hs x hx))]
  by_cases h2:e.kind=2
  ·have h3: ¬e.kind=3:=by omega
   rw [if_pos h2,if_pos h2,if_neg h3,if_neg h3,h _ (t2 ho h2).1]
  ·by_cases h3:e.kind=3
   ·rw [if_neg h2,if_neg h2,if_pos h3,if_pos h3,N4 h (t1 ho h3).1]
   ·rw [if_neg h2,if_neg h2,if_neg h3,if_neg h3]
theorem aGz{f g:Affine→Affine}(h: ∀x,bH x=true→f x=g x){s:Stmt}{d:Int}(hs:eZ s d=true):jV f s=jV g s:=by
 obtain⟨h1,h2,_⟩:=rB hs
 unfold jV
 rw [N4 h h1,aCH h h2]
theorem Z5{f g:Affine→Affine}(h: ∀x,bH x=true→f x=g x){l:Loop}(hl:S7 l):cE f l=cE g l:=by
 unfold cE
 rw [kQ (fun x hx=>h x (hl.1.2 x hx)),kQ (fun x hx=>h x (hl.2.2 x hx))]
theorem aDk{list:List Arr}{P:Part}(hP:cD list P=true){k:Nat}{l:Loop}(hl:P.nest[k]? =some l){g f g' f' g'' f'':Affine→Affine}(hg: ∀x,bH x=true→g' (g x)=g'' x)(hf: ∀x,bH x=true→f' (f x)=f'' x):
  gM k g' f' (gM k g f P l) (cE g l)=gM k g'' f'' P l:=by
 obtain⟨h1,h2⟩:=pZ hP
 obtain⟨_,h4,h5,_⟩:=lT hP
 have hk:=(List.getElem?_eq_some_iff.1 hl).1
 have ht:(P.nest.take k).length=k:=by rw [List.length_take];omega
 have e1:((gM k g f P l).nest).take k=P.nest.take k:=by
  unfold gM
  rw [List.take_append_of_le_length (by omega),List.take_of_length_le (by omega)]
 have e2:((gM k g f P l).nest).drop (k+1)=(P.nest.drop (k+1)).map (cE f):=by
  unfold gM
  rw [List.drop_append,ht,List.drop_of_length_le (by omega),show k+1-k=1 by omega];rfl
 have e3:((gM k g f P l).body)=P.body.map (jV f):=rfl
 show(⟨((gM k g f P l).nest).take k++cE g' (cE g l)::(((gM k g f P l).nest).drop (k+1)).map (cE f'),((gM k g f P l).body).map (jV f')⟩:Part)=gM k g'' f'' P l
 rw [e1,e2,e3,N3,List.map_map,List.map_map]
 rw [kQ (l:=P.nest.drop (k+1)) (f:=cE f' ∘ cE f) (g:=cE f'') (fun y hy=>by
  show cE f' (cE f y)=_
  rw [N3];exact Z5 hf (h2 y (List.mem_of_mem_drop hy)))]
 rw [kQ (l:=P.body) (f:=jV f' ∘ jV f) (g:=jV f'') (fun s hs=>by
  show jV f' (jV f s)=_
  rw [aEC];exact aGz hf (h5 s hs))]
 rw [Z5 (f:=fun x=>g' (g x)) (g:=g'') hg (h2 l (List.mem_of_getElem? hl))];rfl
theorem aI3{a:Affine}(ha:a.coefs.length=4)(b c:Int):iP (iP a 1 (sA b)) 1 (sA c)=iP a 1 (sA (b+c)):=by
 obtain⟨a,ac⟩:=a
 dsimp only at ha
 obtain⟨a0,a1,a2,a3,rfl⟩:=J6 ha
 simp [iP,sA];omega
theorem aI4{a:Affine}(ha:a.coefs.length=4)(b c:Int){k:Nat}(hk:k<4):fB k (sA c) (fB k (sA b) a)=fB k (sA (b+c)) a:=by
 obtain⟨a,ac⟩:=a
 dsimp only at ha
 obtain⟨a0,a1,a2,a3,rfl⟩:=J6 ha
 rcases(show k=0∨k=1∨k=2∨k=3 by omega) with rfl|rfl|rfl|rfl<;>
  (simp [fB,iP,sA,Int.mul_add,Int.neg_mul];omega)
theorem aBB{p q:Prog}(h:K1 p=(q,true)):q=p∧lR p=true:=by
 unfold K1 at h
 split at h
 ·rename_i hv;cases h;exact⟨rfl,hv⟩
 ·cases h
theorem u6{p q:Prog}{part loop b:Int}(h:eD p part loop b=(q,true)):iO p part loop=true∧(-6≤b∧b≤6)∧C4 p part loop (fun x=>iP x 1 (sA b)) (fB loop.toNat (sA b))=(q,true):=by
 unfold eD at h
 split at h
 ·rename_i hc;exact⟨hc.1,hc.2,h⟩
 ·cases h
theorem aDb{p q x y:Prog}{part loop b c:Int}(h1:eD p part loop b=(q,true))(h2:eD q part loop c=(x,true))(h3:eD p part loop (b+c)=(y,true)):x=y:=by
 obtain⟨hc,_,m1⟩:=u6 h1
 obtain⟨hc2,_,m2⟩:=u6 h2
 obtain⟨_,_,m3⟩:=u6 h3
 obtain⟨hv,i,k,P,l,rfl,rfl,hP,hl,hi,hkl,hok,hk⟩:=E4 hc
 rw [o9 hP hl] at m1 m3
 obtain⟨rfl,_⟩:=aBB m1
 obtain⟨rfl,_⟩:=aBB m3
 have hP':(p.parts.set i (gM k (fun x=>iP x 1 (sA b)) (fB k (sA b)) P l))[i]? =some (gM k (fun x=>iP x 1 (sA b)) (fB k (sA b)) P l):=by rw [List.getElem?_set_self hi]
 rw [o9 (l:=cE (fun x=>iP x 1 (sA b)) l) hP' (aDl hkl)] at m2
 obtain⟨rfl,_⟩:=aBB m2
 dsimp only [Int.toNat_natCast]
 rw [List.set_set,aDk hok hl (fun x hx=>aI3 (iV hx).1 b c) (fun x hx=>aI4 (iV hx).1 b c hk)]
theorem R4(code more:List UInt8):mB N code more=some true:=by
 have hN:N=100000:=rfl
 refine Ev.eq ?_
 unfold mB iS
 refine aH0 (aL (aGX code) (fun x1 hp=> ?_))
 obtain⟨p,part,loop,b⟩:=x1
 dsimp only at hp⊢
 have hR:=L4 hp part loop b
 refine aHZ (REST:=fun x4 x5=>_) hR (uC (by omega) hp part loop b) (aA8 (by omega) hp part loop b) (fun h=> ?_)
 generalize hc:wr (Int.tmod (more.length:Int) 3-1)=c
 have hcb: -1≤c∧c≤1:=by
  have e:Int.tmod (more.length:Int) 3=(more.length:Int)%3:=Int.tmod_eq_emod_of_nonneg (by omega)
  rw [←hc,e,aP (by omega)];omega
 have hq:eD p part loop b=((eD p part loop b).1,true):=by rw [←h]
 obtain⟨_,hb,_⟩:=u6 hq
 rw [aP (n:=b+c) (by omega)]
 refine aB (uC (by omega) hR part loop c) (aB (uC (by omega) hp part loop (b+c)) (Ev.jn (fun z=>z=true) (fun j hj=> ?_) (fun z hz=>Ev.some hz)))
 refine Ev.cond (fun _=>hj _ rfl) (fun h1=>Ev.cond (fun _=>hj _ rfl) (fun h2=>aB (x:=true) ?_ (hj _ rfl)))
 have e1:eD (eD p part loop b).1 part loop c=((eD (eD p part loop b).1 part loop c).1,true):=by
  have:(eD (eD p part loop b).1 part loop c).2=true:=by simpa using h1
  rw [←this]
 have e2:eD p part loop (b+c)=((eD p part loop (b+c)).1,true):=by
  have:(eD p part loop (b+c)).2=true:=by simpa using h2
  rw [←this]
 rw [aDb hq e1 e2]
 exact Z0 (by omega) (L4 hp part loop (b+c))
end Go.Lift
