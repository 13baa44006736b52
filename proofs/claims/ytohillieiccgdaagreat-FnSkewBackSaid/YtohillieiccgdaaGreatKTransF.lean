/- The way back, skews and the laws. -/
import Derived.Test.YtohillieiccgdaaGreatKTransE
import Derived.Test.YtohillieiccgdaaGreatKDrawD
set_option maxRecDepth 100000
set_option linter.unusedVariables false
namespace Go.Lift
open Go
theorem aDj{k:Nat}{g f:Affine→Affine}{P:Part}{l:Loop}(hk:k<P.nest.length):(gC k g f P l).nest[k]? =some (cK g l):=by
 unfold gC
 rw [List.getElem?_append_right (by simp;omega),List.length_take,Nat.min_eq_left (by omega),Nat.sub_self];rfl
theorem aBv{list:List Arr}{P:Part}(hP:cD list P=true){k:Nat}{l:Loop}(hl:P.nest[k]? =some l){g f g' f':Affine→Affine}(hg: ∀x,bI x=true→g' (g x)=x)(hf: ∀x,bI x=true→f' (f x)=x):
  gC k g' f' (gC k g f P l) (cK g l)=P:=by
 obtain⟨h1,h2⟩:=pY hP
 obtain⟨_,h4,h5,_⟩:=lR hP
 have hk:=(List.getElem?_eq_some_iff.1 hl).1
 have ht:(P.nest.take k).length=k:=by rw [List.length_take];omega
 have e1:((gC k g f P l).nest).take k=P.nest.take k:=by
  unfold gC
  rw [List.take_append_of_le_length (by omega),List.take_of_length_le (by omega)]
 have e2:((gC k g f P l).nest).drop (k+1)=(P.nest.drop (k+1)).map (cK f):=by
  unfold gC
  rw [List.drop_append,ht,List.drop_of_length_le (by omega),show k+1-k=1 by omega];rfl
 have e3:((gC k g f P l).body)=P.body.map (l6 f):=rfl
 show(⟨((gC k g f P l).nest).take k++cK g' (cK g l)::(((gC k g f P l).nest).drop (k+1)).map (cK f'),((gC k g f P l).body).map (l6 f')⟩:Part)=P
 rw [e1,e2,e3,N1,Z9 hg (h2 l (List.mem_of_getElem? hl)),List.map_map,List.map_map]
 rw [uA (l:=P.nest.drop (k+1)) (f:=cK f' ∘ cK f) (fun y hy=>by
  show cK f' (cK f y)=y
  rw [N1];exact Z9 hf (h2 y (List.mem_of_mem_drop hy)))]
 rw [uA (l:=P.body) (f:=l6 f' ∘ l6 f) (fun s hs=>by
  show l6 f' (l6 f s)=s
  rw [aEK];exact aCH hf (h5 s hs))]
 rw [←kC hl,List.take_append_drop]
theorem aEu{α:Type}{l:List α}{i:Nat}{x:α}(h:l[i]? =some x):l.set i x=l:=by
 refine List.ext_getElem? (fun j=> ?_)
 by_cases hj:i=j
 ·subst hj
  rw [List.getElem?_set_self (List.getElem?_eq_some_iff.1 h).1,h]
 ·rw [List.getElem?_set_ne hj]
theorem aBu{p q:Prog}{i k:Nat}{P:Part}{l:Loop}(hv:jS p=true)(hP:p.parts[i]? =some P)(hl:P.nest[k]? =some l){g f g' f':Affine→Affine}(hg: ∀x,bI x=true→g' (g x)=x)(hf: ∀x,bI x=true→f' (f x)=x)
  (h:xB p (i:Int) (k:Int) g f=(q,true)):jS q=true∧(∀j:Nat,j<P.nest.length→eM q (i:Int) (j:Int)=true)∧xB q (i:Int) (k:Int) g' f'=(p,true):=by
 rw [o8 hP hl] at h
 unfold E9 at h
 have hok:=(aBe hv).2.2.2.1 P (List.mem_of_getElem? hP)
 have hi:=(List.getElem?_eq_some_iff.1 hP).1
 have hk:=(List.getElem?_eq_some_iff.1 hl).1
 by_cases hq:jS ⟨p.arrays,p.parts.set i (gC k g f P l)⟩=true
 ·rw [if_pos hq] at h
  cases h
  have hP':(p.parts.set i (gC k g f P l))[i]? =some (gC k g f P l):=by rw [List.getElem?_set_self hi]
  refine⟨hq,fun j hj=> ?_,?_⟩
  ·unfold eM
   rw [hq,aU hP']
   refine decide_eq_true ⟨by omega,?_⟩
   have:(gC k g f P l).nest.length=P.nest.length:=by simp [gC];omega
   rw [this];omega
  ·rw [o8 (l:=cK g l) hP' (aDj hk)]
   dsimp only
   rw [List.set_set,aBv hok hl hg hf,aEu hP]
   unfold E9
   rw [if_pos hv]
 ·rw [if_neg hq] at h
  cases h
theorem aFK{F:Prog→Int→Option (Prog×Bool)}{G:Option (Prog×Bool)}{p:Prog}{R:Prog×Bool}{by_:Int}(hp:BG 1000 p)(hR:BG 1000 R.1)(h1:F p by_=some R)(h2:G=some R)(hb:R.2=true→F R.1 (wr (0-by_))=some (p,true)):
  Ev (Option.bind (F p by_) fun x2=>
  Option.bind G fun x3=>
  jn (fun(x6:Bool)=>
   bif x6 then(
    jn (fun(x9:Bool)=>
     some x9
    ) (fun j7=>
     bif(x2.2==x3.2) then(
      Option.bind (cR N x2.1 x3.1) fun x8=>
      j7 x8
     ) else(
      j7 false
     )
    )
   ) else(
    Option.bind (F x2.1 (wr (0-by_))) fun x10=>
    jn (fun(x13:Bool)=>
     some x13
    ) (fun j11=>
     bif x10.2 then(
      Option.bind (cR N x10.1 p) fun x12=>
      j11 x12
     ) else(
      j11 false
     )
    )
   )
  ) (fun j4=>
   bif !(x2.2==x3.2) then(
    j4 true
   ) else(
    Option.bind (cR N x2.1 x3.1) fun x5=>
    bif !x5 then(
     j4 true
    ) else(
     j4 (!x2.2)
    )
   )
  )) (fun r=>r=true):=by
 have hN:N=100000:=rfl
 have hs:=Z4 (n:=N) (by omega) hR
 have he:(R.2==R.2)=true:=by cases R.2<;>rfl
 refine aB h1 (aB h2 (Ev.jn (fun z=>z= !R.2) (fun j hj=> ?_) (fun z hz=> ?_)))
 ·rw [he]
  exact bZ (aB hs (bZ (hj _ rfl)))
 ·subst hz
  cases hr:R.2 with
  |false=>exact bW (Ev.jn (fun z=>z=true) (fun j hj=>bW (aB hs (hj _ rfl))) (fun z hz=>Ev.some hz))
  |true=>exact bZ (aB (hb hr) (Ev.jn (fun z=>z=true) (fun j hj=>bW (aB (Z4 (n:=N) (by omega) hp) (hj _ rfl))) (fun z hz=>Ev.some hz)))
theorem aGL{q:Prog}(h:BG 1000 q):BG 1000 (E9 q).1:=by
 unfold E9
 split
 ·exact h
 ·exact⟨⟨by simp,fun x hx=>by cases hx⟩,by simp,fun x hx=>by cases hx⟩
theorem aHI:BG 1000 noP.1:=⟨⟨by simp [noP],fun x hx=>by cases hx⟩,by simp [noP],fun x hx=>by cases hx⟩
theorem aDi{p:Prog}(hp:BG 1000 p){part loop:Int}(hc:eM p part loop=true){g f:Affine→Affine}(hg: ∀x,bI x=true→BA 4 (g x))(hf: ∀x,bI x=true→BA 4 (f x)):BG 1000 (xB p part loop g f).1:=by
 obtain⟨hv,i,k,P,l,rfl,rfl,hP,hl,hi,hkl,hok,hk⟩:=sL hc
 rw [o8 hP hl]
 exact aGL (aFH hp i (S2 hok hl hg hf))
theorem aGW(code:List UInt8):Ev (Option.bind (mV N code) fun x1=>Option.bind (rJ N x1) fun x2=>some (x2.1,x2.2.1,x2.2.2.1,x2.2.2.2.1)) (fun x=>BG 1000 x.1):=by
 have hN:N=100000:=rfl
 refine aL (aGu code) (fun x1 r1=>aL (P:=fun x=>BG 1000 x.1) ?_ (fun x2 h2=>Ev.some h2))
 unfold rJ
 refine aL (aDl r1 (by omega)) (fun x1 ⟨h1,r1⟩=>aL (aGy (by omega) r1 (by omega) h1) (fun x2 ⟨h2,r2⟩=>aL (iE N r2 (by omega) (by simp)) (fun x3 ⟨_,r3⟩=>aL (iE N r3 (by omega) (by simp)) (fun x4 ⟨_,r4⟩=>aL (iE N r4 (by omega) (by simp)) (fun x5 ⟨_,r5⟩=>Ev.some (h2.mono (show 30≤1000 by omega)))))))
def kA(k:Nat)(s:Int):Affine:=⟨[0,0,0,0].set k s,0⟩
theorem sH(k:Nat){s:Int}(h: -6≤s∧s≤6):bB 6 (kA k s):=by
 refine⟨by simp [kA],⟨by simp [kA],by simp [kA]⟩,nY (fun c hc=> ?_) ⟨h.1,h.2⟩⟩
 simp at hc
 subst hc
 exact⟨by omega,by omega⟩
theorem aHN(s:Int){k:Nat}(hk:k+1<4):(kA k s).coefs.getD (k+1) 0=0:=by
 rcases(show k=0∨k=1∨k=2 by omega) with rfl|rfl|rfl<;>rfl
def tI(p:Prog)(part loop s:Int):Prog×Bool:=
 if eM p part loop=true∧eM p part (loop+1)=true∧(-6≤s∧s≤6) then xB p part (loop+1) (fun x=>iY x 1 (kA loop.toNat s)) (fB (loop.toNat+1) (kA loop.toNat s)) else noP
theorem aH4{k:Nat}(hk:k<4)(s:Int):aFD (nX k) s ⟨[0,0,0,0],0⟩ 0=kA k s:=by
 rcases(show k=0∨k=1∨k=2∨k=3 by omega) with rfl|rfl|rfl|rfl<;>simp [aFD,nX,kA]
theorem aIc{k:Nat}(hk:k<4)(s:Int){a:Affine}(ha:a.coefs.length=4):iY a s (nX k)=iY a 1 (kA k s):=by
 obtain⟨a0,a1,a2,a3,e⟩:=yX ha
 rcases(show k=0∨k=1∨k=2∨k=3 by omega) with rfl|rfl|rfl|rfl<;>simp [iY,nX,kA,e]
theorem aIE{k:Nat}(hk:k+1<4)(s:Int):iY (nX (k+1)) (-s) (nX k)=toB (k+1) (kA k s):=by
 rcases(show k=0∨k=1∨k=2 by omega) with rfl|rfl|rfl<;>simp [toB,iY,nX,kA]
theorem aDc{n:Nat}(hn:7000≤n){p:Prog}(hp:BG 1000 p)(part loop s:Int):nF n p part loop s=some (tI p part loop s):=by
 unfold nF tI
 refine Ev.eq (aB (aBq (by omega) hp) (Ev.jn (fun z=>z= !(eM p part loop&&(eM p part (loop+1)&&decide (-6≤s∧s≤6)))) (fun j hj=> ?_) (fun z hz=> ?_)))
 ·refine aB (aEX hn hp part loop) (Ev.cond (fun h=>hj _ ?_) (fun h=> ?_))
  ·rw [show eM p part loop=false by simpa using h];rfl
  ·have h1:eM p part loop=true:=by simpa using h
   obtain⟨hv,i,k,P,l,rfl,rfl,hP,hl,hi,hkl,hok,hk⟩:=sL h1
   rw [aP (by omega)]
   refine aB (aEX hn hp _ _) (Ev.cond (fun h=>hj _ ?_) (fun h=>aB (nZ n s 6 (by omega)) (hj _ ?_)))
   ·rw [h1,show eM p (i:Int) ((k:Int)+1)=false by simpa using h];rfl
   ·rw [h1,show eM p (i:Int) ((k:Int)+1)=true by simpa using h];rfl
 ·subst hz
  by_cases hc:eM p part loop=true∧eM p part (loop+1)=true∧(-6≤s∧s≤6)
  ·rw [if_pos hc,hc.1,hc.2.1,decide_eq_true hc.2.2]
   refine bZ ?_
   obtain⟨hv,i,k1,P,l,rfl,hk1,hP,hl,hi,hkl,hok,hk⟩:=sL hc.2.1
   obtain⟨_,i0,k,P0,l0,hi0,rfl,_⟩:=sL hc.1
   obtain rfl:k1=k+1:=by omega
   refine aB (Y6 n (by omega)) (aB (x:=⟨[0,0,0,0],0⟩) rfl (aB (vE (by omega) ((uY (by omega)).mono (by omega)) (by unfold bB pB;simp) ⟨by omega,by omega⟩ ⟨by omega,by omega⟩) ?_))
   rw [aH4 (by omega),aP (by omega)]
   refine aB (aU hP) (aB (aGz (by omega) hok hl hk (sH k hc.2.2) (aHN s hk)) (aB (aF6 hn hp hi ((S2 hok hl (zI (sH k hc.2.2).1) (aE5 (sH k hc.2.2).1)).mono (by omega))) (Ev.some ?_)))
   show E9 _=_
   rw [show((k:Int)+1)=((k+1:Nat):Int) by omega,o8 hP hl];rfl
  ·rw [if_neg hc,show(eM p part loop&&(eM p part (loop+1)&&decide (-6≤s∧s≤6)))=false by
    cases h1:eM p part loop with
    |false=>rfl
    |true=>cases h2:eM p part (loop+1) with
     |false=>rfl
     |true=>exact decide_eq_false (fun h3=>hc ⟨h1,h2,h3⟩)]
   exact bW (Ev.some rfl)
theorem aEt{n:Nat}(hn:5000≤n){k:Nat}(hk:k<4){s:Int}(hs: -6≤s∧s≤6): ∀x,bI x=true→iA n x s (k:Int)=some (iY x 1 (kA k s)):=fun x hx=>by
 unfold iA
 rw [D3 n hk]
 refine Ev.eq (aB rfl (aB (D4 hn ((xU hx).mono (by omega)) ((uY hk).mono (by omega)) ⟨by omega,by omega⟩) (Ev.some (aIc hk s (iQ hx).1))))
theorem aEs{n:Nat}(hn:5000≤n){k:Nat}(hk:k+1<4){s:Int}(hs: -6≤s∧s≤6): ∀x,bI x=true→fN n x (k:Int) (toB (k+1) (kA k s))=some (fB (k+1) (kA k s) x):=fun x hx=>by
 unfold fN
 rw [aP (by omega),show((k:Int)+1)=((k+1:Nat):Int) by omega,aBB hn ((xU hx).mono (by omega)) (aEm hk (sH k hs)) hk,aEp (xU hx).1 (sH k hs).1 hk (aHN s hk)];rfl
theorem O1{n:Nat}(hn:7000≤n){p:Prog}(hp:BG 1000 p)(part loop s:Int):iV n p part loop s=some (tI p part loop s):=by
 unfold iV tI
 by_cases hneg:loop= -1
 ·subst hneg
  rw [if_neg (fun h=>by rw [aEY (by omega)] at h;cases h.1)]
  refine Ev.eq (aL (aDF hn hp part) (fun x1 h1=>Ev.cond (fun _=>Ev.jn (fun z=>z=true) (fun j hj=>aI (fun _=>hj _ rfl) (fun h=>absurd (show(-1:Int)<0 by omega) h)) (fun z hz=>by rw [hz];exact bW (Ev.some rfl))) (fun _=>Ev.some rfl)))
 refine Ev.eq (aB (aFI hn hp part loop hneg) ?_)
 by_cases hb:eM p part loop=true
 ·rw [if_pos hb]
  obtain⟨hv,i,k,P,l0,rfl,rfl,hP,hl0,hi,hkl,hok,hk⟩:=sL hb
  obtain⟨h1,h2⟩:=pY hok
  obtain⟨_,h4,h5,_⟩:=lR hok
  have hb2:eM p (i:Int) ((k:Int)+1)=decide (k+1<P.nest.length):=by
   unfold eM
   rw [hv,aU hP]
   exact decide_eq_decide.2 (by omega)
  refine bW (Ev.jn (fun z=>z= !(decide (k+1<P.nest.length)&&decide (-6≤s∧s≤6))) (fun j hj=> ?_) (fun z hz=> ?_))
  ·refine aI (fun h=>absurd h (by omega)) (fun _=>aB (aU hP) ?_)
   rw [aP (by omega)]
   refine aI (fun h=>hj _ ?_) (fun h=>aB (aDq n s) (hj _ ?_))
   ·rw [decide_eq_false (show¬k+1<P.nest.length by omega)];rfl
   ·rw [decide_eq_true (show k+1<P.nest.length by omega)];rfl
  ·subst hz
   by_cases hk1:k+1<P.nest.length
   ·by_cases hs: -6≤s∧s≤6
    ·rw [if_pos ⟨hb,by rw [hb2,decide_eq_true hk1],hs⟩,decide_eq_true hs,decide_eq_true hk1]
     refine bZ ?_
     obtain⟨l,hl⟩: ∃l,P.nest[k+1]? =some l:=⟨_,List.getElem?_eq_getElem hk1⟩
     rw [aP (n:=(k:Int)+1) (by omega),aP (n:=(k:Int)+2) (by omega),aP (n:=0-s) (by omega),show((k:Int)+1)=((k+1:Nat):Int) by omega,show((k:Int)+2)=((k+1+1:Nat):Int) by omega,show 0-s= -s by omega]
     refine aB (aU hP) (aB (aU hl) (aB (tL (by omega) (h2 l (List.mem_of_getElem? hl)) (aEt (by omega) hk hs)) (aB (eG (by omega) _) (aB (eG (by dsimp only;omega) _) (aB (D3 n (by omega)) (aB (D3 n hk) (aB (D4 (by omega) ((uY (by omega)).mono (by omega)) ((uY hk).mono (by omega)) ⟨by omega,by omega⟩) ?_)))))))
     rw [aIE (by omega)]
     have hch:=J8 (n:=n) (by omega) (nest:=P.nest.set (k+1) (cK (fun x=>iY x 1 (kA k s)) l)) (body:=P.body) (s:=k+1+1) (by simp;omega) (by simp;omega) (fun y hy=>by
      rw [List.drop_set_of_lt (by omega)] at hy
      exact h2 y (List.mem_of_mem_drop hy)) h4.2 h5 (F:=fun q0=>fN n q0 (k:Int) (toB (k+1) (kA k s))) (aEs (by omega) (by omega) hs)
     rw [Int.toNat_natCast,Int.toNat_natCast]
     refine aB hch (aB (eG (by simp;omega) _) ?_)
     rw [Int.toNat_natCast,List.set_set]
     have hm:(⟨(P.nest.set (k+1) (cK (fun x=>iY x 1 (kA k s)) l)).take (k+1+1)++((P.nest.set (k+1) (cK (fun x=>iY x 1 (kA k s)) l)).drop (k+1+1)).map (cK (fB (k+1) (kA k s))),P.body.map (l6 (fB (k+1) (kA k s)))⟩:Part)=gC (k+1) (fun x=>iY x 1 (kA k s)) (fB (k+1) (kA k s)) P l:=by
      rw [List.drop_set_of_lt (by omega),List.take_add_one,List.getElem?_set_self (by omega),List.take_set_of_le (Nat.le_refl _),List.append_assoc];rfl
     rw [hm]
     refine aB (aAj hn (aFH hp i (S2 hok hl (zI (sH k hs).1) (aE5 (sH k hs).1)))) (Ev.some ?_)
     rw [o8 hP hl];rfl
    ·rw [if_neg (fun h=>hs h.2.2),decide_eq_false hs,Bool.and_false]
     exact bW (Ev.some rfl)
   ·rw [if_neg (fun h=>by rw [hb2,decide_eq_false hk1] at h;cases h.2.1),decide_eq_false hk1]
    exact bW (Ev.some rfl)
 ·rw [if_neg hb,if_neg (fun h=>hb h.1)]
  exact bZ (Ev.some rfl)
theorem aDa{p q:Prog}{part loop s:Int}(h:tI p part loop s=(q,true)):tI q part loop (wr (0-s))=(p,true):=by
 unfold tI at h
 by_cases hc:eM p part loop=true∧eM p part (loop+1)=true∧(-6≤s∧s≤6)
 ·rw [if_pos hc] at h
  obtain⟨hv,i,k1,P,l,rfl,hk1,hP,hl,hi,hkl,hok,hk⟩:=sL hc.2.1
  obtain⟨_,i0,k,P0,l0,hi0,rfl,_⟩:=sL hc.1
  obtain rfl:k1=k+1:=by omega
  rw [hk1] at h
  have hneg:kA k (-s)=⟨(kA k s).coefs.map (fun x=> -x),-(kA k s).const⟩:=by
   rcases(show k=0∨k=1∨k=2 by omega) with rfl|rfl|rfl<;>simp [kA]
  obtain⟨h1,h2,h3⟩:=aBu (g':=fun x=>iY x 1 (kA k (-s))) (f':=fB (k+1) (kA k (-s))) hv hP hl (fun x hx=>aIa (iQ hx).1 (sH k hc.2.2).1 hneg) (fun x hx=>aIb (iQ hx).1 (sH k hc.2.2).1 hneg hk (aHN s hk)) h
  unfold tI
  rw [aP (by omega),show 0-s= -s by omega,hk1,if_pos ⟨h2 k (by omega),h2 (k+1) hkl,by omega⟩]
  exact h3
 ·rw [if_neg hc] at h
  cases h
theorem Y1{p:Prog}(hp:BG 1000 p)(part loop s:Int):BG 1000 (tI p part loop s).1:=by
 unfold tI
 split
 ·rename_i hc
  exact aDi hp hc.2.1 (zI (sH _ hc.2.2).1) (aE5 (sH _ hc.2.2).1)
 ·exact aHI
theorem R0(code:List UInt8):mB N code=some true:=by
 have hN:N=100000:=rfl
 refine Ev.eq ?_
 unfold mB jP
 refine aI (fun _=>Ev.some rfl) (fun _=>aL (aGW code) (fun x1 hp=> ?_))
 obtain⟨p,part,loop,s⟩:=x1
 dsimp only at hp⊢
 refine aFK (F:=fun p b=>iV N p part loop b) hp (Y1 hp part loop s) (O1 (by omega) hp part loop s) (aDc (by omega) hp part loop s) (fun h=> ?_)
 rw [O1 (by omega) (Y1 hp part loop s)]
 exact congrArg some (aDa (by rw [←h]))
end Go.Lift
