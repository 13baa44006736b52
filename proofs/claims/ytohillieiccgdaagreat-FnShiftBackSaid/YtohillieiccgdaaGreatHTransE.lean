/- Shifts and skews: the program's and the reference's, and the way back. -/
import Derived.Test.YtohillieiccgdaaGreatHTransD
set_option maxRecDepth 100000
set_option linter.unusedVariables false
namespace Go.Lift
open Go
def noP:Prog×Bool:=(⟨[],[]⟩,false)
def w8(p:Prog)(part loop:Int)(g f:Affine→Affine):Prog×Bool:=
 match ix p.parts part with
 |some P=>match ix P.nest loop with
  |some l=>K1 ⟨p.arrays,p.parts.set part.toNat (gD loop.toNat g f P l)⟩
  |none=>noP
 |none=>noP
theorem E5{p:Prog}{part loop:Int}(h:iC p part loop=true):jP p=true∧ ∃(i k:Nat) (P:Part) (l:Loop),part=i∧loop=k∧p.parts[i]? =some P∧P.nest[k]? =some l∧i<p.parts.length∧k<P.nest.length∧cD p.arrays P=true∧k<4:=by
 unfold iC at h
 rw [Bool.and_eq_true] at h
 obtain⟨hv,h⟩:=h
 refine⟨hv,?_⟩
 cases hx:ix p.parts part with
 |none=>rw [hx] at h;cases h
 |some P=>
  rw [hx] at h
  obtain⟨i,rfl,hi,hP⟩:=aHP hx
  obtain⟨h1,h2⟩:=of_decide_eq_true h
  obtain⟨l,hl,hl2⟩:=iL h1 h2
  have hok:=(aBb hv).2.2.2.1 P (List.mem_of_getElem? hP)
  have:=(pW hok).1
  exact⟨i,loop.toNat,P,l,rfl,by omega,hP,hl2,hi,by omega,hok,by omega⟩
theorem S2{list:List Arr}{P:Part}(hP:cD list P=true){k:Nat}{l:Loop}(hl:P.nest[k]? =some l){g f:Affine→Affine}(hg: ∀x,bI x=true→BA 4 (g x))(hf: ∀x,bI x=true→BA 4 (f x)):BPt 4 (gD k g f P l):=by
 obtain⟨h1,h2⟩:=pW hP
 obtain⟨_,h4,h5,_⟩:=lR hP
 have hk:=(List.getElem?_eq_some_iff.1 hl).1
 refine⟨⟨by simp only [gD,List.length_append,List.length_cons,List.length_map,List.length_take,List.length_drop];omega,fun y hy=> ?_⟩,by simp only [gD,List.length_map];exact h4.2,fun s hs=> ?_⟩
 ·rcases List.mem_append.1 hy with hy|hy
  ·exact((aH7 hP).1.2 y (List.mem_of_mem_take hy))
  ·rcases List.mem_cons.1 hy with rfl|hy
   ·exact aC0 hg (h2 l (List.mem_of_getElem? hl))
   ·obtain⟨z,hz,rfl⟩:=List.mem_map.1 hy
    exact aC0 hf (h2 z (List.mem_of_mem_drop hz))
 ·obtain⟨z,hz,rfl⟩:=List.mem_map.1 hs
  exact aH6 hf (h5 z hz)
theorem aFE{p:Prog}(hp:BG 1000 p)(i:Nat){y:Part}(hy:BPt 4 y):BG 1000 ⟨p.arrays,p.parts.set i y⟩:=⟨hp.1,by dsimp only;rw [List.length_set];exact hp.2.1,pO hp.2.2 (hy.mono (by omega))⟩
theorem zI{k:Int}{b:Affine}(hb:b.coefs.length=4): ∀x,bI x=true→BA 4 (kG x k b):=fun x hx=>by
 have:=aIb x b k (iS hx).1 hb
 unfold BA;omega
theorem aE3{k:Nat}{b:Affine}(hb:b.coefs.length=4): ∀x,bI x=true→BA 4 (fB k b x):=fun x hx=>zI hb x hx
theorem aEm{k:Nat}(hk:k<4){b:Affine}(hb:bB 6 b):bB 1000 (toB k b):=by
 obtain⟨b,bc⟩:=b
 obtain⟨h1,h2,h3⟩:=hb
 dsimp only at h1 h2 h3
 obtain⟨b0,b1,b2,b3,rfl⟩:=yU h1
 have c0:=h3 b0 (by simp)
 have c1:=h3 b1 (by simp)
 have c2:=h3 b2 (by simp)
 have c3:=h3 b3 (by simp)
 unfold oL at h2 c0 c1 c2 c3
 rcases(show k=0∨k=1∨k=2∨k=3 by omega) with rfl|rfl|rfl|rfl<;>
  (refine⟨rfl,?_,fun c hc=> ?_⟩<;>unfold oL<;>simp [toB,qT,kG] at* <;>omega)
theorem aGy{k:Nat}(hk:k<4){b:Affine}(hb:bB 6 b)(h0:b.coefs.getD k 0=0): ∀n,5000≤n→ ∀x,bI x=true→fR n x 1 (k:Int) (toB k b)=some (fB k b x):=fun n hn x hx=>by
 unfold fR
 rw [aA4 hn ((xQ hx).mono (by omega)) (aEm hk hb) hk,aEp (xQ hx).1 hb.1 hk h0];rfl
theorem aEn{α:Type}{l r:List α}{k:Nat}{x y:α}(h:l[k]? =some x):(l.take (k+1)++r).set k y=l.take k++y::r:=by
 have hk:=(List.getElem?_eq_some_iff.1 h).1
 rw [List.take_add_one,h,List.append_assoc,List.set_append_right _ _ (by simp;omega),List.length_take,Nat.min_eq_left (by omega),Nat.sub_self];rfl
theorem aGw{n:Nat}(hn:6000≤n){list:List Arr}{P:Part}(hP:cD list P=true){k:Nat}{l:Loop}(hl:P.nest[k]? =some l)(hk:k<4){b:Affine}(hb:bB 6 b)(h0:b.coefs.getD k 0=0):
  rC n P (k:Int) b=some (gD k (fun x=>kG x 1 b) (fB k b) P l):=by
 obtain⟨h1,h2⟩:=pW hP
 obtain⟨_,h4,h5,_⟩:=lR hP
 have hkl:=(List.getElem?_eq_some_iff.1 hl).1
 have hlp:=h2 l (List.mem_of_getElem? hl)
 have hc: ∀x,bI x=true→bV n x 1 b 1=some (kG x 1 b):=fun x hx=>by
  rw [A2 (by omega) ((xQ hx).mono (by omega)) (hb.mono (by omega)) ⟨by omega,by omega⟩ ⟨by omega,by omega⟩,U3]
 unfold rC
 simp only [aU hl,Option.bind_some]
 refine Ev.eq (aB (aEv n hk) (aB (A2 (by omega) ((aF7 hk).mono (by omega)) (hb.mono (by omega)) ⟨by omega,by omega⟩ ⟨by omega,by omega⟩) ?_))
 rw [U3]
 refine aB (aBu hn (by omega) h1 h2 h4.2 h5 (aGy hk hb h0)) ?_
 refine mD (n:=n) (l:=l.lo) (f:=fun x=>bV n x 1 b 1) (K:=fun x4=>aM (fun again15 ((x12,x13):(List Affine)×Int)=>
    bif decide (x13<(l.hi.length:Int)) then(
     Option.bind (ix l.hi x13) fun x16=>
     Option.bind (bV n x16 1 b 1) fun x17=>
     Option.bind (app x12 [x17]) fun x18=>
     again15 (x18,wr (x13+1))
    ) else(
     Option.bind (ix (P.nest.take (k+1)++(P.nest.drop (k+1)).map (cK (fB k b))) (k:Int)) fun x19=>
     Option.bind (dD (P.nest.take (k+1)++(P.nest.drop (k+1)).map (cK (fB k b))) (k:Int) (⟨x4,x12⟩:Loop)) fun x20=>
     some (⟨x20,P.body.map (l6 (fB k b))⟩:Part)
    )
   ) n ([],0)) (fun x hx=>hc x (hlp.1.2 x hx)) (by have:=hlp.1.1;omega) (by omega) ?_
 refine mD (n:=n) (l:=l.hi) (f:=fun x=>bV n x 1 b 1) (g:=fun x=>kG x 1 b) (K:=fun x12=>Option.bind (ix (P.nest.take (k+1)++(P.nest.drop (k+1)).map (cK (fB k b))) (k:Int)) fun x19=>Option.bind (dD (P.nest.take (k+1)++(P.nest.drop (k+1)).map (cK (fB k b))) (k:Int) (⟨l.lo.map (fun x=>kG x 1 b),x12⟩:Loop)) fun x20=>some (⟨x20,P.body.map (l6 (fB k b))⟩:Part)) (fun x hx=>hc x (hlp.2.2 x hx)) (by have:=hlp.2.1;omega) (by omega) ?_
 have hx:(P.nest.take (k+1)++(P.nest.drop (k+1)).map (cK (fB k b)))[k]? =some l:=by
  rw [List.getElem?_append_left (by simp;omega),List.getElem?_take,if_pos (by omega)];exact hl
 refine aB (aU hx) (aB (eI (by simp;omega) _) (Ev.some ?_))
 rw [Int.toNat_natCast,aEn hl];rfl
def sA(s:Int):Affine:=⟨[0,0,0,0],s⟩
theorem aCv{s:Int}(h: -6≤s∧s≤6):bB 6 (sA s):=by unfold sA bB oL;simp;omega
theorem aHF(s:Int){k:Nat}(hk:k<4):(sA s).coefs.getD k 0=0:=by
 rcases(show k=0∨k=1∨k=2∨k=3 by omega) with rfl|rfl|rfl|rfl<;>rfl
def oB(p:Prog)(part loop by_:Int):Prog×Bool:=
 if iC p part loop=true∧(-6≤by_∧by_≤6) then w8 p part loop (fun x=>kG x 1 (sA by_)) (fB loop.toNat (sA by_)) else noP
theorem aDq(n:Nat)(s:Int):sH n s=some (decide (-6≤s∧s≤6)):=by
 unfold sH;rw [dX];rfl
theorem Z8{p:Prog}{part loop:Int}(h:loop<0):iC p part loop=false:=by
 cases hc:iC p part loop with
 |false=>rfl
 |true=>obtain⟨_,i,k,P,l,_,hk,_⟩:=E5 hc;omega
theorem o7{p:Prog}{i k:Nat}{P:Part}{l:Loop}(hP:p.parts[i]? =some P)(hl:P.nest[k]? =some l)(g f:Affine→Affine):w8 p (i:Int) (k:Int) g f=K1 ⟨p.arrays,p.parts.set i (gD k g f P l)⟩:=by
 unfold w8
 rw [aU hP]
 dsimp only
 rw [aU hl];rfl
theorem aA6{n:Nat}(hn:7000≤n){p:Prog}(hp:BG 1000 p)(part loop by_:Int):lN n p part loop by_=some (oB p part loop by_):=by
 unfold lN oB
 refine Ev.eq (aB (aBn (by omega) hp) (Ev.jn (fun z=>z= !(iC p part loop&&decide (-6≤by_∧by_≤6))) (fun j hj=> ?_) (fun z hz=> ?_)))
 ·refine aB (aHV hn hp part loop) (Ev.cond (fun h=>hj _ ?_) (fun h=>aB (nW n by_ 6 (by omega)) (hj _ ?_)))
  ·rw [show iC p part loop=false by simpa using h];rfl
  ·rw [show iC p part loop=true by simpa using h];rfl
 ·subst hz
  by_cases hc:iC p part loop=true∧(-6≤by_∧by_≤6)
  ·rw [if_pos hc,hc.1,decide_eq_true hc.2]
   refine bZ ?_
   obtain⟨hv,i,k,P,l,rfl,rfl,hP,hl,hi,hkl,hok,hk⟩:=E5 hc.1
   refine aB (aU hP) (aB (fX n by_) (aB (aGw (by omega) hok hl hk (aCv hc.2) (aHF _ hk)) (aB (aF3 hn hp hi ((S2 hok hl (zI (aCv hc.2).1) (aE3 (aCv hc.2).1)).mono (by omega))) (Ev.some ?_))))
   rw [o7 hP hl];rfl
  ·rw [if_neg hc,show(iC p part loop&&decide (-6≤by_∧by_≤6))=false by
    cases h1:iC p part loop with
    |false=>rfl
    |true=>exact decide_eq_false (fun h2=>hc ⟨h1,h2⟩)]
   exact bW (Ev.some rfl)
theorem aDb{n:Nat}(hn:5000≤n){s:Int}(hs: -6≤s∧s≤6): ∀x,bI x=true→gA n x s=some (kG x 1 (sA s)):=fun x hx=>by
 unfold gA
 have hc:nJ n 1=some ⟨[0,0,0,0],1⟩:=rfl
 rw [hc]
 refine Ev.eq (aB rfl (aB (Z6 hn ((xQ hx).mono (by omega)) (b:=⟨[0,0,0,0],1⟩) (by unfold bB oL;simp) ⟨by omega,by omega⟩) (Ev.some ?_)))
 unfold kG sA
 obtain⟨a0,a1,a2,a3,e⟩:=yU (iS hx).1
 rw [e]
 simp
theorem aDa{n:Nat}(hn:5000≤n){k:Nat}(hk:k<4){s:Int}(hs: -6≤s∧s≤6): ∀x,bI x=true→eS n x (k:Int) (⟨(qT k).coefs,wr (0-s)⟩:Affine)=some (fB k (sA s) x):=fun x hx=>by
 have e:(⟨(qT k).coefs,wr (0-s)⟩:Affine)=toB k (sA s):=by
  rw [aP (by omega)]
  rcases(show k=0∨k=1∨k=2∨k=3 by omega) with rfl|rfl|rfl|rfl<;>(unfold qT toB sA kG qT;simp)
 unfold eS
 rw [e,aBz hn ((xQ hx).mono (by omega)) (aEm hk (aCv hs)) hk,aEp (xQ hx).1 rfl hk (aHF _ hk)];rfl
theorem aDF{n:Nat}(hn:7000≤n){p:Prog}(hp:BG 1000 p)(part:Int):Ev (mF n p part (-1)) (fun r=>r.2=false→r=noP):=by
 unfold mF
 refine Ev.jn (fun z=>z=false→jP p=true∧(0≤part∧part<(p.parts.length:Int))) (fun j hj=> ?_) (fun z hz=> ?_)
 ·refine aB (jU hn hp.sm) (Ev.cond (fun h=>hj _ (fun h=>by cases h)) (fun h=> ?_))
  refine aB (xD n hp.2.1 part) (Ev.cond (fun h=>hj _ (fun h=>by cases h)) (fun h2=>iT (fun h=>(h rfl).elim) (fun _=>hj _ (fun _=>⟨by simpa using h,by simpa using h2⟩))))
 ·refine Ev.cond (fun _=>Ev.some (fun _=>rfl)) (fun h=> ?_)
  obtain⟨hv,h1,h2⟩:=hz h
  obtain⟨x,hx,hx2⟩:=iL h1 h2
  exact aB (aBe (by omega) hv) (aB hx (Ev.some (fun h=>by cases h)))
theorem E2{n:Nat}(hn:7000≤n){p:Prog}(hp:BG 1000 p)(part loop by_:Int):gP n p part loop by_=some (oB p part loop by_):=by
 unfold gP oB
 by_cases hneg:loop= -1
 ·subst hneg
  rw [if_neg (fun h=>by rw [Z8 (by omega)] at h;cases h.1)]
  refine Ev.eq (aL (aDF hn hp part) (fun x1 h1=>Ev.cond (fun _=>Ev.jn (fun z=>z=true) (fun j hj=>aI (fun _=>hj _ rfl) (fun h=>absurd (show(-1:Int)<0 by omega) h)) (fun z hz=>by rw [hz];exact bW (Ev.some rfl))) (fun _=>Ev.some rfl)))
 refine Ev.eq (aB (aFF hn hp part loop hneg) ?_)
 by_cases hb:iC p part loop=true
 ·rw [if_pos hb]
  refine bW (Ev.jn (fun z=>z= !decide (-6≤by_∧by_≤6)) (fun j hj=> ?_) (fun z hz=> ?_))
  ·refine aI (fun h=> ?_) (fun _=>aB (aDq n by_) (hj _ rfl))
   rw [Z8 h] at hb;cases hb
  ·subst hz
   by_cases hs: -6≤by_∧by_≤6
   ·rw [if_pos ⟨hb,hs⟩,decide_eq_true hs]
    refine bZ ?_
    obtain⟨hv,i,k,P,l,rfl,rfl,hP,hl,hi,hkl,hok,hk⟩:=E5 hb
    obtain⟨h1,h2⟩:=pW hok
    obtain⟨_,h4,h5,_⟩:=lR hok
    refine aB (aU hP) (aB (aU hl) (aB (tI (by omega) (h2 l (List.mem_of_getElem? hl)) (aDb (by omega) hs)) (aB (eI (by omega) _) (aB (eI (by dsimp only;omega) _) (aB (aEU n hk) ?_)))))
    rw [aP (n:=(k:Int)+1) (by omega)]
    have hch:=J6 (n:=n) (by omega) (nest:=P.nest.set k (cK (fun x=>kG x 1 (sA by_)) l)) (body:=P.body) (s:=k+1) (by simp;omega) (by simp;omega) (fun y hy=>by
     rw [List.drop_set_of_lt (by omega)] at hy
     exact h2 y (List.mem_of_mem_drop hy)) h4.2 h5 (F:=fun q0=>eS n q0 (k:Int) (⟨(qT k).coefs,wr (0-by_)⟩:Affine)) (aDa (by omega) hk hs)
    rw [Int.toNat_natCast,Int.toNat_natCast]
    refine aB hch (aB (eI (by simp;omega) _) ?_)
    rw [Int.toNat_natCast,List.set_set]
    have hm:(⟨(P.nest.set k (cK (fun x=>kG x 1 (sA by_)) l)).take (k+1)++((P.nest.set k (cK (fun x=>kG x 1 (sA by_)) l)).drop (k+1)).map (cK (fB k (sA by_))),P.body.map (l6 (fB k (sA by_)))⟩:Part)=gD k (fun x=>kG x 1 (sA by_)) (fB k (sA by_)) P l:=by
     rw [List.drop_set_of_lt (by omega),List.take_add_one,List.getElem?_set_self (by omega),List.take_set_of_le (Nat.le_refl k),List.append_assoc];rfl
    rw [hm]
    refine aB (aAe hn (aFE hp i (S2 hok hl (zI rfl) (aE3 rfl)))) (Ev.some ?_)
    rw [o7 hP hl]
   ·rw [if_neg (fun h=>hs h.2),decide_eq_false hs]
    exact bW (Ev.some rfl)
 ·rw [if_neg hb,if_neg (fun h=>hb h.1)]
  exact bZ (Ev.some rfl)
end Go.Lift
