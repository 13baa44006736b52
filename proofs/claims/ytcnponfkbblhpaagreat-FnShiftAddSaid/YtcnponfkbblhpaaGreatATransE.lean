/- Shifts and skews: the program's and the reference's, and the way back. -/
import Derived.Test.YtcnponfkbblhpaaGreatATransD
set_option maxRecDepth 100000
set_option linter.unusedVariables false
namespace Go.Lift
open Go
def noP:Prog×Bool:=(⟨[],[]⟩,false)
def C4(p:Prog)(part loop:Int)(g f:Affine→Affine):Prog×Bool:=
 match ix p.parts part with
 |some P=>match ix P.nest loop with
  |some l=>K1 ⟨p.arrays,p.parts.set part.toNat (gM loop.toNat g f P l)⟩
  |none=>noP
 |none=>noP
theorem E4{p:Prog}{part loop:Int}(h:iO p part loop=true):lR p=true∧ ∃(i k:Nat) (P:Part) (l:Loop),part=i∧loop=k∧p.parts[i]? =some P∧P.nest[k]? =some l∧i<p.parts.length∧k<P.nest.length∧cD p.arrays P=true∧k<4:=by
 unfold iO at h
 rw [Bool.and_eq_true] at h
 obtain⟨hv,h⟩:=h
 refine⟨hv,?_⟩
 cases hx:ix p.parts part with
 |none=>rw [hx] at h;cases h
 |some P=>
  rw [hx] at h
  obtain⟨i,rfl,hi,hP⟩:=aHS hx
  obtain⟨h1,h2⟩:=of_decide_eq_true h
  obtain⟨l,hl,hl2⟩:=iM h1 h2
  have hok:=(aEv hv).2.2.2.1 P (List.mem_of_getElem? hP)
  have:=(pZ hok).1
  exact⟨i,loop.toNat,P,l,rfl,by omega,hP,hl2,hi,by omega,hok,by omega⟩
theorem S5{list:List Arr}{P:Part}(hP:cD list P=true){k:Nat}{l:Loop}(hl:P.nest[k]? =some l){g f:Affine→Affine}(hg: ∀x,bH x=true→BA 4 (g x))(hf: ∀x,bH x=true→BA 4 (f x)):BPt 4 (gM k g f P l):=by
 obtain⟨h1,h2⟩:=pZ hP
 obtain⟨_,h4,h5,_⟩:=lT hP
 have hk:=(List.getElem?_eq_some_iff.1 hl).1
 refine⟨⟨by simp only [gM,List.length_append,List.length_cons,List.length_map,List.length_take,List.length_drop];omega,fun y hy=> ?_⟩,by simp only [gM,List.length_map];exact h4.2,fun s hs=> ?_⟩
 ·rcases List.mem_append.1 hy with hy|hy
  ·exact((aIb hP).1.2 y (List.mem_of_mem_take hy))
  ·rcases List.mem_cons.1 hy with rfl|hy
   ·exact aC1 hg (h2 l (List.mem_of_getElem? hl))
   ·obtain⟨z,hz,rfl⟩:=List.mem_map.1 hy
    exact aC1 hf (h2 z (List.mem_of_mem_drop hz))
 ·obtain⟨z,hz,rfl⟩:=List.mem_map.1 hs
  exact aIa hf (h5 z hz)
theorem aFw{p:Prog}(hp:BG 1000 p)(i:Nat){y:Part}(hy:BPt 4 y):BG 1000 ⟨p.arrays,p.parts.set i y⟩:=⟨hp.1,by dsimp only;rw [List.length_set];exact hp.2.1,pR hp.2.2 (hy.mono (by omega))⟩
theorem zH{k:Int}{b:Affine}(hb:b.coefs.length=4): ∀x,bH x=true→BA 4 (iP x k b):=fun x hx=>by
 have:=aId x b k (iV hx).1 hb
 unfold BA;omega
theorem aEV{k:Nat}{b:Affine}(hb:b.coefs.length=4): ∀x,bH x=true→BA 4 (fB k b x):=fun x hx=>zH hb x hx
theorem aEe{k:Nat}(hk:k<4){b:Affine}(hb:bB 6 b):bB 1000 (toB k b):=by
 obtain⟨b,bc⟩:=b
 obtain⟨h1,h2,h3⟩:=hb
 dsimp only at h1 h2 h3
 obtain⟨b0,b1,b2,b3,rfl⟩:=J6 h1
 have c0:=h3 b0 (by simp)
 have c1:=h3 b1 (by simp)
 have c2:=h3 b2 (by simp)
 have c3:=h3 b3 (by simp)
 unfold oO at h2 c0 c1 c2 c3
 rcases(show k=0∨k=1∨k=2∨k=3 by omega) with rfl|rfl|rfl|rfl<;>
  (refine⟨rfl,?_,fun c hc=> ?_⟩<;>unfold oO<;>simp [toB,qW,iP] at* <;>omega)
theorem aGB{k:Nat}(hk:k<4){b:Affine}(hb:bB 6 b)(h0:b.coefs.getD k 0=0): ∀n,5000≤n→ ∀x,bH x=true→fS n x 1 (k:Int) (toB k b)=some (fB k b x):=fun n hn x hx=>by
 unfold fS
 rw [aA6 hn ((xR hx).mono (by omega)) (aEe hk hb) hk,aEh (xR hx).1 hb.1 hk h0];rfl
theorem aEf{α:Type}{l r:List α}{k:Nat}{x y:α}(h:l[k]? =some x):(l.take (k+1)++r).set k y=l.take k++y::r:=by
 have hk:=(List.getElem?_eq_some_iff.1 h).1
 rw [List.take_add_one,h,List.append_assoc,List.set_append_right _ _ (by simp;omega),List.length_take,Nat.min_eq_left (by omega),Nat.sub_self];rfl
theorem aGx{n:Nat}(hn:6000≤n){list:List Arr}{P:Part}(hP:cD list P=true){k:Nat}{l:Loop}(hl:P.nest[k]? =some l)(hk:k<4){b:Affine}(hb:bB 6 b)(h0:b.coefs.getD k 0=0):
  rH n P (k:Int) b=some (gM k (fun x=>iP x 1 b) (fB k b) P l):=by
 obtain⟨h1,h2⟩:=pZ hP
 obtain⟨_,h4,h5,_⟩:=lT hP
 have hkl:=(List.getElem?_eq_some_iff.1 hl).1
 have hlp:=h2 l (List.mem_of_getElem? hl)
 have hc: ∀x,bH x=true→bV n x 1 b 1=some (iP x 1 b):=fun x hx=>by
  rw [A1 (by omega) ((xR hx).mono (by omega)) (hb.mono (by omega)) ⟨by omega,by omega⟩ ⟨by omega,by omega⟩,U6]
 unfold rH
 simp only [aU hl,Option.bind_some]
 refine Ev.eq (aB (aEm n hk) (aB (A1 (by omega) ((aFY hk).mono (by omega)) (hb.mono (by omega)) ⟨by omega,by omega⟩ ⟨by omega,by omega⟩) ?_))
 rw [U6]
 refine aB (aBu hn (by omega) h1 h2 h4.2 h5 (aGB hk hb h0)) ?_
 refine mF (n:=n) (l:=l.lo) (f:=fun x=>bV n x 1 b 1) (K:=fun x4=>aM (fun again15 ((x12,x13):(List Affine)×Int)=>
    bif decide (x13<(l.hi.length:Int)) then(
     Option.bind (ix l.hi x13) fun x16=>
     Option.bind (bV n x16 1 b 1) fun x17=>
     Option.bind (app x12 [x17]) fun x18=>
     again15 (x18,wr (x13+1))
    ) else(
     Option.bind (ix (P.nest.take (k+1)++(P.nest.drop (k+1)).map (cE (fB k b))) (k:Int)) fun x19=>
     Option.bind (dC (P.nest.take (k+1)++(P.nest.drop (k+1)).map (cE (fB k b))) (k:Int) (⟨x4,x12⟩:Loop)) fun x20=>
     some (⟨x20,P.body.map (jV (fB k b))⟩:Part)
    )
   ) n ([],0)) (fun x hx=>hc x (hlp.1.2 x hx)) (by have:=hlp.1.1;omega) (by omega) ?_
 refine mF (n:=n) (l:=l.hi) (f:=fun x=>bV n x 1 b 1) (g:=fun x=>iP x 1 b) (K:=fun x12=>Option.bind (ix (P.nest.take (k+1)++(P.nest.drop (k+1)).map (cE (fB k b))) (k:Int)) fun x19=>Option.bind (dC (P.nest.take (k+1)++(P.nest.drop (k+1)).map (cE (fB k b))) (k:Int) (⟨l.lo.map (fun x=>iP x 1 b),x12⟩:Loop)) fun x20=>some (⟨x20,P.body.map (jV (fB k b))⟩:Part)) (fun x hx=>hc x (hlp.2.2 x hx)) (by have:=hlp.2.1;omega) (by omega) ?_
 have hx:(P.nest.take (k+1)++(P.nest.drop (k+1)).map (cE (fB k b)))[k]? =some l:=by
  rw [List.getElem?_append_left (by simp;omega),List.getElem?_take,if_pos (by omega)];exact hl
 refine aB (aU hx) (aB (eJ (by simp;omega) _) (Ev.some ?_))
 rw [Int.toNat_natCast,aEf hl];rfl
def sA(s:Int):Affine:=⟨[0,0,0,0],s⟩
theorem aCw{s:Int}(h: -6≤s∧s≤6):bB 6 (sA s):=by unfold sA bB oO;simp;omega
theorem aIF(s:Int){k:Nat}(hk:k<4):(sA s).coefs.getD k 0=0:=by
 rcases(show k=0∨k=1∨k=2∨k=3 by omega) with rfl|rfl|rfl|rfl<;>rfl
def eD(p:Prog)(part loop by_:Int):Prog×Bool:=
 if iO p part loop=true∧(-6≤by_∧by_≤6) then C4 p part loop (fun x=>iP x 1 (sA by_)) (fB loop.toNat (sA by_)) else noP
theorem aDs(n:Nat)(s:Int):sK n s=some (decide (-6≤s∧s≤6)):=by
 unfold sK;rw [dX];rfl
theorem aAb{p:Prog}{part loop:Int}(h:loop<0):iO p part loop=false:=by
 cases hc:iO p part loop with
 |false=>rfl
 |true=>obtain⟨_,i,k,P,l,_,hk,_⟩:=E4 hc;omega
theorem o9{p:Prog}{i k:Nat}{P:Part}{l:Loop}(hP:p.parts[i]? =some P)(hl:P.nest[k]? =some l)(g f:Affine→Affine):C4 p (i:Int) (k:Int) g f=K1 ⟨p.arrays,p.parts.set i (gM k g f P l)⟩:=by
 unfold C4
 rw [aU hP]
 dsimp only
 rw [aU hl];rfl
theorem aA8{n:Nat}(hn:7000≤n){p:Prog}(hp:BG 1000 p)(part loop by_:Int):lN n p part loop by_=some (eD p part loop by_):=by
 unfold lN eD
 refine Ev.eq (aB (aBo (by omega) hp) (Ev.jn (fun z=>z= !(iO p part loop&&decide (-6≤by_∧by_≤6))) (fun j hj=> ?_) (fun z hz=> ?_)))
 ·refine aB (aHY hn hp part loop) (Ev.cond (fun h=>hj _ ?_) (fun h=>aB (nY n by_ 6 (by omega)) (hj _ ?_)))
  ·rw [show iO p part loop=false by simpa using h];rfl
  ·rw [show iO p part loop=true by simpa using h];rfl
 ·subst hz
  by_cases hc:iO p part loop=true∧(-6≤by_∧by_≤6)
  ·rw [if_pos hc,hc.1,decide_eq_true hc.2]
   refine bZ ?_
   obtain⟨hv,i,k,P,l,rfl,rfl,hP,hl,hi,hkl,hok,hk⟩:=E4 hc.1
   refine aB (aU hP) (aB (fY n by_) (aB (aGx (by omega) hok hl hk (aCw hc.2) (aIF _ hk)) (aB (aFU hn hp hi ((S5 hok hl (zH (aCw hc.2).1) (aEV (aCw hc.2).1)).mono (by omega))) (Ev.some ?_))))
   rw [o9 hP hl];rfl
  ·rw [if_neg hc,show(iO p part loop&&decide (-6≤by_∧by_≤6))=false by
    cases h1:iO p part loop with
    |false=>rfl
    |true=>exact decide_eq_false (fun h2=>hc ⟨h1,h2⟩)]
   exact bW (Ev.some rfl)
theorem aDd{n:Nat}(hn:5000≤n){s:Int}(hs: -6≤s∧s≤6): ∀x,bH x=true→gC n x s=some (iP x 1 (sA s)):=fun x hx=>by
 unfold gC
 have hc:nL n 1=some ⟨[0,0,0,0],1⟩:=rfl
 rw [hc]
 refine Ev.eq (aB rfl (aB (Z9 hn ((xR hx).mono (by omega)) (b:=⟨[0,0,0,0],1⟩) (by unfold bB oO;simp) ⟨by omega,by omega⟩) (Ev.some ?_)))
 unfold iP sA
 obtain⟨a0,a1,a2,a3,e⟩:=J6 (iV hx).1
 rw [e]
 simp
theorem aDc{n:Nat}(hn:5000≤n){k:Nat}(hk:k<4){s:Int}(hs: -6≤s∧s≤6): ∀x,bH x=true→eU n x (k:Int) (⟨(qW k).coefs,wr (0-s)⟩:Affine)=some (fB k (sA s) x):=fun x hx=>by
 have e:(⟨(qW k).coefs,wr (0-s)⟩:Affine)=toB k (sA s):=by
  rw [aP (by omega)]
  rcases(show k=0∨k=1∨k=2∨k=3 by omega) with rfl|rfl|rfl|rfl<;>(unfold qW toB sA iP qW;simp)
 unfold eU
 rw [e,aBz hn ((xR hx).mono (by omega)) (aEe hk (aCw hs)) hk,aEh (xR hx).1 rfl hk (aIF _ hk)];rfl
theorem aDH{n:Nat}(hn:7000≤n){p:Prog}(hp:BG 1000 p)(part:Int):Ev (mH n p part (-1)) (fun r=>r.2=false→r=noP):=by
 unfold mH
 refine Ev.jn (fun z=>z=false→lR p=true∧(0≤part∧part<(p.parts.length:Int))) (fun j hj=> ?_) (fun z hz=> ?_)
 ·refine aB (jY hn hp.sm) (Ev.cond (fun h=>hj _ (fun h=>by cases h)) (fun h=> ?_))
  refine aB (xE n hp.2.1 part) (Ev.cond (fun h=>hj _ (fun h=>by cases h)) (fun h2=>iW (fun h=>(h rfl).elim) (fun _=>hj _ (fun _=>⟨by simpa using h,by simpa using h2⟩))))
 ·refine Ev.cond (fun _=>Ev.some (fun _=>rfl)) (fun h=> ?_)
  obtain⟨hv,h1,h2⟩:=hz h
  obtain⟨x,hx,hx2⟩:=iM h1 h2
  exact aB (aBf (by omega) hv) (aB hx (Ev.some (fun h=>by cases h)))
theorem uC{n:Nat}(hn:7000≤n){p:Prog}(hp:BG 1000 p)(part loop by_:Int):gQ n p part loop by_=some (eD p part loop by_):=by
 unfold gQ eD
 by_cases hneg:loop= -1
 ·subst hneg
  rw [if_neg (fun h=>by rw [aAb (by omega)] at h;cases h.1)]
  refine Ev.eq (aL (aDH hn hp part) (fun x1 h1=>Ev.cond (fun _=>Ev.jn (fun z=>z=true) (fun j hj=>aI (fun _=>hj _ rfl) (fun h=>absurd (show(-1:Int)<0 by omega) h)) (fun z hz=>by rw [hz];exact bW (Ev.some rfl))) (fun _=>Ev.some rfl)))
 refine Ev.eq (aB (aFx hn hp part loop hneg) ?_)
 by_cases hb:iO p part loop=true
 ·rw [if_pos hb]
  refine bW (Ev.jn (fun z=>z= !decide (-6≤by_∧by_≤6)) (fun j hj=> ?_) (fun z hz=> ?_))
  ·refine aI (fun h=> ?_) (fun _=>aB (aDs n by_) (hj _ rfl))
   rw [aAb h] at hb;cases hb
  ·subst hz
   by_cases hs: -6≤by_∧by_≤6
   ·rw [if_pos ⟨hb,hs⟩,decide_eq_true hs]
    refine bZ ?_
    obtain⟨hv,i,k,P,l,rfl,rfl,hP,hl,hi,hkl,hok,hk⟩:=E4 hb
    obtain⟨h1,h2⟩:=pZ hok
    obtain⟨_,h4,h5,_⟩:=lT hok
    refine aB (aU hP) (aB (aU hl) (aB (tM (by omega) (h2 l (List.mem_of_getElem? hl)) (aDd (by omega) hs)) (aB (eJ (by omega) _) (aB (eJ (by dsimp only;omega) _) (aB (aEM n hk) ?_)))))
    rw [aP (n:=(k:Int)+1) (by omega)]
    have hch:=J5 (n:=n) (by omega) (nest:=P.nest.set k (cE (fun x=>iP x 1 (sA by_)) l)) (body:=P.body) (s:=k+1) (by simp;omega) (by simp;omega) (fun y hy=>by
     rw [List.drop_set_of_lt (by omega)] at hy
     exact h2 y (List.mem_of_mem_drop hy)) h4.2 h5 (F:=fun q0=>eU n q0 (k:Int) (⟨(qW k).coefs,wr (0-by_)⟩:Affine)) (aDc (by omega) hk hs)
    rw [Int.toNat_natCast,Int.toNat_natCast]
    refine aB hch (aB (eJ (by simp;omega) _) ?_)
    rw [Int.toNat_natCast,List.set_set]
    have hm:(⟨(P.nest.set k (cE (fun x=>iP x 1 (sA by_)) l)).take (k+1)++((P.nest.set k (cE (fun x=>iP x 1 (sA by_)) l)).drop (k+1)).map (cE (fB k (sA by_))),P.body.map (jV (fB k (sA by_)))⟩:Part)=gM k (fun x=>iP x 1 (sA by_)) (fB k (sA by_)) P l:=by
     rw [List.drop_set_of_lt (by omega),List.take_add_one,List.getElem?_set_self (by omega),List.take_set_of_le (Nat.le_refl k),List.append_assoc];rfl
    rw [hm]
    refine aB (aAh hn (aFw hp i (S5 hok hl (zH rfl) (aEV rfl)))) (Ev.some ?_)
    rw [o9 hP hl]
   ·rw [if_neg (fun h=>hs h.2),decide_eq_false hs]
    exact bW (Ev.some rfl)
 ·rw [if_neg hb,if_neg (fun h=>hb h.1)]
  exact bZ (Ev.some rfl)
end Go.Lift
