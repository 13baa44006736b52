/- Shifts and skews: the program's and the reference's, and the way back. -/
import Derived.Test.YtohillieiccgdaaGreatKTransD
set_option maxRecDepth 100000
set_option linter.unusedVariables false
namespace Go.Lift
open Go
def noP:Prog×Bool:=(⟨[],[]⟩,false)
def xB(p:Prog)(part loop:Int)(g f:Affine→Affine):Prog×Bool:=
 match ix p.parts part with
 |some P=>match ix P.nest loop with
  |some l=>E9 ⟨p.arrays,p.parts.set part.toNat (gC loop.toNat g f P l)⟩
  |none=>noP
 |none=>noP
theorem sL{p:Prog}{part loop:Int}(h:eM p part loop=true):jS p=true∧ ∃(i k:Nat) (P:Part) (l:Loop),part=i∧loop=k∧p.parts[i]? =some P∧P.nest[k]? =some l∧i<p.parts.length∧k<P.nest.length∧cD p.arrays P=true∧k<4:=by
 unfold eM at h
 rw [Bool.and_eq_true] at h
 obtain⟨hv,h⟩:=h
 refine⟨hv,?_⟩
 cases hx:ix p.parts part with
 |none=>rw [hx] at h;cases h
 |some P=>
  rw [hx] at h
  obtain⟨i,rfl,hi,hP⟩:=aHR hx
  obtain⟨h1,h2⟩:=of_decide_eq_true h
  obtain⟨l,hl,hl2⟩:=iJ h1 h2
  have hok:=(aBe hv).2.2.2.1 P (List.mem_of_getElem? hP)
  have:=(pY hok).1
  exact⟨i,loop.toNat,P,l,rfl,by omega,hP,hl2,hi,by omega,hok,by omega⟩
theorem S2{list:List Arr}{P:Part}(hP:cD list P=true){k:Nat}{l:Loop}(hl:P.nest[k]? =some l){g f:Affine→Affine}(hg: ∀x,bI x=true→BA 4 (g x))(hf: ∀x,bI x=true→BA 4 (f x)):BPt 4 (gC k g f P l):=by
 obtain⟨h1,h2⟩:=pY hP
 obtain⟨_,h4,h5,_⟩:=lR hP
 have hk:=(List.getElem?_eq_some_iff.1 hl).1
 refine⟨⟨by simp only [gC,List.length_append,List.length_cons,List.length_map,List.length_take,List.length_drop];omega,fun y hy=> ?_⟩,by simp only [gC,List.length_map];exact h4.2,fun s hs=> ?_⟩
 ·rcases List.mem_append.1 hy with hy|hy
  ·exact((aH8 hP).1.2 y (List.mem_of_mem_take hy))
  ·rcases List.mem_cons.1 hy with rfl|hy
   ·exact aC0 hg (h2 l (List.mem_of_getElem? hl))
   ·obtain⟨z,hz,rfl⟩:=List.mem_map.1 hy
    exact aC0 hf (h2 z (List.mem_of_mem_drop hz))
 ·obtain⟨z,hz,rfl⟩:=List.mem_map.1 hs
  exact aH7 hf (h5 z hz)
theorem aFH{p:Prog}(hp:BG 1000 p)(i:Nat){y:Part}(hy:BPt 4 y):BG 1000 ⟨p.arrays,p.parts.set i y⟩:=⟨hp.1,by dsimp only;rw [List.length_set];exact hp.2.1,nY hp.2.2 (hy.mono (by omega))⟩
theorem zI{k:Int}{b:Affine}(hb:b.coefs.length=4): ∀x,bI x=true→BA 4 (iY x k b):=fun x hx=>by
 have:=aId x b k (iQ hx).1 hb
 unfold BA;omega
theorem aE5{k:Nat}{b:Affine}(hb:b.coefs.length=4): ∀x,bI x=true→BA 4 (fB k b x):=fun x hx=>zI hb x hx
theorem aEm{k:Nat}(hk:k<4){b:Affine}(hb:bB 6 b):bB 1000 (toB k b):=by
 obtain⟨b,bc⟩:=b
 obtain⟨h1,h2,h3⟩:=hb
 dsimp only at h1 h2 h3
 obtain⟨b0,b1,b2,b3,rfl⟩:=yX h1
 have c0:=h3 b0 (by simp)
 have c1:=h3 b1 (by simp)
 have c2:=h3 b2 (by simp)
 have c3:=h3 b3 (by simp)
 unfold pB at h2 c0 c1 c2 c3
 rcases(show k=0∨k=1∨k=2∨k=3 by omega) with rfl|rfl|rfl|rfl<;>
  (refine⟨rfl,?_,fun c hc=> ?_⟩<;>unfold pB<;>simp [toB,nX,iY] at* <;>omega)
theorem aGB{k:Nat}(hk:k<4){b:Affine}(hb:bB 6 b)(h0:b.coefs.getD k 0=0): ∀n,5000≤n→ ∀x,bI x=true→fS n x 1 (k:Int) (toB k b)=some (fB k b x):=fun n hn x hx=>by
 unfold fS
 rw [aA8 hn ((xU hx).mono (by omega)) (aEm hk hb) hk,aEp (xU hx).1 hb.1 hk h0];rfl
theorem aEn{α:Type}{l r:List α}{k:Nat}{x y:α}(h:l[k]? =some x):(l.take (k+1)++r).set k y=l.take k++y::r:=by
 have hk:=(List.getElem?_eq_some_iff.1 h).1
 rw [List.take_add_one,h,List.append_assoc,List.set_append_right _ _ (by simp;omega),List.length_take,Nat.min_eq_left (by omega),Nat.sub_self];rfl
theorem aGz{n:Nat}(hn:6000≤n){list:List Arr}{P:Part}(hP:cD list P=true){k:Nat}{l:Loop}(hl:P.nest[k]? =some l)(hk:k<4){b:Affine}(hb:bB 6 b)(h0:b.coefs.getD k 0=0):
  rE n P (k:Int) b=some (gC k (fun x=>iY x 1 b) (fB k b) P l):=by
 obtain⟨h1,h2⟩:=pY hP
 obtain⟨_,h4,h5,_⟩:=lR hP
 have hkl:=(List.getElem?_eq_some_iff.1 hl).1
 have hlp:=h2 l (List.mem_of_getElem? hl)
 have hc: ∀x,bI x=true→bT n x 1 b 1=some (iY x 1 b):=fun x hx=>by
  rw [vE (by omega) ((xU hx).mono (by omega)) (hb.mono (by omega)) ⟨by omega,by omega⟩ ⟨by omega,by omega⟩,U3]
 unfold rE
 simp only [aU hl,Option.bind_some]
 refine Ev.eq (aB (Y6 n hk) (aB (vE (by omega) ((uY hk).mono (by omega)) (hb.mono (by omega)) ⟨by omega,by omega⟩ ⟨by omega,by omega⟩) ?_))
 rw [U3]
 refine aB (aBx hn (by omega) h1 h2 h4.2 h5 (aGB hk hb h0)) ?_
 refine mF (n:=n) (l:=l.lo) (f:=fun x=>bT n x 1 b 1) (K:=fun x4=>aM (fun again15 ((x12,x13):(List Affine)×Int)=>
    bif decide (x13<(l.hi.length:Int)) then(
     Option.bind (ix l.hi x13) fun x16=>
     Option.bind (bT n x16 1 b 1) fun x17=>
     Option.bind (app x12 [x17]) fun x18=>
     again15 (x18,wr (x13+1))
    ) else(
     Option.bind (ix (P.nest.take (k+1)++(P.nest.drop (k+1)).map (cK (fB k b))) (k:Int)) fun x19=>
     Option.bind (dE (P.nest.take (k+1)++(P.nest.drop (k+1)).map (cK (fB k b))) (k:Int) (⟨x4,x12⟩:Loop)) fun x20=>
     some (⟨x20,P.body.map (l6 (fB k b))⟩:Part)
    )
   ) n ([],0)) (fun x hx=>hc x (hlp.1.2 x hx)) (by have:=hlp.1.1;omega) (by omega) ?_
 refine mF (n:=n) (l:=l.hi) (f:=fun x=>bT n x 1 b 1) (g:=fun x=>iY x 1 b) (K:=fun x12=>Option.bind (ix (P.nest.take (k+1)++(P.nest.drop (k+1)).map (cK (fB k b))) (k:Int)) fun x19=>Option.bind (dE (P.nest.take (k+1)++(P.nest.drop (k+1)).map (cK (fB k b))) (k:Int) (⟨l.lo.map (fun x=>iY x 1 b),x12⟩:Loop)) fun x20=>some (⟨x20,P.body.map (l6 (fB k b))⟩:Part)) (fun x hx=>hc x (hlp.2.2 x hx)) (by have:=hlp.2.1;omega) (by omega) ?_
 have hx:(P.nest.take (k+1)++(P.nest.drop (k+1)).map (cK (fB k b)))[k]? =some l:=by
  rw [List.getElem?_append_left (by simp;omega),List.getElem?_take,if_pos (by omega)];exact hl
 refine aB (aU hx) (aB (eG (by simp;omega) _) (Ev.some ?_))
 rw [Int.toNat_natCast,aEn hl];rfl
theorem aDq(n:Nat)(s:Int):sJ n s=some (decide (-6≤s∧s≤6)):=by
 unfold sJ;rw [dW];rfl
theorem aEY{p:Prog}{part loop:Int}(h:loop<0):eM p part loop=false:=by
 cases hc:eM p part loop with
 |false=>rfl
 |true=>obtain⟨_,i,k,P,l,_,hk,_⟩:=sL hc;omega
theorem o8{p:Prog}{i k:Nat}{P:Part}{l:Loop}(hP:p.parts[i]? =some P)(hl:P.nest[k]? =some l)(g f:Affine→Affine):xB p (i:Int) (k:Int) g f=E9 ⟨p.arrays,p.parts.set i (gC k g f P l)⟩:=by
 unfold xB
 rw [aU hP]
 dsimp only
 rw [aU hl];rfl
theorem aDF{n:Nat}(hn:7000≤n){p:Prog}(hp:BG 1000 p)(part:Int):Ev (mH n p part (-1)) (fun r=>r.2=false→r=noP):=by
 unfold mH
 refine Ev.jn (fun z=>z=false→jS p=true∧(0≤part∧part<(p.parts.length:Int))) (fun j hj=> ?_) (fun z hz=> ?_)
 ·refine aB (jY hn hp.sm) (Ev.cond (fun h=>hj _ (fun h=>by cases h)) (fun h=> ?_))
  refine aB (xG n hp.2.1 part) (Ev.cond (fun h=>hj _ (fun h=>by cases h)) (fun h2=>iR (fun h=>(h rfl).elim) (fun _=>hj _ (fun _=>⟨by simpa using h,by simpa using h2⟩))))
 ·refine Ev.cond (fun _=>Ev.some (fun _=>rfl)) (fun h=> ?_)
  obtain⟨hv,h1,h2⟩:=hz h
  obtain⟨x,hx,hx2⟩:=iJ h1 h2
  exact aB (aBh (by omega) hv) (aB hx (Ev.some (fun h=>by cases h)))
end Go.Lift
