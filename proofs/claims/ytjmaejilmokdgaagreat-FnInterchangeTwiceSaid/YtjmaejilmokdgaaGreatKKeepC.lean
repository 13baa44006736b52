/- Interchange: what it yields; the law of interchanging twice. -/
import Derived.Test.YtjmaejilmokdgaaGreatKDist1
set_option maxRecDepth 100000
set_option linter.unusedVariables false
namespace Go.Lift
open Go
def G1(k:Nat)(l:List Loop):List Loop:=(l.set k (l.getD (k+1) ⟨[],[]⟩)).set (k+1) (l.getD k ⟨[],[]⟩)
theorem kF(k:Nat)(l:List Loop):(G1 k l).length=l.length:=by simp [G1]
def swP(k:Nat)(P:Part):Part:=⟨(G1 k P.nest).take (k+2)++((G1 k P.nest).drop (k+2)).map (eS (N2 k)),P.body.map (qI (N2 k))⟩
def aAE(p:Prog)(i k:Nat)(P:Part):Bool:= !aA4 (P.nest.getD (k+1) ⟨[],[]⟩) k&&(dsO p i).all fun d=>A8 (swD k d)
def nY(p:Prog)(part loop:Int):Prog×Bool:=
 if gT p part loop=true∧gT p part (loop+1)=true then
  match ix p.parts part with
  |some P=>if aAE p part.toNat loop.toNat P=true then aAN ⟨p.arrays,p.parts.set part.toNat (swP loop.toNat P)⟩ else noP
  |none=>noP
 else noP
theorem aB9{k:Nat}{l:List Loop}(hk:k+1<l.length){y:Loop}(hy:y∈G1 k l):y∈l:=by
 unfold G1 at hy;rcases vAZ hy with h|h
 ·rcases vAZ h with h|h
  ·exact h
  rw [h];exact cP (dF hk _)
 rw [h];exact cP (dF (by omega) _)
theorem aI0{list:List Arr}{P:Part}(hP:cW list P=true){k:Nat}(hk:k+1<P.nest.length):BPt 4 (swP k P):=by
 obtain⟨h1,h2⟩:=pO hP;obtain⟨_,h4,h5,_⟩:=hJ hP;refine⟨⟨by simp only [swP,List.length_append,List.length_map,List.length_take,List.length_drop,kF];omega,fun y hy=>?_⟩,by simp only [swP,List.length_map];exact h4.2,fun s hs=>?_⟩
 ·rcases wO.1 hy with hy|hy
  ·exact(aNE hP).1.2 y (aB9 hk (vAD hy))
  obtain⟨z,hz,rfl⟩:=vAV.1 hy;exact aMe aI2 (h2 z (aB9 hk (vAI hz)))
 obtain⟨z,hz,rfl⟩:=vAV.1 hs;exact aND aI2 (h5 z hz)
theorem Q0{p:Prog}{i k:Nat}{P:Part}(hP:p.parts[i]? =some P)(h:gT p (i:Int) ((k:Int)+1)=true):k+1<P.nest.length:=by
 obtain⟨_,i',k',P',l',e1,e2,h1,_,_,h2,_⟩:=I7 h
 have:i'=i:=by omega
 subst this;rw [hP] at h1;cases h1;omega
theorem aKY{p:Prog}(hp:BG 1000 p)(part loop:Int):BG 1000 (nY p part loop).1:=by
 unfold nY;split
 ·rename_i h;split
  ·rename_i P hx;split
   ·obtain⟨hv,i,k,P',l,rfl,rfl,hP,hl,hi,hkl,hok,hk⟩:=I7 h.1;rw [aN hP] at hx;cases hx;have hk1:=Q0 hP h.2
    have:=aKB hp i (aI0 hok hk1);rw [P0,P0];unfold aAN;split
    ·exact this
    exact aCj
   exact aCj
  exact aCj
 exact aCj
theorem O6{p:Prog}{i k:Nat}{P:Part}(h1:gT p (i:Int) (k:Int)=true)(h2:gT p (i:Int) ((k:Int)+1)=true)(hP:p.parts[i]? =some P):nY p i k=if aAE p i k P=true then aAN ⟨p.arrays,p.parts.set i (swP k P)⟩ else noP:=by unfold nY;rw [if_pos ⟨h1,h2⟩,aN hP];simp only [Int.toNat_natCast]
theorem aDZ{n:Nat}(hn:20000≤n){p:Prog}(hp:BG 1000 p)(part loop:Int):jJ n p part loop=some (nY p part loop):=by
 unfold jJ;by_cases hneg:loop= -1
 ·subst hneg;unfold nY;rw [if_neg fun h=>by rw [aD1 (by omega)] at h;cases h.1];exact Ev.eq (aL (aIk (by omega) hp part) fun x1 h1=>Ev.cond (fun _=>aH (fun _=>Ev.some rfl) fun h=>absurd (show(-1:Int)<0 by omega) h) fun _=>Ev.some rfl)
 refine Ev.eq (aA (aKC (by omega) hp part loop hneg) ?_);by_cases hb:gT p part loop=true
 ·rw [if_pos hb];refine cD (aH (fun h=>by rw [aD1 h] at hb;cases hb) fun h0=>?_);obtain⟨hv,i,k,P,l,rfl,rfl,hP,hl,hi,hkl,hok,hk⟩:=I7 hb;obtain⟨h1,h2⟩:=pO hok;obtain⟨_,h4,h5,_⟩:=hJ hok;refine aA (aN hP) ?_;rw [aS (n:=(k:Int)+1) (by omega),aS (n:=(k:Int)+2) (by omega)];refine aH (fun hge=>Ev.some ?_) fun hlt=>?_
  ·unfold nY;rw [if_neg fun h=>by have:=Q0 hP h.2;omega];rfl
  have hk1:k+1<P.nest.length:=by omega
  have hb2:gT p (i:Int) ((k:Int)+1)=true:=by
   unfold gT;rw [hv,aN hP];exact decide_eq_true (by omega)
  rw [O6 hb hb2 hP];have e6:=dF hk1 (⟨[],[]⟩:Loop);rw [show(k:Int)+1=((k+1:Nat):Int) by omega];refine aA (aN e6) (aA (aDY (by omega) (h2 _ (cP e6)) (by omega)) (Ev.cond (fun hu=>Ev.some ?_) fun hu=>?_))
  ·rw [if_neg (by unfold aAE;rw [hu];simp)];rfl
  refine aA (aFI hn hp.sm hv hP (F:=fun q0=>eZ n q0 (k:Int)) (f:=swD k) (fun d hd=>aJK (by have:=(C9 hv hP hd).1;omega) (by have:=(C9 hv hP hd).1;omega)) (aGT k)) (Ev.cond (fun hd=>?_) fun hd=>Ev.some ?_)
  ·rw [if_pos (by unfold aAE;rw [hu,hd];rfl)];refine aA (aN (dF (by omega) (⟨[],[]⟩:Loop))) (aA (dE (by omega) _) (aA (dE (by rw [vAL];omega) _) (aA (dE (by dsimp only;omega) _) ?_)));rw [P0,P0,P0];have hch:=aAH (n:=n) (by omega) (nest:=G1 k P.nest) (body:=P.body) (s:=k+2) (by rw [kF];omega) (by rw [kF];omega) (fun y hy=>h2 y (aB9 hk1 (vAI hy))) h4.2 h5 (F:=fun q0=>eY n q0 (k:Int)) (aJJ n (by omega));rw [show(k:Int)+2=((k+2:Nat):Int) by omega];refine aA hch (aA (dE (by simp;omega) _) ?_);rw [P0,List.set_set];exact aA (aD7 (by omega) (aKB hp i (aI0 hok hk1))) (Ev.some rfl)
  rw [if_neg (by unfold aAE;rw [hd];simp)];rfl
 unfold nY;rw [if_neg hb,if_neg fun h=>hb h.1];exact cE (Ev.some rfl)
theorem aI1{k:Nat}{l:List Loop}(hk:k+1<l.length)(j:Nat):(G1 k l)[j]? =if j=k then l[k+1]? else if j=k+1 then l[k]? else l[j]? :=by
 unfold G1;by_cases h1:j=k+1
 ·subst h1;rw [vAA (by rw [vAL];exact hk),if_neg (by omega),if_pos rfl];exact(dF (by omega) _).symm
 rw [vAG (by omega)];by_cases h2:j=k
 ·subst h2;rw [vAA (by omega),if_pos rfl];exact(dF hk _).symm
 rw [vAG (by omega),if_neg h2,if_neg h1]
theorem aLv{k:Nat}{l:List Loop}(hk:k+1<l.length):G1 k (G1 k l)=l:=by
 apply List.ext_getElem?;intro j;have h:=aI1 hk;rw [aI1 (by rw [kF];exact hk),h,h,h];by_cases h1:j=k
 ·subst h1;rw [if_pos rfl,if_neg (by omega),if_pos rfl]
 by_cases h2:j=k+1
 ·subst h2;rw [if_neg (by omega),if_pos rfl,if_pos rfl]
 rw [if_neg h1,if_neg h2,if_neg h1,if_neg h2]
theorem aCa{k:Nat}{a b:List Loop}(hk:k+1<a.length):G1 k (a++b)=G1 k a++b:=by
 have e1:(a++b).getD (k+1) ⟨[],[]⟩=a.getD (k+1) ⟨[],[]⟩:=by rw [N1,N1,R3 hk]
 have e2:(a++b).getD k ⟨[],[]⟩=a.getD k ⟨[],[]⟩:=by rw [N1,N1,R3 (by omega)]
 unfold G1;rw [e1,e2,List.set_append_left _ _ (by omega),List.set_append_left _ _ (by rw [vAL];exact hk)]
theorem aDt{k:Nat}{l:List Loop}(hk:k+1<l.length):G1 k (l.take (k+2))=(G1 k l).take (k+2):=by have h:=aCa (k:=k) (a:=l.take (k+2)) (b:=l.drop (k+2)) (by rw [qC];omega);rw [vBv] at h;rw [h,List.take_append_of_le_length (by rw [kF,qC];omega)];exact(vBb (by rw [kF,qC];omega)).symm
theorem aDu{k:Nat}{l:List Loop}:(G1 k l).drop (k+2)=l.drop (k+2):=by unfold G1;rw [List.drop_set_of_lt (by omega),List.drop_set_of_lt (by omega)]
theorem aNf{k:Nat}{P:Part}(hk:k+1<P.nest.length)(r:List Loop):G1 k (P.nest.take (k+2)++r)=(G1 k P.nest).take (k+2)++r:=by rw [aCa (by rw [qC];omega),aDt hk]
theorem aGU{k:Nat}(hk:k+1<4): ∀x,bX x=true→N2 k (N2 k x)=x:=fun x hx=>by obtain⟨a0,a1,a2,a3,e⟩:=aOV (gR hx).1;obtain⟨c,b⟩:=x;dsimp only at e;subst e;rcases(show k=0∨k=1∨k=2 by omega) with rfl|rfl|rfl<;>rfl
theorem aLu{list:List Arr}{P:Part}(hP:cW list P=true){k:Nat}(hk:k+1<P.nest.length):swP k (swP k P)=P:=by
 obtain⟨h1,h2⟩:=pO hP;obtain⟨_,h4,h5,_⟩:=hJ hP;have hk4:k+1<4:=by omega
 have ht:((G1 k P.nest).take (k+2)).length=k+2:=by rw [qC,kF];omega
 have e1:(swP k (swP k P)).nest=P.nest:=by
  show(G1 k ((G1 k P.nest).take (k+2)++((G1 k P.nest).drop (k+2)).map (eS (N2 k)))).take (k+2)++((G1 k ((G1 k P.nest).take (k+2)++((G1 k P.nest).drop (k+2)).map (eS (N2 k)))).drop (k+2)).map (eS (N2 k))=P.nest;rw [aCa (by omega),List.take_append_of_le_length (by rw [kF];omega),vBb (by rw [kF];omega),List.drop_append_of_le_length (by rw [kF];omega),List.drop_of_length_le (by rw [kF];omega),List.nil_append,List.map_map,←aDt hk,aLv (by rw [qC];omega),aDu]
  have:(P.nest.drop (k+2)).map (eS (N2 k) ∘ eS (N2 k))=P.nest.drop (k+2):=xP (fun l hl=>by
   show eS (N2 k) (eS (N2 k) l)=l;rw [aHT];exact aJw (aGU hk4) (h2 l (vAI hl)))
  rw [this,vBv]
 have e2:(swP k (swP k P)).body=P.body:=by
  show(P.body.map (qI (N2 k))).map (qI (N2 k))=P.body;rw [List.map_map];exact xP (fun s hs=>by
   show qI (N2 k) (qI (N2 k) s)=s;rw [aJv];exact aG5 (aGU hk4) (h5 s hs))
 cases hh:swP k (swP k P) with
 |mk a b=>rw [hh] at e1 e2;dsimp only at e1 e2;rw [e1,e2]
theorem aJc{n:Nat}(hn:20000≤n){p:Prog}(hp:BG 1000 p)(part loop:Int):l7 n p part loop=some (nY p part loop):=by
 unfold l7;by_cases hb:gT p part loop=true;rotate_left
 ·unfold nY;rw [if_neg fun h=>hb h.1];refine Ev.eq (aA (xL (by omega) hp) (Ev.jn (fun z=>z=true) (fun j hj=>aA (X3 (by omega) hp part loop) (Ev.cond (fun _=>hj _ rfl) fun h=>absurd (by simpa using h) hb)) fun z hz=>by rw [hz];exact cD (Ev.some rfl)))
 obtain⟨hv,i,k,P,l,rfl,rfl,hP,hl,hi,hkl,hok,hk⟩:=I7 hb;obtain⟨h1,h2⟩:=pO hok;obtain⟨_,h4,h5,_⟩:=hJ hok;rw [aS (n:=(k:Int)+1) (by omega)];by_cases hb2:gT p (i:Int) ((k:Int)+1)=true;rotate_left
 ·unfold nY;rw [if_neg fun h=>hb2 h.2];refine Ev.eq (aA (xL (by omega) hp) (Ev.jn (fun z=>z=true) (fun j hj=>aA (X3 (by omega) hp _ _) (Ev.cond (fun h=>by rw [hb] at h;cases h) fun _=>aA (X3 (by omega) hp _ _) (Ev.cond (fun _=>hj _ rfl) fun h=>absurd (by simpa using h) hb2))) fun z hz=>by rw [hz];exact cD (Ev.some rfl)))
 rw [O6 hb hb2 hP];have hk1:=Q0 hP hb2;have e6:=dF hk1 (⟨[],[]⟩:Loop);refine Ev.eq (aA (xL (by omega) hp) (Ev.jn (fun z=>z=aA4 (P.nest.getD (k+1) ⟨[],[]⟩) k) (fun j hj=>?_) fun z hz=>?_))
 ·refine aA (X3 (by omega) hp _ _) (Ev.cond (fun h=>by rw [hb] at h;cases h) fun _=>aA (X3 (by omega) hp _ _) (Ev.cond (fun h=>by rw [hb2] at h;cases h) fun _=>aA (aN hP) ?_));rw [show(k:Int)+1=((k+1:Nat):Int) by omega];exact aA (aN e6) (aA (aDy (by omega) (h2 _ (cP e6)) (by omega)) (hj _ rfl))
 subst hz;refine Ev.cond (fun hu=>Ev.some ?_) fun hu=>?_
 ·rw [if_neg (by unfold aAE;rw [hu];simp)];rfl
 refine aA (x:=dsO p i) (aFh hn hp.sm hv _) ?_;have hlen:=aKr hv (i:=i);have hsh:=fun d hd=>(C9 hv hP (d:=d) hd).1;have hsw:aAE p i k P=(dsO p i).all (fun d=>A8 (swD k d)):=by unfold aAE;rw [hu];rfl
 rw [hsw];generalize dsO p i=D at hlen hsh;refine Ev.loop (fun x:Int=> ∃m:Nat,x=m∧m≤D.length∧ ∀d∈D.take m,A8 (swD k d)=true) (fun x=>D.length-x.toNat) ?_ n _ ⟨0,rfl,by omega,fun d hd=>by simp at hd⟩ (by omega);rintro again z ⟨m,rfl,hm,hpos⟩ hr;refine aH (fun hlt=>?_) fun hge=>?_
 ·have hlt:m<D.length:=by omega
  have e1:=cO hlt;have hmem:=O9 hlt;have hdl:=hsh _ hmem;rw [show(k:Int)+1=((k+1:Nat):Int) by omega];refine aA (aN e1) (aA (bT (by simp;omega)) (aA (aN (dF (by omega) 0)) (aA (x:=D[m].getD k 0) (aN (dF (l:=D[m]) (by omega) 0)) (aA (dE (by rw [List.nil_append];omega) _) (aA (aN (dF (by omega) 0)) ?_)))));rw [List.nil_append,P0];refine aA (aN (dF (l:=D[m].set k (D[m].getD (k+1) 0)) (k:=k+1) (by simp;omega) 0)) (aA (dE (by rw [vAL];omega) _) ?_);rw [P0];refine aA (x:=A8 (swD k D[m])) (aHI (d:=swD k D[m]) (by rw [aGT];omega) (by omega)) (Ev.cond (fun h=>Ev.some ?_) fun h=>?_)
  ·rw [if_neg fun hall=>?_]
   ·rfl
   have:=vAF.1 hall _ hmem;rw [this] at h;cases h
  rw [aS (by omega)];refine hr _ ⟨m+1,by omega,by omega,fun d hd=>?_⟩ (by omega);rw [yV,e1] at hd;rcases wO.1 hd with h'|h'
  ·exact hpos d h'
  have:d=D[m]:=by simpa using h'
  subst this;simpa using h
 have:m=D.length:=by omega
 subst this;rw [qS] at hpos;rw [if_pos (vAF.2 hpos)];have hin:=aFB (n:=n) (by omega) (x:=P) (s:=k+1) (by omega) h1 h2 h4.2 h5 (way:=0) (v:=(k:Int)) (b:=⟨[],0⟩) (f:=N2 k) fun n _ x hx=>aLB n (by omega) x hx;rw [show(k:Int)+1=((k+1:Nat):Int) by omega];refine aA (aN hP) (aA hin ?_);have hA:(P.nest.take (k+2)++(P.nest.drop (k+2)).map (eS (N2 k))).length=P.nest.length:=by rw [pE,qB,qC,vAT];omega
 have hsw2:=aNf hk1 ((P.nest.drop (k+2)).map (eS (N2 k)));rw [show k+1+1=k+2 by omega];dsimp only;generalize P.nest.take (k+2)++(P.nest.drop (k+2)).map (eS (N2 k))=A at hA hsw2;refine aA (aN (dF (by omega) (⟨[],[]⟩:Loop))) (aA (aN (dF (by omega) (⟨[],[]⟩:Loop))) (aA (dE (by omega) _) ?_));rw [P0];refine aA (aN (dF (l:=A.set k (A.getD (k+1) ⟨[],[]⟩)) (k:=k+1) (by rw [vAL];omega) (⟨[],[]⟩:Loop))) (aA (dE (by rw [vAL];omega) _) ?_);rw [P0];have hY:(⟨(A.set k (A.getD (k+1) ⟨[],[]⟩)).set (k+1) (A.getD k ⟨[],[]⟩),P.body.map (qI (N2 k))⟩:Part)=swP k P:=by
  have:(A.set k (A.getD (k+1) ⟨[],[]⟩)).set (k+1) (A.getD k ⟨[],[]⟩)=G1 k A:=rfl;rw [this,hsw2,←aDu];rfl
 rw [hY];exact aA (aKZ (by omega) hp hi ((aI0 hok hk1).mono (by omega))) (Ev.some rfl)
theorem aIE{p:Prog}{part loop:Int}(h1:(nY p part loop).2=true)(h2:(nY (nY p part loop).1 part loop).2=true):(nY (nY p part loop).1 part loop).1=p:=by
 by_cases hb:gT p part loop=true∧gT p part (loop+1)=true;rotate_left
 ·unfold nY at h1;rw [if_neg hb] at h1;cases h1
 obtain⟨hv,i,k,P,l,rfl,rfl,hP,hl,hi,hkl,hok,hk⟩:=I7 hb.1;have hk1:=Q0 hP hb.2;have e0:=O6 hb.1 hb.2 hP;rw [e0] at h1 h2⊢;by_cases hs:aAE p i k P=true;rotate_left
 ·rw [if_neg hs] at h1;cases h1
 rw [if_pos hs] at h1 h2⊢;have e1:(aAN ⟨p.arrays,p.parts.set i (swP k P)⟩).1=⟨p.arrays,p.parts.set i (swP k P)⟩:=by
  unfold aAN at h1⊢;split
  ·rfl
  rename_i hq;rw [if_neg hq] at h1;cases h1
 rw [e1] at h2⊢;generalize hq:(⟨p.arrays,p.parts.set i (swP k P)⟩:Prog)=q at h2;have hQ:q.parts[i]? =some (swP k P):=by rw [←hq];exact vAA hi
 by_cases hc:gT q (i:Int) (k:Int)=true∧gT q (i:Int) ((k:Int)+1)=true;rotate_left
 ·unfold nY at h2;rw [if_neg hc] at h2;cases h2
 have e2:=O6 hc.1 hc.2 hQ;rw [e2] at h2⊢;by_cases hs2:aAE q i k (swP k P)=true;rotate_left
 ·rw [if_neg hs2] at h2;cases h2
 rw [if_pos hs2];have hpp:(⟨q.arrays,q.parts.set i (swP k (swP k P))⟩:Prog)=p:=by
  rw [aLu hok hk1,←hq];dsimp only;rw [List.set_set,aI7 hP]
 rw [hpp];unfold aAN;rw [if_pos hv]
theorem aKE(code:List UInt8):Ev (Option.bind (q8 N code) fun x1=>Option.bind (zL N x1) fun x2=>some (x2.1,x2.2.1,x2.2.2.1)) (fun x=>BG 1000 x.1):=by have hN:N=100000:=rfl;refine aL (aLJ code) fun x1 r1=>aL (P:=fun x=>BG 1000 x.1) ?_ fun x2 h2=>Ev.some h2;unfold zL;refine aL (aHW r1 (by omega)) fun x1 ⟨h1,r1⟩=>aL (aLO (by omega) r1 (by omega) h1) fun x2 ⟨h2,r2⟩=>aL (iW N r2 (by omega) (by simp)) fun x3 ⟨_,r3⟩=>aL (iW N r3 (by omega) (by simp)) fun x4 ⟨_,r4⟩=>aL (iW N r4 (by omega) (by simp)) fun x5 ⟨_,r5⟩=>Ev.some (h2.mono (show 30≤1000 by omega))
theorem uW(code:List UInt8):gU N code=some true:=by
 have hN:N=100000:=rfl;refine Ev.eq ?_;unfold gU kI;refine aH (fun _=>Ev.some rfl) fun _=>aL (aKE code) fun x1 hp=>?_;obtain⟨p,part,loop⟩:=x1;dsimp only at hp⊢;have hR:=aKY hp part loop;have hs:=aDL (n:=N) (by omega) hR;have he:((nY p part loop).2==(nY p part loop).2)=true:=by cases (nY p part loop).2<;>rfl
 refine aA (aDZ (by omega) hp part loop) (aA (aJc (by omega) hp part loop) (Ev.jn (fun z=>z= !(nY p part loop).2) (fun j hj=>?_) fun z hz=>?_))
 ·rw [he];exact cE (aA hs (cE (hj _ rfl)))
 subst hz;cases hr:(nY p part loop).2 with
 |false=>exact cD (Ev.jn (fun z=>z=true) (fun j hj=>cD (aA hs (hj _ rfl))) fun z hz=>Ev.some hz)
 |true=>
  refine cE (aA (aDZ (by omega) hR part loop) (Ev.jn (fun z=>z=true) (fun j hj=>?_) fun z hz=>Ev.some hz));refine Ev.cond (fun _=>hj _ rfl) fun h=>?_;rw [aIE hr (by simpa using h)];exact aA (aDL (n:=N) (by omega) hp) (hj _ rfl)
end Go.Lift
