/- FnCandidateSteps: candidates are distinct. -/
import Derived.Test.YtohillieiccgdaaGreatDoorXDrawD
import Derived.Test.YtohillieiccgdaaGreatDoorXLawFmt
set_option maxRecDepth 100000
set_option linter.unusedVariables false
namespace Go.Lift
open Go
def nl(p:Prog)(j:Nat):Nat:=match p.parts[j]? with
 |some x=>x.nest.length
 |none=>0
def cA(i m:Nat):List Step:=(List.range m).map (fun k:Nat=>⟨1,i,k,0⟩)
def cR(i m:Nat):List Step:=(List.range m).map (fun k:Nat=>⟨2,i,k,0⟩)
def cP(p:Prog)(j:Nat):List Step:=cA j (nl p j-1)++cR j (nl p j)
def zB(p:Prog)(i:Nat):List Step:=(List.range i).flatMap (cP p)
def cB(i:Nat):List Step:=(List.range i).flatMap (fun j:Nat=>[⟨6,j,0,0⟩,⟨9,j,0,0⟩])
def cD(i:Nat):List Step:=(List.range i).map (fun j:Nat=>⟨10,j,0,0⟩)
def uV(p:Prog):List Step:=zB p p.parts.length++cB (p.parts.length-1)++cD p.parts.length++[⟨11,0,0,0⟩]
theorem aBp{α:Type}(f:Nat→α)(i:Nat):(List.range (i+1)).map f=(List.range i).map f++[f i]:=by rw [List.range_succ,List.map_append];rfl
theorem J9{α:Type}(f:Nat→List α)(i:Nat):(List.range (i+1)).flatMap f=(List.range i).flatMap f++f i:=by rw [List.range_succ,List.flatMap_append];simp
theorem G9(i m:Nat):(cA i m).length=m:=by simp [cA]
theorem aCF(i m:Nat):(cR i m).length=m:=by simp [cR]
theorem W5(m:Nat):(cD m).length=m:=by simp [cD]
theorem yM: ∀(m:Nat),(cB m).length=2*m
 |0=>rfl
 |m+1=>by rw [cB,J9,List.length_append,←cB,yM m];simp;omega
theorem sL{p:Prog}(h: ∀j,nl p j≤4): ∀(m:Nat),(zB p m).length≤8*m
 |0=>by simp [zB]
 |m+1=>by
  have:=sL h m
  have:=h m
  rw [zB,J9,List.length_append,←zB,cP,List.length_append,G9,aCF];omega
theorem t7{p:Prog}(h:hF p=true)(j:Nat):nl p j≤4:=by
 unfold nl
 cases hx:p.parts[j]? with
 |none=>simp
 |some x=>
  simp only [hF,mU,Bool.and_eq_true,decide_eq_true_eq,List.all_eq_true] at h
  have h1:=h.1.2.2 x (List.mem_of_getElem? hx)
  simp only [cT,Bool.and_eq_true] at h1
  have h2:=h1.1
  unfold NP at h2
  split at h2
  ·rename_i hn
   have:=hn.1
   simp only [f9,Bool.and_eq_true,decide_eq_true_eq] at this
   exact this.2
  ·cases h2
theorem o5{p:Prog}(h:hF p=true):p.parts.length≤4:=by
 simp only [hF,mU,Bool.and_eq_true,decide_eq_true_eq] at h
 exact h.1.2.1
theorem zP{a b:Int}(h: ¬a<b):b≤a:=Int.not_lt.1 h
section
variable {p:Prog} {R:Type} {Q:R→Prop}
theorem aEg{n:Nat}(hn:5000≤n){i m:Nat}(hm:m≤4){xs:List Step}(hl:xs.length≤100){K:List Step→Option R}(hK:Ev (K (xs++cA i (m-1))) Q):
  Ev (aJ (fun again (z:List Step×Int)=>bif decide (wr (z.2+1)<(m:Int)) then Option.bind (app z.1 [(⟨1,(i:Int),z.2,0⟩:Step)]) fun x11=>again (x11,wr (z.2+1)) else K z.1) n (xs,0)) Q:=by
 refine Ev.loop (fun z:List Step×Int=> ∃k:Nat,z.2=k∧k≤m-1∧z.1=xs++cA i k) (fun z=>m-z.2.toNat) ?_ n _ ⟨0,rfl,by omega,by simp [cA]⟩ (by dsimp only;omega)
 rintro again ⟨x,c⟩ ⟨k,hk,h1,h2⟩ hr
 dsimp only at hk h2⊢
 subst hk h2
 rw [aK (by omega)]
 refine aG (fun hlt=>aA (bP (by rw [List.length_append,G9];simp;omega)) (hr _ ⟨k+1,by simp,by omega,?_⟩ (by dsimp only;omega))) (fun hge=> ?_)
 ·dsimp only;rw [List.append_assoc];congr 1;exact(aBp _ _).symm
 ·rw [show k=m-1 by omega];exact hK
theorem aEf{n:Nat}(hn:5000≤n){i m:Nat}(hm:m≤4){xs:List Step}(hl:xs.length≤100){K:List Step→Option R}(hK:Ev (K (xs++cR i m)) Q):
  Ev (aJ (fun again (z:List Step×Int)=>bif decide (z.2<(m:Int)) then Option.bind (app z.1 [(⟨2,(i:Int),z.2,0⟩:Step)]) fun x11=>again (x11,wr (z.2+1)) else K z.1) n (xs,0)) Q:=by
 refine Ev.loop (fun z:List Step×Int=> ∃k:Nat,z.2=k∧k≤m∧z.1=xs++cR i k) (fun z=>m-z.2.toNat) ?_ n _ ⟨0,rfl,by omega,by simp [cR]⟩ (by dsimp only;omega)
 rintro again ⟨x,c⟩ ⟨k,hk,h1,h2⟩ hr
 dsimp only at hk h2⊢
 subst hk h2
 refine aG (fun hlt=>aA (bP (by rw [List.length_append,aCF];simp;omega)) ?_) (fun hge=> ?_)
 ·rw [aK (by omega)]
  refine hr _ ⟨k+1,by simp,by omega,?_⟩ (by dsimp only;omega)
  dsimp only;rw [List.append_assoc];congr 1;exact(aBp _ _).symm
 ·have e:k=m:=by have:=zP hge;omega
  subst e;exact hK
theorem aFP{n:Nat}(hn:5000≤n){m:Nat}(hm:m≤4){xs:List Step}(hl:xs.length≤100){K:List Step→Option R}(hK:Ev (K (xs++cB (m-1))) Q):
  Ev (aJ (fun again (z:List Step×Int)=>bif decide (wr (z.2+1)<(m:Int)) then Option.bind (app z.1 [(⟨6,z.2,0,0⟩:Step),(⟨9,z.2,0,0⟩:Step)]) fun x11=>again (x11,wr (z.2+1)) else K z.1) n (xs,0)) Q:=by
 refine Ev.loop (fun z:List Step×Int=> ∃k:Nat,z.2=k∧k≤m-1∧z.1=xs++cB k) (fun z=>m-z.2.toNat) ?_ n _ ⟨0,rfl,by omega,by simp [cB]⟩ (by dsimp only;omega)
 rintro again ⟨x,c⟩ ⟨k,hk,h1,h2⟩ hr
 dsimp only at hk h2⊢
 subst hk h2
 rw [aK (by omega)]
 refine aG (fun hlt=>aA (bP (by rw [List.length_append,yM];simp;omega)) (hr _ ⟨k+1,by simp,by omega,?_⟩ (by dsimp only;omega))) (fun hge=> ?_)
 ·dsimp only;rw [List.append_assoc];congr 1;exact(J9 _ _).symm
 ·rw [show k=m-1 by omega];exact hK
theorem aFO{n:Nat}(hn:5000≤n){m:Nat}(hm:m≤4){xs:List Step}(hl:xs.length≤100){K:List Step→Option R}(hK:Ev (K (xs++cD m)) Q):
  Ev (aJ (fun again (z:List Step×Int)=>bif decide (z.2<(m:Int)) then Option.bind (app z.1 [(⟨10,z.2,0,0⟩:Step)]) fun x11=>again (x11,wr (z.2+1)) else K z.1) n (xs,0)) Q:=by
 refine Ev.loop (fun z:List Step×Int=> ∃k:Nat,z.2=k∧k≤m∧z.1=xs++cD k) (fun z=>m-z.2.toNat) ?_ n _ ⟨0,rfl,by omega,by simp [cD]⟩ (by dsimp only;omega)
 rintro again ⟨x,c⟩ ⟨k,hk,h1,h2⟩ hr
 dsimp only at hk h2⊢
 subst hk h2
 refine aG (fun hlt=>aA (bP (by rw [List.length_append,W5];simp;omega)) ?_) (fun hge=> ?_)
 ·rw [aK (by omega)]
  refine hr _ ⟨k+1,by simp,by omega,?_⟩ (by dsimp only;omega)
  dsimp only;rw [List.append_assoc];congr 1;exact(aBp _ _).symm
 ·have e:k=m:=by have:=zP hge;omega
  subst e;exact hK
end
theorem Y3{n:Nat}(hn:5000≤n){p:Prog}(hv:hF p=true){Q:List Step→Prop}(hQ:Q (uV p)):
  Ev (aJ (fun again20 ((x17,x18):(List Step)×Int)=>bif decide (wr (x18+1)<(p.parts.length:Int)) then Option.bind (app x17 [(⟨6,x18,0,0⟩:Step),(⟨9,x18,0,0⟩:Step)]) fun x21=>again20 (x21,wr (x18+1)) else
   aJ (fun again25 ((x22,x23):(List Step)×Int)=>bif decide (x23<(p.parts.length:Int)) then Option.bind (app x22 [(⟨10,x23,0,0⟩:Step)]) fun x26=>again25 (x26,wr (x23+1)) else Option.bind (app x22 [(⟨11,0,0,0⟩:Step)]) fun x27=>some x27) n (x17,0)) n (zB p p.parts.length,0)) Q:=by
 have h4:=o5 hv
 have hl:=sL (t7 hv) p.parts.length
 refine aFP hn h4 (xs:=zB p p.parts.length) (by omega) (K:=fun x=>aJ (fun again25 ((x22,x23):(List Step)×Int)=>bif decide (x23<(p.parts.length:Int)) then Option.bind (app x22 [(⟨10,x23,0,0⟩:Step)]) fun x26=>again25 (x26,wr (x23+1)) else Option.bind (app x22 [(⟨11,0,0,0⟩:Step)]) fun x27=>some x27) n (x,0)) ?_
 refine aFO hn h4 (xs:=zB p p.parts.length++cB (p.parts.length-1)) (by rw [List.length_append,yM];omega) (K:=fun x=>Option.bind (app x [(⟨11,0,0,0⟩:Step)]) fun x27=>some x27) ?_
 exact aA (bP (by rw [List.length_append,List.length_append,yM,W5];simp;omega)) (Ev.some hQ)
theorem aEc{p:Prog}{i:Nat}{x:Part}(h:p.parts[i]? =some x):nl p i=x.nest.length:=by unfold nl;rw [h]
theorem pW{n:Nat}(hn:7000≤n){p:Prog}(hp:SmP p):d6 n p=some (if hF p=true then uV p else []):=by
 refine Ev.eq ?_
 unfold d6
 refine aA (gR hn hp) (Ev.cond (fun h=>Ev.some ?_) (fun h=> ?_))
 ·rw [if_neg (by simpa using h)]
 have hv:hF p=true:=by simpa using h
 rw [if_pos hv]
 have h4:=o5 hv
 refine Ev.loop (fun z:List Step×Int=> ∃i:Nat,z.2=i∧i≤p.parts.length∧z.1=zB p i) (fun z=>p.parts.length-z.2.toNat) ?_ n _ ⟨0,rfl,by omega,by simp [zB]⟩ (by dsimp only;omega)
 rintro again ⟨x,c⟩ ⟨i,hi,h1,h2⟩ hr
 dsimp only at hi h2⊢
 subst hi h2
 have hl:=sL (t7 hv) i
 refine aG (fun hlt=> ?_) (fun hge=> ?_)
 ·have hg:p.parts[i]? =some p.parts[i]:=List.getElem?_eq_getElem (by omega)
  refine aA (aY hg) ?_
  have hnl:=aEc hg
  have hx:=t7 hv i
  generalize p.parts[i]=x6 at hnl⊢
  rw [←hnl]
  refine aEg (n:=n) (i:=i) (m:=nl p i) (xs:=zB p i) (by omega) hx (by omega) (K:=fun x7=>aJ (fun again15 ((x12,x13):(List Step)×Int)=>bif decide (x13<(nl p i:Int)) then Option.bind (app x12 [(⟨2,(i:Int),x13,0⟩:Step)]) fun x16=>again15 (x16,wr (x13+1)) else again (x12,wr ((i:Int)+1))) n (x7,0)) ?_
  refine aEf (n:=n) (i:=i) (m:=nl p i) (xs:=zB p i++cA i (nl p i-1)) (by omega) hx (by rw [List.length_append,G9];omega) (K:=fun x12=>again (x12,wr ((i:Int)+1))) ?_
  rw [aK (by omega)]
  refine hr _ ⟨i+1,by simp,by omega,?_⟩ (by dsimp only;omega)
  dsimp only;rw [List.append_assoc];exact(J9 _ _).symm
 ·rw [show i=p.parts.length by omega]
  exact Y3 (by omega) hv rfl
theorem pV{n:Nat}(hn:7000≤n){p:Prog}(hp:SmP p):dX n p=some (if hF p=true then uV p else []):=by
 refine Ev.eq ?_
 unfold dX
 refine aA (lH hn hp) (Ev.cond (fun h=>Ev.some ?_) (fun h=> ?_))
 ·rw [if_neg (by simpa using h)]
 have hv:hF p=true:=by simpa using h
 rw [if_pos hv]
 have h4:=o5 hv
 refine Ev.loop (fun z:List Step×Int=> ∃i:Nat,z.2=i∧i≤p.parts.length∧z.1=zB p i) (fun z=>p.parts.length-z.2.toNat) ?_ n _ ⟨0,rfl,by omega,by simp [zB]⟩ (by dsimp only;omega)
 rintro again ⟨x,c⟩ ⟨i,hi,h1,h2⟩ hr
 dsimp only at hi h2⊢
 subst hi h2
 have hl:=sL (t7 hv) i
 refine aG (fun hlt=> ?_) (fun hge=> ?_)
 ·have hg:p.parts[i]? =some p.parts[i]:=List.getElem?_eq_getElem (by omega)
  have hix:ix p.parts (i:Int)=some p.parts[i]:=aY hg
  have hnl:=aEc hg
  have hx:=t7 hv i
  simp only [hix,Option.bind_some]
  generalize p.parts[i]=x6 at hnl⊢
  rw [←hnl]
  refine aEg (n:=n) (i:=i) (m:=nl p i) (xs:=zB p i) (by omega) hx (by omega) (K:=fun x7=>aJ (fun again15 ((x12,x13):(List Step)×Int)=>bif decide (x13<(nl p i:Int)) then Option.bind (app x12 [(⟨2,(i:Int),x13,0⟩:Step)]) fun x16=>again15 (x16,wr (x13+1)) else again (x12,wr ((i:Int)+1))) n (x7,0)) ?_
  refine aEf (n:=n) (i:=i) (m:=nl p i) (xs:=zB p i++cA i (nl p i-1)) (by omega) hx (by rw [List.length_append,G9];omega) (K:=fun x12=>again (x12,wr ((i:Int)+1))) ?_
  rw [aK (by omega)]
  refine hr _ ⟨i+1,by simp,by omega,?_⟩ (by dsimp only;omega)
  dsimp only;rw [List.append_assoc];exact(J9 _ _).symm
 ·rw [show i=p.parts.length by omega]
  exact Y3 (by omega) hv rfl
theorem aCC{p:Prog}(hv:hF p=true){s:Step}(h:s∈uV p):gZ s=true:=by
 have h4:=o5 hv
 simp only [uV,zB,cB,cD,cP,cA,cR,List.mem_append,List.mem_flatMap,List.mem_map,List.mem_range,List.mem_cons,List.not_mem_nil,or_false] at h
 rcases h with ((⟨j,hj,⟨k,hk,rfl⟩|⟨k,hk,rfl⟩⟩|⟨j,hj,rfl|rfl⟩)|⟨j,hj,rfl⟩)|rfl
 ·have:=t7 hv j
  simp [gZ,nf,gB];omega
 ·have:=t7 hv j
  simp [gZ,nf,gB];omega
 ·simp [gZ,nf,gB];omega
 ·simp [gZ,nf,gB];omega
 ·simp [gZ,nf,gB];omega
 ·decide
theorem wG{α:Type}(f:Nat→α)(hf: ∀a b,a<b→f a≠f b)(m:Nat):((List.range m).map f).Pairwise (· ≠ ·):=by
 rw [List.pairwise_map]
 exact List.Pairwise.imp (fun h=>hf _ _ h) List.pairwise_lt_range
theorem aD0(p:Prog):(uV p).Pairwise (· ≠ ·):=by
 unfold uV
 rw [List.pairwise_append,List.pairwise_append,List.pairwise_append]
 refine⟨⟨⟨?_,?_,?_⟩,wG _ (fun a b h e=>by cases e;omega) _,?_⟩,List.pairwise_singleton _ _,?_⟩
 ·unfold zB
  rw [List.pairwise_flatMap]
  refine⟨fun j _=> ?_,List.Pairwise.imp (fun {a b} h=> ?_) List.pairwise_lt_range⟩
  ·unfold cP
   rw [List.pairwise_append]
   refine⟨wG _ (fun a b h e=>by cases e;omega) _,wG _ (fun a b h e=>by cases e;omega) _,?_⟩
   rintro x hx y hy rfl
   simp only [cA,cR,List.mem_map] at hx hy
   obtain⟨k,_,rfl⟩:=hx
   obtain⟨k',_,e⟩:=hy
   cases e
  ·rintro x hx y hy rfl
   simp only [cP,cA,cR,List.mem_append,List.mem_map] at hx hy
   rcases hx with ⟨k,_,rfl⟩|⟨k,_,rfl⟩<;>rcases hy with ⟨k',_,e⟩|⟨k',_,e⟩<;>cases e<;>omega
 ·unfold cB
  rw [List.pairwise_flatMap]
  refine⟨fun j _=> ?_,List.Pairwise.imp (fun {a b} h=> ?_) List.pairwise_lt_range⟩
  ·simp
  ·rintro x hx y hy rfl
   simp only [List.mem_cons,List.not_mem_nil,or_false] at hx hy
   rcases hx with rfl|rfl<;>rcases hy with e|e<;>cases e<;>omega
 ·rintro x hx y hy rfl
  simp only [zB,cB,cP,cA,cR,List.mem_append,List.mem_flatMap,List.mem_map,List.mem_cons,List.not_mem_nil,or_false] at hx hy
  rcases hx with ⟨j,_,⟨k,_,rfl⟩|⟨k,_,rfl⟩⟩<;>obtain⟨j',_,e|e⟩:=hy<;>cases e
 ·rintro x hx y hy rfl
  simp only [zB,cB,cD,cP,cA,cR,List.mem_append,List.mem_flatMap,List.mem_map,List.mem_cons,List.not_mem_nil,or_false] at hx hy
  obtain⟨j',_,e⟩:=hy
  subst e
  rcases hx with ⟨j,_,⟨k,_,e⟩|⟨k,_,e⟩⟩|⟨j,_,e|e⟩<;>cases e
 ·rintro x hx y hy rfl
  simp only [List.mem_cons,List.not_mem_nil,or_false] at hy
  subst hy
  simp only [zB,cB,cD,cP,cA,cR,List.mem_append,List.mem_flatMap,List.mem_map,List.mem_cons,List.not_mem_nil,or_false] at hx
  rcases hx with (⟨j,_,⟨k,_,e⟩|⟨k,_,e⟩⟩|⟨j,_,e|e⟩)|⟨j,_,e⟩<;>cases e
theorem aCD{p:Prog}(hv:hF p=true):(uV p).length≤100∧0<(uV p).length:=by
 have h4:=o5 hv
 have:=sL (t7 hv) p.parts.length
 unfold uV
 simp only [List.length_append,yM,W5,List.length_cons,List.length_nil]
 omega
theorem M5(code:List UInt8):Ev (cN N code) SmP:=by
 unfold cN
 exact aH (aDC code) (fun x1 r1=>aH (S5 r1 (by omega)) (fun x2 ⟨h2,r2⟩=>aH (aDG (by simp [N]) r2 (by omega) h2) (fun x3 ⟨h3,r3⟩=>Ev.some (h3.mono (show 30≤1000 by omega)).sm)))
theorem aDR{s:Step}(h:gZ s=true):fmt [s]≠[]:=by
 have hw:=(C4 (tI h)).2.2.2.1
 have:aAK [s]=true:=by simp [aAK,h]
 simp [fmt,this,uT]
theorem aCE(code:List UInt8):d9 N code=some true:=by
 have hN:N=100000:=rfl
 refine Ev.eq ?_
 unfold d9
 refine Ev.cond (fun _=>Ev.some rfl) (fun _=>aH (M5 code) (fun p hp=> ?_))
 refine aA (pW (by omega) hp) (aA (pV (by omega) hp) ?_)
 by_cases hv:hF p=true
 ·rw [if_pos hv]
  obtain⟨hl,hl0⟩:=aCD hv
  refine aH (wU _ _ (by omega)) (fun x4 h4=> ?_)
  have e4:=h4.2 rfl
  subst e4
  have hm: ∀s∈uV p,gZ s=true:=fun s hs=>aCC hv hs
  have hpw:=aD0 p
  generalize uV p=l at hl hl0 hm hpw⊢
  refine Ev.cond (fun h=>by cases h) (fun _=> ?_)
  refine Ev.loop (fun i:Int=>0≤i∧i≤l.length) (fun i=>l.length-i.toNat) ?_ N _ ⟨by omega,by omega⟩ (by omega)
  rintro again i ⟨h0,h1⟩ hr
  refine aG (fun hlt=> ?_) (fun hge=>aA (gR (by omega) hp) (Ev.some ?_))
  ·obtain⟨s,hs,hs2⟩:=eV h0 hlt
   rw [aK (by omega)]
   have hsub:sub l i (i+1)=some [s]:=by
    rw [C8 (by omega) (by omega) (by omega)]
    congr 1
    have h5:(i+1).toNat=i.toNat+1:=by omega
    rw [h5,List.take_add_one,hs2]
    show(l.take i.toNat++[s]).drop i.toNat=[s]
    exact List.drop_left' (by rw [List.length_take];omega)
   have hg:=hm s (List.mem_of_getElem? hs2)
   refine aA hsub (aA (L5 _ (by simp)) (aG (fun h=>absurd h (aDR hg)) (fun _=> ?_)))
   refine Ev.loop (fun k:Int=>0≤k∧k≤i) (fun k=>l.length-k.toNat) ?_ N _ ⟨by omega,by omega⟩ (by omega)
   rintro again2 k ⟨k0,k1⟩ hr2
   refine aG (fun hlt2=> ?_) (fun hge2=>hr _ ⟨by omega,by omega⟩ (by omega))
   obtain⟨t,ht,ht2⟩:=eV k0 (show k<l.length by omega)
   refine aA ht (aA hs (aG (fun he=> ?_) (fun _=> ?_)))
   ·exfalso
    have hne:t≠s:=by
     obtain⟨q1,e1⟩:=List.getElem?_eq_some_iff.1 ht2
     obtain⟨q2,e2⟩:=List.getElem?_eq_some_iff.1 hs2
     rw [←e1,←e2]
     exact List.pairwise_iff_getElem.1 hpw _ _ q1 q2 (by omega)
    apply hne
    cases t;cases s;simp at he;simp [he]
   ·rw [aK (by omega)]
    exact hr2 _ ⟨by omega,by omega⟩ (by omega)
  ·rw [hv];simpa using hl0
 ·rw [if_neg hv]
  refine aH (wU _ _ (by simp)) (fun x4 h4=> ?_)
  have e4:=h4.2 rfl
  subst e4
  refine Ev.cond (fun h=>by cases h) (fun _=> ?_)
  refine Ev.loop (fun i:Int=>i=0) (fun i=>0) ?_ N _ rfl (by simp [N])
  rintro again i rfl hr
  refine aG (fun h=>absurd h (by simp)) (fun _=>aA (gR (by omega) hp) (Ev.some ?_))
  have:hF p=false:=by simpa using hv
  rw [this];rfl
end Go.Lift
