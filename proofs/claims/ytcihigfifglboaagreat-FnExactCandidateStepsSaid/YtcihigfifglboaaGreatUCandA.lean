/- The steps that may be tried: the two functions agree. -/
import Derived.Test.YtcihigfifglboaaGreatURun1
set_option maxRecDepth 110000000
set_option linter.unusedVariables false
namespace Go.Lift
open Go
def nl(p:Prog)(j:Nat):Nat:=match p.parts[j]? with
 |some x=>x.nest.length
 |none=>0
def cA(i m:Nat):List Step:=(List.range m).map fun k:Nat=>⟨1,i,k,0⟩
def cR(i m:Nat):List Step:=(List.range m).map fun k:Nat=>⟨2,i,k,0⟩
def cP(p:Prog)(j:Nat):List Step:=cA j (nl p j-1)++cR j (nl p j)
def V2(p:Prog)(i:Nat):List Step:=(List.range i).flatMap (cP p)
def cB(i:Nat):List Step:=(List.range i).flatMap fun j:Nat=>[⟨6,j,0,0⟩,⟨9,j,0,0⟩]
def cD(i:Nat):List Step:=(List.range i).map fun j:Nat=>⟨10,j,0,0⟩
def R5(p:Prog):List Step:=V2 p p.parts.length++cB (p.parts.length-1)++cD p.parts.length++[⟨11,0,0,0⟩]
theorem aCS{α:Type}(f:Nat→α)(i:Nat):(List.range (i+1)).map f=(List.range i).map f++[f i]:=by rw [List.range_succ,vBb];rfl
theorem O6{α:Type}(f:Nat→List α)(i:Nat):(List.range (i+1)).flatMap f=(List.range i).flatMap f++f i:=by rw [List.range_succ,vAT];simp
theorem L9(i m:Nat):(cA i m).length=m:=by simp [cA]
theorem aD5(i m:Nat):(cR i m).length=m:=by simp [cR]
theorem aAr(m:Nat):(cD m).length=m:=by simp [cD]
theorem yZ: ∀(m:Nat),(cB m).length=2*m
 |0=>rfl
 |m+1=>by rw [cB,O6,jK,←cB,yZ m];simp;omega
theorem sO{p:Prog}(h: ∀j,nl p j≤4): ∀(m:Nat),(V2 p m).length≤8*m
 |0=>by simp [V2]
 |m+1=>by
  have:=sO h m
  have:=h m;rw [V2,O6,jK,←V2,cP,jK,L9,aD5];omega
theorem C4{p:Prog}(h:iK p=true)(j:Nat):nl p j≤4:=by
 unfold nl;cases hx:p.parts[j]? with
 |none=>simp
 |some x=>
  simp only [iK,mF,Bool.and_eq_true,decide_eq_true_eq,List.all_eq_true] at h;have h1:=h.1.2.2 x (dB hx);simp only [cK,Bool.and_eq_true] at h1;have h2:=h1.1;unfold NP at h2;split at h2
  ·rename_i hn
   have:=hn.1;simp only [fS,Bool.and_eq_true,decide_eq_true_eq] at this;exact this.2
  cases h2
theorem rO{p:Prog}(h:iK p=true):p.parts.length≤4:=by simp only [iK,mF,Bool.and_eq_true,decide_eq_true_eq] at h;exact h.1.2.1
theorem C3{a b:Int}(h: ¬a<b):b≤a:=Int.not_lt.1 h
section
variable {p:Prog} {R:Type} {Q:R→Prop}
theorem aFV{n:Nat}(hn:5500000≤n){i m:Nat}(hm:m≤4){xs:List Step}(hl:xs.length≤100){K:List Step→Option R}(hK:Ev (K (xs++cA i (m-1))) Q):
  Ev (aM (fun again (z:List Step×Int)=>bif decide (wr (z.2+1)<(m:Int)) then Option.bind (app z.1 [(⟨1,(i:Int),z.2,0⟩:Step)]) fun x11=>again (x11,wr (z.2+1)) else K z.1) n (xs,0)) Q:=by
 refine Ev.loop (fun z:List Step×Int=> ∃k:Nat,z.2=k∧k≤m-1∧z.1=xs++cA i k) (fun z=>m-z.2.toNat) ?_ n _ ⟨0,rfl,by omega,by simp [cA]⟩ (by dsimp only;omega);rintro again ⟨x,c⟩ ⟨k,hk,h1,h2⟩ hr;dsimp only at hk h2⊢;subst hk h2;rw [aN (by omega)];refine aL (fun hlt=>aB (fD (by rw [jK,L9];simp;omega)) (hr _ ⟨k+1,by simp,by omega,?_⟩ (by dsimp only;omega))) fun hge=>?_
 ·dsimp only;rw [U9];congr 1;exact(aCS _ _).symm
 rw [show k=m-1 by omega];exact hK
theorem aFU{n:Nat}(hn:5500000≤n){i m:Nat}(hm:m≤4){xs:List Step}(hl:xs.length≤100){K:List Step→Option R}(hK:Ev (K (xs++cR i m)) Q):
  Ev (aM (fun again (z:List Step×Int)=>bif decide (z.2<(m:Int)) then Option.bind (app z.1 [(⟨2,(i:Int),z.2,0⟩:Step)]) fun x11=>again (x11,wr (z.2+1)) else K z.1) n (xs,0)) Q:=by
 refine Ev.loop (fun z:List Step×Int=> ∃k:Nat,z.2=k∧k≤m∧z.1=xs++cR i k) (fun z=>m-z.2.toNat) ?_ n _ ⟨0,rfl,by omega,by simp [cR]⟩ (by dsimp only;omega);rintro again ⟨x,c⟩ ⟨k,hk,h1,h2⟩ hr;dsimp only at hk h2⊢;subst hk h2;refine aL (fun hlt=>aB (fD (by rw [jK,aD5];simp;omega)) ?_) fun hge=>?_
 ·rw [aN (by omega)];refine hr _ ⟨k+1,by simp,by omega,?_⟩ (by dsimp only;omega);dsimp only;rw [U9];congr 1;exact(aCS _ _).symm
 have e:k=m:=by have:=C3 hge;omega
 subst e;exact hK
theorem aHA{n:Nat}(hn:5500000≤n){m:Nat}(hm:m≤4){xs:List Step}(hl:xs.length≤100){K:List Step→Option R}(hK:Ev (K (xs++cB (m-1))) Q):
  Ev (aM (fun again (z:List Step×Int)=>bif decide (wr (z.2+1)<(m:Int)) then Option.bind (app z.1 [(⟨6,z.2,0,0⟩:Step),(⟨9,z.2,0,0⟩:Step)]) fun x11=>again (x11,wr (z.2+1)) else K z.1) n (xs,0)) Q:=by
 refine Ev.loop (fun z:List Step×Int=> ∃k:Nat,z.2=k∧k≤m-1∧z.1=xs++cB k) (fun z=>m-z.2.toNat) ?_ n _ ⟨0,rfl,by omega,by simp [cB]⟩ (by dsimp only;omega);rintro again ⟨x,c⟩ ⟨k,hk,h1,h2⟩ hr;dsimp only at hk h2⊢;subst hk h2;rw [aN (by omega)];refine aL (fun hlt=>aB (fD (by rw [jK,yZ];simp;omega)) (hr _ ⟨k+1,by simp,by omega,?_⟩ (by dsimp only;omega))) fun hge=>?_
 ·dsimp only;rw [U9];congr 1;exact(O6 _ _).symm
 rw [show k=m-1 by omega];exact hK
theorem aHz{n:Nat}(hn:5500000≤n){m:Nat}(hm:m≤4){xs:List Step}(hl:xs.length≤100){K:List Step→Option R}(hK:Ev (K (xs++cD m)) Q):
  Ev (aM (fun again (z:List Step×Int)=>bif decide (z.2<(m:Int)) then Option.bind (app z.1 [(⟨10,z.2,0,0⟩:Step)]) fun x11=>again (x11,wr (z.2+1)) else K z.1) n (xs,0)) Q:=by
 refine Ev.loop (fun z:List Step×Int=> ∃k:Nat,z.2=k∧k≤m∧z.1=xs++cD k) (fun z=>m-z.2.toNat) ?_ n _ ⟨0,rfl,by omega,by simp [cD]⟩ (by dsimp only;omega);rintro again ⟨x,c⟩ ⟨k,hk,h1,h2⟩ hr;dsimp only at hk h2⊢;subst hk h2;refine aL (fun hlt=>aB (fD (by rw [jK,aAr];simp;omega)) ?_) fun hge=>?_
 ·rw [aN (by omega)];refine hr _ ⟨k+1,by simp,by omega,?_⟩ (by dsimp only;omega);dsimp only;rw [U9];congr 1;exact(aCS _ _).symm
 have e:k=m:=by have:=C3 hge;omega
 subst e;exact hK
end
theorem aAP{n:Nat}(hn:5500000≤n){p:Prog}(hv:iK p=true){Q:List Step→Prop}(hQ:Q (R5 p)):
  Ev (aM (fun again20 ((x17,x18):(List Step)×Int)=>bif decide (wr (x18+1)<(p.parts.length:Int)) then Option.bind (app x17 [(⟨6,x18,0,0⟩:Step),(⟨9,x18,0,0⟩:Step)]) fun x21=>again20 (x21,wr (x18+1)) else
   aM (fun again25 ((x22,x23):(List Step)×Int)=>bif decide (x23<(p.parts.length:Int)) then Option.bind (app x22 [(⟨10,x23,0,0⟩:Step)]) fun x26=>again25 (x26,wr (x23+1)) else Option.bind (app x22 [(⟨11,0,0,0⟩:Step)]) fun x27=>some x27) n (x17,0)) n (V2 p p.parts.length,0)) Q:=by have h4:=rO hv;have hl:=sO (C4 hv) p.parts.length;refine aHA hn h4 (xs:=V2 p p.parts.length) (by omega) (K:=fun x=>aM (fun again25 ((x22,x23):(List Step)×Int)=>bif decide (x23<(p.parts.length:Int)) then Option.bind (app x22 [(⟨10,x23,0,0⟩:Step)]) fun x26=>again25 (x26,wr (x23+1)) else Option.bind (app x22 [(⟨11,0,0,0⟩:Step)]) fun x27=>some x27) n (x,0)) ?_;refine aHz hn h4 (xs:=V2 p p.parts.length++cB (p.parts.length-1)) (by rw [jK,yZ];omega) (K:=fun x=>Option.bind (app x [(⟨11,0,0,0⟩:Step)]) fun x27=>some x27) ?_;exact aB (fD (by rw [jK,jK,yZ,aAr];simp;omega)) (Ev.some hQ)
theorem aFR{p:Prog}{i:Nat}{x:Part}(h:p.parts[i]? =some x):nl p i=x.nest.length:=by unfold nl;rw [h]
theorem pJ{n:Nat}(hn:7700000≤n){p:Prog}(hp:SmP p):cQ n p=some (if iK p=true then R5 p else []):=by
 refine Ev.eq ?_;unfold cQ;refine aB (r5 hn hp) (Ev.cond (fun h=>Ev.some ?_) fun h=>?_)
 ·rw [if_neg (by simpa using h)]
 have hv:iK p=true:=by simpa using h
 rw [if_pos hv];have h4:=rO hv;refine Ev.loop (fun z:List Step×Int=> ∃i:Nat,z.2=i∧i≤p.parts.length∧z.1=V2 p i) (fun z=>p.parts.length-z.2.toNat) ?_ n _ ⟨0,rfl,by omega,by simp [V2]⟩ (by dsimp only;omega);rintro again ⟨x,c⟩ ⟨i,hi,h1,h2⟩ hr;dsimp only at hi h2⊢;subst hi h2;have hl:=sO (C4 hv) i;refine aL (fun hlt=>?_) fun hge=>?_
 ·have hg:p.parts[i]? =some p.parts[i]:=dC (by omega);refine aB (aT hg) ?_;have hnl:=aFR hg;have hx:=C4 hv i;generalize p.parts[i]=x6 at hnl⊢;rw [←hnl];refine aFV (n:=n) (i:=i) (m:=nl p i) (xs:=V2 p i) (by omega) hx (by omega) (K:=fun x7=>aM (fun again15 ((x12,x13):(List Step)×Int)=>bif decide (x13<(nl p i:Int)) then Option.bind (app x12 [(⟨2,(i:Int),x13,0⟩:Step)]) fun x16=>again15 (x16,wr (x13+1)) else again (x12,wr ((i:Int)+1))) n (x7,0)) ?_;refine aFU (n:=n) (i:=i) (m:=nl p i) (xs:=V2 p i++cA i (nl p i-1)) (by omega) hx (by rw [jK,L9];omega) (K:=fun x12=>again (x12,wr ((i:Int)+1))) ?_;rw [aN (by omega)];refine hr _ ⟨i+1,by simp,by omega,?_⟩ (by dsimp only;omega);dsimp only;rw [U9];exact(O6 _ _).symm
 rw [show i=p.parts.length by omega];exact aAP (by omega) hv rfl
theorem pI{n:Nat}(hn:7700000≤n){p:Prog}(hp:SmP p):dS n p=some (if iK p=true then R5 p else []):=by
 refine Ev.eq ?_;unfold dS;refine aB (rG hn hp) (Ev.cond (fun h=>Ev.some ?_) fun h=>?_)
 ·rw [if_neg (by simpa using h)]
 have hv:iK p=true:=by simpa using h
 rw [if_pos hv];have h4:=rO hv;refine Ev.loop (fun z:List Step×Int=> ∃i:Nat,z.2=i∧i≤p.parts.length∧z.1=V2 p i) (fun z=>p.parts.length-z.2.toNat) ?_ n _ ⟨0,rfl,by omega,by simp [V2]⟩ (by dsimp only;omega);rintro again ⟨x,c⟩ ⟨i,hi,h1,h2⟩ hr;dsimp only at hi h2⊢;subst hi h2;have hl:=sO (C4 hv) i;refine aL (fun hlt=>?_) fun hge=>?_
 ·have hg:p.parts[i]? =some p.parts[i]:=dC (by omega);have hix:ix p.parts (i:Int)=some p.parts[i]:=aT hg;have hnl:=aFR hg;have hx:=C4 hv i;simp only [hix,Option.bind_some];generalize p.parts[i]=x6 at hnl⊢;rw [←hnl];refine aFV (n:=n) (i:=i) (m:=nl p i) (xs:=V2 p i) (by omega) hx (by omega) (K:=fun x7=>aM (fun again15 ((x12,x13):(List Step)×Int)=>bif decide (x13<(nl p i:Int)) then Option.bind (app x12 [(⟨2,(i:Int),x13,0⟩:Step)]) fun x16=>again15 (x16,wr (x13+1)) else again (x12,wr ((i:Int)+1))) n (x7,0)) ?_;refine aFU (n:=n) (i:=i) (m:=nl p i) (xs:=V2 p i++cA i (nl p i-1)) (by omega) hx (by rw [jK,L9];omega) (K:=fun x12=>again (x12,wr ((i:Int)+1))) ?_;rw [aN (by omega)];refine hr _ ⟨i+1,by simp,by omega,?_⟩ (by dsimp only;omega);dsimp only;rw [U9];exact(O6 _ _).symm
 rw [show i=p.parts.length by omega];exact aAP (by omega) hv rfl
theorem aD4{p:Prog}(hv:iK p=true):(R5 p).length≤100∧0<(R5 p).length:=by
 have h4:=rO hv
 have:=sO (C4 hv) p.parts.length;unfold R5;simp only [List.length_append,yZ,aAr,List.length_cons,List.length_nil];omega
end Go.Lift
