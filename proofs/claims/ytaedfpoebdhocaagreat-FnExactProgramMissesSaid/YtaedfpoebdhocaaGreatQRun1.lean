/- Programs compose. -/
import Derived.Test.YtaedfpoebdhocaaGreatQDraw1
set_option maxRecDepth 110000000
set_option linter.unusedVariables false
namespace Go.Lift
open Go
theorem nR{α:Type}{l:List α}{i:Nat}{x:α}(h:l[i]? =some x):l.take (i+1)=l.take i++[x]:=by rw [K1,h];rfl
def wc(p:Prog)(x:Inst):Nat:=match sW p x with
 |some s=>(b7 p.arrays s.write x.point 0).toNat
 |none=>0
def rc(p:Prog)(x:Inst):List Int:=match sW p x with
 |some s=>(bO 5 s.value).map (fun a=>b7 p.arrays a x.point 0)
 |none=>[]
def vl(p:Prog)(m:List Int)(x:Inst):Int:=match sW p x with
 |some s=>L5 5 p.arrays m s.value x.point
 |none=>0
theorem aA9{list:List Arr}(hd:gS list){a:Access}{q:List Int}(h:0≤b7 list a q 0):b7 list a q 0<qA list:=by rcases aBa hd a q 0 (v2 0) with hc|hc<;>omega
theorem inst_c{p:Prog}(hv:dD p=true){x:Inst}(hx:K0 p x):(wc p x:Int)<qA p.arrays∧(∀c∈rc p x,0≤c∧c<qA p.arrays)∧(rc p x).length≤12∧ ∀m,aHd p m x=m.set (wc p x) (vl p m x):=by obtain⟨i,k,P,s,d,e1,e2,e3,e4,e5,e6,e7,e8⟩:=inst_d hv hx;obtain⟨hl,hd,h4,hpo,hil⟩:=l3 hv;obtain⟨c1,c2⟩:=I6 e8;obtain⟨s1,s2,s3,s4⟩:=E1 e6;unfold wc rc vl aHd;rw [e5];dsimp only;refine⟨by have:=aA9 hd c1;omega,fun c hc=>?_,by rw [zP];exact s4,fun m=>rfl⟩;obtain⟨a,ha,rfl⟩:=U8.1 hc;exact⟨c2 a ha,aA9 hd (c2 a ha)⟩
theorem F9{n:Nat}(hn:7810000≤n){p:Prog}(hv:dD p=true){x:Inst}(hx:K0 p x):d6 n p x=some (rc p x,(wc p x:Int)):=by
 obtain⟨i,k,P,s,d,e1,e2,e3,e4,e5,e6,e7,e8⟩:=inst_d hv hx;obtain⟨hl,hd,h4,hpo,hil⟩:=l3 hv;obtain⟨c1,c2⟩:=I6 e8;obtain⟨s1,s2,s3,s4⟩:=E1 e6;obtain⟨n,rfl⟩: ∃j,n=j+1:=⟨n-1,by omega⟩
 have hst:f9 (n+1) p x=some s:=by
  unfold f9;rw [e1,e2,aI e3];show Option.bind (ix P.body (k:Int)) _=_;rw [aI e4];rfl
 have ew:(wc p x:Int)=b7 p.arrays s.write x.point 0:=by unfold wc;rw [e5];dsimp only;omega
 have er:rc p x=(bO 5 s.value).map (fun a=>b7 p.arrays a x.point 0):=by unfold rc;rw [e5]
 rw [ew,er];refine Ev.eq ?_;unfold d6;refine aA hst (aA (pC (d:=d) 5 n s.value (by omega) (by omega) s2) ?_);generalize hR:bO 5 s.value=R at*;refine Ev.loop (fun z:List Int×Int=> ∃i:Nat,z.2=i∧i≤R.length∧z.1=(R.take i).map fun a=>b7 p.arrays a x.point 0) (fun z=>R.length-z.2.toNat) ?_ (n+1) _ ⟨0,rfl,by omega,by simp⟩ (by dsimp only;omega);rintro again ⟨out,z⟩ ⟨i,hz,hi,ho⟩ hr;dsimp only at hz ho⊢;subst hz;refine aF (fun hlt=>?_) fun hge=>?_
 ·have hg:=cE (show i<R.length by omega);refine aA (aI hg) (aA (n5 (by omega) hl hd (s3 _ (cK hg)) e7) (aA (cG (by rw [ho,zP,nQ,vAP];omega)) ?_));rw [aM (by omega)];refine hr _ ⟨i+1,by dsimp only;omega,by omega,?_⟩ (by dsimp only;omega);dsimp only;rw [nR hg,vBb,ho];rfl
 have e:i=R.length:=by omega
 refine aA (n5 (by omega) hl hd s1 e7) (Ev.some ?_);rw [ho,e,pM]
theorem aBr{n:Nat}(hn:7810000≤n){p:Prog}(hv:dD p=true){x:Inst}(hx:K0 p x): ∃P s,ix p.parts x.part=some P∧ix P.body x.stmt=some s∧iS n p.arrays s x.point=some (rc p x,(wc p x:Int),true):=by
 obtain⟨i,k,P,s,d,e1,e2,e3,e4,e5,e6,e7,e8⟩:=inst_d hv hx;obtain⟨hl,hd,h4,hpo,hil⟩:=l3 hv;obtain⟨c1,c2⟩:=I6 e8;have ew:(wc p x:Int)=b7 p.arrays s.write x.point 0:=by unfold wc;rw [e5];dsimp only;omega
 have er:rc p x=(bO 5 s.value).map (fun a=>b7 p.arrays a x.point 0):=by unfold rc;rw [e5]
 refine⟨P,s,by rw [e1];exact aI e3,by rw [e2];exact aI e4,?_⟩;rw [qH (by omega) hl hd e6 e7,if_pos e8,ew,er]
theorem G2{n:Nat}(hn:7700000≤n){p:Prog}(hp:SmP p): ∃L,bU n p=some (L,dD p)∧(dD p=true→L=insts p.parts):=by
 rw [nG hn hp];cases ha:lP p with
 |false=>
  refine⟨[],?_,fun h=>?_⟩
  ·rw [if_neg (by simp),show dD p=false by unfold dD;rw [ha];rfl]
  unfold dD at h;rw [ha] at h;cases h
 |true=>
  refine⟨insts p.parts,?_,fun _=>rfl⟩;rw [if_pos rfl,show dD p=decide ((insts p.parts).length≤120) by
   unfold dD;rw [ha,Bool.true_and];exact decide_eq_decide.2 (by have:=insts_len' p.parts;omega)]
theorem aHk{α:Type}{n:Int}(h:0≤n∧n≤1000000000)(x:α):mk n x=some (List.replicate n.toNat x):=by unfold mk;rw [if_pos h]
def pick(l:List Inst)(o:List Int):List Inst:=o.filterMap fun c=>l[c.toNat]?
def places(o:List Int):Nat→List Int
 |0=>List.replicate o.length 0
 |k+1=>(places o k).set (o.getD k 0).toNat (k:Int)
def trc(p:Prog):Traced:=⟨p,insts p.parts,(insts p.parts).map (rc p),(insts p.parts).map fun x=>(wc p x:Int)⟩
theorem F6{α β:Type}{l:List α}{f:α→β}{i:Nat}{x:α}(h:l[i]? =some x):(l.map f)[i]? =some (f x):=by rw [pW,h];rfl
theorem wY{α β:Type}{l:List α}{f:α→β}{i:Nat}{x:α}(h:l[i]? =some x):(l.take (i+1)).map f=(l.take i).map f++[f x]:=by rw [nR h,vBb];rfl
theorem X4{n:Nat}(hn:7810000≤n){p:Prog}(hp:SmP p):q6 n p=some (if dD p=true then(some (trc p),true) else(none,false)):=by
 obtain⟨L,h1,h2⟩:=G2 (n:=n) (by omega) hp;refine Ev.eq ?_;unfold q6;refine aA h1 ?_;dsimp only;cases hv:dD p with
 |false=>exact Ev.some rfl
 |true=>
  rw [h2 hv];have hil:=(l3 hv).2.2.2.2;refine bE (Ev.loop (fun z:List (List Int)×List Int×Int=> ∃i:Nat,z.2.2=i∧i≤(insts p.parts).length∧z.1=((insts p.parts).take i).map (rc p)∧z.2.1=((insts p.parts).take i).map fun x=>(wc p x:Int)) (fun z=>(insts p.parts).length-z.2.2.toNat) ?_ n _ ⟨0,rfl,by omega,rfl,rfl⟩ (by first|omega|(dsimp only;omega)));rintro again ⟨a,b,z⟩ ⟨i,hz,hi,ha,hb⟩ hr;dsimp only at hz ha hb⊢;subst hz;refine aF (fun hlt=>?_) fun hge=>Ev.some ?_
  ·have hg:=cE (show i<(insts p.parts).length by omega);refine aA (aI hg) (aA (F9 (by omega) hv (insts_mem (cK hg))) (aA (cG (by rw [ha,zP,nQ,vAP];omega)) (aA (cG (by rw [hb,zP,nQ,vAP];omega)) ?_)));rw [aM (by omega)];exact hr _ ⟨i+1,by dsimp only;omega,by omega,by dsimp only;rw [wY hg,ha],by dsimp only;rw [wY hg,hb]⟩ (by dsimp only;omega)
  have e:i=(insts p.parts).length:=by omega
  rw [ha,hb,e,pM];rfl
def L7(p:Prog):List L6Use:=(insts p.parts).map fun x=>(⟨rc p x,(wc p x:Int)⟩:L6Use)
theorem aBp{n:Nat}(hn:7810000≤n){p:Prog}(hv:dD p=true):qE n p=some (L7 p):=by
 have hil:=(l3 hv).2.2.2.2;refine Ev.eq ?_;unfold qE L7;refine aA (wF (by omega) hv) (Ev.loop (fun z:List L6Use×Int=> ∃i:Nat,z.2=i∧i≤(insts p.parts).length∧z.1=((insts p.parts).take i).map fun x=>(⟨rc p x,(wc p x:Int)⟩:L6Use)) (fun z=>(insts p.parts).length-z.2.toNat) ?_ n _ ⟨0,rfl,by omega,rfl⟩ (by dsimp only;omega));rintro again ⟨a,z⟩ ⟨i,hz,hi,ha⟩ hr;dsimp only at hz ha⊢;subst hz;refine aF (fun hlt=>?_) fun hge=>Ev.some ?_
 ·have hg:=cE (show i<(insts p.parts).length by omega);obtain⟨P,s,c1,c2,c3⟩:=aBr hn hv (insts_mem (cK hg));refine aA (aI hg) (aA c1 (aA c2 (aA c3 (aA (cG (by rw [ha,zP,nQ,vAP];omega)) ?_))));rw [aM (by omega)];exact hr _ ⟨i+1,by dsimp only;omega,by omega,by dsimp only;rw [wY hg,ha]⟩ (by dsimp only;omega)
 have e:i=(insts p.parts).length:=by omega
 rw [ha,e,pM]
end Go.Lift
