/- Orders of a parallel loop: the program's function and the reference's come to the same; the law. -/
import Derived.Test.YtjmaejilmokdgaaGreatRDist1
import Derived.Test.YtjmaejilmokdgaaGreatRDistcG
set_option maxRecDepth 100000
set_option linter.unusedVariables false
namespace Go.Lift
open Go
theorem M9{n:Nat}{l:List Inst}(hn:2000≤n)(hT:l.length≤1000)(a b:Int):pP n l a b=some (eJ (fun x=>decide (a≤x.part)&&decide (x.part<b)) l l.length):=by
 unfold pP;refine Ev.eq (Ev.loop (fun x:List Int×Int=> ∃j:Nat,x.2=j∧j≤l.length∧x.1=eJ (fun x=>decide (a≤x.part)&&decide (x.part<b)) l j) (fun x=>l.length-x.2.toNat) ?_ n _ ⟨0,rfl,by omega,rfl⟩ (by dsimp only;omega));rintro again ⟨o,z⟩ ⟨j,rfl,hj,rfl⟩ hr;dsimp only;refine aH (fun hlt=>?_) fun hge=>Ev.some (by rw [show j=l.length by omega]);have hlt:j<l.length:=by omega
 have hx:=cI hlt;generalize l[j]=x at hx;have hsn:=qB (f:=fun x=>decide (a≤x.part)&&decide (x.part<b)) hx;have hlen:=jR (fun x=>decide (a≤x.part)&&decide (x.part<b)) l j;refine Ev.jn (fun o=>o=eJ (fun x=>decide (a≤x.part)&&decide (x.part<b)) l (j+1)) (fun j5 h5=>Ev.jn (fun z=>z=(decide (a≤x.part)&&decide (x.part<b))) (fun j6 h6=>?_) fun z hz=>?_) fun o ho=>?_
 ·refine aA (aM hx) (aH (fun h=>h6 _ (by rw [decide_eq_true h];rfl)) fun h=>h6 _ (by rw [decide_eq_false h];rfl))
 ·subst hz;rw [hsn] at h5;refine Ev.cond (fun h=>aA (bI (by simp;omega)) (h5 _ (by rw [if_pos h]))) fun h=>h5 _ (by rw [if_neg (by rw [h];simp),vAY])
 subst ho;rw [aK (by omega)];exact hr _ ⟨j+1,by dsimp only;omega,by omega,rfl⟩ (by dsimp only;omega)
theorem wI{n:Nat}{l:List Inst}(hn:2000≤n)(hT:l.length≤1000){i:Int}{k:Nat}(hL:pA l i k)(hM: ∀x∈l,x.point.length≤1000){q:List Int}(hq:q.length≤k+1):mO n l i q=some (iC l i q):=by
 unfold mO iC;refine Ev.eq (Ev.loop (fun x:List Int×Int=> ∃j:Nat,x.2=j∧j≤l.length∧x.1=eJ (kC i q) l j) (fun x=>l.length-x.2.toNat) ?_ n _ ⟨0,rfl,by omega,rfl⟩ (by dsimp only;omega));rintro again ⟨o,z⟩ ⟨j,rfl,hj,rfl⟩ hr;dsimp only;refine aH (fun hlt=>?_) fun hge=>Ev.some (by rw [show j=l.length by omega]);have hlt:j<l.length:=by omega
 have hx:=cI hlt;generalize l[j]=x at hx;have hsn:=qB (f:=kC i q) hx;have hlen:=jR (kC i q) l j;refine Ev.jn (fun o=>o=eJ (kC i q) l (j+1)) (fun j5 h5=>Ev.jn (fun z=>z=kC i q x) (fun j6 h6=>?_) fun z hz=>?_) fun o ho=>?_
 ·unfold kC at h6;refine aA (aM hx) (aH (fun h=>?_) fun h=>h6 _ (by rw [decide_eq_false h];rfl));have hlx:=hL j x hx h;have hmx:=hM x (cF hx);refine aA (s6 (by omega) (by omega) (by omega)) (aA (E0 (by simp;omega) (by simp;omega)) (h6 _ ?_));rw [decide_eq_true h,W0,sZ];rfl
 ·subst hz;rw [hsn] at h5;refine Ev.cond (fun h=>aA (bI (by simp;omega)) (h5 _ (by rw [if_pos h]))) fun h=>h5 _ (by rw [if_neg (by rw [h];simp),vAY])
 subst ho;rw [aK (by omega)];exact hr _ ⟨j+1,by dsimp only;omega,by omega,rfl⟩ (by dsimp only;omega)
theorem N6{n:Nat}{l:List Inst}(hn:2000≤n)(hT:l.length≤1000){i:Int}{k m:Nat}(hL:pA l i k)(hM: ∀x∈l,x.point.length≤1000)(hm:m≤k+1)(q:List Int):pQ n l (iC l i q) (m:Int)=some (hds l (iC l i q) m):=by
 have hg: ∀c∈iC l i q,∃(t:Nat) (x:Inst),l[t]? =some x∧x.part=i∧c=t:=fun c hc=>by
  obtain⟨t,x,h1,h2,_,h4⟩:=oH.1 hc;exact⟨t,x,h1,h2,h4⟩
 have hgl:(iC l i q).length≤1000:=by have:=jR (kC i q) l l.length;unfold iC;omega
 generalize iC l i q=g at*;unfold pQ hds;refine Ev.eq (Ev.loop (fun x:List (List Int)×Int=> ∃j:Nat,x.2=j∧j≤g.length∧x.1=aN ((g.take j).map fun c=>(wL l c).take m)) (fun x=>g.length-x.2.toNat) ?_ n _ ⟨0,rfl,by omega,rfl⟩ (by dsimp only;omega));rintro again ⟨o,z⟩ ⟨j,rfl,hj,rfl⟩ hr;dsimp only;refine aH (fun hlt=>?_) fun hge=>Ev.some (by rw [show j=g.length by omega,pB]);have hlt:j<g.length:=by omega
 have hc:=cI hlt;generalize g[j]=c at hc;obtain⟨t,x,hx,hp,rfl⟩:=hg c (cF hc);have hlx:=hL t x hx hp;have hmx:=hM x (cF hx);have hsn:(g.take (j+1)).map (fun c=>(wL l c).take m)=(g.take j).map (fun c=>(wL l c).take m)++[x.point.take m]:=by
  rw [iY hc,sY,vBl,gR hx]
 have hcs:=qH (x.point.take m) ((g.take j).map fun c=>(wL l c).take m);have hcl:=qI ((g.take j).map fun c=>(wL l c).take m);have hla:=u9 ((g.take j).map fun c=>(wL l c).take m);rw [lT,qS] at hcl;have hel: ∀y∈aN ((g.take j).map fun c=>(wL l c).take m),y.length≤1000:=fun y hy=>by
  rw [eE,D7] at hy;obtain⟨c,hc,rfl⟩:=hy;obtain⟨t',x',hx',_,rfl⟩:=hg c (vAz hc)
  have:=hM x' (cF hx');rw [gR hx',qS];omega
 refine Ev.jn (fun o=>o=aN ((g.take (j+1)).map fun c=>(wL l c).take m)) (fun j5 h5=>?_) fun o ho=>?_
 ·rw [hsn,hcs] at h5;generalize (g.take j).map (fun c=>(wL l c).take m)=S at*;refine aA (aM hc) (aA (aM hx) (aA (s6 (by omega) (by omega) (by omega)) ?_));rw [sZ,show(0:Int).toNat=0 from rfl,List.drop_zero];refine Ev.jn (fun z=>z= !decide (S.getLast? =some (x.point.take m))) (fun j9 h9=>?_) fun z hz=>?_
  ·refine aH (fun h0=>h9 _ ?_) fun h0=>?_
   ·have:aN S=[]:=vBk.1 (by omega);rw [←hla,this];rfl
   have hpos:0<(aN S).length:=by omega
   have e1:ix (aN S) (wr (((aN S).length:Int)-1))=some ((aN S)[(aN S).length-1]):=by
    rw [aK (by omega),show((aN S).length:Int)-1=(((aN S).length-1:Nat):Int) by omega];exact aM (cI (by omega))
   have e2:S.getLast? =some ((aN S)[(aN S).length-1]):=by
    rw [←hla,List.getLast?_eq_getElem?];exact cI (by omega)
   have e3:=hel _ (vAU (show(aN S).length-1<(aN S).length by omega));refine aA e1 (aA (E0 (by omega) (by omega)) (h9 _ ?_));rw [e2];simp
  subst hz;by_cases h:S.getLast? =some (x.point.take m)
  ·rw [decide_eq_true h];rw [if_pos h] at h5;exact bT (h5 _ rfl)
  rw [decide_eq_false h];rw [if_neg h] at h5;exact bY (aA (bI (by simp;omega)) (h5 _ rfl))
 subst ho;rw [aK (by omega)];exact hr _ ⟨j+1,by dsimp only;omega,by omega,rfl⟩ (by dsimp only;omega)
theorem aC9{α:Type}(cs:List Int){n:Nat}{l:List α}(h:0<l.length): ∃x,l[dO cs n l.length]? =some x∧K6 cs l.length n l=x::K6 cs (l.eraseIdx (dO cs n l.length)).length (n+1) (l.eraseIdx (dO cs n l.length))∧(l.eraseIdx (dO cs n l.length)).length+1=l.length:=by
 have hc:=rO cs n h;have e:=cI hc;have el:(l.eraseIdx (dO cs n l.length)).length+1=l.length:=by rw [List.length_eraseIdx,if_pos hc];omega
 refine⟨_,e,?_,el⟩;generalize hm:(l.eraseIdx (dO cs n l.length)).length=m at*;have hml:l.length=m+1:=el.symm
 conv=>lhs;rw [hml]
 simp only [K6];rw [e];rfl
theorem aCZ{α:Type}{l:List α}{c:Nat}(hc:c<l.length):l.take c++l.drop (c+1)=l.eraseIdx c:=(List.eraseIdx_eq_take_drop_succ l c).symm
theorem aCO{n:Nat}{cs:List Int}{k many:Nat}(hm:0<many):yS n cs (k:Int) (many:Int)=some (dO cs k many:Int):=by
 refine Ev.eq ?_;unfold yS dO;by_cases hc:cs.length=0
 ·rw [if_pos hc,hc];exact Ev.some rfl
 rw [if_neg hc,decide_eq_false (by omega)];have hlt:k%cs.length<cs.length:=Nat.mod_lt _ (by omega);have e:Int.tmod (k:Int) (cs.length:Int)=((k%cs.length:Nat):Int):=rfl;refine bT (aA (q7 (by omega)) ?_);rw [e];refine aA (aFQ hlt) (aA (q7 (by omega)) ?_);generalize Int.tmod (cs.getD (k%cs.length) 0) (many:Int)=q;refine Ev.some ?_;omega
theorem aMu{n:Nat}{l:List (List Int)}{c:Nat}(hc:c<l.length): ∃y,jP n l (c:Int) ((c:Int)+1)=some y∧y.2.take y.1=l.eraseIdx c:=by
 unfold jP;rw [decide_eq_true (show(0:Int)≤(c:Int) by omega),decide_eq_true (show(c:Int)≤(c:Int)+1 by omega),decide_eq_true (show(c:Int)+1≤(l.length:Int) by omega),decide_eq_false (show¬(c:Int)=(c:Int)+1 by omega)];refine⟨_,rfl,?_⟩;dsimp only;unfold vG;rw [sZ,show((c:Int)+1).toNat=c+1 by omega,←aCZ hc];refine(vBK ?_).trans (vBe ?_)
 ·unfold gK;simp;omega
 unfold gK;simp;omega
theorem aL3{n:Nat}(hn:2000≤n)(cs:List Int){g:List (List Int)}(hg:g≠[])(hl:g.length≤1000){n0:Nat}(h0:n0≤1000000)(hF:(K6 cs g.length n0 g).flatten.length≤1000):eD n g cs (n0:Int)=some ((K6 cs g.length n0 g).flatten,((n0+g.length:Nat):Int)):=by
 unfold eD pG;have he:g.isEmpty=false:=by cases g with
  |nil=>exact absurd rfl hg
  |cons=>rfl
 rw [he,cond_false,bI (by simp;omega),List.nil_append];refine Ev.eq (aA rfl ?_);generalize hE:(K6 cs g.length n0 g).flatten=E at*;refine Ev.loop (fun x:Int×List Int×List (List Int)=> ∃m:Nat,x.1=m∧m+x.2.2.length=n0+g.length∧x.2.1++(K6 cs x.2.2.length m x.2.2).flatten=E) (fun x=>x.2.2.length) ?_ n _ ⟨n0,rfl,rfl,by rw [List.nil_append];exact hE⟩ (by dsimp only;omega);rintro again ⟨z,o,left⟩ ⟨m,rfl,h1,h2⟩ hr;dsimp only at h1 h2⊢;refine aH (fun hlt=>?_) fun hge=>Ev.some ?_
 ·have hlt:0<left.length:=by omega
  obtain⟨x,e1,e2,e3⟩:=aC9 cs (n:=m) hlt;have hc:=rO cs m hlt;obtain⟨y,y1,y2⟩:=aMu (n:=n) hc;rw [e2,List.flatten_cons,←Y6] at h2;have hle:=congrArg List.length h2;rw [iX,iX] at hle;refine aA (aCO hlt) (aA (aM e1) (aA (bI (by omega)) ?_));rw [aK (n:=((dO cs m left.length:Nat):Int)+1) (by omega),aK (n:=(m:Int)+1) (by omega)];refine aA y1 ?_;rw [y2];exact hr _ ⟨m+1,by dsimp only;omega,by dsimp only;omega,h2⟩ (by dsimp only;omega)
 have hn:left=[]:=vBk.1 (by omega);subst hn;rw [List.length_nil] at h1;simp only [K6,List.length_nil,List.flatten_nil,List.append_nil] at h2;subst h2;rw [show(m:Int)=((n0+g.length:Nat):Int) by omega]
def H4(cs:List Int)(p:Prog)(part loop:Int):List Int×Bool:=if lO p part loop=true then(wN cs (insts p.parts) part loop.toNat,true) else([],false)
theorem aBh{p:Prog}(hv:bM p=true){i k:Nat}{P:Part}(hP:p.parts[i]? =some P)(hk:k<P.nest.length):pA (insts p.parts) (i:Int) k:=fun t x h1 h2=>by rw [(aBF hv hP (cF h1) h2).1];exact hk
theorem aCi{p:Prog}(hv:bM p=true): ∀x∈insts p.parts,x.point.length≤1000:=fun x hx=>by obtain⟨_,_,_,_,h,_⟩:=inst_pt hv (insts_mem hx);omega
theorem aAj{cs:List Int}{l:List Inst}{i:Int}{k n:Nat}{o:List Int}{os:List (List Int)}:sN cs l i k n (o::os)=(K6 cs (hds l (iC l i o) (k+1)).length n (hds l (iC l i o) (k+1))).flatMap (iC l i)++sN cs l i k (n+(hds l (iC l i o) (k+1)).length) os:=rfl
theorem aKn{n:Nat}(hn:20000≤n){p:Prog}(hp:SmP p)(cs:List Int)(part loop:Int):iP n p part loop cs=some (H4 cs p part loop):=by
 unfold iP;refine Ev.eq (aI (P:=fun x=>x.1=H4 cs p part loop) ?_ fun x hx=>Ev.some hx);unfold R1 H4;refine aA (Q7 (by omega) hp) ?_;by_cases hv:bM p=true
 ·rw [if_pos hv];refine bY (Ev.jn (fun z=>z= !lO p part loop) (fun j hj=>bT (aA (aAp hp hv part loop) (hj _ rfl))) fun z hz=>?_);subst hz;by_cases hc:lO p part loop=true
  ·rw [hc,if_pos rfl];obtain⟨_,i,k,P,lp,rfl,rfl,hP,hl,hi,hkl,hok,hk⟩:=B6 hc;rw [sZ];have hT:=(dT hv).2.2.2.2;have hs:=insts_ss hv;have hL:=aBh hv hP hkl;have hM:=aCi hv;have hlen:=O6 (cs:=cs) hs hL;refine bT ?_;show Ev (aL _ n ([],0)) _;have hits:=aMg (n:=n) (by omega) (t:=trc p) (by show(insts p.parts).length≤1000;omega) hs hL hM;have hgl:=aKt hL;have et:(trc p).list=insts p.parts:=rfl;rw [et] at hits;rw [hgl] at hits;have hol: ∀o∈hds (insts p.parts) (iC (insts p.parts) (i:Int) []) k,o.length=k:=fun o ho=>oW hL (by omega) ho;have hon: ∀o∈hds (insts p.parts) (iC (insts p.parts) (i:Int) []) k,hds (insts p.parts) (iC (insts p.parts) (i:Int) o) (k+1)≠[]:=fun o ho hn=>by
    obtain⟨t,x,h1,h2,_,h3⟩:=uV.1 ho
    have:x.point.take (k+1)∈hds (insts p.parts) (iC (insts p.parts) (i:Int) o) (k+1):=uV.2 ⟨t,x,h1,h2,by rw [hol o ho,h3],rfl⟩;rw [hn] at this;cases this
   have hhl: ∀q m,(hds (insts p.parts) (iC (insts p.parts) (i:Int) q) m).length≤120:=fun q m=>by
    have h1:=qI ((iC (insts p.parts) (i:Int) q).map fun c=>(wL (insts p.parts) c).take m);rw [lT] at h1;have h2:=jR (kC (i:Int) q) (insts p.parts) (insts p.parts).length;unfold hds iC at*;omega
   unfold wN at hlen⊢;rw [iX,iX] at hlen;simp only [Option.getD_some,et];generalize hQ:hds (insts p.parts) (iC (insts p.parts) (i:Int) []) k=Q at*;generalize hI:insts p.parts=l at*;generalize hA:eJ (fun x=>decide (x.part<(i:Int))) l l.length=A at*;refine Ev.loop (fun x:List Int×Int=> ∃j:Nat,x.2=j∧j≤l.length∧x.1=eJ (fun x=>decide (x.part<(i:Int))) l j) (fun x=>l.length-x.2.toNat) ?_ n _ ⟨0,rfl,by omega,rfl⟩ (by dsimp only;omega);rintro again ⟨o,z⟩ ⟨j,rfl,hj,rfl⟩ hr;dsimp only;refine aH (fun hlt=>?_) fun hge=>?_
   ·have hlt:j<l.length:=by omega
    have hx:=cI hlt;generalize l[j]=x at hx;have hsn:=qB (f:=fun x=>decide (x.part<(i:Int))) hx;have hln:=jR (fun x=>decide (x.part<(i:Int))) l j;refine Ev.jn (fun z=>z.1=eJ (fun x=>decide (x.part<(i:Int))) l (j+1)) (fun j12 h12=>aA (aM hx) (aH (fun h=>aA (bI (by simp;omega)) (h12 _ ?_)) fun h=>h12 _ ?_)) fun z hz=>?_
    ·rw [hsn,if_pos (decide_eq_true h)]
    ·rw [hsn,if_neg (by simpa using h),vAY]
    obtain⟨z1,z2,z3,z4⟩:=z;dsimp only at hz⊢;rw [aK (by omega)];exact hr _ ⟨j+1,by dsimp only;omega,by omega,hz⟩ (by dsimp only;omega)
   have e:j=l.length:=by omega
   subst e;rw [hA];refine aA hits ?_;have hml:(Q.map fun o=>(hds l (iC l (i:Int) o) (k+1)).map (iC l (i:Int))).length=Q.length:=lT _;refine Ev.loop (fun x:List Int×Int×Int=> ∃t m:Nat,x.2.2=t∧t≤Q.length∧x.2.1=m∧m≤120*t∧x.1++sN cs l (i:Int) k m (Q.drop t)=A++sN cs l (i:Int) k 0 Q) (fun x=>Q.length-x.2.2.toNat) ?_ n _ ⟨0,0,rfl,by omega,rfl,by omega,rfl⟩ (by dsimp only;have:=hhl [] k;rw [hQ] at this;omega);rintro again2 ⟨o,mz,tz⟩ ⟨t,m,rfl,ht,rfl,hmt,hom⟩ hr2;dsimp only at hom⊢;have hQl:=hhl [] k;rw [hQ] at hQl;rw [hml];refine aH (fun hlt=>?_) fun hge=>?_
   ·have hlt:t<Q.length:=by omega
    have hx:=cI hlt;generalize hq:Q[t]=q at hx;have hqm:=cF hx;rw [iK hx,aAj] at hom;have hR:=hhl q (k+1);have hRn:=hon q hqm;have e9:(Q.map fun o=>(hds l (iC l (i:Int) o) (k+1)).map (iC l (i:Int)))[t]? =some ((hds l (iC l (i:Int) q) (k+1)).map (iC l (i:Int))):=by rw [vF,hx];rfl
    generalize hds l (iC l (i:Int) q) (k+1)=R at*;have hfm:(K6 cs (R.map (iC l (i:Int))).length m (R.map (iC l (i:Int)))).flatten=(K6 cs R.length m R).flatMap (iC l (i:Int)):=by
     rw [lT,aF0,List.flatMap_def]
    rw [←Y6] at hom;have hle:=congrArg List.length hom;rw [iX,iX,iX] at hle;have hpo:=aL3 (n:=n) (by omega) cs (g:=R.map (iC l (i:Int))) (by simpa using hRn) (by rw [lT];omega) (n0:=m) (by omega) (by rw [hfm];omega);rw [hfm,lT] at hpo;refine aA (aM e9) (aA hpo (aA (bI (by dsimp only;omega)) ?_));rw [aK (by omega)];exact hr2 _ ⟨t+1,m+R.length,by dsimp only;omega,by omega,rfl,by omega,hom⟩ (by dsimp only;omega)
   have e:t=Q.length:=by omega
   subst e;rw [vBx] at hom;simp only [sN,List.append_nil] at hom;subst hom;refine Ev.loop (fun x:List Int×Int=> ∃j:Nat,x.2=j∧j≤l.length∧x.1=A++sN cs l (i:Int) k 0 Q++eJ (fun x=>decide ((i:Int)<x.part)) l j) (fun x=>l.length-x.2.toNat) ?_ n _ ⟨0,rfl,by omega,by simp [eJ]⟩ (by dsimp only;omega);rintro again3 ⟨o,z⟩ ⟨j,rfl,hj,rfl⟩ hr3;dsimp only;refine aH (fun hlt=>?_) fun hge=>Ev.some ?_
   ·have hlt:j<l.length:=by omega
    have hx:=cI hlt;generalize l[j]=x at hx;have hsn:=qB (f:=fun x=>decide ((i:Int)<x.part)) hx;have hln:=jR (fun x=>decide ((i:Int)<x.part)) l j;refine Ev.jn (fun z=>z.1=A++sN cs l (i:Int) k 0 Q++eJ (fun x=>decide ((i:Int)<x.part)) l (j+1)) (fun j12 h12=>aA (aM hx) (aH (fun h=>aA (bI (by simp only [List.length_append,List.length_singleton];omega)) (h12 _ ?_)) fun h=>h12 _ ?_)) fun z hz=>?_
    ·rw [hsn,if_pos (decide_eq_true h)];simp only [List.append_assoc]
    ·rw [hsn,if_neg (by simpa using h),vAY]
    obtain⟨z1,z2,z3,z4⟩:=z;dsimp only at hz⊢;rw [aK (by omega)];exact hr3 _ ⟨j+1,by dsimp only;omega,by omega,hz⟩ (by dsimp only;omega)
   rw [show j=l.length by omega,Y6]
  rw [if_neg hc,show lO p part loop=false by simpa using hc];exact bY (Ev.some rfl)
 rw [if_neg hv];refine bT (Ev.jn (fun z=>z=true) (fun j hj=>bY (hj _ rfl)) fun z hz=>?_);rw [hz,if_neg]
 ·exact bY (Ev.some rfl)
 intro h;exact hv (B6 h).1
theorem aCx{l:List Inst}{k:Nat}{f g:Inst→Bool}(h: ∀x∈l,f x=g x):eJ f l k=eJ g l k:=by
 unfold eJ;congr 1;refine List.filter_congr fun t ht=>?_;cases hx:l[t]? with
 |none=>rfl
 |some x=>exact h x (cF hx)
theorem aJU{n:Nat}(hn:20000≤n){p:Prog}(hp:BG 1000 p)(cs:List Int)(part loop:Int):iM n p part loop cs=some (H4 cs p part loop):=by
 unfold iM H4;refine Ev.eq (aA (aMj (by omega) hp part loop) ?_);by_cases hc:lO p part loop=true
 ·rw [hc,if_pos rfl];obtain⟨hv,i,k,P,lp,rfl,rfl,hP,hl,hi,hkl,hok,hk⟩:=B6 hc;rw [sZ];have hT:=(dT hv).2.2.2.2;have hs:=insts_ss hv;have hL:=aBh hv hP hkl;have hM:=aCi hv;have hlen:=O6 (cs:=cs) hs hL;have hpl:=(dT hv).2.2.1;have hol: ∀o∈hds (insts p.parts) (iC (insts p.parts) (i:Int) []) k,o.length=k:=fun o ho=>oW hL (by omega) ho;have hpart: ∀x∈insts p.parts,0≤x.part∧x.part<(p.parts.length:Int):=fun x hx=>insts_lt hx;have hhl: ∀q m,(hds (insts p.parts) (iC (insts p.parts) (i:Int) q) m).length≤120:=fun q m=>by
   have h1:=qI ((iC (insts p.parts) (i:Int) q).map fun c=>(wL (insts p.parts) c).take m);rw [lT] at h1;have h2:=jR (kC (i:Int) q) (insts p.parts) (insts p.parts).length;unfold hds iC at*;omega
  unfold wN at hlen⊢;rw [iX,iX] at hlen;refine bT (aA (N5 (by omega) hv) ?_);generalize hI:insts p.parts=l at*;refine aA (M9 (by omega) (by omega) 0 (i:Int)) (aA (wI (by omega) (by omega) hL hM (q:=[]) (by simp)) (aA (N6 (by omega) (by omega) hL hM (by omega) []) ?_));rw [aCx (g:=fun x=>decide (x.part<(i:Int))) fun x hx=>by rw [decide_eq_true (hpart x hx).1,W0]];generalize hA:eJ (fun x=>decide (x.part<(i:Int))) l l.length=A at*;have hQl:=hhl [] k;generalize hQ:hds l (iC l (i:Int) []) k=Q at*;refine Ev.loop (fun x:List Int×Int×Int=> ∃t m:Nat,x.2.2=t∧t≤Q.length∧x.2.1=m∧m≤120*t∧x.1++sN cs l (i:Int) k m (Q.drop t)=A++sN cs l (i:Int) k 0 Q) (fun x=>Q.length-x.2.2.toNat) ?_ n _ ⟨0,0,rfl,by omega,rfl,by omega,rfl⟩ (by dsimp only;omega);rintro again2 ⟨o,mz,tz⟩ ⟨t,m,rfl,ht,rfl,hmt,hom⟩ hr2;dsimp only at hom⊢;refine aH (fun hlt=>?_) fun hge=>?_
  ·have hlt:t<Q.length:=by omega
   have hx:=cI hlt;generalize hq:Q[t]=q at hx;have hqm:=cF hx;have hql:=hol q hqm;rw [iK hx,aAj] at hom;have hR:=hhl q (k+1);have hRl: ∀r∈hds l (iC l (i:Int) q) (k+1),r.length=k+1:=fun r hr=>oW hL (iB _) hr;rw [aK (n:=(k:Int)+1) (by omega)];refine aA (aM hx) (aA (wI (by omega) (by omega) hL hM (by omega)) (aA (x:=hds l (iC l (i:Int) q) (k+1)) (N6 (m:=k+1) (by omega) (by omega) hL hM (by omega) q) ?_));generalize hds l (iC l (i:Int) q) (k+1)=R at*;have hgo: ∀(o2:List Int),o2=o++(K6 cs R.length m R).flatMap (iC l (i:Int))→Ev (again2 (o2,((m+R.length:Nat):Int),wr ((t:Int)+1))) (fun r=>r=(A++(sN cs l (i:Int) k 0 Q++eJ (fun x=>decide ((i:Int)<x.part)) l l.length),true)):=fun o2 ho2=>by
    rw [aK (by omega)];exact hr2 _ ⟨t+1,m+R.length,by dsimp only;omega,by omega,rfl,by omega,by rw [ho2,Y6];exact hom⟩ (by dsimp only;omega)
   rw [←Y6] at hom;have hle:=congrArg List.length hom;rw [iX,iX,iX] at hle;refine Ev.loop (fun x:List Int×Int×List (List Int)=> ∃u:Nat,x.2.1=u∧u+x.2.2.length=m+R.length∧(∀r∈x.2.2,r.length=k+1)∧x.1++(K6 cs x.2.2.length u x.2.2).flatMap (iC l (i:Int))=o++(K6 cs R.length m R).flatMap (iC l (i:Int))) (fun x=>x.2.2.length) ?_ n _ ⟨m,rfl,rfl,hRl,rfl⟩ (by dsimp only;omega);rintro again3 ⟨o3,uz,rest⟩ ⟨u,rfl,h1,h3,h2⟩ hr3;dsimp only at h1 h2 h3⊢;refine aH (fun hlt3=>?_) fun hge3=>?_
   ·have hlt3:0<rest.length:=by omega
    obtain⟨x,e1,e2,e3⟩:=aC9 cs (n:=u) hlt3;have hc3:=rO cs u hlt3;have hxl:=h3 x (cF e1);rw [e2,vBW,←Y6] at h2;have hle3:=congrArg List.length h2;rw [iX,iX,iX] at hle3;refine aA (aCq hlt3) (aA (aM e1) (aA (wI (by omega) (by omega) hL hM (by omega)) (aA (bI (by omega)) (aA (s6 (by omega) (by omega) (by omega)) (aA (bI (by simp;omega)) ?_)))));rw [aK (n:=((dO cs u rest.length:Nat):Int)+1) (by omega),aK (n:=(u:Int)+1) (by omega)];refine aA (s6 (by omega) (by omega) (by omega)) (aA (bI (by simp;omega)) ?_);rw [sZ,sZ,show(0:Int).toNat=0 from rfl,List.drop_zero,List.nil_append,pB,show(((dO cs u rest.length:Nat):Int)+1).toNat=dO cs u rest.length+1 by omega,aCZ hc3];exact hr3 _ ⟨u+1,by dsimp only;omega,by dsimp only;omega,fun r hr=>h3 r (List.mem_of_mem_eraseIdx hr),h2⟩ (by dsimp only;omega)
   have hn3:rest=[]:=vBk.1 (by omega);subst hn3;rw [List.length_nil] at h1;simp only [K6,List.length_nil,List.flatMap_nil,List.append_nil] at h2;rw [show(u:Int)=((m+R.length:Nat):Int) by omega];exact hgo _ h2
  have e:t=Q.length:=by omega
  subst e;rw [vBx] at hom;simp only [sN,List.append_nil] at hom;subst hom;rw [aK (by omega)];have hil:=jR (fun x=>decide ((i:Int)<x.part)) l l.length;refine aA (M9 (by omega) (by omega) ((i:Int)+1) (p.parts.length:Int)) ?_;rw [aCx (g:=fun x=>decide ((i:Int)<x.part)) (fun x hx=>by
   rw [decide_eq_true (hpart x hx).2,Bool.and_true,vBP];simp only [decide_eq_true_eq];omega)]
  refine aA (bI (by rw [iX];omega)) (Ev.some ?_);rw [Y6]
 rw [if_neg hc,show lO p part loop=false by simpa using hc];exact bY (Ev.some rfl)
theorem aED(code:List UInt8):Ev (eM N code) (fun x=>BG 1000 x.1):=by
 have hN:N=100000:=rfl;unfold eM N1 N2;refine aI (aJ5 code) fun x1 r1=>aI (P:=fun x=>BG 1000 x.1∧RdOk 300000 x.2.2.2) ?_ fun x2 ⟨h3,r2⟩=>aI (gA N r2 (by omega) (by simp)) fun x4 ⟨hm,r4⟩=>?_
 ·refine aI (P:=fun x=>BG 1000 x.1∧RdOk 300000 x.2.2.2.2) ?_ fun x h=>Ev.some h;exact aI (aGs r1 (by omega)) fun x1 ⟨h1,r1⟩=>aI (aKb (by omega) r1 (by omega) h1) fun x2 ⟨h2,r2⟩=>aI (gA N r2 (by omega) (by simp)) fun x3 ⟨_,r3⟩=>aI (gA N r3 (by omega) (by simp)) fun x4 ⟨_,r4⟩=>aI (gA N r4 (by omega) (by simp)) fun x5 ⟨_,r5⟩=>Ev.some ⟨h2.mono (show 30≤1000 by omega),r5.mono (by omega)⟩
 have hc:0≤x4.1∧x4.1≤8:=by
  simp only [List.mem_cons,List.not_mem_nil,or_false] at hm;omega
 refine Ev.loop (fun z:List UInt8×Int×List Int×Int=>0≤z.2.2.2∧z.2.2.2≤8∧z.2.2.1.length+z.2.2.2.toNat≤8∧RdOk (400000+2*(8-z.2.2.2)) ⟨z.1,z.2.1⟩) (fun z=>z.2.2.2.toNat) ?_ N _ ⟨hc.1,hc.2,by simp;omega,r4.mono (by dsimp only;omega)⟩ (by dsimp only;omega);rintro again ⟨b,q,o,c⟩ ⟨c0,c1,ho,r5⟩ hr;dsimp only at c0 c1 ho r5⊢;refine aH (fun hlt=>?_) fun hge=>Ev.some h3;refine aI (gA N r5 (by omega) (by simp)) fun x9 ⟨_,r9⟩=>aA (bI (by rw [vAJ];omega)) ?_;rw [aK (by omega)];exact hr _ ⟨by dsimp only;omega,by dsimp only;omega,by dsimp only;rw [iX,vAJ];omega,r9.mono (by dsimp only;omega)⟩ (by dsimp only;omega)
theorem aHT{p:Prog}(cs:List Int)(part loop:Int):(H4 cs p part loop).1.length≤1000:=by
 unfold H4;split
 ·rename_i hc;obtain⟨hv,i,k,P,lp,rfl,rfl,hP,hl,hi,hkl,hok,hk⟩:=B6 hc;have hT:=(dT hv).2.2.2.2;rw [sZ];show(wN cs (insts p.parts) (i:Int) k).length≤1000;rw [O6 (insts_ss hv) (aBh hv hP hkl)];omega
 simp
theorem H3(code:List UInt8):lM N code=some true:=by
 have hN:N=100000:=rfl;refine Ev.eq ?_;unfold lM;refine aH (fun _=>Ev.some rfl) fun _=>aI (aED code) fun x1 hp=>?_;obtain⟨p,part,loop,cs⟩:=x1;dsimp only at hp⊢;have hol:=aHT (p:=p) cs part loop;have hls:=E7 (n:=N) (by omega) hol;refine aA (aKn (by omega) hp.sm cs part loop) (aA (aJU (by omega) hp cs part loop) (Ev.jn (fun z=>z=false→lO p part loop=true∧aD5 p part.toNat loop.toNat=true) (fun j hj=>?_) fun z hz=>?_))
 ·rw [beq_self_eq_true];refine bT (aA hls (bT ?_));cases h2:(H4 cs p part loop).2 with
  |false=>exact bY (hj _ fun h=>by cases h)
  |true=>
   refine bT (aA (aKo (by omega) hp.sm part loop) (hj _ fun h=>?_));simpa using h
 cases z with
 |true=>
  refine bY (Ev.jn (fun z=>z=true) (fun j hj=>?_) fun z hz=>Ev.some hz);rw [beq_self_eq_true];exact bY (aA hls (hj _ rfl))
 |false=>
  obtain⟨hc,hpar⟩:=hz rfl;obtain⟨hv,i,k,P,lp,rfl,rfl,hP,hl,hi,hkl,hok,hk⟩:=B6 hc;rw [sZ,sZ] at hpar;have hs:=hp.sm;have ht:=aNj hv;refine bT (aA (H8 (by omega) hs hv) (aA (aK7 ⟨by omega,by omega⟩ 0) (aKv (n:=N) (T:=(fN p.arrays).toNat) (e:=fun i=>Int.tmod (wr ((wr (i*53))+7)) 1000) (K:=fun x13=>Option.bind (nJ N p x13 (H4 cs p (i:Int) (k:Int)).1) fun x19=>Option.bind (jT N p x13) fun x20=>jn (fun(x23:Bool)=>some x23) fun j21=>bif x19.2 then(bif x20.2 then(Option.bind (lC N x19.1 x20.1) fun x22=>j21 x22) else(j21 false)) else(j21 false)) (by omega) (by omega) (fun i h0 h1=>?_) fun m h1 h2=>?_)))
  ·rw [aK (n:=i*53) (by omega),aK (by omega)];exact aNl (by omega)
  have hmo:fD p.arrays m:=⟨by omega,h2⟩
  have hmv:=aKd hv hmo;have hml:=aFB hv hmo;have hok: ∀x∈insts p.parts,dF p x:=fun x hx=>insts_mem hx;have eO:(H4 cs p (i:Int) (k:Int)).1=wN cs (insts p.parts) (i:Int) k:=by
   unfold H4;rw [if_pos hc,sZ]
  obtain⟨r1,r2⟩:=aJ2 hv hP hkl hpar cs hmo;refine aA (X4 (by omega) hs hml hol) (aA (H5 (by omega) hs hml) ?_);have e1:aFt p m (H4 cs p (i:Int) (k:Int)).1=(cB p m (insts p.parts),true):=by
   unfold aFt;rw [eO,if_pos ⟨hmv,r1⟩,r2]
  rw [e1,aHI hmv];have hl:lC N (cB p m (insts p.parts)) (cB p m (insts p.parts))=some true:=E7 (by omega) (aFB hv (uL hv hok hmo));exact Ev.jn (fun z=>z=true) (fun j hj=>bY (bY (aA hl (hj _ rfl)))) fun z hz=>Ev.some hz
end Go.Lift
