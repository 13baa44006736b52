/- Programs compose. -/
import Derived.Test.YtjmaejilmokdgaaGreatKDraw1
set_option maxRecDepth 100000
set_option linter.unusedVariables false
namespace Go.Lift
open Go
theorem nQ{α:Type}{l:List α}{i:Nat}{x:α}(h:l[i]? =some x):l.take (i+1)=l.take i++[x]:=by rw [yV,h];rfl
def wc(p:Prog)(x:Inst):Nat:=match G4 p x with
 |some s=>(dM p.arrays s.write x.point 0).toNat
 |none=>0
def rc(p:Prog)(x:Inst):List Int:=match G4 p x with
 |some s=>(cN 5 s.value).map (fun a=>dM p.arrays a x.point 0)
 |none=>[]
def vl(p:Prog)(m:List Int)(x:Inst):Int:=match G4 p x with
 |some s=>wN 5 p.arrays m s.value x.point
 |none=>0
theorem aHq{list:List Arr}(hd:jO list){a:Access}{q:List Int}(h:0≤dM list a q 0):dM list a q 0<wU list:=by rcases aHr hd a q 0 (R4 0) with hc|hc<;>omega
theorem inst_c{p:Prog}(hv:cF p=true){x:Inst}(hx:fI p x):(wc p x:Int)<wU p.arrays∧(∀c∈rc p x,0≤c∧c<wU p.arrays)∧(rc p x).length≤12∧ ∀m,uM p m x=m.set (wc p x) (vl p m x):=by obtain⟨i,k,P,s,d,e1,e2,e3,e4,e5,e6,e7,e8⟩:=inst_d hv hx;obtain⟨hl,hd,h4,hpo,hil⟩:=iZ hv;obtain⟨c1,c2⟩:=aCQ e8;obtain⟨s1,s2,s3,s4⟩:=oD e6;unfold wc rc vl uM;rw [e5];dsimp only;refine⟨by have:=aHq hd c1;omega,fun c hc=>?_,by rw [qB];exact s4,fun m=>rfl⟩;obtain⟨a,ha,rfl⟩:=vAV.1 hc;exact⟨c2 a ha,aHq hd (c2 a ha)⟩
theorem aCt{n:Nat}(hn:7100≤n){p:Prog}(hv:cF p=true){x:Inst}(hx:fI p x):gQ n p x=some (rc p x,(wc p x:Int)):=by
 obtain⟨i,k,P,s,d,e1,e2,e3,e4,e5,e6,e7,e8⟩:=inst_d hv hx;obtain⟨hl,hd,h4,hpo,hil⟩:=iZ hv;obtain⟨c1,c2⟩:=aCQ e8;obtain⟨s1,s2,s3,s4⟩:=oD e6;obtain⟨n,rfl⟩: ∃j,n=j+1:=⟨n-1,by omega⟩
 have hst:kS (n+1) p x=some s:=by
  unfold kS;rw [e1,e2,aN e3];show Option.bind (ix P.body (k:Int)) _=_;rw [aN e4];rfl
 have ew:(wc p x:Int)=dM p.arrays s.write x.point 0:=by unfold wc;rw [e5];dsimp only;omega
 have er:rc p x=(cN 5 s.value).map (fun a=>dM p.arrays a x.point 0):=by unfold rc;rw [e5]
 rw [ew,er];refine Ev.eq ?_;unfold gQ;refine aA hst (aA (xS (d:=d) 5 n s.value (by omega) (by omega) s2) ?_);generalize hR:cN 5 s.value=R at*;refine Ev.loop (fun z:List Int×Int=> ∃i:Nat,z.2=i∧i≤R.length∧z.1=(R.take i).map fun a=>dM p.arrays a x.point 0) (fun z=>R.length-z.2.toNat) ?_ (n+1) _ ⟨0,rfl,by omega,by simp⟩ (by dsimp only;omega);rintro again ⟨out,z⟩ ⟨i,hz,hi,ho⟩ hr;dsimp only at hz ho⊢;subst hz;refine aH (fun hlt=>?_) fun hge=>?_
 ·have hg:=cO (show i<R.length by omega);refine aA (aN hg) (aA (wG (by omega) hl hd (s3 _ (cP hg)) e7) (aA (bT (by rw [ho,qB,qC,vBh];omega)) ?_));rw [aS (by omega)];refine hr _ ⟨i+1,by dsimp only;omega,by omega,?_⟩ (by dsimp only;omega);dsimp only;rw [nQ hg,vAO,ho];rfl
 have e:i=R.length:=by omega
 refine aA (wG (by omega) hl hd s1 e7) (Ev.some ?_);rw [ho,e,qS]
theorem aHL{n:Nat}(hn:7100≤n){p:Prog}(hv:cF p=true){x:Inst}(hx:fI p x): ∃P s,ix p.parts x.part=some P∧ix P.body x.stmt=some s∧nR n p.arrays s x.point=some (rc p x,(wc p x:Int),true):=by
 obtain⟨i,k,P,s,d,e1,e2,e3,e4,e5,e6,e7,e8⟩:=inst_d hv hx;obtain⟨hl,hd,h4,hpo,hil⟩:=iZ hv;obtain⟨c1,c2⟩:=aCQ e8;have ew:(wc p x:Int)=dM p.arrays s.write x.point 0:=by unfold wc;rw [e5];dsimp only;omega
 have er:rc p x=(cN 5 s.value).map (fun a=>dM p.arrays a x.point 0):=by unfold rc;rw [e5]
 refine⟨P,s,by rw [e1];exact aN e3,by rw [e2];exact aN e4,?_⟩;rw [zR (by omega) hl hd e6 e7,if_pos e8,ew,er]
theorem aAZ{list:List Arr}{m m':List Int}{q:List Int}{d:Int}: ∀{L:Nat} {e:Expr},dW L e d=true→(∀a∈cN L e,m.getD (dM list a q 0).toNat 0=m'.getD (dM list a q 0).toNat 0)→wN L list m e q=wN L list m' e q
 |0,e,h,_=>by cases h
 |L+1,e,h,hr=>by
  obtain⟨h1,h2,h3⟩:=jL h;simp only [wN];split
  ·rfl
  split
  ·rfl
  split
  ·rename_i k3;exact hr _ (by simp [cN,k3])
  have hk: ∀c∈e.kids,wN L list m c q=wN L list m' c q:=fun c hc=>
   aAZ (h3 c hc) fun a ha=>hr a (by simp only [cN,List.mem_append,List.mem_flatMap];exact .inr ⟨c,hc,ha⟩)
  split
  ·rename_i a b hab;rw [hab] at hk;rw [hk a (by simp),hk b (by simp)]
  rfl
theorem aK2{p:Prog}(hv:cF p=true){x:Inst}(hx:fI p x){m m':List Int}(h: ∀c∈rc p x,m.getD c.toNat 0=m'.getD c.toNat 0):vl p m x=vl p m' x:=by obtain⟨i,k,P,s,d,e1,e2,e3,e4,e5,e6,e7,e8⟩:=inst_d hv hx;unfold vl;unfold rc at h;rw [e5] at h⊢;exact aAZ (oD e6).2.1 fun a ha=>h _ (List.mem_map_of_mem ha)
theorem aJP{α:Type}(l:List α)(i j:Nat)(x d:α):(l.set i x).getD j d=if i=j∧i<l.length then x else l.getD j d:=by
 rw [N1,N1,List.getElem?_set];split
 ·rename_i h;subst h;split
  ·rename_i h2;rw [if_pos ⟨rfl,h2⟩];rfl
  rename_i h2;rw [if_neg (by omega),vBt (by omega)]
 rename_i h;rw [if_neg fun h2=>h h2.1]
theorem aCw{n:Nat}(hn:7000≤n){p:Prog}(hp:SmP p): ∃L,dL n p=some (L,cF p)∧(cF p=true→L=insts p.parts):=by
 rw [uX hn hp];cases ha:rZ p with
 |false=>
  refine⟨[],?_,fun h=>?_⟩
  ·rw [if_neg (by simp),show cF p=false by unfold cF;rw [ha];rfl]
  unfold cF at h;rw [ha] at h;cases h
 |true=>
  refine⟨insts p.parts,?_,fun _=>rfl⟩;rw [if_pos rfl,show cF p=decide ((insts p.parts).length≤120) by
   unfold cF;rw [ha,Bool.true_and];exact decide_eq_decide.2 (by have:=insts_len' p.parts;omega)]
def pick(l:List Inst)(o:List Int):List Inst:=o.filterMap fun c=>l[c.toNat]?
def aO3(p:Prog)(a b:Inst):Prop:=(wc p a:Int)∈rc p b∨(wc p b:Int)∈rc p a∨wc p a=wc p b
def com(p:Prog)(a b:Inst):Prop:= ∀m,aAw p.arrays m→uM p (uM p m a) b=uM p (uM p m b) a
theorem aIK{p:Prog}(hv:cF p=true){b:Inst}(hb:fI p b){w:Nat}(h:(w:Int)∉rc p b)(m:List Int)(v:Int):vl p (m.set w v) b=vl p m b:=by refine aK2 hv hb fun c hc=>?_;have h0:=(inst_c hv hb).2.1 c hc;rw [aJP,if_neg];rintro⟨e,_⟩;exact h (by rw [e,vBE h0.1];exact hc)
theorem swap{p:Prog}(hv:cF p=true){a b:Inst}(ha:fI p a)(hb:fI p b)(h: ¬aO3 p a b):com p a b:=by intro m _;have h1:(wc p a:Int)∉rc p b:=fun e=>h (.inl e);have h2:(wc p b:Int)∉rc p a:=fun e=>h (.inr (.inl e));have h3:wc p a≠wc p b:=fun e=>h (.inr (.inr e));have ra:=(inst_c hv ha).2.2.2;have rb:=(inst_c hv hb).2.2.2;rw [ra,rb,rb,ra,aIK hv hb h1,aIK hv ha h2,List.set_comm _ _ h3]
def wZ(p:Prog)(a b:Inst):Int:=(if(wc p a:Int)∈rc p b then 1 else 0)+(if(wc p b:Int)∈rc p a then 2 else 0)+(if wc p a=wc p b then 4 else 0)
theorem aNk(p:Prog)(a b:Inst):0≤wZ p a b∧wZ p a b≤7:=by unfold wZ;split<;>split<;>split<;>omega
def kd(p:Prog)(l:List Inst)(i k:Nat):Int:=match l[i]?,l[k]? with
 |some a,some b=>wZ p a b
 |_,_=>0
theorem aCq{p:Prog}{l:List Inst}{i k:Nat}{a b:Inst}(h1:l[i]? =some a)(h2:l[k]? =some b):kd p l i k=wZ p a b:=by unfold kd;rw [h1,h2]
theorem aOW(p:Prog)(l:List Inst)(i k:Nat):0≤kd p l i k∧kd p l i k≤7:=by
 unfold kd;split
 ·exact aNk _ _ _
 omega
def kU(p:Prog)(l:List Inst)(i j:Nat):List Dep:=((List.range j).filter fun k=>decide (i<k)&&decide (kd p l i k≠0)).map (fun(k:Nat)=>(⟨(i:Int),(k:Int),kd p l i k⟩:Dep))
def jK(p:Prog)(l:List Inst)(n:Nat):List Dep:=(List.range n).flatMap fun i=>kU p l i l.length
theorem pU(p:Prog)(l:List Inst){i j:Nat}(h:i<j):kU p l i (j+1)=kU p l i j++(if kd p l i j=0 then [] else [⟨(i:Int),(j:Int),kd p l i j⟩]):=by
 unfold kU;rw [vBA,List.filter_append,vAO];congr 1;split
 ·rename_i e;simp [e]
 rename_i e;simp [e,h]
theorem xW(p:Prog)(l:List Inst)(i:Nat): ∀j,j≤i+1→kU p l i j=[]
 |0,_=>rfl
 |j+1,h=>by have ih:=xW p l i j (by omega);unfold kU at ih⊢;rw [vBA,List.filter_append,vAO,ih];simp [show¬i<j by omega]
theorem xV(p:Prog)(l:List Inst)(n:Nat):jK p l (n+1)=jK p l n++kU p l n l.length:=by unfold jK;rw [vBA,vAX];simp
theorem xX(p:Prog)(l:List Inst)(i j:Nat):(kU p l i j).length≤j:=by unfold kU;rw [qB];exact vAQ (List.length_filter_le _ _) (by simp)
theorem wJ(p:Prog)(l:List Inst): ∀n,(jK p l n).length≤n*l.length
 |0=>by simp [jK]
 |n+1=>by
  rw [xV,pE,nZ,Nat.one_mul]
  have:=wJ p l n
  have:=xX p l n l.length;omega
theorem aJu{p:Prog}{l:List Inst}{d:Dep}:d∈jK p l l.length↔ ∃i k:Nat,i<k∧k<l.length∧kd p l i k≠0∧d=⟨(i:Int),(k:Int),kd p l i k⟩:=by
 unfold jK kU;simp only [List.mem_flatMap,List.mem_range,List.mem_map,List.mem_filter,Bool.and_eq_true,decide_eq_true_eq];constructor
 ·rintro⟨i,h1,k,⟨h2,h3,h4⟩,rfl⟩;exact⟨i,k,h3,h2,h4,rfl⟩
 rintro⟨i,k,h1,h2,h3,rfl⟩;exact⟨i,by omega,k,⟨h2,h1,h3⟩,rfl⟩
def places(o:List Int):Nat→List Int
 |0=>List.replicate o.length 0
 |k+1=>(places o k).set (o.getD k 0).toNat (k:Int)
theorem aKu{p:Prog}{l:List Inst}: ∀d∈jK p l l.length,0≤d.1∧d.1<d.2∧d.2<(l.length:Int):=by intro d hd;obtain⟨i,k,h1,h2,h3,rfl⟩:=aJu.1 hd;exact⟨by show(0:Int)≤(i:Int);omega,by show(i:Int)<(k:Int);omega,by show(k:Int)<_;omega⟩
theorem D2{n:Nat}{l:List Int}(hl:l.length<n)(hs:l.length≤1000)(v:Int):iB n l v=some (decide (v∈l)):=by
 refine Ev.eq ?_;unfold iB;refine aL (P:=fun i=>decide ((0:Int)≤i)=decide (v∈l)) ?_ fun x hx=>Ev.some hx;unfold uU;refine Ev.loop (fun z:Int=> ∃i:Nat,z=i∧i≤l.length∧v∉l.take i) (fun z=>l.length-z.toNat) ?_ n 0 ⟨0,rfl,by omega,by simp⟩ (by omega);rintro again z ⟨i,rfl,hi,hno⟩ hr;refine aH (fun hlt=>?_) fun hge=>Ev.some ?_
 ·have hg:=cO (show i<l.length by omega);refine aA (aN hg) (aH (fun e=>Ev.some ?_) fun e=>?_)
  ·rw [decide_eq_true (by omega),decide_eq_true];rw [e];exact cP hg
  rw [aS (by omega)];refine hr _ ⟨i+1,by omega,by omega,?_⟩ (by omega);rw [nQ hg,wO,List.mem_singleton];rintro(h|h)
  ·exact hno h
  exact e h
 have e:i=l.length:=by omega
 rw [e,qS] at hno;rw [decide_eq_false (by omega),decide_eq_false hno]
theorem aDG{n:Nat}{l:List Int}(hl:l.length<n)(hs:l.length≤1000)(v:Int):zN n l v=some (decide (v∈l)):=by
 refine Ev.eq ?_;unfold zN;refine Ev.loop (fun z:Int=> ∃i:Nat,z=i∧i≤l.length∧v∉l.take i) (fun z=>l.length-z.toNat) ?_ n 0 ⟨0,rfl,by omega,by simp⟩ (by omega);rintro again z ⟨i,rfl,hi,hno⟩ hr;refine aH (fun hlt=>?_) fun hge=>Ev.some ?_
 ·have hg:=cO (show i<l.length by omega);refine aA (aN hg) (aH (fun e=>Ev.some ?_) fun e=>?_)
  ·rw [decide_eq_true];rw [←e];exact cP hg
  rw [aS (by omega)];refine hr _ ⟨i+1,by omega,by omega,?_⟩ (by omega);rw [nQ hg,wO,List.mem_singleton];rintro(h|h)
  ·exact hno h
  exact e h.symm
 have e:i=l.length:=by omega
 rw [e,qS] at hno;rw [decide_eq_false hno]
def trc(p:Prog):Traced:=⟨p,insts p.parts,(insts p.parts).map (rc p),(insts p.parts).map fun x=>(wc p x:Int)⟩
theorem B5{α β:Type}{l:List α}{f:α→β}{i:Nat}{x:α}(h:l[i]? =some x):(l.map f)[i]? =some (f x):=by rw [tS,h];rfl
theorem V1{α β:Type}{l:List α}{f:α→β}{i:Nat}{x:α}(h:l[i]? =some x):(l.take (i+1)).map f=(l.take i).map f++[f x]:=by rw [nQ h,vAO];rfl
theorem aFH{n:Nat}(hn:7100≤n){p:Prog}(hp:SmP p):C2 n p=some (if cF p=true then(some (trc p),true) else(none,false)):=by
 obtain⟨L,h1,h2⟩:=aCw (n:=n) (by omega) hp;refine Ev.eq ?_;unfold C2;refine aA h1 ?_;dsimp only;cases hv:cF p with
 |false=>exact Ev.some rfl
 |true=>
  rw [h2 hv];have hil:=(iZ hv).2.2.2.2;refine cE (Ev.loop (fun z:List (List Int)×List Int×Int=> ∃i:Nat,z.2.2=i∧i≤(insts p.parts).length∧z.1=((insts p.parts).take i).map (rc p)∧z.2.1=((insts p.parts).take i).map fun x=>(wc p x:Int)) (fun z=>(insts p.parts).length-z.2.2.toNat) ?_ n _ ⟨0,rfl,by omega,rfl,rfl⟩ (by first|omega|(dsimp only;omega)));rintro again ⟨a,b,z⟩ ⟨i,hz,hi,ha,hb⟩ hr;dsimp only at hz ha hb⊢;subst hz;refine aH (fun hlt=>?_) fun hge=>Ev.some ?_
  ·have hg:=cO (show i<(insts p.parts).length by omega);refine aA (aN hg) (aA (aCt (by omega) hv (insts_mem (cP hg))) (aA (bT (by rw [ha,qB,qC,vBh];omega)) (aA (bT (by rw [hb,qB,qC,vBh];omega)) ?_)));rw [aS (by omega)];exact hr _ ⟨i+1,by dsimp only;omega,by omega,by dsimp only;rw [V1 hg,ha],by dsimp only;rw [V1 hg,hb]⟩ (by dsimp only;omega)
  have e:i=(insts p.parts).length:=by omega
  rw [ha,hb,e,qS];rfl
def aA5(p:Prog):List L6Use:=(insts p.parts).map fun x=>(⟨rc p x,(wc p x:Int)⟩:L6Use)
theorem aHH{n:Nat}(hn:7100≤n){p:Prog}(hv:cF p=true):zM n p=some (aA5 p):=by
 have hil:=(iZ hv).2.2.2.2;refine Ev.eq ?_;unfold zM aA5;refine aA (uI (by omega) hv) (Ev.loop (fun z:List L6Use×Int=> ∃i:Nat,z.2=i∧i≤(insts p.parts).length∧z.1=((insts p.parts).take i).map fun x=>(⟨rc p x,(wc p x:Int)⟩:L6Use)) (fun z=>(insts p.parts).length-z.2.toNat) ?_ n _ ⟨0,rfl,by omega,rfl⟩ (by dsimp only;omega));rintro again ⟨a,z⟩ ⟨i,hz,hi,ha⟩ hr;dsimp only at hz ha⊢;subst hz;refine aH (fun hlt=>?_) fun hge=>Ev.some ?_
 ·have hg:=cO (show i<(insts p.parts).length by omega);obtain⟨P,s,c1,c2,c3⟩:=aHL hn hv (insts_mem (cP hg));refine aA (aN hg) (aA c1 (aA c2 (aA c3 (aA (bT (by rw [ha,qB,qC,vBh];omega)) ?_))));rw [aS (by omega)];exact hr _ ⟨i+1,by dsimp only;omega,by omega,by dsimp only;rw [V1 hg,ha]⟩ (by dsimp only;omega)
 have e:i=(insts p.parts).length:=by omega
 rw [ha,e,qS]
theorem aCh{p:Prog}(hv:cF p=true){l:List Inst}(hl: ∀x∈l,fI p x){i:Nat}{a:Inst}(h:l[i]? =some a):(rc p a).length≤12:=(inst_c hv (hl _ (cP h))).2.2.1
theorem aG9{R:Type}{Q:R→Prop}{A B:Option Bool}{p:Prog}{a b:Inst}(hA:A=some (decide ((wc p a:Int)∈rc p b)))(hB:B=some (decide ((wc p b:Int)∈rc p a))){J:Int→Option R}(h:Ev (J (wZ p a b)) Q):
  Ev (jn (fun(x5:Int)=>jn (fun(x10:Int)=>jn J fun j11=>bif decide ((wc p a:Int)=(wc p b:Int)) then(j11 (wr (x10+4))) else(j11 x10))
   fun j6=>Option.bind B fun x9=>bif x9 then(j6 (wr (x5+2))) else(j6 x5))
   fun j1=>Option.bind A fun x4=>bif x4 then(j1 (wr (0+1))) else(j1 0)) Q:=by
 refine Ev.jn (fun z=>z=if(wc p a:Int)∈rc p b then 1 else 0) (fun j hj=>aA hA (aH (fun e=>hj _ (by rw [if_pos e];rfl)) fun e=>hj _ (by rw [if_neg e]))) fun z hz=>?_;subst hz;refine Ev.jn (fun z=>z=(if(wc p a:Int)∈rc p b then 1 else 0)+if(wc p b:Int)∈rc p a then 2 else 0) (fun j hj=>aA hB (aH (fun e=>hj _ ?_) fun e=>hj _ ?_)) fun z hz=>?_
 ·rw [if_pos e];split<;>rfl
 ·rw [if_neg e,Int.add_zero]
 subst hz;refine Ev.jn (fun z=>z=wZ p a b) (fun j hj=>aH (fun e=>hj _ ?_) fun e=>hj _ ?_) fun z hz=>by subst hz;exact h
 ·unfold wZ;rw [if_pos (show wc p a=wc p b by omega)];split<;>split<;>rfl
 unfold wZ;rw [if_neg (show¬wc p a=wc p b by omega),Int.add_zero]
theorem aCx{n:Nat}(hn:7100≤n){p:Prog}(hv:cF p=true){i k:Nat}{a b:Inst}(ha:(insts p.parts)[i]? =some a)(hb:(insts p.parts)[k]? =some b):iR n (trc p) (i:Int) (k:Int)=some (kd p (insts p.parts) i k):=by rw [aCq ha hb];have la:=aCh hv (fun x hx=>insts_mem hx) ha;have lb:=aCh hv (fun x hx=>insts_mem hx) hb;have ra:ix (trc p).reads (i:Int)=some (rc p a):=aN (B5 ha);have rb:ix (trc p).reads (k:Int)=some (rc p b):=aN (B5 hb);have wa:ix (trc p).writes (i:Int)=some (wc p a:Int):=aN (B5 ha);have wb:ix (trc p).writes (k:Int)=some (wc p b:Int):=aN (B5 hb);refine Ev.eq ?_;unfold iR;rw [ra,rb,wa,wb];exact aG9 (D2 (by omega) (by omega) _) (D2 (by omega) (by omega) _) (Ev.some rfl)
theorem aFf{n:Nat}(hn:7100≤n){p:Prog}{a b:Inst}(la:(rc p a).length≤12)(lb:(rc p b).length≤12):vU n ⟨rc p a,(wc p a:Int)⟩ ⟨rc p b,(wc p b:Int)⟩=some (wZ p a b):=by refine Ev.eq ?_;unfold vU;exact aG9 (aDG (by omega) (by omega) _) (aDG (by omega) (by omega) _) (Ev.some rfl)
theorem aH6{n:Nat}(hn:7100≤n){p:Prog}(hv:cF p=true):mA n (trc p)=some (jK p (insts p.parts) (insts p.parts).length):=by
 have hil:=(iZ hv).2.2.2.2;refine Ev.eq ?_;unfold mA;rw [show(trc p).list=insts p.parts from rfl];generalize hL:insts p.parts=l at*;have hok: ∀x∈l,fI p x:=fun x hx=>insts_mem (by rw [hL];exact hx);refine Ev.loop (fun z:List Dep×Int=> ∃i:Nat,z.2=i∧i≤l.length∧z.1=jK p l i) (fun z=>l.length-z.2.toNat) ?_ n _ ⟨0,rfl,by omega,rfl⟩ (by dsimp only;omega);rintro again ⟨a,z⟩ ⟨i,hz,hi,ha⟩ hr;dsimp only at hz ha⊢;subst hz;refine aH (fun hlt=>?_) fun hge=>Ev.some ?_
 ·have hg:=cO (show i<l.length by omega);rw [aS (by omega)];refine Ev.loop (fun z:List Dep×Int=> ∃j:Nat,z.2=j∧i<j∧j≤l.length∧z.1=jK p l i++kU p l i j) (fun z=>l.length-z.2.toNat) ?_ n _ ⟨i+1,by dsimp only;omega,by omega,by omega,by dsimp only;rw [ha,xW p l i _ (jW _),vBj]⟩ (by dsimp only;omega);rintro again2 ⟨b,y⟩ ⟨j,hy,hij,hj,hb⟩ hr2;dsimp only at hy hb⊢;subst hy;refine aH (fun hlt2=>?_) fun hge2=>?_
  ·have hgj:=cO (show j<l.length by omega);have hbt:=aCx hn hv (i:=i) (k:=j) (by rw [hL];exact hg) (by rw [hL];exact hgj);rw [hL] at hbt;have hb0:=(aOW p l i j).1;refine Ev.jn (fun z=>z=jK p l i++kU p l i (j+1)) (fun jj hjj=>aA hbt (aH (fun e=>aA (bT ?_) (hjj _ ?_)) fun e=>hjj _ ?_)) fun z hz=>?_
   ·have h1:=wJ p l i;have h2:=xX p l i j;have h3:i*l.length≤120*120:=vBy (by omega) hil;rw [hb,pE,vBh];omega
   ·rw [hb,pU p l hij,if_neg (by omega),vAR]
   ·rw [hb,pU p l hij,if_pos (by omega),vBj]
   subst hz;rw [aS (by omega)];exact hr2 _ ⟨j+1,by dsimp only;omega,by omega,by omega,rfl⟩ (by dsimp only;omega)
  have e:j=l.length:=by omega
  try rw [aS (by omega)]
  exact hr _ ⟨i+1,by dsimp only;omega,by omega,by dsimp only;rw [hb,e,xV]⟩ (by dsimp only;omega)
 have e:i=l.length:=by omega
 rw [ha,e]
theorem aHK{n:Nat}(hn:7100≤n){p:Prog}(hv:cF p=true):zO n p=some (jK p (insts p.parts) (insts p.parts).length):=by
 have hil:=(iZ hv).2.2.2.2;refine Ev.eq ?_;unfold zO;refine aA (aHH hn hv) ?_;have hul:(aA5 p).length=(insts p.parts).length:=by unfold aA5;rw [qB]
 have hug: ∀(i:Nat) x,(insts p.parts)[i]? =some x→ix (aA5 p) (i:Int)=some ⟨rc p x,(wc p x:Int)⟩:=fun i x h=>aN (B5 h);rw [hul];generalize aA5 p=u at*;generalize hL:insts p.parts=l at*;have hok: ∀x∈l,fI p x:=fun x hx=>insts_mem (by rw [hL];exact hx);refine Ev.loop (fun z:List Dep×Int=> ∃i:Nat,z.2=i∧i≤l.length∧z.1=jK p l i) (fun z=>l.length-z.2.toNat) ?_ n _ ⟨0,rfl,by omega,rfl⟩ (by dsimp only;omega);rintro again ⟨a,z⟩ ⟨i,hz,hi,ha⟩ hr;dsimp only at hz ha⊢;subst hz;refine aH (fun hlt=>?_) fun hge=>Ev.some ?_
 ·have hg:=cO (show i<l.length by omega);rw [aS (by omega)];refine Ev.loop (fun z:List Dep×Int=> ∃j:Nat,z.2=j∧i<j∧j≤l.length∧z.1=jK p l i++kU p l i j) (fun z=>l.length-z.2.toNat) ?_ n _ ⟨i+1,by dsimp only;omega,by omega,by omega,by dsimp only;rw [ha,xW p l i _ (jW _),vBj]⟩ (by dsimp only;omega);rintro again2 ⟨b,y⟩ ⟨j,hy,hij,hj,hb⟩ hr2;dsimp only at hy hb⊢;subst hy;refine aH (fun hlt2=>?_) fun hge2=>?_
  ·have hgj:=cO (show j<l.length by omega);have hk:=aFf hn (aCh hv hok hg) (aCh hv hok hgj);refine Ev.jn (fun z=>z=jK p l i++kU p l i (j+1)) (fun jj hjj=>aA (hug _ _ hg) (aA (hug _ _ hgj) (aA hk (dQ (fun e=>aA (bT ?_) (hjj _ ?_)) fun e=>hjj _ ?_)))) fun z hz=>?_
   ·have h1:=wJ p l i;have h2:=xX p l i j;have h3:i*l.length≤120*120:=vBy (by omega) hil;rw [hb,pE,vBh];omega
   ·rw [hb,pU p l hij,aCq hg hgj,if_neg e,vAR]
   ·rw [hb,pU p l hij,aCq hg hgj,if_pos e,vBj]
   subst hz;rw [aS (by omega)];exact hr2 _ ⟨j+1,by dsimp only;omega,by omega,by omega,rfl⟩ (by dsimp only;omega)
  have e:j=l.length:=by omega
  try rw [aS (by omega)]
  exact hr _ ⟨i+1,by dsimp only;omega,by omega,by dsimp only;rw [hb,e,xV]⟩ (by dsimp only;omega)
 have e:i=l.length:=by omega
 rw [ha,e]
theorem Y6{p:Prog}{l:List Inst}(hl:l.length≤120):(jK p l l.length).length≤15000:=by have h1:=wJ p l l.length;have h2:l.length*l.length≤120*120:=vBy hl hl;omega
theorem aHG{a b:List Int}{n:Nat}(hn:a.length<n)(hl:a.length≤1000000):
  (bif !decide ((a.length:Int)=(b.length:Int)) then(some false) else(aM (fun again2 (x1:Int)=>bif decide (x1<(a.length:Int)) then(Option.bind (ix a x1) fun x3=>Option.bind (ix b x1) fun x4=>bif !decide (x3=x4) then(some false) else(again2 (wr (x1+1)))) else(some true)) n 0))=some (decide (a=b)):=by
 refine Ev.eq (dQ (fun h=>Ev.some ?_) fun h=>?_)
 ·exact(decide_eq_false fun e=>h (by rw [e])).symm
 refine Ev.loop (fun x:Int=> ∃i:Nat,x=i∧i≤a.length∧a.take i=b.take i) (fun x=>a.length-x.toNat) ?_ n 0 ⟨0,rfl,by omega,rfl⟩ (by omega);rintro again x ⟨i,rfl,hi,hs⟩ hr;refine aH (fun hlt=>?_) fun hge=>Ev.some ?_
 ·have h1:i<a.length:=by omega
  have h2:i<b.length:=by omega
  have ha:=cO h1;have hb:=cO h2;refine aA (aN ha) (aA (aN hb) ?_);refine dQ (fun hne=>Ev.some ?_) fun he=>?_
  ·exact(decide_eq_false fun e=>hne (by subst e;rfl)).symm
  rw [aS (by omega)];exact hr _ ⟨i+1,by omega,by omega,by rw [nQ ha,nQ hb,hs,he]⟩ (by omega)
 have e1:a.take i=a:=vBb (by omega);have e2:b.take i=b:=vBb (by omega);rw [e1,e2] at hs;exact(decide_eq_true hs).symm
theorem aDF{n:Nat}{a b:List Int}(hn:a.length<n)(hl:a.length≤1000000):z7 n a b=some (decide (a=b)):=by unfold z7;exact aHG hn hl
end Go.Lift
