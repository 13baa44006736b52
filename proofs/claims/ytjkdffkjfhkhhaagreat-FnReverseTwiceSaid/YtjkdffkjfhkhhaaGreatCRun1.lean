/- Programs compose. -/
import Derived.Test.YtjkdffkjfhkhhaaGreatCDraw1
set_option maxRecDepth 100000
set_option linter.unusedVariables false
namespace Go.Lift
open Go
theorem oD{α:Type}{l:List α}{i:Nat}{x:α}(h:l[i]? =some x):l.take (i+1)=l.take i++[x]:=by rw [xX,h];rfl
def wc(p:Prog)(x:Inst):Nat:=match qO p x with
 |some s=>(cV p.arrays s.write x.point 0).toNat
 |none=>0
def rc(p:Prog)(x:Inst):List Int:=match qO p x with
 |some s=>(b9 5 s.value).map (fun a=>cV p.arrays a x.point 0)
 |none=>[]
def vl(p:Prog)(m:List Int)(x:Inst):Int:=match qO p x with
 |some s=>qK 5 p.arrays m s.value x.point
 |none=>0
theorem aIe{list:List Arr}(hd:jV list){a:Access}{q:List Int}(h:0≤cV list a q 0):cV list a q 0<xK list:=by rcases aIf hd a q 0 (T4 0) with hc|hc<;>omega
theorem inst_c{p:Prog}(hv:bV p=true){x:Inst}(hx:eZ p x):(wc p x:Int)<xK p.arrays∧(∀c∈rc p x,0≤c∧c<xK p.arrays)∧(rc p x).length≤12∧ ∀m,runI p m x=m.set (wc p x) (vl p m x):=by obtain⟨i,k,P,s,d,e1,e2,e3,e4,e5,e6,e7,e8⟩:=inst_d hv hx;obtain⟨hl,hd,h4,hpo,hil⟩:=fX hv;obtain⟨c1,c2⟩:=aDh e8;obtain⟨s1,s2,s3,s4⟩:=jY e6;unfold wc rc vl runI;rw [e5];dsimp only;refine⟨by have:=aIe hd c1;omega,fun c hc=>?_,by rw [qL];exact s4,fun m=>rfl⟩;obtain⟨a,ha,rfl⟩:=I6.1 hc;exact⟨c2 a ha,aIe hd (c2 a ha)⟩
theorem aCS{n:Nat}(hn:7100≤n){p:Prog}(hv:bV p=true){x:Inst}(hx:eZ p x):gZ n p x=some (rc p x,(wc p x:Int)):=by
 obtain⟨i,k,P,s,d,e1,e2,e3,e4,e5,e6,e7,e8⟩:=inst_d hv hx;obtain⟨hl,hd,h4,hpo,hil⟩:=fX hv;obtain⟨c1,c2⟩:=aDh e8;obtain⟨s1,s2,s3,s4⟩:=jY e6;obtain⟨n,rfl⟩: ∃j,n=j+1:=⟨n-1,by omega⟩
 have hst:kX (n+1) p x=some s:=by
  unfold kX;rw [e1,e2,aS e3];show Option.bind (ix P.body (k:Int)) _=_;rw [aS e4];rfl
 have ew:(wc p x:Int)=cV p.arrays s.write x.point 0:=by unfold wc;rw [e5];dsimp only;omega
 have er:rc p x=(b9 5 s.value).map (fun a=>cV p.arrays a x.point 0):=by unfold rc;rw [e5]
 rw [ew,er];refine Ev.eq ?_;unfold gZ;refine aA hst (aA (yO (d:=d) 5 n s.value (by omega) (by omega) s2) ?_);generalize hR:b9 5 s.value=R at*;refine Ev.loop (fun z:List Int×Int=> ∃i:Nat,z.2=i∧i≤R.length∧z.1=(R.take i).map fun a=>cV p.arrays a x.point 0) (fun z=>R.length-z.2.toNat) ?_ (n+1) _ ⟨0,rfl,by omega,by simp⟩ (by dsimp only;omega);rintro again ⟨out,z⟩ ⟨i,hz,hi,ho⟩ hr;dsimp only at hz ho⊢;subst hz;refine aH (fun hlt=>?_) fun hge=>?_
 ·have hg:=cP (show i<R.length by omega);refine aA (aS hg) (aA (w6 (by omega) hl hd (s3 _ (cN hg)) e7) (aA (bU (by rw [ho,qL,uI,vBi];omega)) ?_));rw [aQ (by omega)];refine hr _ ⟨i+1,by dsimp only;omega,by omega,?_⟩ (by dsimp only;omega);dsimp only;rw [oD hg,vAN,ho];rfl
 have e:i=R.length:=by omega
 refine aA (w6 (by omega) hl hd s1 e7) (Ev.some ?_);rw [ho,e,q7]
theorem aIB{n:Nat}(hn:7100≤n){p:Prog}(hv:bV p=true){x:Inst}(hx:eZ p x): ∃P s,ix p.parts x.part=some P∧ix P.body x.stmt=some s∧oE n p.arrays s x.point=some (rc p x,(wc p x:Int),true):=by
 obtain⟨i,k,P,s,d,e1,e2,e3,e4,e5,e6,e7,e8⟩:=inst_d hv hx;obtain⟨hl,hd,h4,hpo,hil⟩:=fX hv;obtain⟨c1,c2⟩:=aDh e8;have ew:(wc p x:Int)=cV p.arrays s.write x.point 0:=by unfold wc;rw [e5];dsimp only;omega
 have er:rc p x=(b9 5 s.value).map (fun a=>cV p.arrays a x.point 0):=by unfold rc;rw [e5]
 refine⟨P,s,by rw [e1];exact aS e3,by rw [e2];exact aS e4,?_⟩;rw [A7 (by omega) hl hd e6 e7,if_pos e8,ew,er]
theorem aBo{list:List Arr}{m m':List Int}{q:List Int}{d:Int}: ∀{L:Nat} {e:Expr},dO L e d=true→(∀a∈b9 L e,m.getD (cV list a q 0).toNat 0=m'.getD (cV list a q 0).toNat 0)→qK L list m e q=qK L list m' e q
 |0,e,h,_=>by cases h
 |L+1,e,h,hr=>by
  obtain⟨h1,h2,h3⟩:=gU h;simp only [qK];split
  ·rfl
  split
  ·rfl
  split
  ·rename_i k3;exact hr _ (by simp [b9,k3])
  have hk: ∀c∈e.kids,qK L list m c q=qK L list m' c q:=fun c hc=>
   aBo (h3 c hc) fun a ha=>hr a (by simp only [b9,List.mem_append,List.mem_flatMap];exact .inr ⟨c,hc,ha⟩)
  split
  ·rename_i a b hab;rw [hab] at hk;rw [hk a (by simp),hk b (by simp)]
  rfl
theorem aL8{p:Prog}(hv:bV p=true){x:Inst}(hx:eZ p x){m m':List Int}(h: ∀c∈rc p x,m.getD c.toNat 0=m'.getD c.toNat 0):vl p m x=vl p m' x:=by obtain⟨i,k,P,s,d,e1,e2,e3,e4,e5,e6,e7,e8⟩:=inst_d hv hx;unfold vl;unfold rc at h;rw [e5] at h⊢;exact aBo (jY e6).2.1 fun a ha=>h _ (List.mem_map_of_mem ha)
theorem aKP{α:Type}(l:List α)(i j:Nat)(x d:α):(l.set i x).getD j d=if i=j∧i<l.length then x else l.getD j d:=by
 rw [M7,M7,List.getElem?_set];split
 ·rename_i h;subst h;split
  ·rename_i h2;rw [if_pos ⟨rfl,h2⟩];rfl
  rename_i h2;rw [if_neg (by omega),vBw (by omega)]
 rename_i h;rw [if_neg fun h2=>h h2.1]
theorem aCV{n:Nat}(hn:7000≤n){p:Prog}(hp:SmP p): ∃L,dN n p=some (L,bV p)∧(bV p=true→L=insts p.parts):=by
 rw [vU hn hp];cases ha:sM p with
 |false=>
  refine⟨[],?_,fun h=>?_⟩
  ·rw [if_neg (by simp),show bV p=false by unfold bV;rw [ha];rfl]
  unfold bV at h;rw [ha] at h;cases h
 |true=>
  refine⟨insts p.parts,?_,fun _=>rfl⟩;rw [if_pos rfl,show bV p=decide ((insts p.parts).length≤120) by
   unfold bV;rw [ha,Bool.true_and];exact decide_eq_decide.2 (by have:=insts_len' p.parts;omega)]
def pick(l:List Inst)(o:List Int):List Inst:=o.filterMap fun c=>l[c.toNat]?
def aDe(p:Prog)(a b:Inst):Prop:=(wc p a:Int)∈rc p b∨(wc p b:Int)∈rc p a∨wc p a=wc p b
def com(p:Prog)(a b:Inst):Prop:= ∀m,aAX p.arrays m→runI p (runI p m a) b=runI p (runI p m b) a
theorem aJD{p:Prog}(hv:bV p=true){b:Inst}(hb:eZ p b){w:Nat}(h:(w:Int)∉rc p b)(m:List Int)(v:Int):vl p (m.set w v) b=vl p m b:=by refine aL8 hv hb fun c hc=>?_;have h0:=(inst_c hv hb).2.1 c hc;rw [aKP,if_neg];rintro⟨e,_⟩;exact h (by rw [e,vBJ h0.1];exact hc)
theorem swap{p:Prog}(hv:bV p=true){a b:Inst}(ha:eZ p a)(hb:eZ p b)(h: ¬aDe p a b):com p a b:=by intro m _;have h1:(wc p a:Int)∉rc p b:=fun e=>h (.inl e);have h2:(wc p b:Int)∉rc p a:=fun e=>h (.inr (.inl e));have h3:wc p a≠wc p b:=fun e=>h (.inr (.inr e));have ra:=(inst_c hv ha).2.2.2;have rb:=(inst_c hv hb).2.2.2;rw [ra,rb,rb,ra,aJD hv hb h1,aJD hv ha h2,List.set_comm _ _ h3]
def uC(p:Prog)(a b:Inst):Int:=(if(wc p a:Int)∈rc p b then 1 else 0)+(if(wc p b:Int)∈rc p a then 2 else 0)+(if wc p a=wc p b then 4 else 0)
theorem aOD(p:Prog)(a b:Inst):0≤uC p a b∧uC p a b≤7:=by unfold uC;split<;>split<;>split<;>omega
def kd(p:Prog)(l:List Inst)(i k:Nat):Int:=match l[i]?,l[k]? with
 |some a,some b=>uC p a b
 |_,_=>0
theorem D6{p:Prog}{l:List Inst}{i k:Nat}{a b:Inst}(h1:l[i]? =some a)(h2:l[k]? =some b):kd p l i k=uC p a b:=by unfold kd;rw [h1,h2]
theorem aQt(p:Prog)(l:List Inst)(i k:Nat):0≤kd p l i k∧kd p l i k≤7:=by
 unfold kd;split
 ·exact aOD _ _ _
 omega
def lA(p:Prog)(l:List Inst)(i j:Nat):List Dep:=((List.range j).filter fun k=>decide (i<k)&&decide (kd p l i k≠0)).map (fun(k:Nat)=>(⟨(i:Int),(k:Int),kd p l i k⟩:Dep))
def jO(p:Prog)(l:List Inst)(n:Nat):List Dep:=(List.range n).flatMap fun i=>lA p l i l.length
theorem qD(p:Prog)(l:List Inst){i j:Nat}(h:i<j):lA p l i (j+1)=lA p l i j++(if kd p l i j=0 then [] else [⟨(i:Int),(j:Int),kd p l i j⟩]):=by
 unfold lA;rw [vBF,List.filter_append,vAN];congr 1;split
 ·rename_i e;simp [e]
 rename_i e;simp [e,h]
theorem yT(p:Prog)(l:List Inst)(i:Nat): ∀j,j≤i+1→lA p l i j=[]
 |0,_=>rfl
 |j+1,h=>by have ih:=yT p l i j (by omega);unfold lA at ih⊢;rw [vBF,List.filter_append,vAN,ih];simp [show¬i<j by omega]
theorem yS(p:Prog)(l:List Inst)(n:Nat):jO p l (n+1)=jO p l n++lA p l n l.length:=by unfold jO;rw [vBF,vAY];simp
theorem yU(p:Prog)(l:List Inst)(i j:Nat):(lA p l i j).length≤j:=by unfold lA;rw [qL];exact vAR (List.length_filter_le _ _) (by simp)
theorem w9(p:Prog)(l:List Inst): ∀n,(jO p l n).length≤n*l.length
 |0=>by simp [jO]
 |n+1=>by
  rw [yS,pU,oP,Nat.one_mul]
  have:=w9 p l n
  have:=yU p l n l.length;omega
theorem X8{p:Prog}{l:List Inst}{d:Dep}:d∈jO p l l.length↔ ∃i k:Nat,i<k∧k<l.length∧kd p l i k≠0∧d=⟨(i:Int),(k:Int),kd p l i k⟩:=by
 unfold jO lA;simp only [List.mem_flatMap,List.mem_range,List.mem_map,List.mem_filter,Bool.and_eq_true,decide_eq_true_eq];constructor
 ·rintro⟨i,h1,k,⟨h2,h3,h4⟩,rfl⟩;exact⟨i,k,h3,h2,h4,rfl⟩
 rintro⟨i,k,h1,h2,h3,rfl⟩;exact⟨i,by omega,k,⟨h2,h1,h3⟩,rfl⟩
def places(o:List Int):Nat→List Int
 |0=>List.replicate o.length 0
 |k+1=>(places o k).set (o.getD k 0).toNat (k:Int)
theorem aLy{p:Prog}{l:List Inst}: ∀d∈jO p l l.length,0≤d.1∧d.1<d.2∧d.2<(l.length:Int):=by intro d hd;obtain⟨i,k,h1,h2,h3,rfl⟩:=X8.1 hd;exact⟨by show(0:Int)≤(i:Int);omega,by show(i:Int)<(k:Int);omega,by show(k:Int)<_;omega⟩
theorem F7{n:Nat}{l:List Int}(hl:l.length<n)(hs:l.length≤1000)(v:Int):iF n l v=some (decide (v∈l)):=by
 refine Ev.eq ?_;unfold iF;refine aM (P:=fun i=>decide ((0:Int)≤i)=decide (v∈l)) ?_ fun x hx=>Ev.some hx;unfold vR;refine Ev.loop (fun z:Int=> ∃i:Nat,z=i∧i≤l.length∧v∉l.take i) (fun z=>l.length-z.toNat) ?_ n 0 ⟨0,rfl,by omega,by simp⟩ (by omega);rintro again z ⟨i,rfl,hi,hno⟩ hr;refine aH (fun hlt=>?_) fun hge=>Ev.some ?_
 ·have hg:=cP (show i<l.length by omega);refine aA (aS hg) (aH (fun e=>Ev.some ?_) fun e=>?_)
  ·rw [decide_eq_true (by omega),decide_eq_true];rw [e];exact cN hg
  rw [aQ (by omega)];refine hr _ ⟨i+1,by omega,by omega,?_⟩ (by omega);rw [oD hg,xJ,List.mem_singleton];rintro(h|h)
  ·exact hno h
  exact e h
 have e:i=l.length:=by omega
 rw [e,q7] at hno;rw [decide_eq_false (by omega),decide_eq_false hno]
theorem aEb{n:Nat}{l:List Int}(hl:l.length<n)(hs:l.length≤1000)(v:Int):A2 n l v=some (decide (v∈l)):=by
 refine Ev.eq ?_;unfold A2;refine Ev.loop (fun z:Int=> ∃i:Nat,z=i∧i≤l.length∧v∉l.take i) (fun z=>l.length-z.toNat) ?_ n 0 ⟨0,rfl,by omega,by simp⟩ (by omega);rintro again z ⟨i,rfl,hi,hno⟩ hr;refine aH (fun hlt=>?_) fun hge=>Ev.some ?_
 ·have hg:=cP (show i<l.length by omega);refine aA (aS hg) (aH (fun e=>Ev.some ?_) fun e=>?_)
  ·rw [decide_eq_true];rw [←e];exact cN hg
  rw [aQ (by omega)];refine hr _ ⟨i+1,by omega,by omega,?_⟩ (by omega);rw [oD hg,xJ,List.mem_singleton];rintro(h|h)
  ·exact hno h
  exact e h.symm
 have e:i=l.length:=by omega
 rw [e,q7] at hno;rw [decide_eq_false hno]
def trc(p:Prog):Traced:=⟨p,insts p.parts,(insts p.parts).map (rc p),(insts p.parts).map fun x=>(wc p x:Int)⟩
theorem D4{α β:Type}{l:List α}{f:α→β}{i:Nat}{x:α}(h:l[i]? =some x):(l.map f)[i]? =some (f x):=by rw [sN,h];rfl
theorem X9{α β:Type}{l:List α}{f:α→β}{i:Nat}{x:α}(h:l[i]? =some x):(l.take (i+1)).map f=(l.take i).map f++[f x]:=by rw [oD h,vAN];rfl
theorem aGo{n:Nat}(hn:7100≤n){p:Prog}(hp:SmP p):E3 n p=some (if bV p=true then(some (trc p),true) else(none,false)):=by
 obtain⟨L,h1,h2⟩:=aCV (n:=n) (by omega) hp;refine Ev.eq ?_;unfold E3;refine aA h1 ?_;dsimp only;cases hv:bV p with
 |false=>exact Ev.some rfl
 |true=>
  rw [h2 hv];have hil:=(fX hv).2.2.2.2;refine bZ (Ev.loop (fun z:List (List Int)×List Int×Int=> ∃i:Nat,z.2.2=i∧i≤(insts p.parts).length∧z.1=((insts p.parts).take i).map (rc p)∧z.2.1=((insts p.parts).take i).map fun x=>(wc p x:Int)) (fun z=>(insts p.parts).length-z.2.2.toNat) ?_ n _ ⟨0,rfl,by omega,rfl,rfl⟩ (by first|omega|(dsimp only;omega)));rintro again ⟨a,b,z⟩ ⟨i,hz,hi,ha,hb⟩ hr;dsimp only at hz ha hb⊢;subst hz;refine aH (fun hlt=>?_) fun hge=>Ev.some ?_
  ·have hg:=cP (show i<(insts p.parts).length by omega);refine aA (aS hg) (aA (aCS (by omega) hv (insts_mem (cN hg))) (aA (bU (by rw [ha,qL,uI,vBi];omega)) (aA (bU (by rw [hb,qL,uI,vBi];omega)) ?_)));rw [aQ (by omega)];exact hr _ ⟨i+1,by dsimp only;omega,by omega,by dsimp only;rw [X9 hg,ha],by dsimp only;rw [X9 hg,hb]⟩ (by dsimp only;omega)
  have e:i=(insts p.parts).length:=by omega
  rw [ha,hb,e,q7];rfl
def aBs(p:Prog):List L6Use:=(insts p.parts).map fun x=>(⟨rc p x,(wc p x:Int)⟩:L6Use)
theorem aIx{n:Nat}(hn:7100≤n){p:Prog}(hv:bV p=true):A1 n p=some (aBs p):=by
 have hil:=(fX hv).2.2.2.2;refine Ev.eq ?_;unfold A1 aBs;refine aA (u6 (by omega) hv) (Ev.loop (fun z:List L6Use×Int=> ∃i:Nat,z.2=i∧i≤(insts p.parts).length∧z.1=((insts p.parts).take i).map fun x=>(⟨rc p x,(wc p x:Int)⟩:L6Use)) (fun z=>(insts p.parts).length-z.2.toNat) ?_ n _ ⟨0,rfl,by omega,rfl⟩ (by dsimp only;omega));rintro again ⟨a,z⟩ ⟨i,hz,hi,ha⟩ hr;dsimp only at hz ha⊢;subst hz;refine aH (fun hlt=>?_) fun hge=>Ev.some ?_
 ·have hg:=cP (show i<(insts p.parts).length by omega);obtain⟨P,s,c1,c2,c3⟩:=aIB hn hv (insts_mem (cN hg));refine aA (aS hg) (aA c1 (aA c2 (aA c3 (aA (bU (by rw [ha,qL,uI,vBi];omega)) ?_))));rw [aQ (by omega)];exact hr _ ⟨i+1,by dsimp only;omega,by omega,by dsimp only;rw [X9 hg,ha]⟩ (by dsimp only;omega)
 have e:i=(insts p.parts).length:=by omega
 rw [ha,e,q7]
theorem aCI{p:Prog}(hv:bV p=true){l:List Inst}(hl: ∀x∈l,eZ p x){i:Nat}{a:Inst}(h:l[i]? =some a):(rc p a).length≤12:=(inst_c hv (hl _ (cN h))).2.2.1
theorem aHR{R:Type}{Q:R→Prop}{A B:Option Bool}{p:Prog}{a b:Inst}(hA:A=some (decide ((wc p a:Int)∈rc p b)))(hB:B=some (decide ((wc p b:Int)∈rc p a))){J:Int→Option R}(h:Ev (J (uC p a b)) Q):
  Ev (jn (fun(x5:Int)=>jn (fun(x10:Int)=>jn J fun j11=>bif decide ((wc p a:Int)=(wc p b:Int)) then(j11 (wr (x10+4))) else(j11 x10))
   fun j6=>Option.bind B fun x9=>bif x9 then(j6 (wr (x5+2))) else(j6 x5))
   fun j1=>Option.bind A fun x4=>bif x4 then(j1 (wr (0+1))) else(j1 0)) Q:=by
 refine Ev.jn (fun z=>z=if(wc p a:Int)∈rc p b then 1 else 0) (fun j hj=>aA hA (aH (fun e=>hj _ (by rw [if_pos e];rfl)) fun e=>hj _ (by rw [if_neg e]))) fun z hz=>?_;subst hz;refine Ev.jn (fun z=>z=(if(wc p a:Int)∈rc p b then 1 else 0)+if(wc p b:Int)∈rc p a then 2 else 0) (fun j hj=>aA hB (aH (fun e=>hj _ ?_) fun e=>hj _ ?_)) fun z hz=>?_
 ·rw [if_pos e];split<;>rfl
 ·rw [if_neg e,Int.add_zero]
 subst hz;refine Ev.jn (fun z=>z=uC p a b) (fun j hj=>aH (fun e=>hj _ ?_) fun e=>hj _ ?_) fun z hz=>by subst hz;exact h
 ·unfold uC;rw [if_pos (show wc p a=wc p b by omega)];split<;>split<;>rfl
 unfold uC;rw [if_neg (show¬wc p a=wc p b by omega),Int.add_zero]
theorem aCW{n:Nat}(hn:7100≤n){p:Prog}(hv:bV p=true){i k:Nat}{a b:Inst}(ha:(insts p.parts)[i]? =some a)(hb:(insts p.parts)[k]? =some b):iW n (trc p) (i:Int) (k:Int)=some (kd p (insts p.parts) i k):=by rw [D6 ha hb];have la:=aCI hv (fun x hx=>insts_mem hx) ha;have lb:=aCI hv (fun x hx=>insts_mem hx) hb;have ra:ix (trc p).reads (i:Int)=some (rc p a):=aS (D4 ha);have rb:ix (trc p).reads (k:Int)=some (rc p b):=aS (D4 hb);have wa:ix (trc p).writes (i:Int)=some (wc p a:Int):=aS (D4 ha);have wb:ix (trc p).writes (k:Int)=some (wc p b:Int):=aS (D4 hb);refine Ev.eq ?_;unfold iW;rw [ra,rb,wa,wb];exact aHR (F7 (by omega) (by omega) _) (F7 (by omega) (by omega) _) (Ev.some rfl)
theorem aFT{n:Nat}(hn:7100≤n){p:Prog}{a b:Inst}(la:(rc p a).length≤12)(lb:(rc p b).length≤12):wO n ⟨rc p a,(wc p a:Int)⟩ ⟨rc p b,(wc p b:Int)⟩=some (uC p a b):=by refine Ev.eq ?_;unfold wO;exact aHR (aEb (by omega) (by omega) _) (aEb (by omega) (by omega) _) (Ev.some rfl)
theorem aIX{n:Nat}(hn:7100≤n){p:Prog}(hv:bV p=true):mF n (trc p)=some (jO p (insts p.parts) (insts p.parts).length):=by
 have hil:=(fX hv).2.2.2.2;refine Ev.eq ?_;unfold mF;rw [show(trc p).list=insts p.parts from rfl];generalize hL:insts p.parts=l at*;have hok: ∀x∈l,eZ p x:=fun x hx=>insts_mem (by rw [hL];exact hx);refine Ev.loop (fun z:List Dep×Int=> ∃i:Nat,z.2=i∧i≤l.length∧z.1=jO p l i) (fun z=>l.length-z.2.toNat) ?_ n _ ⟨0,rfl,by omega,rfl⟩ (by dsimp only;omega);rintro again ⟨a,z⟩ ⟨i,hz,hi,ha⟩ hr;dsimp only at hz ha⊢;subst hz;refine aH (fun hlt=>?_) fun hge=>Ev.some ?_
 ·have hg:=cP (show i<l.length by omega);rw [aQ (by omega)];refine Ev.loop (fun z:List Dep×Int=> ∃j:Nat,z.2=j∧i<j∧j≤l.length∧z.1=jO p l i++lA p l i j) (fun z=>l.length-z.2.toNat) ?_ n _ ⟨i+1,by dsimp only;omega,by omega,by omega,by dsimp only;rw [ha,yT p l i _ (jQ _),vBn]⟩ (by dsimp only;omega);rintro again2 ⟨b,y⟩ ⟨j,hy,hij,hj,hb⟩ hr2;dsimp only at hy hb⊢;subst hy;refine aH (fun hlt2=>?_) fun hge2=>?_
  ·have hgj:=cP (show j<l.length by omega);have hbt:=aCW hn hv (i:=i) (k:=j) (by rw [hL];exact hg) (by rw [hL];exact hgj);rw [hL] at hbt;have hb0:=(aQt p l i j).1;refine Ev.jn (fun z=>z=jO p l i++lA p l i (j+1)) (fun jj hjj=>aA hbt (aH (fun e=>aA (bU ?_) (hjj _ ?_)) fun e=>hjj _ ?_)) fun z hz=>?_
   ·have h1:=w9 p l i;have h2:=yU p l i j;have h3:i*l.length≤120*120:=vBC (by omega) hil;rw [hb,pU,vBi];omega
   ·rw [hb,qD p l hij,if_neg (by omega),vAL]
   ·rw [hb,qD p l hij,if_pos (by omega),vBn]
   subst hz;rw [aQ (by omega)];exact hr2 _ ⟨j+1,by dsimp only;omega,by omega,by omega,rfl⟩ (by dsimp only;omega)
  have e:j=l.length:=by omega
  try rw [aQ (by omega)]
  exact hr _ ⟨i+1,by dsimp only;omega,by omega,by dsimp only;rw [hb,e,yS]⟩ (by dsimp only;omega)
 have e:i=l.length:=by omega
 rw [ha,e]
theorem aIA{n:Nat}(hn:7100≤n){p:Prog}(hv:bV p=true):A3 n p=some (jO p (insts p.parts) (insts p.parts).length):=by
 have hil:=(fX hv).2.2.2.2;refine Ev.eq ?_;unfold A3;refine aA (aIx hn hv) ?_;have hul:(aBs p).length=(insts p.parts).length:=by unfold aBs;rw [qL]
 have hug: ∀(i:Nat) x,(insts p.parts)[i]? =some x→ix (aBs p) (i:Int)=some ⟨rc p x,(wc p x:Int)⟩:=fun i x h=>aS (D4 h);rw [hul];generalize aBs p=u at*;generalize hL:insts p.parts=l at*;have hok: ∀x∈l,eZ p x:=fun x hx=>insts_mem (by rw [hL];exact hx);refine Ev.loop (fun z:List Dep×Int=> ∃i:Nat,z.2=i∧i≤l.length∧z.1=jO p l i) (fun z=>l.length-z.2.toNat) ?_ n _ ⟨0,rfl,by omega,rfl⟩ (by dsimp only;omega);rintro again ⟨a,z⟩ ⟨i,hz,hi,ha⟩ hr;dsimp only at hz ha⊢;subst hz;refine aH (fun hlt=>?_) fun hge=>Ev.some ?_
 ·have hg:=cP (show i<l.length by omega);rw [aQ (by omega)];refine Ev.loop (fun z:List Dep×Int=> ∃j:Nat,z.2=j∧i<j∧j≤l.length∧z.1=jO p l i++lA p l i j) (fun z=>l.length-z.2.toNat) ?_ n _ ⟨i+1,by dsimp only;omega,by omega,by omega,by dsimp only;rw [ha,yT p l i _ (jQ _),vBn]⟩ (by dsimp only;omega);rintro again2 ⟨b,y⟩ ⟨j,hy,hij,hj,hb⟩ hr2;dsimp only at hy hb⊢;subst hy;refine aH (fun hlt2=>?_) fun hge2=>?_
  ·have hgj:=cP (show j<l.length by omega);have hk:=aFT hn (aCI hv hok hg) (aCI hv hok hgj);refine Ev.jn (fun z=>z=jO p l i++lA p l i (j+1)) (fun jj hjj=>aA (hug _ _ hg) (aA (hug _ _ hgj) (aA hk (dI (fun e=>aA (bU ?_) (hjj _ ?_)) fun e=>hjj _ ?_)))) fun z hz=>?_
   ·have h1:=w9 p l i;have h2:=yU p l i j;have h3:i*l.length≤120*120:=vBC (by omega) hil;rw [hb,pU,vBi];omega
   ·rw [hb,qD p l hij,D6 hg hgj,if_neg e,vAL]
   ·rw [hb,qD p l hij,D6 hg hgj,if_pos e,vBn]
   subst hz;rw [aQ (by omega)];exact hr2 _ ⟨j+1,by dsimp only;omega,by omega,by omega,rfl⟩ (by dsimp only;omega)
  have e:j=l.length:=by omega
  try rw [aQ (by omega)]
  exact hr _ ⟨i+1,by dsimp only;omega,by omega,by dsimp only;rw [hb,e,yS]⟩ (by dsimp only;omega)
 have e:i=l.length:=by omega
 rw [ha,e]
theorem aAl{p:Prog}{l:List Inst}(hl:l.length≤120):(jO p l l.length).length≤15000:=by have h1:=w9 p l l.length;have h2:l.length*l.length≤120*120:=vBC hl hl;omega
theorem aIw{a b:List Int}{n:Nat}(hn:a.length<n)(hl:a.length≤1000000):
  (bif !decide ((a.length:Int)=(b.length:Int)) then(some false) else(aN (fun again2 (x1:Int)=>bif decide (x1<(a.length:Int)) then(Option.bind (ix a x1) fun x3=>Option.bind (ix b x1) fun x4=>bif !decide (x3=x4) then(some false) else(again2 (wr (x1+1)))) else(some true)) n 0))=some (decide (a=b)):=by
 refine Ev.eq (dI (fun h=>Ev.some ?_) fun h=>?_)
 ·exact(decide_eq_false fun e=>h (by rw [e])).symm
 refine Ev.loop (fun x:Int=> ∃i:Nat,x=i∧i≤a.length∧a.take i=b.take i) (fun x=>a.length-x.toNat) ?_ n 0 ⟨0,rfl,by omega,rfl⟩ (by omega);rintro again x ⟨i,rfl,hi,hs⟩ hr;refine aH (fun hlt=>?_) fun hge=>Ev.some ?_
 ·have h1:i<a.length:=by omega
  have h2:i<b.length:=by omega
  have ha:=cP h1;have hb:=cP h2;refine aA (aS ha) (aA (aS hb) ?_);refine dI (fun hne=>Ev.some ?_) fun he=>?_
  ·exact(decide_eq_false fun e=>hne (by subst e;rfl)).symm
  rw [aQ (by omega)];exact hr _ ⟨i+1,by omega,by omega,by rw [oD ha,oD hb,hs,he]⟩ (by omega)
 have e1:a.take i=a:=vBe (by omega);have e2:b.take i=b:=vBe (by omega);rw [e1,e2] at hs;exact(decide_eq_true hs).symm
theorem aEa{n:Nat}{a b:List Int}(hn:a.length<n)(hl:a.length≤1000000):B8 n a b=some (decide (a=b)):=by unfold B8;exact aIw hn hl
end Go.Lift
