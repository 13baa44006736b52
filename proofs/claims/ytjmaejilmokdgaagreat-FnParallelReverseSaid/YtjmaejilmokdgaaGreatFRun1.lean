/- Programs compose. -/
import Derived.Test.YtjmaejilmokdgaaGreatFDraw1
set_option maxRecDepth 100000
set_option linter.unusedVariables false
namespace Go.Lift
open Go
theorem mW{α:Type}{l:List α}{i:Nat}{x:α}(h:l[i]? =some x):l.take (i+1)=l.take i++[x]:=by rw [v7,h];rfl
def wc(p:Prog)(x:Inst):Nat:=match pH p x with
 |some s=>(cT p.arrays s.write x.point 0).toNat
 |none=>0
def rc(p:Prog)(x:Inst):List Int:=match pH p x with
 |some s=>(b9 5 s.value).map (fun a=>cT p.arrays a x.point 0)
 |none=>[]
def vl(p:Prog)(m:List Int)(x:Inst):Int:=match pH p x with
 |some s=>pE 5 p.arrays m s.value x.point
 |none=>0
theorem aHh{list:List Arr}(hd:jE list){a:Access}{q:List Int}(h:0≤cT list a q 0):cT list a q 0<wF list:=by rcases aHi hd a q 0 (M0 0) with hc|hc<;>omega
theorem inst_c{p:Prog}(hv:bO p=true){x:Inst}(hx:eI p x):(wc p x:Int)<wF p.arrays∧(∀c∈rc p x,0≤c∧c<wF p.arrays)∧(rc p x).length≤12∧ ∀m,runI p m x=m.set (wc p x) (vl p m x):=by obtain⟨i,k,P,s,d,e1,e2,e3,e4,e5,e6,e7,e8⟩:=inst_d hv hx;obtain⟨hl,hd,h4,hpo,hil⟩:=eN hv;obtain⟨c1,c2⟩:=aCA e8;obtain⟨s1,s2,s3,s4⟩:=jT e6;unfold wc rc vl runI;rw [e5];dsimp only;refine⟨by have:=aHh hd c1;omega,fun c hc=>?_,by rw [mU];exact s4,fun m=>rfl⟩;obtain⟨a,ha,rfl⟩:=C8.1 hc;exact⟨c2 a ha,aHh hd (c2 a ha)⟩
theorem aCd{n:Nat}(hn:7100≤n){p:Prog}(hv:bO p=true){x:Inst}(hx:eI p x):gM n p x=some (rc p x,(wc p x:Int)):=by
 obtain⟨i,k,P,s,d,e1,e2,e3,e4,e5,e6,e7,e8⟩:=inst_d hv hx;obtain⟨hl,hd,h4,hpo,hil⟩:=eN hv;obtain⟨c1,c2⟩:=aCA e8;obtain⟨s1,s2,s3,s4⟩:=jT e6;obtain⟨n,rfl⟩: ∃j,n=j+1:=⟨n-1,by omega⟩
 have hst:kG (n+1) p x=some s:=by
  unfold kG;rw [e1,e2,aN e3];show Option.bind (ix P.body (k:Int)) _=_;rw [aN e4];rfl
 have ew:(wc p x:Int)=cT p.arrays s.write x.point 0:=by unfold wc;rw [e5];dsimp only;omega
 have er:rc p x=(b9 5 s.value).map (fun a=>cT p.arrays a x.point 0):=by unfold rc;rw [e5]
 rw [ew,er];refine Ev.eq ?_;unfold gM;refine aA hst (aA (w7 (d:=d) 5 n s.value (by omega) (by omega) s2) ?_);generalize hR:b9 5 s.value=R at*;refine Ev.loop (fun z:List Int×Int=> ∃i:Nat,z.2=i∧i≤R.length∧z.1=(R.take i).map fun a=>cT p.arrays a x.point 0) (fun z=>R.length-z.2.toNat) ?_ (n+1) _ ⟨0,rfl,by omega,by simp⟩ (by dsimp only;omega);rintro again ⟨out,z⟩ ⟨i,hz,hi,ho⟩ hr;dsimp only at hz ho⊢;subst hz;refine aH (fun hlt=>?_) fun hge=>?_
 ·have hg:=cD (show i<R.length by omega);refine aA (aN hg) (aA (vT (by omega) hl hd (s3 _ (cK hg)) e7) (aA (bU (by rw [ho,mU,pS,vAZ];omega)) ?_));rw [aK (by omega)];refine hr _ ⟨i+1,by dsimp only;omega,by omega,?_⟩ (by dsimp only;omega);dsimp only;rw [mW hg,vAI,ho];rfl
 have e:i=R.length:=by omega
 refine aA (vT (by omega) hl hd s1 e7) (Ev.some ?_);rw [ho,e,oE]
theorem aHz{n:Nat}(hn:7100≤n){p:Prog}(hv:bO p=true){x:Inst}(hx:eI p x): ∃P s,ix p.parts x.part=some P∧ix P.body x.stmt=some s∧mX n p.arrays s x.point=some (rc p x,(wc p x:Int),true):=by
 obtain⟨i,k,P,s,d,e1,e2,e3,e4,e5,e6,e7,e8⟩:=inst_d hv hx;obtain⟨hl,hd,h4,hpo,hil⟩:=eN hv;obtain⟨c1,c2⟩:=aCA e8;have ew:(wc p x:Int)=cT p.arrays s.write x.point 0:=by unfold wc;rw [e5];dsimp only;omega
 have er:rc p x=(b9 5 s.value).map (fun a=>cT p.arrays a x.point 0):=by unfold rc;rw [e5]
 refine⟨P,s,by rw [e1];exact aN e3,by rw [e2];exact aN e4,?_⟩;rw [yJ (by omega) hl hd e6 e7,if_pos e8,ew,er]
theorem aAL{list:List Arr}{m m':List Int}{q:List Int}{d:Int}: ∀{L:Nat} {e:Expr},dI L e d=true→(∀a∈b9 L e,m.getD (cT list a q 0).toNat 0=m'.getD (cT list a q 0).toNat 0)→pE L list m e q=pE L list m' e q
 |0,e,h,_=>by cases h
 |L+1,e,h,hr=>by
  obtain⟨h1,h2,h3⟩:=iB h;simp only [pE];split
  ·rfl
  split
  ·rfl
  split
  ·rename_i k3;exact hr _ (by simp [b9,k3])
  have hk: ∀c∈e.kids,pE L list m c q=pE L list m' c q:=fun c hc=>
   aAL (h3 c hc) fun a ha=>hr a (by simp only [b9,List.mem_append,List.mem_flatMap];exact .inr ⟨c,hc,ha⟩)
  split
  ·rename_i a b hab;rw [hab] at hk;rw [hk a (by simp),hk b (by simp)]
  rfl
theorem aKT{p:Prog}(hv:bO p=true){x:Inst}(hx:eI p x){m m':List Int}(h: ∀c∈rc p x,m.getD c.toNat 0=m'.getD c.toNat 0):vl p m x=vl p m' x:=by obtain⟨i,k,P,s,d,e1,e2,e3,e4,e5,e6,e7,e8⟩:=inst_d hv hx;unfold vl;unfold rc at h;rw [e5] at h⊢;exact aAL (jT e6).2.1 fun a ha=>h _ (List.mem_map_of_mem ha)
theorem aJC{α:Type}(l:List α)(i j:Nat)(x d:α):(l.set i x).getD j d=if i=j∧i<l.length then x else l.getD j d:=by
 rw [s8,s8,List.getElem?_set];split
 ·rename_i h;subst h;split
  ·rename_i h2;rw [if_pos ⟨rfl,h2⟩];rfl
  rename_i h2;rw [if_neg (by omega),vAV (by omega)]
 rename_i h;rw [if_neg fun h2=>h h2.1]
def mM(l:List Bool):List Int:=((List.range l.length).filter fun i=>l.getD i false).map (fun(i:Nat)=>(i:Int))
theorem aDK{n:Nat}{l:List Bool}(hl:l.length<n)(hl2:l.length≤1000):lR n l=some (mM l):=by
 refine Ev.eq ?_;unfold lR;refine Ev.loop (fun z:List Int×Int=> ∃i:Nat,z.2=i∧i≤l.length∧z.1.length≤i∧z.1=((List.range i).filter fun i=>l.getD i false).map (fun(i:Nat)=>(i:Int))) (fun z=>l.length-z.2.toNat) ?_ n _ ⟨0,rfl,by omega,by simp,by simp⟩ (by dsimp only;omega);rintro again ⟨out,z⟩ ⟨i,hz,hi,hol,ho⟩ hr;dsimp only at hz ho hol⊢;subst hz;refine aH (fun hlt=>?_) fun hge=>Ev.some ?_
 ·have hg:=cD (show i<l.length by omega);have hgd:l.getD i false=l[i]:=by rw [s8,hg];rfl
  refine Ev.jn (fun z=>z.length≤i+1∧z=((List.range (i+1)).filter fun i=>l.getD i false).map (fun(i:Nat)=>(i:Int))) (fun j hj=>aA (aN hg) (Ev.cond (fun h=>aA (bU (by rw [vAZ];omega)) (hj _ ?_)) fun h=>hj _ ?_)) fun z hz=>?_
  ·refine⟨by rw [nY,vAZ];omega,?_⟩;rw [vBq,vBE,vAI,←ho];simp [hg,h]
  ·refine⟨by omega,?_⟩;rw [vBq,vBE,vAI,←ho];simp [hg,h]
  rw [aK (by omega)];exact hr _ ⟨i+1,by dsimp only;omega,by omega,hz.1,hz.2⟩ (by dsimp only;omega)
 have e:i=l.length:=by omega
 rw [ho,e];rfl
theorem aB0{n:Nat}{l:List Bool}(hl:l.length<n)(hl2:l.length≤1000):lR n l=some (mM l):=aDK hl hl2
theorem aCg{n:Nat}(hn:7000≤n){p:Prog}(hp:SmP p): ∃L,dB n p=some (L,bO p)∧(bO p=true→L=insts p.parts):=by
 rw [uE hn hp];cases ha:q6 p with
 |false=>
  refine⟨[],?_,fun h=>?_⟩
  ·rw [if_neg (by simp),show bO p=false by unfold bO;rw [ha];rfl]
  unfold bO at h;rw [ha] at h;cases h
 |true=>
  refine⟨insts p.parts,?_,fun _=>rfl⟩;rw [if_pos rfl,show bO p=decide ((insts p.parts).length≤120) by
   unfold bO;rw [ha,Bool.true_and];exact decide_eq_decide.2 (by have:=insts_len' p.parts;omega)]
def pick(l:List Inst)(o:List Int):List Inst:=o.filterMap fun c=>l[c.toNat]?
def aCy(p:Prog)(a b:Inst):Prop:=(wc p a:Int)∈rc p b∨(wc p b:Int)∈rc p a∨wc p a=wc p b
def com(p:Prog)(a b:Inst):Prop:= ∀m,aAd p.arrays m→runI p (runI p m a) b=runI p (runI p m b) a
theorem aIz{p:Prog}(hv:bO p=true){b:Inst}(hb:eI p b){w:Nat}(h:(w:Int)∉rc p b)(m:List Int)(v:Int):vl p (m.set w v) b=vl p m b:=by refine aKT hv hb fun c hc=>?_;have h0:=(inst_c hv hb).2.1 c hc;rw [aJC,if_neg];rintro⟨e,_⟩;exact h (by rw [e,vBM h0.1];exact hc)
theorem swap{p:Prog}(hv:bO p=true){a b:Inst}(ha:eI p a)(hb:eI p b)(h: ¬aCy p a b):com p a b:=by intro m _;have h1:(wc p a:Int)∉rc p b:=fun e=>h (.inl e);have h2:(wc p b:Int)∉rc p a:=fun e=>h (.inr (.inl e));have h3:wc p a≠wc p b:=fun e=>h (.inr (.inr e));have ra:=(inst_c hv ha).2.2.2;have rb:=(inst_c hv hb).2.2.2;rw [ra,rb,rb,ra,aIz hv hb h1,aIz hv ha h2,List.set_comm _ _ h3]
def sU(p:Prog)(a b:Inst):Int:=(if(wc p a:Int)∈rc p b then 1 else 0)+(if(wc p b:Int)∈rc p a then 2 else 0)+(if wc p a=wc p b then 4 else 0)
theorem aNq(p:Prog)(a b:Inst):0≤sU p a b∧sU p a b≤7:=by unfold sU;split<;>split<;>split<;>omega
def kd(p:Prog)(l:List Inst)(i k:Nat):Int:=match l[i]?,l[k]? with
 |some a,some b=>sU p a b
 |_,_=>0
theorem zK{p:Prog}{l:List Inst}{i k:Nat}{a b:Inst}(h1:l[i]? =some a)(h2:l[k]? =some b):kd p l i k=sU p a b:=by unfold kd;rw [h1,h2]
theorem aPn(p:Prog)(l:List Inst)(i k:Nat):0≤kd p l i k∧kd p l i k≤7:=by
 unfold kd;split
 ·exact aNq _ _ _
 omega
def kJ(p:Prog)(l:List Inst)(i j:Nat):List Dep:=((List.range j).filter fun k=>decide (i<k)&&decide (kd p l i k≠0)).map (fun(k:Nat)=>(⟨(i:Int),(k:Int),kd p l i k⟩:Dep))
def iN(p:Prog)(l:List Inst)(n:Nat):List Dep:=(List.range n).flatMap fun i=>kJ p l i l.length
theorem o8(p:Prog)(l:List Inst){i j:Nat}(h:i<j):kJ p l i (j+1)=kJ p l i j++(if kd p l i j=0 then [] else [⟨(i:Int),(j:Int),kd p l i j⟩]):=by
 unfold kJ;rw [vBq,vBE,vAI];congr 1;split
 ·rename_i e;simp [e]
 rename_i e;simp [e,h]
theorem xE(p:Prog)(l:List Inst)(i:Nat): ∀j,j≤i+1→kJ p l i j=[]
 |0,_=>rfl
 |j+1,h=>by have ih:=xE p l i j (by omega);unfold kJ at ih⊢;rw [vBq,vBE,vAI,ih];simp [show¬i<j by omega]
theorem xD(p:Prog)(l:List Inst)(n:Nat):iN p l (n+1)=iN p l n++kJ p l n l.length:=by unfold iN;rw [vBq,vBa];simp
theorem xF(p:Prog)(l:List Inst)(i j:Nat):(kJ p l i j).length≤j:=by unfold kJ;rw [mU];exact H5 (List.length_filter_le _ _) (by simp)
theorem vX(p:Prog)(l:List Inst): ∀n,(iN p l n).length≤n*l.length
 |0=>by simp [iN]
 |n+1=>by
  rw [xD,nY,nA,Nat.one_mul]
  have:=vX p l n
  have:=xF p l n l.length;omega
theorem S8{p:Prog}{l:List Inst}{d:Dep}:d∈iN p l l.length↔ ∃i k:Nat,i<k∧k<l.length∧kd p l i k≠0∧d=⟨(i:Int),(k:Int),kd p l i k⟩:=by
 unfold iN kJ;simp only [List.mem_flatMap,List.mem_range,List.mem_map,List.mem_filter,Bool.and_eq_true,decide_eq_true_eq];constructor
 ·rintro⟨i,h1,k,⟨h2,h3,h4⟩,rfl⟩;exact⟨i,k,h3,h2,h4,rfl⟩
 rintro⟨i,k,h1,h2,h3,rfl⟩;exact⟨i,by omega,k,⟨h2,h1,h3⟩,rfl⟩
def places(o:List Int):Nat→List Int
 |0=>List.replicate o.length 0
 |k+1=>(places o k).set (o.getD k 0).toNat (k:Int)
theorem aFO{p:Prog}{l:List Inst}: ∀d∈iN p l l.length,0≤d.1∧d.1<d.2∧d.2<(l.length:Int):=by intro d hd;obtain⟨i,k,h1,h2,h3,rfl⟩:=S8.1 hd;exact⟨by show(0:Int)≤(i:Int);omega,by show(i:Int)<(k:Int);omega,by show(k:Int)<_;omega⟩
theorem z8{n:Nat}{l:List Int}(hl:l.length<n)(hs:l.length≤1000)(v:Int):gS n l v=some (decide (v∈l)):=by
 refine Ev.eq ?_;unfold gS;refine aI (P:=fun i=>decide ((0:Int)≤i)=decide (v∈l)) ?_ fun x hx=>Ev.some hx;unfold uB;refine Ev.loop (fun z:Int=> ∃i:Nat,z=i∧i≤l.length∧v∉l.take i) (fun z=>l.length-z.toNat) ?_ n 0 ⟨0,rfl,by omega,by simp⟩ (by omega);rintro again z ⟨i,rfl,hi,hno⟩ hr;refine aH (fun hlt=>?_) fun hge=>Ev.some ?_
 ·have hg:=cD (show i<l.length by omega);refine aA (aN hg) (aH (fun e=>Ev.some ?_) fun e=>?_)
  ·rw [decide_eq_true (by omega),decide_eq_true];rw [e];exact cK hg
  rw [aK (by omega)];refine hr _ ⟨i+1,by omega,by omega,?_⟩ (by omega);rw [mW hg,wE,List.mem_singleton];rintro(h|h)
  ·exact hno h
  exact e h
 have e:i=l.length:=by omega
 rw [e,oE] at hno;rw [decide_eq_false (by omega),decide_eq_false hno]
theorem Q1{n:Nat}{l:List Int}(hl:l.length<n)(hs:l.length≤1000)(v:Int):u7 n l v=some (decide (v∈l)):=by
 refine Ev.eq ?_;unfold u7;refine Ev.loop (fun z:Int=> ∃i:Nat,z=i∧i≤l.length∧v∉l.take i) (fun z=>l.length-z.toNat) ?_ n 0 ⟨0,rfl,by omega,by simp⟩ (by omega);rintro again z ⟨i,rfl,hi,hno⟩ hr;refine aH (fun hlt=>?_) fun hge=>Ev.some ?_
 ·have hg:=cD (show i<l.length by omega);refine aA (aN hg) (aH (fun e=>Ev.some ?_) fun e=>?_)
  ·rw [decide_eq_true];rw [←e];exact cK hg
  rw [aK (by omega)];refine hr _ ⟨i+1,by omega,by omega,?_⟩ (by omega);rw [mW hg,wE,List.mem_singleton];rintro(h|h)
  ·exact hno h
  exact e h.symm
 have e:i=l.length:=by omega
 rw [e,oE] at hno;rw [decide_eq_false hno]
def trc(p:Prog):Traced:=⟨p,insts p.parts,(insts p.parts).map (rc p),(insts p.parts).map fun x=>(wc p x:Int)⟩
theorem zH{α β:Type}{l:List α}{f:α→β}{i:Nat}{x:α}(h:l[i]? =some x):(l.map f)[i]? =some (f x):=by rw [q7,h];rfl
theorem S9{α β:Type}{l:List α}{f:α→β}{i:Nat}{x:α}(h:l[i]? =some x):(l.take (i+1)).map f=(l.take i).map f++[f x]:=by rw [mW h,vAI];rfl
theorem w6{n:Nat}(hn:7100≤n){p:Prog}(hp:SmP p):rR n p=some (if bO p=true then(some (trc p),true) else(none,false)):=by
 obtain⟨L,h1,h2⟩:=aCg (n:=n) (by omega) hp;refine Ev.eq ?_;unfold rR;refine aA h1 ?_;dsimp only;cases hv:bO p with
 |false=>exact Ev.some rfl
 |true=>
  rw [h2 hv];have hil:=(eN hv).2.2.2.2;refine bV (Ev.loop (fun z:List (List Int)×List Int×Int=> ∃i:Nat,z.2.2=i∧i≤(insts p.parts).length∧z.1=((insts p.parts).take i).map (rc p)∧z.2.1=((insts p.parts).take i).map fun x=>(wc p x:Int)) (fun z=>(insts p.parts).length-z.2.2.toNat) ?_ n _ ⟨0,rfl,by omega,rfl,rfl⟩ (by first|omega|(dsimp only;omega)));rintro again ⟨a,b,z⟩ ⟨i,hz,hi,ha,hb⟩ hr;dsimp only at hz ha hb⊢;subst hz;refine aH (fun hlt=>?_) fun hge=>Ev.some ?_
  ·have hg:=cD (show i<(insts p.parts).length by omega);refine aA (aN hg) (aA (aCd (by omega) hv (insts_mem (cK hg))) (aA (bU (by rw [ha,mU,pS,vAZ];omega)) (aA (bU (by rw [hb,mU,pS,vAZ];omega)) ?_)));rw [aK (by omega)];exact hr _ ⟨i+1,by dsimp only;omega,by omega,by dsimp only;rw [S9 hg,ha],by dsimp only;rw [S9 hg,hb]⟩ (by dsimp only;omega)
  have e:i=(insts p.parts).length:=by omega
  rw [ha,hb,e,oE];rfl
def aAP(p:Prog):List L6Use:=(insts p.parts).map fun x=>(⟨rc p x,(wc p x:Int)⟩:L6Use)
theorem aHw{n:Nat}(hn:7100≤n){p:Prog}(hv:bO p=true):yE n p=some (aAP p):=by
 have hil:=(eN hv).2.2.2.2;refine Ev.eq ?_;unfold yE aAP;refine aA (tU (by omega) hv) (Ev.loop (fun z:List L6Use×Int=> ∃i:Nat,z.2=i∧i≤(insts p.parts).length∧z.1=((insts p.parts).take i).map fun x=>(⟨rc p x,(wc p x:Int)⟩:L6Use)) (fun z=>(insts p.parts).length-z.2.toNat) ?_ n _ ⟨0,rfl,by omega,rfl⟩ (by dsimp only;omega));rintro again ⟨a,z⟩ ⟨i,hz,hi,ha⟩ hr;dsimp only at hz ha⊢;subst hz;refine aH (fun hlt=>?_) fun hge=>Ev.some ?_
 ·have hg:=cD (show i<(insts p.parts).length by omega);obtain⟨P,s,c1,c2,c3⟩:=aHz hn hv (insts_mem (cK hg));refine aA (aN hg) (aA c1 (aA c2 (aA c3 (aA (bU (by rw [ha,mU,pS,vAZ];omega)) ?_))));rw [aK (by omega)];exact hr _ ⟨i+1,by dsimp only;omega,by omega,by dsimp only;rw [S9 hg,ha]⟩ (by dsimp only;omega)
 have e:i=(insts p.parts).length:=by omega
 rw [ha,e,oE]
theorem aB3{p:Prog}(hv:bO p=true){l:List Inst}(hl: ∀x∈l,eI p x){i:Nat}{a:Inst}(h:l[i]? =some a):(rc p a).length≤12:=(inst_c hv (hl _ (cK h))).2.2.1
theorem aGT{R:Type}{Q:R→Prop}{A B:Option Bool}{p:Prog}{a b:Inst}(hA:A=some (decide ((wc p a:Int)∈rc p b)))(hB:B=some (decide ((wc p b:Int)∈rc p a))){J:Int→Option R}(h:Ev (J (sU p a b)) Q):
  Ev (jn (fun(x5:Int)=>jn (fun(x10:Int)=>jn J fun j11=>bif decide ((wc p a:Int)=(wc p b:Int)) then(j11 (wr (x10+4))) else(j11 x10))
   fun j6=>Option.bind B fun x9=>bif x9 then(j6 (wr (x5+2))) else(j6 x5))
   fun j1=>Option.bind A fun x4=>bif x4 then(j1 (wr (0+1))) else(j1 0)) Q:=by
 refine Ev.jn (fun z=>z=if(wc p a:Int)∈rc p b then 1 else 0) (fun j hj=>aA hA (aH (fun e=>hj _ (by rw [if_pos e];rfl)) fun e=>hj _ (by rw [if_neg e]))) fun z hz=>?_;subst hz;refine Ev.jn (fun z=>z=(if(wc p a:Int)∈rc p b then 1 else 0)+if(wc p b:Int)∈rc p a then 2 else 0) (fun j hj=>aA hB (aH (fun e=>hj _ ?_) fun e=>hj _ ?_)) fun z hz=>?_
 ·rw [if_pos e];split<;>rfl
 ·rw [if_neg e,Int.add_zero]
 subst hz;refine Ev.jn (fun z=>z=sU p a b) (fun j hj=>aH (fun e=>hj _ ?_) fun e=>hj _ ?_) fun z hz=>by subst hz;exact h
 ·unfold sU;rw [if_pos (show wc p a=wc p b by omega)];split<;>split<;>rfl
 unfold sU;rw [if_neg (show¬wc p a=wc p b by omega),Int.add_zero]
theorem aCh{n:Nat}(hn:7100≤n){p:Prog}(hv:bO p=true){i k:Nat}{a b:Inst}(ha:(insts p.parts)[i]? =some a)(hb:(insts p.parts)[k]? =some b):iF n (trc p) (i:Int) (k:Int)=some (kd p (insts p.parts) i k):=by rw [zK ha hb];have la:=aB3 hv (fun x hx=>insts_mem hx) ha;have lb:=aB3 hv (fun x hx=>insts_mem hx) hb;have ra:ix (trc p).reads (i:Int)=some (rc p a):=aN (zH ha);have rb:ix (trc p).reads (k:Int)=some (rc p b):=aN (zH hb);have wa:ix (trc p).writes (i:Int)=some (wc p a:Int):=aN (zH ha);have wb:ix (trc p).writes (k:Int)=some (wc p b:Int):=aN (zH hb);refine Ev.eq ?_;unfold iF;rw [ra,rb,wa,wb];exact aGT (z8 (by omega) (by omega) _) (z8 (by omega) (by omega) _) (Ev.some rfl)
theorem aE1{n:Nat}(hn:7100≤n){p:Prog}{a b:Inst}(la:(rc p a).length≤12)(lb:(rc p b).length≤12):u6 n ⟨rc p a,(wc p a:Int)⟩ ⟨rc p b,(wc p b:Int)⟩=some (sU p a b):=by refine Ev.eq ?_;unfold u6;exact aGT (Q1 (by omega) (by omega) _) (Q1 (by omega) (by omega) _) (Ev.some rfl)
theorem aBo{n:Nat}(hn:7100≤n){p:Prog}(hv:bO p=true):i8 n (trc p)=some (iN p (insts p.parts) (insts p.parts).length):=by
 have hil:=(eN hv).2.2.2.2;refine Ev.eq ?_;unfold i8;rw [show(trc p).list=insts p.parts from rfl];generalize hL:insts p.parts=l at*;have hok: ∀x∈l,eI p x:=fun x hx=>insts_mem (by rw [hL];exact hx);refine Ev.loop (fun z:List Dep×Int=> ∃i:Nat,z.2=i∧i≤l.length∧z.1=iN p l i) (fun z=>l.length-z.2.toNat) ?_ n _ ⟨0,rfl,by omega,rfl⟩ (by dsimp only;omega);rintro again ⟨a,z⟩ ⟨i,hz,hi,ha⟩ hr;dsimp only at hz ha⊢;subst hz;refine aH (fun hlt=>?_) fun hge=>Ev.some ?_
 ·have hg:=cD (show i<l.length by omega);rw [aK (by omega)];refine Ev.loop (fun z:List Dep×Int=> ∃j:Nat,z.2=j∧i<j∧j≤l.length∧z.1=iN p l i++kJ p l i j) (fun z=>l.length-z.2.toNat) ?_ n _ ⟨i+1,by dsimp only;omega,by omega,by omega,by dsimp only;rw [ha,xE p l i _ (iR _),vBm]⟩ (by dsimp only;omega);rintro again2 ⟨b,y⟩ ⟨j,hy,hij,hj,hb⟩ hr2;dsimp only at hy hb⊢;subst hy;refine aH (fun hlt2=>?_) fun hge2=>?_
  ·have hgj:=cD (show j<l.length by omega);have hbt:=aCh hn hv (i:=i) (k:=j) (by rw [hL];exact hg) (by rw [hL];exact hgj);rw [hL] at hbt;have hb0:=(aPn p l i j).1;refine Ev.jn (fun z=>z=iN p l i++kJ p l i (j+1)) (fun jj hjj=>aA hbt (aH (fun e=>aA (bU ?_) (hjj _ ?_)) fun e=>hjj _ ?_)) fun z hz=>?_
   ·have h1:=vX p l i;have h2:=xF p l i j;have h3:i*l.length≤120*120:=vBG (by omega) hil;rw [hb,nY,vAZ];omega
   ·rw [hb,o8 p l hij,if_neg (by omega),vAO]
   ·rw [hb,o8 p l hij,if_pos (by omega),vBm]
   subst hz;rw [aK (by omega)];exact hr2 _ ⟨j+1,by dsimp only;omega,by omega,by omega,rfl⟩ (by dsimp only;omega)
  have e:j=l.length:=by omega
  try rw [aK (by omega)]
  exact hr _ ⟨i+1,by dsimp only;omega,by omega,by dsimp only;rw [hb,e,xD]⟩ (by dsimp only;omega)
 have e:i=l.length:=by omega
 rw [ha,e]
theorem aHy{n:Nat}(hn:7100≤n){p:Prog}(hv:bO p=true):yF n p=some (iN p (insts p.parts) (insts p.parts).length):=by
 have hil:=(eN hv).2.2.2.2;refine Ev.eq ?_;unfold yF;refine aA (aHw hn hv) ?_;have hul:(aAP p).length=(insts p.parts).length:=by unfold aAP;rw [mU]
 have hug: ∀(i:Nat) x,(insts p.parts)[i]? =some x→ix (aAP p) (i:Int)=some ⟨rc p x,(wc p x:Int)⟩:=fun i x h=>aN (zH h);rw [hul];generalize aAP p=u at*;generalize hL:insts p.parts=l at*;have hok: ∀x∈l,eI p x:=fun x hx=>insts_mem (by rw [hL];exact hx);refine Ev.loop (fun z:List Dep×Int=> ∃i:Nat,z.2=i∧i≤l.length∧z.1=iN p l i) (fun z=>l.length-z.2.toNat) ?_ n _ ⟨0,rfl,by omega,rfl⟩ (by dsimp only;omega);rintro again ⟨a,z⟩ ⟨i,hz,hi,ha⟩ hr;dsimp only at hz ha⊢;subst hz;refine aH (fun hlt=>?_) fun hge=>Ev.some ?_
 ·have hg:=cD (show i<l.length by omega);rw [aK (by omega)];refine Ev.loop (fun z:List Dep×Int=> ∃j:Nat,z.2=j∧i<j∧j≤l.length∧z.1=iN p l i++kJ p l i j) (fun z=>l.length-z.2.toNat) ?_ n _ ⟨i+1,by dsimp only;omega,by omega,by omega,by dsimp only;rw [ha,xE p l i _ (iR _),vBm]⟩ (by dsimp only;omega);rintro again2 ⟨b,y⟩ ⟨j,hy,hij,hj,hb⟩ hr2;dsimp only at hy hb⊢;subst hy;refine aH (fun hlt2=>?_) fun hge2=>?_
  ·have hgj:=cD (show j<l.length by omega);have hk:=aE1 hn (aB3 hv hok hg) (aB3 hv hok hgj);refine Ev.jn (fun z=>z=iN p l i++kJ p l i (j+1)) (fun jj hjj=>aA (hug _ _ hg) (aA (hug _ _ hgj) (aA hk (dH (fun e=>aA (bU ?_) (hjj _ ?_)) fun e=>hjj _ ?_)))) fun z hz=>?_
   ·have h1:=vX p l i;have h2:=xF p l i j;have h3:i*l.length≤120*120:=vBG (by omega) hil;rw [hb,nY,vAZ];omega
   ·rw [hb,o8 p l hij,zK hg hgj,if_neg e,vAO]
   ·rw [hb,o8 p l hij,zK hg hgj,if_pos e,vBm]
   subst hz;rw [aK (by omega)];exact hr2 _ ⟨j+1,by dsimp only;omega,by omega,by omega,rfl⟩ (by dsimp only;omega)
  have e:j=l.length:=by omega
  try rw [aK (by omega)]
  exact hr _ ⟨i+1,by dsimp only;omega,by omega,by dsimp only;rw [hb,e,xD]⟩ (by dsimp only;omega)
 have e:i=l.length:=by omega
 rw [ha,e]
theorem qP{p:Prog}{l:List Inst}(hl:l.length≤120):(iN p l l.length).length≤15000:=by have h1:=vX p l l.length;have h2:l.length*l.length≤120*120:=vBG hl hl;omega
theorem aAS{a b:List Int}{n:Nat}(hn:a.length<n)(hl:a.length≤1000000):
  (bif !decide ((a.length:Int)=(b.length:Int)) then(some false) else(aM (fun again2 (x1:Int)=>bif decide (x1<(a.length:Int)) then(Option.bind (ix a x1) fun x3=>Option.bind (ix b x1) fun x4=>bif !decide (x3=x4) then(some false) else(again2 (wr (x1+1)))) else(some true)) n 0))=some (decide (a=b)):=by
 refine Ev.eq (dH (fun h=>Ev.some ?_) fun h=>?_)
 ·exact(decide_eq_false fun e=>h (by rw [e])).symm
 refine Ev.loop (fun x:Int=> ∃i:Nat,x=i∧i≤a.length∧a.take i=b.take i) (fun x=>a.length-x.toNat) ?_ n 0 ⟨0,rfl,by omega,rfl⟩ (by omega);rintro again x ⟨i,rfl,hi,hs⟩ hr;refine aH (fun hlt=>?_) fun hge=>Ev.some ?_
 ·have h1:i<a.length:=by omega
  have h2:i<b.length:=by omega
  have ha:=cD h1;have hb:=cD h2;refine aA (aN ha) (aA (aN hb) ?_);refine dH (fun hne=>Ev.some ?_) fun he=>?_
  ·exact(decide_eq_false fun e=>hne (by subst e;rfl)).symm
  rw [aK (by omega)];exact hr _ ⟨i+1,by omega,by omega,by rw [mW ha,mW hb,hs,he]⟩ (by omega)
 have e1:a.take i=a:=vBg (by omega);have e2:b.take i=b:=vBg (by omega);rw [e1,e2] at hs;exact(decide_eq_true hs).symm
theorem T6{n:Nat}{a b:List Int}(hn:a.length<n)(hl:a.length≤1000000):lU n a b=some (decide (a=b)):=by unfold lU;exact aAS hn hl
theorem aDp{n:Nat}{a b:List Int}(hn:a.length<n)(hl:a.length≤1000000):yS n a b=some (decide (a=b)):=by unfold yS;exact aAS hn hl
end Go.Lift
