/- Programs compose. -/
import Derived.Test.YtjmaejilmokdgaaGreatADraw1
set_option maxRecDepth 100000
set_option linter.unusedVariables false
namespace Go.Lift
open Go
theorem aE0{n:Nat}(hn:5000≤n){a:List Int}(h:a.length≤1000):u9 n a a=some true:=by refine Ev.eq ?_;unfold u9;refine cZ (fun h=>absurd rfl h) fun _=>?_;refine Ev.loop (fun x:Int=>0≤x∧x≤a.length) (fun x=>(a.length-x).toNat) ?_ n 0 ⟨by omega,by omega⟩ (by omega);rintro again x ⟨h0,h1⟩ hr;refine aH (fun hlt=>?_) fun _=>Ev.some rfl;obtain⟨y,hy,_⟩:=jL h0 hlt;refine aA hy (aA hy (cZ (fun h=>absurd rfl h) fun _=>?_));rw [aN (by omega)];exact hr _ ⟨by omega,by omega⟩ (by omega)
theorem aAy{α β:Type}{f g:β→α→β}: ∀{l:List α} {b:β},(∀x∈l,∀b,f b x=g b x)→l.foldl f b=l.foldl g b
 | [],_,_=>rfl
 |x::l,b,h=>by simp only [List.foldl_cons];rw [h x (by simp) b];exact aAy fun y hy=>h y (by simp [hy])
theorem Y3(p:Prog)(m:List Int)(a b:List Inst):cH p m (a++b)=cH p (cH p m a) b:=by unfold cH;rw [List.foldl_append]
theorem aNE{p:Prog}{m:List Int}(h:bM p=true)(hm:hJ p.arrays m):aDk p m=true:=by simp only [aDk,Bool.and_eq_true,decide_eq_true_eq,List.all_eq_true];exact⟨h,hm.1,hm.2⟩
theorem aIq{p:Prog}{m:List Int}(h:bM p=true)(hm:hJ p.arrays m):m.length≤1000:=by
 obtain⟨hl,hd,_⟩:=eN h
 have:=aH8 hd
 have:=hm.1;omega
theorem oU{α:Type}{l:List α}{i:Nat}{x:α}(h:l[i]? =some x):l.take (i+1)=l.take i++[x]:=by rw [yB,h];rfl
def wc(p:Prog)(x:Inst):Nat:=match q9 p x with
 |some s=>(cK p.arrays s.write x.point 0).toNat
 |none=>0
def rc(p:Prog)(x:Inst):List Int:=match q9 p x with
 |some s=>(bY 5 s.value).map (fun a=>cK p.arrays a x.point 0)
 |none=>[]
def vl(p:Prog)(m:List Int)(x:Inst):Int:=match q9 p x with
 |some s=>pA 5 p.arrays m s.value x.point
 |none=>0
theorem aIP{list:List Arr}(hd:fR list){a:Access}{q:List Int}(h:0≤cK list a q 0):cK list a q 0<gN list:=by rcases V2 hd a q 0 (O7 0) with hc|hc<;>omega
theorem inst_c{p:Prog}(hv:bM p=true){x:Inst}(hx:cX p x):(wc p x:Int)<gN p.arrays∧(∀c∈rc p x,0≤c∧c<gN p.arrays)∧(rc p x).length≤12∧ ∀m,runI p m x=m.set (wc p x) (vl p m x):=by obtain⟨i,k,P,s,d,e1,e2,e3,e4,e5,e6,e7,e8⟩:=inst_d hv hx;obtain⟨hl,hd,h4,hpo,hil⟩:=eN hv;obtain⟨c1,c2⟩:=V1 e8;obtain⟨s1,s2,s3,s4⟩:=jN e6;unfold wc rc vl runI;rw [e5];dsimp only;refine⟨by have:=aIP hd c1;omega,fun c hc=>?_,by rw [q7];exact s4,fun m=>rfl⟩;obtain⟨a,ha,rfl⟩:=R3.1 hc;exact⟨c2 a ha,aIP hd (c2 a ha)⟩
theorem aDp{n:Nat}(hn:7100≤n){p:Prog}(hv:bM p=true){x:Inst}(hx:cX p x):iJ n p x=some (rc p x,(wc p x:Int)):=by
 obtain⟨i,k,P,s,d,e1,e2,e3,e4,e5,e6,e7,e8⟩:=inst_d hv hx;obtain⟨hl,hd,h4,hpo,hil⟩:=eN hv;obtain⟨c1,c2⟩:=V1 e8;obtain⟨s1,s2,s3,s4⟩:=jN e6;obtain⟨n,rfl⟩: ∃j,n=j+1:=⟨n-1,by omega⟩
 have hst:eZ (n+1) p x=some s:=by
  unfold eZ;rw [e1,e2,aS e3];show Option.bind (ix P.body (k:Int)) _=_;rw [aS e4];rfl
 have ew:(wc p x:Int)=cK p.arrays s.write x.point 0:=by unfold wc;rw [e5];dsimp only;omega
 have er:rc p x=(bY 5 s.value).map (fun a=>cK p.arrays a x.point 0):=by unfold rc;rw [e5]
 rw [ew,er];refine Ev.eq ?_;unfold iJ;refine aA hst (aA (zD (d:=d) 5 n s.value (by omega) (by omega) s2) ?_);generalize hR:bY 5 s.value=R at*;refine Ev.loop (fun z:List Int×Int=> ∃i:Nat,z.2=i∧i≤R.length∧z.1=(R.take i).map fun a=>cK p.arrays a x.point 0) (fun z=>R.length-z.2.toNat) ?_ (n+1) _ ⟨0,rfl,by omega,by simp⟩ (by dsimp only;omega);rintro again ⟨out,z⟩ ⟨i,hz,hi,ho⟩ hr;dsimp only at hz ho⊢;subst hz;refine aH (fun hlt=>?_) fun hge=>?_
 ·have hg:=cP (show i<R.length by omega);refine aA (aS hg) (aA (o5 (by omega) hl hd (s3 _ (cS hg)) e7) (aA (bW (by rw [ho,q7,u4,vBi];omega)) ?_));rw [aN (by omega)];refine hr _ ⟨i+1,by dsimp only;omega,by omega,?_⟩ (by dsimp only;omega);dsimp only;rw [oU hg,vAM,ho];rfl
 have e:i=R.length:=by omega
 refine aA (o5 (by omega) hl hd s1 e7) (Ev.some ?_);rw [ho,e,qI]
theorem aJa{n:Nat}(hn:7100≤n){p:Prog}(hv:bM p=true){x:Inst}(hx:cX p x): ∃P s,ix p.parts x.part=some P∧ix P.body x.stmt=some s∧oW n p.arrays s x.point=some (rc p x,(wc p x:Int),true):=by
 obtain⟨i,k,P,s,d,e1,e2,e3,e4,e5,e6,e7,e8⟩:=inst_d hv hx;obtain⟨hl,hd,h4,hpo,hil⟩:=eN hv;obtain⟨c1,c2⟩:=V1 e8;have ew:(wc p x:Int)=cK p.arrays s.write x.point 0:=by unfold wc;rw [e5];dsimp only;omega
 have er:rc p x=(bY 5 s.value).map (fun a=>cK p.arrays a x.point 0):=by unfold rc;rw [e5]
 refine⟨P,s,by rw [e1];exact aS e3,by rw [e2];exact aS e4,?_⟩;rw [C3 (by omega) hl hd e6 e7,if_pos e8,ew,er]
theorem aBQ{list:List Arr}{m m':List Int}{q:List Int}{d:Int}: ∀{L:Nat} {e:Expr},dO L e d=true→(∀a∈bY L e,m.getD (cK list a q 0).toNat 0=m'.getD (cK list a q 0).toNat 0)→pA L list m e q=pA L list m' e q
 |0,e,h,_=>by cases h
 |L+1,e,h,hr=>by
  obtain⟨h1,h2,h3⟩:=fY h;simp only [pA];split
  ·rfl
  split
  ·rfl
  split
  ·rename_i k3;exact hr _ (by simp [bY,k3])
  have hk: ∀c∈e.kids,pA L list m c q=pA L list m' c q:=fun c hc=>
   aBQ (h3 c hc) fun a ha=>hr a (by simp only [bY,List.mem_append,List.mem_flatMap];exact .inr ⟨c,hc,ha⟩)
  split
  ·rename_i a b hab;rw [hab] at hk;rw [hk a (by simp),hk b (by simp)]
  rfl
theorem aMN{p:Prog}(hv:bM p=true){x:Inst}(hx:cX p x){m m':List Int}(h: ∀c∈rc p x,m.getD c.toNat 0=m'.getD c.toNat 0):vl p m x=vl p m' x:=by obtain⟨i,k,P,s,d,e1,e2,e3,e4,e5,e6,e7,e8⟩:=inst_d hv hx;unfold vl;unfold rc at h;rw [e5] at h⊢;exact aBQ (jN e6).2.1 fun a ha=>h _ (vBS ha)
theorem aLp{α:Type}(l:List α)(i j:Nat)(x d:α):(l.set i x).getD j d=if i=j∧i<l.length then x else l.getD j d:=by
 rw [K6,K6,List.getElem?_set];split
 ·rename_i h;subst h;split
  ·rename_i h2;rw [if_pos ⟨rfl,h2⟩];rfl
  rename_i h2;rw [if_neg (by omega),vBv (by omega)]
 rename_i h;rw [if_neg fun h2=>h h2.1]
theorem aDs{n:Nat}(hn:7000≤n){p:Prog}(hp:SmP p): ∃L,cW n p=some (L,bM p)∧(bM p=true→L=insts p.parts):=by
 rw [pN hn hp];cases ha:q6 p with
 |false=>
  refine⟨[],?_,fun h=>?_⟩
  ·rw [if_neg (by simp),show bM p=false by unfold bM;rw [ha];rfl]
  unfold bM at h;rw [ha] at h;cases h
 |true=>
  refine⟨insts p.parts,?_,fun _=>rfl⟩;rw [if_pos rfl,show bM p=decide ((insts p.parts).length≤120) by
   unfold bM;rw [ha,Bool.true_and];exact decide_eq_decide.2 (by have:=insts_len' p.parts;omega)]
def pick(l:List Inst)(o:List Int):List Inst:=o.filterMap fun c=>l[c.toNat]?
def aHm(p:Prog)(a b:Inst):Prop:=(wc p a:Int)∈rc p b∨(wc p b:Int)∈rc p a∨wc p a=wc p b
def com(p:Prog)(a b:Inst):Prop:= ∀m,hJ p.arrays m→runI p (runI p m a) b=runI p (runI p m b) a
theorem aKd{p:Prog}(hv:bM p=true){b:Inst}(hb:cX p b){w:Nat}(h:(w:Int)∉rc p b)(m:List Int)(v:Int):vl p (m.set w v) b=vl p m b:=by refine aMN hv hb fun c hc=>?_;have h0:=(inst_c hv hb).2.1 c hc;rw [aLp,if_neg];rintro⟨e,_⟩;exact h (by rw [e,vBI h0.1];exact hc)
theorem swap{p:Prog}(hv:bM p=true){a b:Inst}(ha:cX p a)(hb:cX p b)(h: ¬aHm p a b):com p a b:=by intro m _;have h1:(wc p a:Int)∉rc p b:=fun e=>h (.inl e);have h2:(wc p b:Int)∉rc p a:=fun e=>h (.inr (.inl e));have h3:wc p a≠wc p b:=fun e=>h (.inr (.inr e));have ra:=(inst_c hv ha).2.2.2;have rb:=(inst_c hv hb).2.2.2;rw [ra,rb,rb,ra,aKd hv hb h1,aKd hv ha h2,List.set_comm _ _ h3]
def uP(p:Prog)(a b:Inst):Int:=(if(wc p a:Int)∈rc p b then 1 else 0)+(if(wc p b:Int)∈rc p a then 2 else 0)+(if wc p a=wc p b then 4 else 0)
theorem aPk(p:Prog)(a b:Inst):0≤uP p a b∧uP p a b≤7:=by unfold uP;split<;>split<;>split<;>omega
def kd(p:Prog)(l:List Inst)(i k:Nat):Int:=match l[i]?,l[k]? with
 |some a,some b=>uP p a b
 |_,_=>0
theorem F7{p:Prog}{l:List Inst}{i k:Nat}{a b:Inst}(h1:l[i]? =some a)(h2:l[k]? =some b):kd p l i k=uP p a b:=by unfold kd;rw [h1,h2]
theorem aRg(p:Prog)(l:List Inst)(i k:Nat):0≤kd p l i k∧kd p l i k≤7:=by
 unfold kd;split
 ·exact aPk _ _ _
 omega
def lH(p:Prog)(l:List Inst)(i j:Nat):List Dep:=((List.range j).filter fun k=>decide (i<k)&&decide (kd p l i k≠0)).map (fun(k:Nat)=>(⟨(i:Int),(k:Int),kd p l i k⟩:Dep))
def jZ(p:Prog)(l:List Inst)(n:Nat):List Dep:=(List.range n).flatMap fun i=>lH p l i l.length
theorem qU(p:Prog)(l:List Inst){i j:Nat}(h:i<j):lH p l i (j+1)=lH p l i j++(if kd p l i j=0 then [] else [⟨(i:Int),(j:Int),kd p l i j⟩]):=by
 unfold lH;rw [vBE,List.filter_append,vAM];congr 1;split
 ·rename_i e;simp [e]
 rename_i e;simp [e,h]
theorem zI(p:Prog)(l:List Inst)(i:Nat): ∀j,j≤i+1→lH p l i j=[]
 |0,_=>rfl
 |j+1,h=>by have ih:=zI p l i j (by omega);unfold lH at ih⊢;rw [vBE,List.filter_append,vAM,ih];simp [show¬i<j by omega]
theorem zH(p:Prog)(l:List Inst)(n:Nat):jZ p l (n+1)=jZ p l n++lH p l n l.length:=by unfold jZ;rw [vBE,vBa];simp
theorem zJ(p:Prog)(l:List Inst)(i j:Nat):(lH p l i j).length≤j:=by unfold lH;rw [q7];exact vAS (List.length_filter_le _ _) (by simp)
theorem xS(p:Prog)(l:List Inst): ∀n,(jZ p l n).length≤n*l.length
 |0=>by simp [jZ]
 |n+1=>by
  rw [zH,qJ,pB,Nat.one_mul]
  have:=xS p l n
  have:=zJ p l n l.length;omega
theorem aAd{p:Prog}{l:List Inst}{d:Dep}:d∈jZ p l l.length↔ ∃i k:Nat,i<k∧k<l.length∧kd p l i k≠0∧d=⟨(i:Int),(k:Int),kd p l i k⟩:=by
 unfold jZ lH;simp only [List.mem_flatMap,List.mem_range,List.mem_map,List.mem_filter,Bool.and_eq_true,decide_eq_true_eq];constructor
 ·rintro⟨i,h1,k,⟨h2,h3,h4⟩,rfl⟩;exact⟨i,k,h3,h2,h4,rfl⟩
 rintro⟨i,k,h1,h2,h3,rfl⟩;exact⟨i,by omega,k,⟨h2,h1,h3⟩,rfl⟩
def places(o:List Int):Nat→List Int
 |0=>List.replicate o.length 0
 |k+1=>(places o k).set (o.getD k 0).toNat (k:Int)
theorem aMa{p:Prog}{l:List Inst}: ∀d∈jZ p l l.length,0≤d.1∧d.1<d.2∧d.2<(l.length:Int):=by intro d hd;obtain⟨i,k,h1,h2,h3,rfl⟩:=aAd.1 hd;exact⟨by show(0:Int)≤(i:Int);omega,by show(i:Int)<(k:Int);omega,by show(k:Int)<_;omega⟩
theorem H3{n:Nat}{l:List Int}(hl:l.length<n)(hs:l.length≤1000)(v:Int):iS n l v=some (decide (v∈l)):=by
 refine Ev.eq ?_;unfold iS;refine aO (P:=fun i=>decide ((0:Int)≤i)=decide (v∈l)) ?_ fun x hx=>Ev.some hx;unfold wG;refine Ev.loop (fun z:Int=> ∃i:Nat,z=i∧i≤l.length∧v∉l.take i) (fun z=>l.length-z.toNat) ?_ n 0 ⟨0,rfl,by omega,by simp⟩ (by omega);rintro again z ⟨i,rfl,hi,hno⟩ hr;refine aH (fun hlt=>?_) fun hge=>Ev.some ?_
 ·have hg:=cP (show i<l.length by omega);refine aA (aS hg) (aH (fun e=>Ev.some ?_) fun e=>?_)
  ·rw [decide_eq_true (by omega),decide_eq_true];rw [e];exact cS hg
  rw [aN (by omega)];refine hr _ ⟨i+1,by omega,by omega,?_⟩ (by omega);rw [oU hg,yA,List.mem_singleton];rintro(h|h)
  ·exact hno h
  exact e h
 have e:i=l.length:=by omega
 rw [e,qI] at hno;rw [decide_eq_false (by omega),decide_eq_false hno]
theorem aEG{n:Nat}{l:List Int}(hl:l.length<n)(hs:l.length≤1000)(v:Int):B9 n l v=some (decide (v∈l)):=by
 refine Ev.eq ?_;unfold B9;refine Ev.loop (fun z:Int=> ∃i:Nat,z=i∧i≤l.length∧v∉l.take i) (fun z=>l.length-z.toNat) ?_ n 0 ⟨0,rfl,by omega,by simp⟩ (by omega);rintro again z ⟨i,rfl,hi,hno⟩ hr;refine aH (fun hlt=>?_) fun hge=>Ev.some ?_
 ·have hg:=cP (show i<l.length by omega);refine aA (aS hg) (aH (fun e=>Ev.some ?_) fun e=>?_)
  ·rw [decide_eq_true];rw [←e];exact cS hg
  rw [aN (by omega)];refine hr _ ⟨i+1,by omega,by omega,?_⟩ (by omega);rw [oU hg,yA,List.mem_singleton];rintro(h|h)
  ·exact hno h
  exact e h.symm
 have e:i=l.length:=by omega
 rw [e,qI] at hno;rw [decide_eq_false hno]
def trc(p:Prog):Traced:=⟨p,insts p.parts,(insts p.parts).map (rc p),(insts p.parts).map fun x=>(wc p x:Int)⟩
theorem F0{α β:Type}{l:List α}{f:α→β}{i:Nat}{x:α}(h:l[i]? =some x):(l.map f)[i]? =some (f x):=by rw [tD,h];rfl
theorem aAe{α β:Type}{l:List α}{f:α→β}{i:Nat}{x:α}(h:l[i]? =some x):(l.take (i+1)).map f=(l.take i).map f++[f x]:=by rw [oU h,vAM];rfl
theorem aGX{n:Nat}(hn:7100≤n){p:Prog}(hp:SmP p):G3 n p=some (if bM p=true then(some (trc p),true) else(none,false)):=by
 obtain⟨L,h1,h2⟩:=aDs (n:=n) (by omega) hp;refine Ev.eq ?_;unfold G3;refine aA h1 ?_;dsimp only;cases hv:bM p with
 |false=>exact Ev.some rfl
 |true=>
  rw [h2 hv];have hil:=(eN hv).2.2.2.2;refine b6 (Ev.loop (fun z:List (List Int)×List Int×Int=> ∃i:Nat,z.2.2=i∧i≤(insts p.parts).length∧z.1=((insts p.parts).take i).map (rc p)∧z.2.1=((insts p.parts).take i).map fun x=>(wc p x:Int)) (fun z=>(insts p.parts).length-z.2.2.toNat) ?_ n _ ⟨0,rfl,by omega,rfl,rfl⟩ (by first|omega|(dsimp only;omega)));rintro again ⟨a,b,z⟩ ⟨i,hz,hi,ha,hb⟩ hr;dsimp only at hz ha hb⊢;subst hz;refine aH (fun hlt=>?_) fun hge=>Ev.some ?_
  ·have hg:=cP (show i<(insts p.parts).length by omega);refine aA (aS hg) (aA (aDp (by omega) hv (insts_mem (cS hg))) (aA (bW (by rw [ha,q7,u4,vBi];omega)) (aA (bW (by rw [hb,q7,u4,vBi];omega)) ?_)));rw [aN (by omega)];exact hr _ ⟨i+1,by dsimp only;omega,by omega,by dsimp only;rw [aAe hg,ha],by dsimp only;rw [aAe hg,hb]⟩ (by dsimp only;omega)
  have e:i=(insts p.parts).length:=by omega
  rw [ha,hb,e,qI];rfl
def aBU(p:Prog):List L6Use:=(insts p.parts).map fun x=>(⟨rc p x,(wc p x:Int)⟩:L6Use)
theorem aI6{n:Nat}(hn:7100≤n){p:Prog}(hv:bM p=true):B8 n p=some (aBU p):=by
 have hil:=(eN hv).2.2.2.2;refine Ev.eq ?_;unfold B8 aBU;refine aA (vV (by omega) hv) (Ev.loop (fun z:List L6Use×Int=> ∃i:Nat,z.2=i∧i≤(insts p.parts).length∧z.1=((insts p.parts).take i).map fun x=>(⟨rc p x,(wc p x:Int)⟩:L6Use)) (fun z=>(insts p.parts).length-z.2.toNat) ?_ n _ ⟨0,rfl,by omega,rfl⟩ (by dsimp only;omega));rintro again ⟨a,z⟩ ⟨i,hz,hi,ha⟩ hr;dsimp only at hz ha⊢;subst hz;refine aH (fun hlt=>?_) fun hge=>Ev.some ?_
 ·have hg:=cP (show i<(insts p.parts).length by omega);obtain⟨P,s,c1,c2,c3⟩:=aJa hn hv (insts_mem (cS hg));refine aA (aS hg) (aA c1 (aA c2 (aA c3 (aA (bW (by rw [ha,q7,u4,vBi];omega)) ?_))));rw [aN (by omega)];exact hr _ ⟨i+1,by dsimp only;omega,by omega,by dsimp only;rw [aAe hg,ha]⟩ (by dsimp only;omega)
 have e:i=(insts p.parts).length:=by omega
 rw [ha,e,qI]
theorem aDe{p:Prog}(hv:bM p=true){l:List Inst}(hl: ∀x∈l,cX p x){i:Nat}{a:Inst}(h:l[i]? =some a):(rc p a).length≤12:=(inst_c hv (hl _ (cS h))).2.2.1
theorem aIt{R:Type}{Q:R→Prop}{A B:Option Bool}{p:Prog}{a b:Inst}(hA:A=some (decide ((wc p a:Int)∈rc p b)))(hB:B=some (decide ((wc p b:Int)∈rc p a))){J:Int→Option R}(h:Ev (J (uP p a b)) Q):
  Ev (jn (fun(x5:Int)=>jn (fun(x10:Int)=>jn J fun j11=>bif decide ((wc p a:Int)=(wc p b:Int)) then(j11 (wr (x10+4))) else(j11 x10))
   fun j6=>Option.bind B fun x9=>bif x9 then(j6 (wr (x5+2))) else(j6 x5))
   fun j1=>Option.bind A fun x4=>bif x4 then(j1 (wr (0+1))) else(j1 0)) Q:=by
 refine Ev.jn (fun z=>z=if(wc p a:Int)∈rc p b then 1 else 0) (fun j hj=>aA hA (aH (fun e=>hj _ (by rw [if_pos e];rfl)) fun e=>hj _ (by rw [if_neg e]))) fun z hz=>?_;subst hz;refine Ev.jn (fun z=>z=(if(wc p a:Int)∈rc p b then 1 else 0)+if(wc p b:Int)∈rc p a then 2 else 0) (fun j hj=>aA hB (aH (fun e=>hj _ ?_) fun e=>hj _ ?_)) fun z hz=>?_
 ·rw [if_pos e];split<;>rfl
 ·rw [if_neg e,Int.add_zero]
 subst hz;refine Ev.jn (fun z=>z=uP p a b) (fun j hj=>aH (fun e=>hj _ ?_) fun e=>hj _ ?_) fun z hz=>by subst hz;exact h
 ·unfold uP;rw [if_pos (show wc p a=wc p b by omega)];split<;>split<;>rfl
 unfold uP;rw [if_neg (show¬wc p a=wc p b by omega),Int.add_zero]
theorem aDt{n:Nat}(hn:7100≤n){p:Prog}(hv:bM p=true){i k:Nat}{a b:Inst}(ha:(insts p.parts)[i]? =some a)(hb:(insts p.parts)[k]? =some b):jE n (trc p) (i:Int) (k:Int)=some (kd p (insts p.parts) i k):=by rw [F7 ha hb];have la:=aDe hv (fun x hx=>insts_mem hx) ha;have lb:=aDe hv (fun x hx=>insts_mem hx) hb;have ra:ix (trc p).reads (i:Int)=some (rc p a):=aS (F0 ha);have rb:ix (trc p).reads (k:Int)=some (rc p b):=aS (F0 hb);have wa:ix (trc p).writes (i:Int)=some (wc p a:Int):=aS (F0 ha);have wb:ix (trc p).writes (k:Int)=some (wc p b:Int):=aS (F0 hb);refine Ev.eq ?_;unfold jE;rw [ra,rb,wa,wb];exact aIt (H3 (by omega) (by omega) _) (H3 (by omega) (by omega) _) (Ev.some rfl)
theorem aGs{n:Nat}(hn:7100≤n){p:Prog}{a b:Inst}(la:(rc p a).length≤12)(lb:(rc p b).length≤12):w8 n ⟨rc p a,(wc p a:Int)⟩ ⟨rc p b,(wc p b:Int)⟩=some (uP p a b):=by refine Ev.eq ?_;unfold w8;exact aIt (aEG (by omega) (by omega) _) (aEG (by omega) (by omega) _) (Ev.some rfl)
theorem aJv{n:Nat}(hn:7100≤n){p:Prog}(hv:bM p=true):mJ n (trc p)=some (jZ p (insts p.parts) (insts p.parts).length):=by
 have hil:=(eN hv).2.2.2.2;refine Ev.eq ?_;unfold mJ;rw [show(trc p).list=insts p.parts from rfl];generalize hL:insts p.parts=l at*;have hok: ∀x∈l,cX p x:=fun x hx=>insts_mem (by rw [hL];exact hx);refine Ev.loop (fun z:List Dep×Int=> ∃i:Nat,z.2=i∧i≤l.length∧z.1=jZ p l i) (fun z=>l.length-z.2.toNat) ?_ n _ ⟨0,rfl,by omega,rfl⟩ (by dsimp only;omega);rintro again ⟨a,z⟩ ⟨i,hz,hi,ha⟩ hr;dsimp only at hz ha⊢;subst hz;refine aH (fun hlt=>?_) fun hge=>Ev.some ?_
 ·have hg:=cP (show i<l.length by omega);rw [aN (by omega)];refine Ev.loop (fun z:List Dep×Int=> ∃j:Nat,z.2=j∧i<j∧j≤l.length∧z.1=jZ p l i++lH p l i j) (fun z=>l.length-z.2.toNat) ?_ n _ ⟨i+1,by dsimp only;omega,by omega,by omega,by dsimp only;rw [ha,zI p l i _ (kC _),vBo]⟩ (by dsimp only;omega);rintro again2 ⟨b,y⟩ ⟨j,hy,hij,hj,hb⟩ hr2;dsimp only at hy hb⊢;subst hy;refine aH (fun hlt2=>?_) fun hge2=>?_
  ·have hgj:=cP (show j<l.length by omega);have hbt:=aDt hn hv (i:=i) (k:=j) (by rw [hL];exact hg) (by rw [hL];exact hgj);rw [hL] at hbt;have hb0:=(aRg p l i j).1;refine Ev.jn (fun z=>z=jZ p l i++lH p l i (j+1)) (fun jj hjj=>aA hbt (aH (fun e=>aA (bW ?_) (hjj _ ?_)) fun e=>hjj _ ?_)) fun z hz=>?_
   ·have h1:=xS p l i;have h2:=zJ p l i j;have h3:i*l.length≤120*120:=vBA (by omega) hil;rw [hb,qJ,vBi];omega
   ·rw [hb,qU p l hij,if_neg (by omega),vAK]
   ·rw [hb,qU p l hij,if_pos (by omega),vBo]
   subst hz;rw [aN (by omega)];exact hr2 _ ⟨j+1,by dsimp only;omega,by omega,by omega,rfl⟩ (by dsimp only;omega)
  have e:j=l.length:=by omega
  try rw [aN (by omega)]
  exact hr _ ⟨i+1,by dsimp only;omega,by omega,by dsimp only;rw [hb,e,zH]⟩ (by dsimp only;omega)
 have e:i=l.length:=by omega
 rw [ha,e]
theorem aI9{n:Nat}(hn:7100≤n){p:Prog}(hv:bM p=true):C0 n p=some (jZ p (insts p.parts) (insts p.parts).length):=by
 have hil:=(eN hv).2.2.2.2;refine Ev.eq ?_;unfold C0;refine aA (aI6 hn hv) ?_;have hul:(aBU p).length=(insts p.parts).length:=by unfold aBU;rw [q7]
 have hug: ∀(i:Nat) x,(insts p.parts)[i]? =some x→ix (aBU p) (i:Int)=some ⟨rc p x,(wc p x:Int)⟩:=fun i x h=>aS (F0 h);rw [hul];generalize aBU p=u at*;generalize hL:insts p.parts=l at*;have hok: ∀x∈l,cX p x:=fun x hx=>insts_mem (by rw [hL];exact hx);refine Ev.loop (fun z:List Dep×Int=> ∃i:Nat,z.2=i∧i≤l.length∧z.1=jZ p l i) (fun z=>l.length-z.2.toNat) ?_ n _ ⟨0,rfl,by omega,rfl⟩ (by dsimp only;omega);rintro again ⟨a,z⟩ ⟨i,hz,hi,ha⟩ hr;dsimp only at hz ha⊢;subst hz;refine aH (fun hlt=>?_) fun hge=>Ev.some ?_
 ·have hg:=cP (show i<l.length by omega);rw [aN (by omega)];refine Ev.loop (fun z:List Dep×Int=> ∃j:Nat,z.2=j∧i<j∧j≤l.length∧z.1=jZ p l i++lH p l i j) (fun z=>l.length-z.2.toNat) ?_ n _ ⟨i+1,by dsimp only;omega,by omega,by omega,by dsimp only;rw [ha,zI p l i _ (kC _),vBo]⟩ (by dsimp only;omega);rintro again2 ⟨b,y⟩ ⟨j,hy,hij,hj,hb⟩ hr2;dsimp only at hy hb⊢;subst hy;refine aH (fun hlt2=>?_) fun hge2=>?_
  ·have hgj:=cP (show j<l.length by omega);have hk:=aGs hn (aDe hv hok hg) (aDe hv hok hgj);refine Ev.jn (fun z=>z=jZ p l i++lH p l i (j+1)) (fun jj hjj=>aA (hug _ _ hg) (aA (hug _ _ hgj) (aA hk (cZ (fun e=>aA (bW ?_) (hjj _ ?_)) fun e=>hjj _ ?_)))) fun z hz=>?_
   ·have h1:=xS p l i;have h2:=zJ p l i j;have h3:i*l.length≤120*120:=vBA (by omega) hil;rw [hb,qJ,vBi];omega
   ·rw [hb,qU p l hij,F7 hg hgj,if_neg e,vAK]
   ·rw [hb,qU p l hij,F7 hg hgj,if_pos e,vBo]
   subst hz;rw [aN (by omega)];exact hr2 _ ⟨j+1,by dsimp only;omega,by omega,by omega,rfl⟩ (by dsimp only;omega)
  have e:j=l.length:=by omega
  try rw [aN (by omega)]
  exact hr _ ⟨i+1,by dsimp only;omega,by omega,by dsimp only;rw [hb,e,zH]⟩ (by dsimp only;omega)
 have e:i=l.length:=by omega
 rw [ha,e]
theorem aAL{p:Prog}{l:List Inst}(hl:l.length≤120):(jZ p l l.length).length≤15000:=by have h1:=xS p l l.length;have h2:l.length*l.length≤120*120:=vBA hl hl;omega
theorem aI5{a b:List Int}{n:Nat}(hn:a.length<n)(hl:a.length≤1000000):
  (bif !decide ((a.length:Int)=(b.length:Int)) then(some false) else(aM (fun again2 (x1:Int)=>bif decide (x1<(a.length:Int)) then(Option.bind (ix a x1) fun x3=>Option.bind (ix b x1) fun x4=>bif !decide (x3=x4) then(some false) else(again2 (wr (x1+1)))) else(some true)) n 0))=some (decide (a=b)):=by
 refine Ev.eq (cZ (fun h=>Ev.some ?_) fun h=>?_)
 ·exact(decide_eq_false fun e=>h (by rw [e])).symm
 refine Ev.loop (fun x:Int=> ∃i:Nat,x=i∧i≤a.length∧a.take i=b.take i) (fun x=>a.length-x.toNat) ?_ n 0 ⟨0,rfl,by omega,rfl⟩ (by omega);rintro again x ⟨i,rfl,hi,hs⟩ hr;refine aH (fun hlt=>?_) fun hge=>Ev.some ?_
 ·have h1:i<a.length:=by omega
  have h2:i<b.length:=by omega
  have ha:=cP h1;have hb:=cP h2;refine aA (aS ha) (aA (aS hb) ?_);refine cZ (fun hne=>Ev.some ?_) fun he=>?_
  ·exact(decide_eq_false fun e=>hne (by subst e;rfl)).symm
  rw [aN (by omega)];exact hr _ ⟨i+1,by omega,by omega,by rw [oU ha,oU hb,hs,he]⟩ (by omega)
 have e1:a.take i=a:=vBl (by omega);have e2:b.take i=b:=vBl (by omega);rw [e1,e2] at hs;exact(decide_eq_true hs).symm
theorem aEF{n:Nat}{a b:List Int}(hn:a.length<n)(hl:a.length≤1000000):D3 n a b=some (decide (a=b)):=by unfold D3;exact aI5 hn hl
end Go.Lift
