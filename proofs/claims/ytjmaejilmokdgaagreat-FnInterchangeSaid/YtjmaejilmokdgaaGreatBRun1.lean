/- Programs compose. -/
import Derived.Test.YtjmaejilmokdgaaGreatBDraw1
set_option maxRecDepth 100000
set_option linter.unusedVariables false
namespace Go.Lift
open Go
theorem aEP{n:Nat}(hn:5000≤n){a:List Int}(h:a.length≤1000):uT n a a=some true:=by refine Ev.eq ?_;unfold uT;refine dP (fun h=>absurd rfl h) fun _=>?_;refine Ev.loop (fun x:Int=>0≤x∧x≤a.length) (fun x=>(a.length-x).toNat) ?_ n 0 ⟨by omega,by omega⟩ (by omega);rintro again x ⟨h0,h1⟩ hr;refine aH (fun hlt=>?_) fun _=>Ev.some rfl;obtain⟨y,hy,_⟩:=jO h0 hlt;refine aA hy (aA hy (dP (fun h=>absurd rfl h) fun _=>?_));rw [aO (by omega)];exact hr _ ⟨by omega,by omega⟩ (by omega)
theorem aAw{α β:Type}{f g:β→α→β}: ∀{l:List α} {b:β},(∀x∈l,∀b,f b x=g b x)→l.foldl f b=l.foldl g b
 | [],_,_=>rfl
 |x::l,b,h=>by simp only [List.foldl_cons];rw [h x (by simp) b];exact aAw fun y hy=>h y (by simp [hy])
theorem Y2(p:Prog)(m:List Int)(a b:List Inst):cH p m (a++b)=cH p (cH p m a) b:=by unfold cH;rw [List.foldl_append]
theorem aM4{p:Prog}{m:List Int}(h:bM p=true)(hm:iE p.arrays m):aDh p m=true:=by simp only [aDh,Bool.and_eq_true,decide_eq_true_eq,List.all_eq_true];exact⟨h,hm.1,hm.2⟩
theorem aIa{p:Prog}{m:List Int}(h:bM p=true)(hm:iE p.arrays m):m.length≤1000:=by
 obtain⟨hl,hd,_⟩:=eN h
 have:=aHU hd
 have:=hm.1;omega
theorem oL{α:Type}{l:List α}{i:Nat}{x:α}(h:l[i]? =some x):l.take (i+1)=l.take i++[x]:=by rw [xI,h];rfl
def wc(p:Prog)(x:Inst):Nat:=match q6 p x with
 |some s=>(cK p.arrays s.write x.point 0).toNat
 |none=>0
def rc(p:Prog)(x:Inst):List Int:=match q6 p x with
 |some s=>(bX 5 s.value).map (fun a=>cK p.arrays a x.point 0)
 |none=>[]
def vl(p:Prog)(m:List Int)(x:Inst):Int:=match q6 p x with
 |some s=>o8 5 p.arrays m s.value x.point
 |none=>0
theorem aIu{list:List Arr}(hd:fT list){a:Access}{q:List Int}(h:0≤cK list a q 0):cK list a q 0<gQ list:=by rcases U9 hd a q 0 (O3 0) with hc|hc<;>omega
theorem inst_c{p:Prog}(hv:bM p=true){x:Inst}(hx:cY p x):(wc p x:Int)<gQ p.arrays∧(∀c∈rc p x,0≤c∧c<gQ p.arrays)∧(rc p x).length≤12∧ ∀m,runI p m x=m.set (wc p x) (vl p m x):=by obtain⟨i,k,P,s,d,e1,e2,e3,e4,e5,e6,e7,e8⟩:=inst_d hv hx;obtain⟨hl,hd,h4,hpo,hil⟩:=eN hv;obtain⟨c1,c2⟩:=U8 e8;obtain⟨s1,s2,s3,s4⟩:=jQ e6;unfold wc rc vl runI;rw [e5];dsimp only;refine⟨by have:=aIu hd c1;omega,fun c hc=>?_,by rw [qF];exact s4,fun m=>rfl⟩;obtain⟨a,ha,rfl⟩:=Q9.1 hc;exact⟨c2 a ha,aIu hd (c2 a ha)⟩
theorem aDn{n:Nat}(hn:7100≤n){p:Prog}(hv:bM p=true){x:Inst}(hx:cY p x):iM n p x=some (rc p x,(wc p x:Int)):=by
 obtain⟨i,k,P,s,d,e1,e2,e3,e4,e5,e6,e7,e8⟩:=inst_d hv hx;obtain⟨hl,hd,h4,hpo,hil⟩:=eN hv;obtain⟨c1,c2⟩:=U8 e8;obtain⟨s1,s2,s3,s4⟩:=jQ e6;obtain⟨n,rfl⟩: ∃j,n=j+1:=⟨n-1,by omega⟩
 have hst:fB (n+1) p x=some s:=by
  unfold fB;rw [e1,e2,aM e3];show Option.bind (ix P.body (k:Int)) _=_;rw [aM e4];rfl
 have ew:(wc p x:Int)=cK p.arrays s.write x.point 0:=by unfold wc;rw [e5];dsimp only;omega
 have er:rc p x=(bX 5 s.value).map (fun a=>cK p.arrays a x.point 0):=by unfold rc;rw [e5]
 rw [ew,er];refine Ev.eq ?_;unfold iM;refine aA hst (aA (yV (d:=d) 5 n s.value (by omega) (by omega) s2) ?_);generalize hR:bX 5 s.value=R at*;refine Ev.loop (fun z:List Int×Int=> ∃i:Nat,z.2=i∧i≤R.length∧z.1=(R.take i).map fun a=>cK p.arrays a x.point 0) (fun z=>R.length-z.2.toNat) ?_ (n+1) _ ⟨0,rfl,by omega,by simp⟩ (by dsimp only;omega);rintro again ⟨out,z⟩ ⟨i,hz,hi,ho⟩ hr;dsimp only at hz ho⊢;subst hz;refine aH (fun hlt=>?_) fun hge=>?_
 ·have hg:=cP (show i<R.length by omega);refine aA (aM hg) (aA (o4 (by omega) hl hd (s3 _ (cR hg)) e7) (aA (bW (by rw [ho,qF,rN,vBj];omega)) ?_));rw [aO (by omega)];refine hr _ ⟨i+1,by dsimp only;omega,by omega,?_⟩ (by dsimp only;omega);dsimp only;rw [oL hg,vAM,ho];rfl
 have e:i=R.length:=by omega
 refine aA (o4 (by omega) hl hd s1 e7) (Ev.some ?_);rw [ho,e,qG]
theorem aIO{n:Nat}(hn:7100≤n){p:Prog}(hv:bM p=true){x:Inst}(hx:cY p x): ∃P s,ix p.parts x.part=some P∧ix P.body x.stmt=some s∧oO n p.arrays s x.point=some (rc p x,(wc p x:Int),true):=by
 obtain⟨i,k,P,s,d,e1,e2,e3,e4,e5,e6,e7,e8⟩:=inst_d hv hx;obtain⟨hl,hd,h4,hpo,hil⟩:=eN hv;obtain⟨c1,c2⟩:=U8 e8;have ew:(wc p x:Int)=cK p.arrays s.write x.point 0:=by unfold wc;rw [e5];dsimp only;omega
 have er:rc p x=(bX 5 s.value).map (fun a=>cK p.arrays a x.point 0):=by unfold rc;rw [e5]
 refine⟨P,s,by rw [e1];exact aM e3,by rw [e2];exact aM e4,?_⟩;rw [C1 (by omega) hl hd e6 e7,if_pos e8,ew,er]
theorem aBK{list:List Arr}{m m':List Int}{q:List Int}{d:Int}: ∀{L:Nat} {e:Expr},dQ L e d=true→(∀a∈bX L e,m.getD (cK list a q 0).toNat 0=m'.getD (cK list a q 0).toNat 0)→o8 L list m e q=o8 L list m' e q
 |0,e,h,_=>by cases h
 |L+1,e,h,hr=>by
  obtain⟨h1,h2,h3⟩:=f9 h;simp only [o8];split
  ·rfl
  split
  ·rfl
  split
  ·rename_i k3;exact hr _ (by simp [bX,k3])
  have hk: ∀c∈e.kids,o8 L list m c q=o8 L list m' c q:=fun c hc=>
   aBK (h3 c hc) fun a ha=>hr a (by simp only [bX,List.mem_append,List.mem_flatMap];exact .inr ⟨c,hc,ha⟩)
  split
  ·rename_i a b hab;rw [hab] at hk;rw [hk a (by simp),hk b (by simp)]
  rfl
theorem aMi{p:Prog}(hv:bM p=true){x:Inst}(hx:cY p x){m m':List Int}(h: ∀c∈rc p x,m.getD c.toNat 0=m'.getD c.toNat 0):vl p m x=vl p m' x:=by obtain⟨i,k,P,s,d,e1,e2,e3,e4,e5,e6,e7,e8⟩:=inst_d hv hx;unfold vl;unfold rc at h;rw [e5] at h⊢;exact aBK (jQ e6).2.1 fun a ha=>h _ (vBR ha)
theorem aKV{α:Type}(l:List α)(i j:Nat)(x d:α):(l.set i x).getD j d=if i=j∧i<l.length then x else l.getD j d:=by
 rw [z7,z7,List.getElem?_set];split
 ·rename_i h;subst h;split
  ·rename_i h2;rw [if_pos ⟨rfl,h2⟩];rfl
  rename_i h2;rw [if_neg (by omega),vBm (by omega)]
 rename_i h;rw [if_neg fun h2=>h h2.1]
theorem aDq{n:Nat}(hn:7000≤n){p:Prog}(hp:SmP p): ∃L,cX n p=some (L,bM p)∧(bM p=true→L=insts p.parts):=by
 rw [pL hn hp];cases ha:qZ p with
 |false=>
  refine⟨[],?_,fun h=>?_⟩
  ·rw [if_neg (by simp),show bM p=false by unfold bM;rw [ha];rfl]
  unfold bM at h;rw [ha] at h;cases h
 |true=>
  refine⟨insts p.parts,?_,fun _=>rfl⟩;rw [if_pos rfl,show bM p=decide ((insts p.parts).length≤120) by
   unfold bM;rw [ha,Bool.true_and];exact decide_eq_decide.2 (by have:=insts_len' p.parts;omega)]
def pick(l:List Inst)(o:List Int):List Inst:=o.filterMap fun c=>l[c.toNat]?
def aG9(p:Prog)(a b:Inst):Prop:=(wc p a:Int)∈rc p b∨(wc p b:Int)∈rc p a∨wc p a=wc p b
def com(p:Prog)(a b:Inst):Prop:= ∀m,iE p.arrays m→runI p (runI p m a) b=runI p (runI p m b) a
theorem aJM{p:Prog}(hv:bM p=true){b:Inst}(hb:cY p b){w:Nat}(h:(w:Int)∉rc p b)(m:List Int)(v:Int):vl p (m.set w v) b=vl p m b:=by refine aMi hv hb fun c hc=>?_;have h0:=(inst_c hv hb).2.1 c hc;rw [aKV,if_neg];rintro⟨e,_⟩;exact h (by rw [e,vBI h0.1];exact hc)
theorem swap{p:Prog}(hv:bM p=true){a b:Inst}(ha:cY p a)(hb:cY p b)(h: ¬aG9 p a b):com p a b:=by intro m _;have h1:(wc p a:Int)∉rc p b:=fun e=>h (.inl e);have h2:(wc p b:Int)∉rc p a:=fun e=>h (.inr (.inl e));have h3:wc p a≠wc p b:=fun e=>h (.inr (.inr e));have ra:=(inst_c hv ha).2.2.2;have rb:=(inst_c hv hb).2.2.2;rw [ra,rb,rb,ra,aJM hv hb h1,aJM hv ha h2,List.set_comm _ _ h3]
def uH(p:Prog)(a b:Inst):Int:=(if(wc p a:Int)∈rc p b then 1 else 0)+(if(wc p b:Int)∈rc p a then 2 else 0)+(if wc p a=wc p b then 4 else 0)
theorem aON(p:Prog)(a b:Inst):0≤uH p a b∧uH p a b≤7:=by unfold uH;split<;>split<;>split<;>omega
def kd(p:Prog)(l:List Inst)(i k:Nat):Int:=match l[i]?,l[k]? with
 |some a,some b=>uH p a b
 |_,_=>0
theorem E7{p:Prog}{l:List Inst}{i k:Nat}{a b:Inst}(h1:l[i]? =some a)(h2:l[k]? =some b):kd p l i k=uH p a b:=by unfold kd;rw [h1,h2]
theorem aQC(p:Prog)(l:List Inst)(i k:Nat):0≤kd p l i k∧kd p l i k≤7:=by
 unfold kd;split
 ·exact aON _ _ _
 omega
def lD(p:Prog)(l:List Inst)(i j:Nat):List Dep:=((List.range j).filter fun k=>decide (i<k)&&decide (kd p l i k≠0)).map (fun(k:Nat)=>(⟨(i:Int),(k:Int),kd p l i k⟩:Dep))
def kC(p:Prog)(l:List Inst)(n:Nat):List Dep:=(List.range n).flatMap fun i=>lD p l i l.length
theorem qS(p:Prog)(l:List Inst){i j:Nat}(h:i<j):lD p l i (j+1)=lD p l i j++(if kd p l i j=0 then [] else [⟨(i:Int),(j:Int),kd p l i j⟩]):=by
 unfold lD;rw [vBE,List.filter_append,vAM];congr 1;split
 ·rename_i e;simp [e]
 rename_i e;simp [e,h]
theorem yZ(p:Prog)(l:List Inst)(i:Nat): ∀j,j≤i+1→lD p l i j=[]
 |0,_=>rfl
 |j+1,h=>by have ih:=yZ p l i j (by omega);unfold lD at ih⊢;rw [vBE,List.filter_append,vAM,ih];simp [show¬i<j by omega]
theorem yY(p:Prog)(l:List Inst)(n:Nat):kC p l (n+1)=kC p l n++lD p l n l.length:=by unfold kC;rw [vBE,vBb];simp
theorem y0(p:Prog)(l:List Inst)(i j:Nat):(lD p l i j).length≤j:=by unfold lD;rw [qF];exact vAT (List.length_filter_le _ _) (by simp)
theorem xE(p:Prog)(l:List Inst): ∀n,(kC p l n).length≤n*l.length
 |0=>by simp [kC]
 |n+1=>by
  rw [yY,qA,o9,Nat.one_mul]
  have:=xE p l n
  have:=y0 p l n l.length;omega
theorem aAc{p:Prog}{l:List Inst}{d:Dep}:d∈kC p l l.length↔ ∃i k:Nat,i<k∧k<l.length∧kd p l i k≠0∧d=⟨(i:Int),(k:Int),kd p l i k⟩:=by
 unfold kC lD;simp only [List.mem_flatMap,List.mem_range,List.mem_map,List.mem_filter,Bool.and_eq_true,decide_eq_true_eq];constructor
 ·rintro⟨i,h1,k,⟨h2,h3,h4⟩,rfl⟩;exact⟨i,k,h3,h2,h4,rfl⟩
 rintro⟨i,k,h1,h2,h3,rfl⟩;exact⟨i,by omega,k,⟨h2,h1,h3⟩,rfl⟩
def places(o:List Int):Nat→List Int
 |0=>List.replicate o.length 0
 |k+1=>(places o k).set (o.getD k 0).toNat (k:Int)
theorem aLF{p:Prog}{l:List Inst}: ∀d∈kC p l l.length,0≤d.1∧d.1<d.2∧d.2<(l.length:Int):=by intro d hd;obtain⟨i,k,h1,h2,h3,rfl⟩:=aAc.1 hd;exact⟨by show(0:Int)≤(i:Int);omega,by show(i:Int)<(k:Int);omega,by show(k:Int)<_;omega⟩
theorem H0{n:Nat}{l:List Int}(hl:l.length<n)(hs:l.length≤1000)(v:Int):iT n l v=some (decide (v∈l)):=by
 refine Ev.eq ?_;unfold iT;refine aN (P:=fun i=>decide ((0:Int)≤i)=decide (v∈l)) ?_ fun x hx=>Ev.some hx;unfold vW;refine Ev.loop (fun z:Int=> ∃i:Nat,z=i∧i≤l.length∧v∉l.take i) (fun z=>l.length-z.toNat) ?_ n 0 ⟨0,rfl,by omega,by simp⟩ (by omega);rintro again z ⟨i,rfl,hi,hno⟩ hr;refine aH (fun hlt=>?_) fun hge=>Ev.some ?_
 ·have hg:=cP (show i<l.length by omega);refine aA (aM hg) (aH (fun e=>Ev.some ?_) fun e=>?_)
  ·rw [decide_eq_true (by omega),decide_eq_true];rw [e];exact cR hg
  rw [aO (by omega)];refine hr _ ⟨i+1,by omega,by omega,?_⟩ (by omega);rw [oL hg,xH,List.mem_singleton];rintro(h|h)
  ·exact hno h
  exact e h
 have e:i=l.length:=by omega
 rw [e,qG] at hno;rw [decide_eq_false (by omega),decide_eq_false hno]
theorem aEz{n:Nat}{l:List Int}(hl:l.length<n)(hs:l.length≤1000)(v:Int):B7 n l v=some (decide (v∈l)):=by
 refine Ev.eq ?_;unfold B7;refine Ev.loop (fun z:Int=> ∃i:Nat,z=i∧i≤l.length∧v∉l.take i) (fun z=>l.length-z.toNat) ?_ n 0 ⟨0,rfl,by omega,by simp⟩ (by omega);rintro again z ⟨i,rfl,hi,hno⟩ hr;refine aH (fun hlt=>?_) fun hge=>Ev.some ?_
 ·have hg:=cP (show i<l.length by omega);refine aA (aM hg) (aH (fun e=>Ev.some ?_) fun e=>?_)
  ·rw [decide_eq_true];rw [←e];exact cR hg
  rw [aO (by omega)];refine hr _ ⟨i+1,by omega,by omega,?_⟩ (by omega);rw [oL hg,xH,List.mem_singleton];rintro(h|h)
  ·exact hno h
  exact e h.symm
 have e:i=l.length:=by omega
 rw [e,qG] at hno;rw [decide_eq_false hno]
def trc(p:Prog):Traced:=⟨p,insts p.parts,(insts p.parts).map (rc p),(insts p.parts).map fun x=>(wc p x:Int)⟩
theorem E5{α β:Type}{l:List α}{f:α→β}{i:Nat}{x:α}(h:l[i]? =some x):(l.map f)[i]? =some (f x):=by rw [sZ,h];rfl
theorem aAd{α β:Type}{l:List α}{f:α→β}{i:Nat}{x:α}(h:l[i]? =some x):(l.take (i+1)).map f=(l.take i).map f++[f x]:=by rw [oL h,vAM];rfl
theorem aGL{n:Nat}(hn:7100≤n){p:Prog}(hp:SmP p):F7 n p=some (if bM p=true then(some (trc p),true) else(none,false)):=by
 obtain⟨L,h1,h2⟩:=aDq (n:=n) (by omega) hp;refine Ev.eq ?_;unfold F7;refine aA h1 ?_;dsimp only;cases hv:bM p with
 |false=>exact Ev.some rfl
 |true=>
  rw [h2 hv];have hil:=(eN hv).2.2.2.2;refine cC (Ev.loop (fun z:List (List Int)×List Int×Int=> ∃i:Nat,z.2.2=i∧i≤(insts p.parts).length∧z.1=((insts p.parts).take i).map (rc p)∧z.2.1=((insts p.parts).take i).map fun x=>(wc p x:Int)) (fun z=>(insts p.parts).length-z.2.2.toNat) ?_ n _ ⟨0,rfl,by omega,rfl,rfl⟩ (by first|omega|(dsimp only;omega)));rintro again ⟨a,b,z⟩ ⟨i,hz,hi,ha,hb⟩ hr;dsimp only at hz ha hb⊢;subst hz;refine aH (fun hlt=>?_) fun hge=>Ev.some ?_
  ·have hg:=cP (show i<(insts p.parts).length by omega);refine aA (aM hg) (aA (aDn (by omega) hv (insts_mem (cR hg))) (aA (bW (by rw [ha,qF,rN,vBj];omega)) (aA (bW (by rw [hb,qF,rN,vBj];omega)) ?_)));rw [aO (by omega)];exact hr _ ⟨i+1,by dsimp only;omega,by omega,by dsimp only;rw [aAd hg,ha],by dsimp only;rw [aAd hg,hb]⟩ (by dsimp only;omega)
  have e:i=(insts p.parts).length:=by omega
  rw [ha,hb,e,qG];rfl
def aBO(p:Prog):List L6Use:=(insts p.parts).map fun x=>(⟨rc p x,(wc p x:Int)⟩:L6Use)
theorem aIK{n:Nat}(hn:7100≤n){p:Prog}(hv:bM p=true):B6 n p=some (aBO p):=by
 have hil:=(eN hv).2.2.2.2;refine Ev.eq ?_;unfold B6 aBO;refine aA (vE (by omega) hv) (Ev.loop (fun z:List L6Use×Int=> ∃i:Nat,z.2=i∧i≤(insts p.parts).length∧z.1=((insts p.parts).take i).map fun x=>(⟨rc p x,(wc p x:Int)⟩:L6Use)) (fun z=>(insts p.parts).length-z.2.toNat) ?_ n _ ⟨0,rfl,by omega,rfl⟩ (by dsimp only;omega));rintro again ⟨a,z⟩ ⟨i,hz,hi,ha⟩ hr;dsimp only at hz ha⊢;subst hz;refine aH (fun hlt=>?_) fun hge=>Ev.some ?_
 ·have hg:=cP (show i<(insts p.parts).length by omega);obtain⟨P,s,c1,c2,c3⟩:=aIO hn hv (insts_mem (cR hg));refine aA (aM hg) (aA c1 (aA c2 (aA c3 (aA (bW (by rw [ha,qF,rN,vBj];omega)) ?_))));rw [aO (by omega)];exact hr _ ⟨i+1,by dsimp only;omega,by omega,by dsimp only;rw [aAd hg,ha]⟩ (by dsimp only;omega)
 have e:i=(insts p.parts).length:=by omega
 rw [ha,e,qG]
theorem aC9{p:Prog}(hv:bM p=true){l:List Inst}(hl: ∀x∈l,cY p x){i:Nat}{a:Inst}(h:l[i]? =some a):(rc p a).length≤12:=(inst_c hv (hl _ (cR h))).2.2.1
theorem aId{R:Type}{Q:R→Prop}{A B:Option Bool}{p:Prog}{a b:Inst}(hA:A=some (decide ((wc p a:Int)∈rc p b)))(hB:B=some (decide ((wc p b:Int)∈rc p a))){J:Int→Option R}(h:Ev (J (uH p a b)) Q):
  Ev (jn (fun(x5:Int)=>jn (fun(x10:Int)=>jn J fun j11=>bif decide ((wc p a:Int)=(wc p b:Int)) then(j11 (wr (x10+4))) else(j11 x10))
   fun j6=>Option.bind B fun x9=>bif x9 then(j6 (wr (x5+2))) else(j6 x5))
   fun j1=>Option.bind A fun x4=>bif x4 then(j1 (wr (0+1))) else(j1 0)) Q:=by
 refine Ev.jn (fun z=>z=if(wc p a:Int)∈rc p b then 1 else 0) (fun j hj=>aA hA (aH (fun e=>hj _ (by rw [if_pos e];rfl)) fun e=>hj _ (by rw [if_neg e]))) fun z hz=>?_;subst hz;refine Ev.jn (fun z=>z=(if(wc p a:Int)∈rc p b then 1 else 0)+if(wc p b:Int)∈rc p a then 2 else 0) (fun j hj=>aA hB (aH (fun e=>hj _ ?_) fun e=>hj _ ?_)) fun z hz=>?_
 ·rw [if_pos e];split<;>rfl
 ·rw [if_neg e,Int.add_zero]
 subst hz;refine Ev.jn (fun z=>z=uH p a b) (fun j hj=>aH (fun e=>hj _ ?_) fun e=>hj _ ?_) fun z hz=>by subst hz;exact h
 ·unfold uH;rw [if_pos (show wc p a=wc p b by omega)];split<;>split<;>rfl
 unfold uH;rw [if_neg (show¬wc p a=wc p b by omega),Int.add_zero]
theorem aDr{n:Nat}(hn:7100≤n){p:Prog}(hv:bM p=true){i k:Nat}{a b:Inst}(ha:(insts p.parts)[i]? =some a)(hb:(insts p.parts)[k]? =some b):jE n (trc p) (i:Int) (k:Int)=some (kd p (insts p.parts) i k):=by rw [E7 ha hb];have la:=aC9 hv (fun x hx=>insts_mem hx) ha;have lb:=aC9 hv (fun x hx=>insts_mem hx) hb;have ra:ix (trc p).reads (i:Int)=some (rc p a):=aM (E5 ha);have rb:ix (trc p).reads (k:Int)=some (rc p b):=aM (E5 hb);have wa:ix (trc p).writes (i:Int)=some (wc p a:Int):=aM (E5 ha);have wb:ix (trc p).writes (k:Int)=some (wc p b:Int):=aM (E5 hb);refine Ev.eq ?_;unfold jE;rw [ra,rb,wa,wb];exact aId (H0 (by omega) (by omega) _) (H0 (by omega) (by omega) _) (Ev.some rfl)
theorem aGj{n:Nat}(hn:7100≤n){p:Prog}{a b:Inst}(la:(rc p a).length≤12)(lb:(rc p b).length≤12):wT n ⟨rc p a,(wc p a:Int)⟩ ⟨rc p b,(wc p b:Int)⟩=some (uH p a b):=by refine Ev.eq ?_;unfold wT;exact aId (aEz (by omega) (by omega) _) (aEz (by omega) (by omega) _) (Ev.some rfl)
theorem aI8{n:Nat}(hn:7100≤n){p:Prog}(hv:bM p=true):mI n (trc p)=some (kC p (insts p.parts) (insts p.parts).length):=by
 have hil:=(eN hv).2.2.2.2;refine Ev.eq ?_;unfold mI;rw [show(trc p).list=insts p.parts from rfl];generalize hL:insts p.parts=l at*;have hok: ∀x∈l,cY p x:=fun x hx=>insts_mem (by rw [hL];exact hx);refine Ev.loop (fun z:List Dep×Int=> ∃i:Nat,z.2=i∧i≤l.length∧z.1=kC p l i) (fun z=>l.length-z.2.toNat) ?_ n _ ⟨0,rfl,by omega,rfl⟩ (by dsimp only;omega);rintro again ⟨a,z⟩ ⟨i,hz,hi,ha⟩ hr;dsimp only at hz ha⊢;subst hz;refine aH (fun hlt=>?_) fun hge=>Ev.some ?_
 ·have hg:=cP (show i<l.length by omega);rw [aO (by omega)];refine Ev.loop (fun z:List Dep×Int=> ∃j:Nat,z.2=j∧i<j∧j≤l.length∧z.1=kC p l i++lD p l i j) (fun z=>l.length-z.2.toNat) ?_ n _ ⟨i+1,by dsimp only;omega,by omega,by omega,by dsimp only;rw [ha,yZ p l i _ (kL _),vBn]⟩ (by dsimp only;omega);rintro again2 ⟨b,y⟩ ⟨j,hy,hij,hj,hb⟩ hr2;dsimp only at hy hb⊢;subst hy;refine aH (fun hlt2=>?_) fun hge2=>?_
  ·have hgj:=cP (show j<l.length by omega);have hbt:=aDr hn hv (i:=i) (k:=j) (by rw [hL];exact hg) (by rw [hL];exact hgj);rw [hL] at hbt;have hb0:=(aQC p l i j).1;refine Ev.jn (fun z=>z=kC p l i++lD p l i (j+1)) (fun jj hjj=>aA hbt (aH (fun e=>aA (bW ?_) (hjj _ ?_)) fun e=>hjj _ ?_)) fun z hz=>?_
   ·have h1:=xE p l i;have h2:=y0 p l i j;have h3:i*l.length≤120*120:=vBA (by omega) hil;rw [hb,qA,vBj];omega
   ·rw [hb,qS p l hij,if_neg (by omega),vAO]
   ·rw [hb,qS p l hij,if_pos (by omega),vBn]
   subst hz;rw [aO (by omega)];exact hr2 _ ⟨j+1,by dsimp only;omega,by omega,by omega,rfl⟩ (by dsimp only;omega)
  have e:j=l.length:=by omega
  try rw [aO (by omega)]
  exact hr _ ⟨i+1,by dsimp only;omega,by omega,by dsimp only;rw [hb,e,yY]⟩ (by dsimp only;omega)
 have e:i=l.length:=by omega
 rw [ha,e]
theorem aIN{n:Nat}(hn:7100≤n){p:Prog}(hv:bM p=true):B8 n p=some (kC p (insts p.parts) (insts p.parts).length):=by
 have hil:=(eN hv).2.2.2.2;refine Ev.eq ?_;unfold B8;refine aA (aIK hn hv) ?_;have hul:(aBO p).length=(insts p.parts).length:=by unfold aBO;rw [qF]
 have hug: ∀(i:Nat) x,(insts p.parts)[i]? =some x→ix (aBO p) (i:Int)=some ⟨rc p x,(wc p x:Int)⟩:=fun i x h=>aM (E5 h);rw [hul];generalize aBO p=u at*;generalize hL:insts p.parts=l at*;have hok: ∀x∈l,cY p x:=fun x hx=>insts_mem (by rw [hL];exact hx);refine Ev.loop (fun z:List Dep×Int=> ∃i:Nat,z.2=i∧i≤l.length∧z.1=kC p l i) (fun z=>l.length-z.2.toNat) ?_ n _ ⟨0,rfl,by omega,rfl⟩ (by dsimp only;omega);rintro again ⟨a,z⟩ ⟨i,hz,hi,ha⟩ hr;dsimp only at hz ha⊢;subst hz;refine aH (fun hlt=>?_) fun hge=>Ev.some ?_
 ·have hg:=cP (show i<l.length by omega);rw [aO (by omega)];refine Ev.loop (fun z:List Dep×Int=> ∃j:Nat,z.2=j∧i<j∧j≤l.length∧z.1=kC p l i++lD p l i j) (fun z=>l.length-z.2.toNat) ?_ n _ ⟨i+1,by dsimp only;omega,by omega,by omega,by dsimp only;rw [ha,yZ p l i _ (kL _),vBn]⟩ (by dsimp only;omega);rintro again2 ⟨b,y⟩ ⟨j,hy,hij,hj,hb⟩ hr2;dsimp only at hy hb⊢;subst hy;refine aH (fun hlt2=>?_) fun hge2=>?_
  ·have hgj:=cP (show j<l.length by omega);have hk:=aGj hn (aC9 hv hok hg) (aC9 hv hok hgj);refine Ev.jn (fun z=>z=kC p l i++lD p l i (j+1)) (fun jj hjj=>aA (hug _ _ hg) (aA (hug _ _ hgj) (aA hk (dP (fun e=>aA (bW ?_) (hjj _ ?_)) fun e=>hjj _ ?_)))) fun z hz=>?_
   ·have h1:=xE p l i;have h2:=y0 p l i j;have h3:i*l.length≤120*120:=vBA (by omega) hil;rw [hb,qA,vBj];omega
   ·rw [hb,qS p l hij,E7 hg hgj,if_neg e,vAO]
   ·rw [hb,qS p l hij,E7 hg hgj,if_pos e,vBn]
   subst hz;rw [aO (by omega)];exact hr2 _ ⟨j+1,by dsimp only;omega,by omega,by omega,rfl⟩ (by dsimp only;omega)
  have e:j=l.length:=by omega
  try rw [aO (by omega)]
  exact hr _ ⟨i+1,by dsimp only;omega,by omega,by dsimp only;rw [hb,e,yY]⟩ (by dsimp only;omega)
 have e:i=l.length:=by omega
 rw [ha,e]
theorem aAI{p:Prog}{l:List Inst}(hl:l.length≤120):(kC p l l.length).length≤15000:=by have h1:=xE p l l.length;have h2:l.length*l.length≤120*120:=vBA hl hl;omega
theorem aIJ{a b:List Int}{n:Nat}(hn:a.length<n)(hl:a.length≤1000000):
  (bif !decide ((a.length:Int)=(b.length:Int)) then(some false) else(aL (fun again2 (x1:Int)=>bif decide (x1<(a.length:Int)) then(Option.bind (ix a x1) fun x3=>Option.bind (ix b x1) fun x4=>bif !decide (x3=x4) then(some false) else(again2 (wr (x1+1)))) else(some true)) n 0))=some (decide (a=b)):=by
 refine Ev.eq (dP (fun h=>Ev.some ?_) fun h=>?_)
 ·exact(decide_eq_false fun e=>h (by rw [e])).symm
 refine Ev.loop (fun x:Int=> ∃i:Nat,x=i∧i≤a.length∧a.take i=b.take i) (fun x=>a.length-x.toNat) ?_ n 0 ⟨0,rfl,by omega,rfl⟩ (by omega);rintro again x ⟨i,rfl,hi,hs⟩ hr;refine aH (fun hlt=>?_) fun hge=>Ev.some ?_
 ·have h1:i<a.length:=by omega
  have h2:i<b.length:=by omega
  have ha:=cP h1;have hb:=cP h2;refine aA (aM ha) (aA (aM hb) ?_);refine dP (fun hne=>Ev.some ?_) fun he=>?_
  ·exact(decide_eq_false fun e=>hne (by subst e;rfl)).symm
  rw [aO (by omega)];exact hr _ ⟨i+1,by omega,by omega,by rw [oL ha,oL hb,hs,he]⟩ (by omega)
 have e1:a.take i=a:=vBf (by omega);have e2:b.take i=b:=vBf (by omega);rw [e1,e2] at hs;exact(decide_eq_true hs).symm
theorem aEy{n:Nat}{a b:List Int}(hn:a.length<n)(hl:a.length≤1000000):D0 n a b=some (decide (a=b)):=by unfold D0;exact aIJ hn hl
end Go.Lift
