/- Programs compose. -/
import Derived.Test.YtcihigfifglboabGreatEDraw1
set_option maxRecDepth 100000
set_option linter.unusedVariables false
namespace Go.Lift
open Go
theorem aE7{n:Nat}(hn:5000≤n){a:List Int}(h:a.length≤1000):jV n a a=some true:=by refine Ev.eq ?_;unfold jV;refine cZ (fun h=>absurd rfl h) fun _=>?_;refine Ev.loop (fun x:Int=>0≤x∧x≤a.length) (fun x=>(a.length-x).toNat) ?_ n 0 ⟨by omega,by omega⟩ (by omega);rintro again x ⟨h0,h1⟩ hr;refine aG (fun hlt=>?_) fun _=>Ev.some rfl;obtain⟨y,hy,_⟩:=jR h0 hlt;refine aA hy (aA hy (cZ (fun h=>absurd rfl h) fun _=>?_));rw [aN (by omega)];exact hr _ ⟨by omega,by omega⟩ (by omega)
theorem lQ{α:Type}{l:List α}{i:Nat}{x:α}(h:l[i]? =some x):l.take (i+1)=l.take i++[x]:=by rw [xT,h];rfl
def wc(p:Prog)(x:Inst):Nat:=match q5 p x with
 |some s=>(dD p.arrays s.write x.point 0).toNat
 |none=>0
def rc(p:Prog)(x:Inst):List Int:=match q5 p x with
 |some s=>(b8 5 s.value).map (fun a=>dD p.arrays a x.point 0)
 |none=>[]
def vl(p:Prog)(m:List Int)(x:Inst):Int:=match q5 p x with
 |some s=>qZ 5 p.arrays m s.value x.point
 |none=>0
theorem aIW{list:List Arr}(hd:gL list){a:Access}{q:List Int}(h:0≤dD list a q 0):dD list a q 0<iP list:=by rcases aIX hd a q 0 (Y3 0) with hc|hc<;>omega
theorem inst_c{p:Prog}(hv:bF p=true){x:Inst}(hx:eA p x):(wc p x:Int)<iP p.arrays∧(∀c∈rc p x,0≤c∧c<iP p.arrays)∧(rc p x).length≤12∧ ∀m,runI p m x=m.set (wc p x) (vl p m x):=by obtain⟨i,k,P,s,d,e1,e2,e3,e4,e5,e6,e7,e8⟩:=inst_d hv hx;obtain⟨hl,hd,h4,hpo,hil⟩:=gC hv;obtain⟨c1,c2⟩:=aD4 e8;obtain⟨s1,s2,s3,s4⟩:=kO e6;unfold wc rc vl runI;rw [e5];dsimp only;refine⟨by have:=aIW hd c1;omega,fun c hc=>?_,by rw [o7];exact s4,fun m=>rfl⟩;obtain⟨a,ha,rfl⟩:=V3.1 hc;exact⟨c2 a ha,aIW hd (c2 a ha)⟩
theorem G5{n:Nat}(hn:7100≤n){p:Prog}(hv:bF p=true){x:Inst}(hx:eA p x):fP n p x=some (rc p x,(wc p x:Int)):=by
 obtain⟨i,k,P,s,d,e1,e2,e3,e4,e5,e6,e7,e8⟩:=inst_d hv hx;obtain⟨hl,hd,h4,hpo,hil⟩:=gC hv;obtain⟨c1,c2⟩:=aD4 e8;obtain⟨s1,s2,s3,s4⟩:=kO e6;obtain⟨n,rfl⟩: ∃j,n=j+1:=⟨n-1,by omega⟩
 have hst:lH (n+1) p x=some s:=by
  unfold lH;rw [e1,e2,aI e3];show Option.bind (ix P.body (k:Int)) _=_;rw [aI e4];rfl
 have ew:(wc p x:Int)=dD p.arrays s.write x.point 0:=by unfold wc;rw [e5];dsimp only;omega
 have er:rc p x=(b8 5 s.value).map (fun a=>dD p.arrays a x.point 0):=by unfold rc;rw [e5]
 rw [ew,er];refine Ev.eq ?_;unfold fP;refine aA hst (aA (zC (d:=d) 5 n s.value (by omega) (by omega) s2) ?_);generalize hR:b8 5 s.value=R at*;refine Ev.loop (fun z:List Int×Int=> ∃i:Nat,z.2=i∧i≤R.length∧z.1=(R.take i).map fun a=>dD p.arrays a x.point 0) (fun z=>R.length-z.2.toNat) ?_ (n+1) _ ⟨0,rfl,by omega,by simp⟩ (by dsimp only;omega);rintro again ⟨out,z⟩ ⟨i,hz,hi,ho⟩ hr;dsimp only at hz ho⊢;subst hz;refine aG (fun hlt=>?_) fun hge=>?_
 ·have hg:=cP (show i<R.length by omega);refine aA (aI hg) (aA (xL (by omega) hl hd (s3 _ (cR hg)) e7) (aA (bJ (by rw [ho,o7,rQ,vAY];omega)) ?_));rw [aN (by omega)];refine hr _ ⟨i+1,by dsimp only;omega,by omega,?_⟩ (by dsimp only;omega);dsimp only;rw [lQ hg,vAK,ho];rfl
 have e:i=R.length:=by omega
 refine aA (xL (by omega) hl hd s1 e7) (Ev.some ?_);rw [ho,e,pY]
theorem aJj{n:Nat}(hn:7100≤n){p:Prog}(hv:bF p=true){x:Inst}(hx:eA p x): ∃P s,ix p.parts x.part=some P∧ix P.body x.stmt=some s∧oO n p.arrays s x.point=some (rc p x,(wc p x:Int),true):=by
 obtain⟨i,k,P,s,d,e1,e2,e3,e4,e5,e6,e7,e8⟩:=inst_d hv hx;obtain⟨hl,hd,h4,hpo,hil⟩:=gC hv;obtain⟨c1,c2⟩:=aD4 e8;have ew:(wc p x:Int)=dD p.arrays s.write x.point 0:=by unfold wc;rw [e5];dsimp only;omega
 have er:rc p x=(b8 5 s.value).map (fun a=>dD p.arrays a x.point 0):=by unfold rc;rw [e5]
 refine⟨P,s,by rw [e1];exact aI e3,by rw [e2];exact aI e4,?_⟩;rw [C5 (by omega) hl hd e6 e7,if_pos e8,ew,er]
theorem aB5{list:List Arr}{m m':List Int}{q:List Int}{d:Int}: ∀{L:Nat} {e:Expr},dP L e d=true→(∀a∈b8 L e,m.getD (dD list a q 0).toNat 0=m'.getD (dD list a q 0).toNat 0)→qZ L list m e q=qZ L list m' e q
 |0,e,h,_=>by cases h
 |L+1,e,h,hr=>by
  obtain⟨h1,h2,h3⟩:=iI h;simp only [qZ];split
  ·rfl
  split
  ·rfl
  split
  ·rename_i k3;exact hr _ (by simp [b8,k3])
  have hk: ∀c∈e.kids,qZ L list m c q=qZ L list m' c q:=fun c hc=>
   aB5 (h3 c hc) fun a ha=>hr a (by simp only [b8,List.mem_append,List.mem_flatMap];exact .inr ⟨c,hc,ha⟩)
  split
  ·rename_i a b hab;rw [hab] at hk;rw [hk a (by simp),hk b (by simp)]
  rfl
theorem aMX{p:Prog}(hv:bF p=true){x:Inst}(hx:eA p x){m m':List Int}(h: ∀c∈rc p x,m.getD c.toNat 0=m'.getD c.toNat 0):vl p m x=vl p m' x:=by obtain⟨i,k,P,s,d,e1,e2,e3,e4,e5,e6,e7,e8⟩:=inst_d hv hx;unfold vl;unfold rc at h;rw [e5] at h⊢;exact aB5 (kO e6).2.1 fun a ha=>h _ (List.mem_map_of_mem ha)
theorem aFh{α:Type}(l:List α)(i j:Nat)(x d:α):(l.set i x).getD j d=if i=j∧i<l.length then x else l.getD j d:=by
 rw [wW,wW,List.getElem?_set];split
 ·rename_i h;subst h;split
  ·rename_i h2;rw [if_pos ⟨rfl,h2⟩];rfl
  rename_i h2;rw [if_neg (by omega),vBn (by omega)]
 rename_i h;rw [if_neg fun h2=>h h2.1]
def X2(l:List Bool):List Int:=((List.range l.length).filter fun i=>l.getD i false).map (fun(i:Nat)=>(i:Int))
theorem aFf{n:Nat}{l:List Bool}(hl:l.length<n)(hl2:l.length≤1000):H1 n l=some (X2 l):=by
 refine Ev.eq ?_;unfold H1;refine Ev.loop (fun z:List Int×Int=> ∃i:Nat,z.2=i∧i≤l.length∧z.1.length≤i∧z.1=((List.range i).filter fun i=>l.getD i false).map (fun(i:Nat)=>(i:Int))) (fun z=>l.length-z.2.toNat) ?_ n _ ⟨0,rfl,by omega,by simp,by simp⟩ (by dsimp only;omega);rintro again ⟨out,z⟩ ⟨i,hz,hi,hol,ho⟩ hr;dsimp only at hz ho hol⊢;subst hz;refine aG (fun hlt=>?_) fun hge=>Ev.some ?_
 ·have hg:=cP (show i<l.length by omega);have hgd:l.getD i false=l[i]:=by rw [wW,hg];rfl
  refine Ev.jn (fun z=>z.length≤i+1∧z=((List.range (i+1)).filter fun i=>l.getD i false).map (fun(i:Nat)=>(i:Int))) (fun j hj=>aA (aI hg) (Ev.cond (fun h=>aA (bJ (by rw [vAY];omega)) (hj _ ?_)) fun h=>hj _ ?_)) fun z hz=>?_
  ·refine⟨by rw [pV,vAY];omega,?_⟩;rw [vBq,vBD,vAK,←ho];simp [hg,h]
  ·refine⟨by omega,?_⟩;rw [vBq,vBD,vAK,←ho];simp [hg,h]
  rw [aN (by omega)];exact hr _ ⟨i+1,by dsimp only;omega,by omega,hz.1,hz.2⟩ (by dsimp only;omega)
 have e:i=l.length:=by omega
 rw [ho,e];rfl
theorem aFn(l:List Bool):(X2 l).length≤l.length:=by unfold X2;rw [o7];exact V4 (List.length_filter_le _ _) (by simp)
theorem G9{n:Nat}(hn:7000≤n){p:Prog}(hp:SmP p): ∃L,cI n p=some (L,bF p)∧(bF p=true→L=insts p.parts):=by
 rw [pH hn hp];cases ha:qX p with
 |false=>
  refine⟨[],?_,fun h=>?_⟩
  ·rw [if_neg (by simp),show bF p=false by unfold bF;rw [ha];rfl]
  unfold bF at h;rw [ha] at h;cases h
 |true=>
  refine⟨insts p.parts,?_,fun _=>rfl⟩;rw [if_pos rfl,show bF p=decide ((insts p.parts).length≤120) by
   unfold bF;rw [ha,Bool.true_and];exact decide_eq_decide.2 (by have:=insts_len' p.parts;omega)]
abbrev tot(p:Prog):Nat:=(iP p.arrays).toNat
def wfl(p:Prog)(l:List Inst):List Bool:=l.foldl (fun f x=>f.set (wc p x) true) (List.replicate (tot p) false)
def inF(w:List Bool)(r:List Bool)(cs:List Int):List Bool:=cs.foldl (fun r c=>r.set c.toNat (r.getD c.toNat false|| !w.getD c.toNat false)) r
def ifl(p:Prog)(l:List Inst):List Bool×List Bool:=l.foldl (fun s x=>(s.1.set (wc p x) true,inF s.1 s.2 (rc p x))) (List.replicate (tot p) false,List.replicate (tot p) false)
theorem aKh(p:Prog)(l:List Inst)(x:Inst):wfl p (l++[x])=(wfl p l).set (wc p x) true:=by unfold wfl;rw [List.foldl_append];rfl
theorem aIH(w:List Bool): ∀(cs:List Int) (r:List Bool),(inF w r cs).length=r.length
 | [],r=>rfl
 |c::cs,r=>by show(inF w (r.set c.toNat _) cs).length=_;rw [aIH w cs,L5]
theorem aDH(p:Prog): ∀(l:List Inst) (s:List Bool×List Bool),let t:=l.foldl (fun s x=>(s.1.set (wc p x) true,inF s.1 s.2 (rc p x))) s;t.1=l.foldl (fun f x=>f.set (wc p x) true) s.1∧t.1.length=s.1.length∧t.2.length=s.2.length
 | [],s=>⟨rfl,rfl,rfl⟩
 |x::l,s=>by
  obtain⟨h1,h2,h3⟩:=aDH p l (s.1.set (wc p x) true,inF s.1 s.2 (rc p x));refine⟨h1,?_,?_⟩
  ·refine Eq.trans h2 ?_;exact L5
  refine Eq.trans h3 ?_;exact aIH _ _ _
theorem aN5(p:Prog)(l:List Inst):(ifl p l).1=wfl p l:=(aDH p l _).1
theorem wU(p:Prog)(l:List Inst):(wfl p l).length=tot p:=by rw [←aN5];exact Eq.trans (aDH p l _).2.1 (by simp)
theorem aIc{p:Prog}{c:Nat}: ∀{l:List Inst} {f:List Bool},(∀x∈l,wc p x<f.length)→((l.foldl (fun f x=>f.set (wc p x) true) f).getD c false=true↔f.getD c false=true∨ ∃x∈l,wc p x=c)
 | [],f,_=>by simp
 |x::l,f,h=>by
  have ih:=aIc (p:=p) (c:=c) (l:=l) (f:=f.set (wc p x) true) fun y hy=>by rw [L5];exact h y (by simp [hy])
  show(l.foldl _ (f.set (wc p x) true)).getD c false=true↔_;rw [ih,aFh];have hx:=h x (by simp);constructor
  ·rintro(h1|⟨y,hy,hc⟩)
   ·split at h1
    ·rename_i e;exact .inr ⟨x,by simp,e.1⟩
    exact .inl h1
   exact .inr ⟨y,by simp [hy],hc⟩
  rintro(h1|⟨y,hy,hc⟩)
  ·left;split
   ·rfl
   exact h1
  rcases pU.1 hy with rfl|hy
  ·left;rw [if_pos ⟨hc,hx⟩]
  exact .inr ⟨y,hy,hc⟩
theorem aKi{p:Prog}(hv:bF p=true){x:Inst}(hx:eA p x):wc p x<tot p:=by have:=(inst_c hv hx).1;unfold tot;omega
theorem aIb{p:Prog}(hv:bF p=true){l:List Inst}(hl: ∀x∈l,eA p x){c:Nat}:(wfl p l).getD c false=true↔ ∃x∈l,wc p x=c:=by unfold wfl;rw [aIc fun x hx=>by rw [vBQ];exact aKi hv (hl x hx)];simp [List.getD_eq_getElem?_getD,List.getElem?_replicate];intro h;split at h<;>simp at h
theorem aQS{α:Type}{n:Int}(h:0≤n∧n≤1000000000)(x:α):mk n x=some (List.replicate n.toNat x):=by unfold mk;rw [if_pos h]
theorem aOD{p:Prog}(hv:bF p=true):0≤iP p.arrays∧iP p.arrays≤144:=by
 obtain⟨hl,hd,h4,hpo,hil⟩:=gC hv
 have:=aNs hd;omega
theorem qI{n:Nat}(hn:7100≤n){p:Prog}(hp:SmP p):bC n p=some (if bF p=true then X2 (wfl p (insts p.parts)) else []):=by
 obtain⟨L,h1,h2⟩:=G9 (n:=n) (by omega) hp;refine Ev.eq ?_;unfold bC;refine aA h1 ?_;dsimp only;cases hv:bF p with
 |false=>exact Ev.some rfl
 |true=>
  rw [h2 hv];obtain⟨hl,hd,h4,hpo,hil⟩:=gC hv;have tb:=aOD hv;refine b7 (aA (aG3 (by omega) hl hd) (aA (aQS (by omega) false) ?_));rw [if_pos rfl];generalize hL:insts p.parts=l at*;have hio: ∀x∈l,eA p x:=fun x hx=>insts_mem (hL▸hx);refine Ev.loop (fun z:List Bool×Int=> ∃i:Nat,z.2=i∧i≤l.length∧z.1=wfl p (l.take i)) (fun z=>l.length-z.2.toNat) ?_ n _ ⟨0,rfl,by omega,rfl⟩ (by dsimp only;omega);rintro again ⟨f,z⟩ ⟨i,hz,hi,hf⟩ hr;dsimp only at hz hf⊢;subst hz;refine aG (fun hlt=>?_) fun hge=>?_
  ·have hg:=cP (show i<l.length by omega);have hx:=hio _ (cR hg);have hw:=aKi hv hx;have hfl:f.length=tot p:=by rw [hf,wU]
   refine aA (aI hg) (aA (G5 hn hv hx) (aA (aI (cP (show wc p l[i]<f.length by omega))) (aA (aKN (by omega) (by rw [A3];omega) true) ?_)));rw [aN (by omega)];refine hr _ ⟨i+1,by dsimp only;omega,by omega,?_⟩ (by dsimp only;omega);dsimp only;rw [lQ hg,aKh,A3,hf]
  have e:i=l.length:=by omega
  rw [hf,e,pY];exact aA (aFf (by rw [wU];unfold tot;omega) (by rw [wU];unfold tot;omega)) (Ev.some rfl)
def pick(l:List Inst)(o:List Int):List Inst:=o.filterMap fun c=>l[c.toNat]?
def aRG(p:Prog)(a b:Inst):Prop:=(wc p a:Int)∈rc p b∨(wc p b:Int)∈rc p a∨wc p a=wc p b
def com(p:Prog)(a b:Inst):Prop:= ∀m,aBD p.arrays m→runI p (runI p m a) b=runI p (runI p m b) a
theorem aKo{p:Prog}(hv:bF p=true){b:Inst}(hb:eA p b){w:Nat}(h:(w:Int)∉rc p b)(m:List Int)(v:Int):vl p (m.set w v) b=vl p m b:=by refine aMX hv hb fun c hc=>?_;have h0:=(inst_c hv hb).2.1 c hc;rw [aFh,if_neg];rintro⟨e,_⟩;exact h (by rw [e,vBL h0.1];exact hc)
theorem swap{p:Prog}(hv:bF p=true){a b:Inst}(ha:eA p a)(hb:eA p b)(h: ¬aRG p a b):com p a b:=by intro m _;have h1:(wc p a:Int)∉rc p b:=fun e=>h (.inl e);have h2:(wc p b:Int)∉rc p a:=fun e=>h (.inr (.inl e));have h3:wc p a≠wc p b:=fun e=>h (.inr (.inr e));have ra:=(inst_c hv ha).2.2.2;have rb:=(inst_c hv hb).2.2.2;rw [ra,rb,rb,ra,aKo hv hb h1,aKo hv ha h2,List.set_comm _ _ h3]
def yE(p:Prog)(a b:Inst):Int:=(if(wc p a:Int)∈rc p b then 1 else 0)+(if(wc p b:Int)∈rc p a then 2 else 0)+(if wc p a=wc p b then 4 else 0)
theorem aPA(p:Prog)(a b:Inst):0≤yE p a b∧yE p a b≤7:=by unfold yE;split<;>split<;>split<;>omega
def kd(p:Prog)(l:List Inst)(i k:Nat):Int:=match l[i]?,l[k]? with
 |some a,some b=>yE p a b
 |_,_=>0
theorem aDF{p:Prog}{l:List Inst}{i k:Nat}{a b:Inst}(h1:l[i]? =some a)(h2:l[k]? =some b):kd p l i k=yE p a b:=by unfold kd;rw [h1,h2]
theorem aRz(p:Prog)(l:List Inst)(i k:Nat):0≤kd p l i k∧kd p l i k≤7:=by
 unfold kd;split
 ·exact aPA _ _ _
 omega
def lJ(p:Prog)(l:List Inst)(i j:Nat):List Dep:=((List.range j).filter fun k=>decide (i<k)&&decide (kd p l i k≠0)).map (fun(k:Nat)=>(⟨(i:Int),(k:Int),kd p l i k⟩:Dep))
def kG(p:Prog)(l:List Inst)(n:Nat):List Dep:=(List.range n).flatMap fun i=>lJ p l i l.length
theorem qN(p:Prog)(l:List Inst){i j:Nat}(h:i<j):lJ p l i (j+1)=lJ p l i j++(if kd p l i j=0 then [] else [⟨(i:Int),(j:Int),kd p l i j⟩]):=by
 unfold lJ;rw [vBq,vBD,vAK];congr 1;split
 ·rename_i e;simp [e]
 rename_i e;simp [e,h]
theorem zH(p:Prog)(l:List Inst)(i:Nat): ∀j,j≤i+1→lJ p l i j=[]
 |0,_=>rfl
 |j+1,h=>by have ih:=zH p l i j (by omega);unfold lJ at ih⊢;rw [vBq,vBD,vAK,ih];simp [show¬i<j by omega]
theorem zG(p:Prog)(l:List Inst)(n:Nat):kG p l (n+1)=kG p l n++lJ p l n l.length:=by unfold kG;rw [vBq,vBa];simp
theorem zI(p:Prog)(l:List Inst)(i j:Nat):(lJ p l i j).length≤j:=by unfold lJ;rw [o7];exact V4 (List.length_filter_le _ _) (by simp)
theorem xP(p:Prog)(l:List Inst): ∀n,(kG p l n).length≤n*l.length
 |0=>by simp [kG]
 |n+1=>by
  rw [zG,pV,o6,Nat.one_mul]
  have:=xP p l n
  have:=zI p l n l.length;omega
theorem aLi{p:Prog}{l:List Inst}{d:Dep}:d∈kG p l l.length↔ ∃i k:Nat,i<k∧k<l.length∧kd p l i k≠0∧d=⟨(i:Int),(k:Int),kd p l i k⟩:=by
 unfold kG lJ;simp only [List.mem_flatMap,List.mem_range,List.mem_map,List.mem_filter,Bool.and_eq_true,decide_eq_true_eq];constructor
 ·rintro⟨i,h1,k,⟨h2,h3,h4⟩,rfl⟩;exact⟨i,k,h3,h2,h4,rfl⟩
 rintro⟨i,k,h1,h2,h3,rfl⟩;exact⟨i,by omega,k,⟨h2,h1,h3⟩,rfl⟩
def places(o:List Int):Nat→List Int
 |0=>List.replicate o.length 0
 |k+1=>(places o k).set (o.getD k 0).toNat (k:Int)
theorem aMm{p:Prog}{l:List Inst}: ∀d∈kG p l l.length,0≤d.1∧d.1<d.2∧d.2<(l.length:Int):=by intro d hd;obtain⟨i,k,h1,h2,h3,rfl⟩:=aLi.1 hd;exact⟨by show(0:Int)≤(i:Int);omega,by show(i:Int)<(k:Int);omega,by show(k:Int)<_;omega⟩
theorem I1{n:Nat}{l:List Int}(hl:l.length<n)(hs:l.length≤1000)(v:Int):iW n l v=some (decide (v∈l)):=by
 refine Ev.eq ?_;unfold iW;refine aK (P:=fun i=>decide ((0:Int)≤i)=decide (v∈l)) ?_ fun x hx=>Ev.some hx;unfold vW;refine Ev.loop (fun z:Int=> ∃i:Nat,z=i∧i≤l.length∧v∉l.take i) (fun z=>l.length-z.toNat) ?_ n 0 ⟨0,rfl,by omega,by simp⟩ (by omega);rintro again z ⟨i,rfl,hi,hno⟩ hr;refine aG (fun hlt=>?_) fun hge=>Ev.some ?_
 ·have hg:=cP (show i<l.length by omega);refine aA (aI hg) (aG (fun e=>Ev.some ?_) fun e=>?_)
  ·rw [decide_eq_true (by omega),decide_eq_true];rw [e];exact cR hg
  rw [aN (by omega)];refine hr _ ⟨i+1,by omega,by omega,?_⟩ (by omega);rw [lQ hg,wV,List.mem_singleton];rintro(h|h)
  ·exact hno h
  exact e h
 have e:i=l.length:=by omega
 rw [e,pY] at hno;rw [decide_eq_false (by omega),decide_eq_false hno]
theorem aEU{n:Nat}{l:List Int}(hl:l.length<n)(hs:l.length≤1000)(v:Int):C1 n l v=some (decide (v∈l)):=by
 refine Ev.eq ?_;unfold C1;refine Ev.loop (fun z:Int=> ∃i:Nat,z=i∧i≤l.length∧v∉l.take i) (fun z=>l.length-z.toNat) ?_ n 0 ⟨0,rfl,by omega,by simp⟩ (by omega);rintro again z ⟨i,rfl,hi,hno⟩ hr;refine aG (fun hlt=>?_) fun hge=>Ev.some ?_
 ·have hg:=cP (show i<l.length by omega);refine aA (aI hg) (aG (fun e=>Ev.some ?_) fun e=>?_)
  ·rw [decide_eq_true];rw [←e];exact cR hg
  rw [aN (by omega)];refine hr _ ⟨i+1,by omega,by omega,?_⟩ (by omega);rw [lQ hg,wV,List.mem_singleton];rintro(h|h)
  ·exact hno h
  exact e h.symm
 have e:i=l.length:=by omega
 rw [e,pY] at hno;rw [decide_eq_false hno]
def trc(p:Prog):Traced:=⟨p,insts p.parts,(insts p.parts).map (rc p),(insts p.parts).map fun x=>(wc p x:Int)⟩
theorem F7{α β:Type}{l:List α}{f:α→β}{i:Nat}{x:α}(h:l[i]? =some x):(l.map f)[i]? =some (f x):=by rw [tG,h];rfl
theorem aAw{α β:Type}{l:List α}{f:α→β}{i:Nat}{x:α}(h:l[i]? =some x):(l.take (i+1)).map f=(l.take i).map f++[f x]:=by rw [lQ h,vAK];rfl
theorem aG1{n:Nat}(hn:7100≤n){p:Prog}(hp:SmP p):G4 n p=some (if bF p=true then(some (trc p),true) else(none,false)):=by
 obtain⟨L,h1,h2⟩:=G9 (n:=n) (by omega) hp;refine Ev.eq ?_;unfold G4;refine aA h1 ?_;dsimp only;cases hv:bF p with
 |false=>exact Ev.some rfl
 |true=>
  rw [h2 hv];have hil:=(gC hv).2.2.2.2;refine b7 (Ev.loop (fun z:List (List Int)×List Int×Int=> ∃i:Nat,z.2.2=i∧i≤(insts p.parts).length∧z.1=((insts p.parts).take i).map (rc p)∧z.2.1=((insts p.parts).take i).map fun x=>(wc p x:Int)) (fun z=>(insts p.parts).length-z.2.2.toNat) ?_ n _ ⟨0,rfl,by omega,rfl,rfl⟩ (by first|omega|(dsimp only;omega)));rintro again ⟨a,b,z⟩ ⟨i,hz,hi,ha,hb⟩ hr;dsimp only at hz ha hb⊢;subst hz;refine aG (fun hlt=>?_) fun hge=>Ev.some ?_
  ·have hg:=cP (show i<(insts p.parts).length by omega);refine aA (aI hg) (aA (G5 (by omega) hv (insts_mem (cR hg))) (aA (bJ (by rw [ha,o7,rQ,vAY];omega)) (aA (bJ (by rw [hb,o7,rQ,vAY];omega)) ?_)));rw [aN (by omega)];exact hr _ ⟨i+1,by dsimp only;omega,by omega,by dsimp only;rw [aAw hg,ha],by dsimp only;rw [aAw hg,hb]⟩ (by dsimp only;omega)
  have e:i=(insts p.parts).length:=by omega
  rw [ha,hb,e,pY];rfl
def aB8(p:Prog):List L6Use:=(insts p.parts).map fun x=>(⟨rc p x,(wc p x:Int)⟩:L6Use)
theorem aJf{n:Nat}(hn:7100≤n){p:Prog}(hv:bF p=true):C0 n p=some (aB8 p):=by
 have hil:=(gC hv).2.2.2.2;refine Ev.eq ?_;unfold C0 aB8;refine aA (vF (by omega) hv) (Ev.loop (fun z:List L6Use×Int=> ∃i:Nat,z.2=i∧i≤(insts p.parts).length∧z.1=((insts p.parts).take i).map fun x=>(⟨rc p x,(wc p x:Int)⟩:L6Use)) (fun z=>(insts p.parts).length-z.2.toNat) ?_ n _ ⟨0,rfl,by omega,rfl⟩ (by dsimp only;omega));rintro again ⟨a,z⟩ ⟨i,hz,hi,ha⟩ hr;dsimp only at hz ha⊢;subst hz;refine aG (fun hlt=>?_) fun hge=>Ev.some ?_
 ·have hg:=cP (show i<(insts p.parts).length by omega);obtain⟨P,s,c1,c2,c3⟩:=aJj hn hv (insts_mem (cR hg));refine aA (aI hg) (aA c1 (aA c2 (aA c3 (aA (bJ (by rw [ha,o7,rQ,vAY];omega)) ?_))));rw [aN (by omega)];exact hr _ ⟨i+1,by dsimp only;omega,by omega,by dsimp only;rw [aAw hg,ha]⟩ (by dsimp only;omega)
 have e:i=(insts p.parts).length:=by omega
 rw [ha,e,pY]
theorem aDu{p:Prog}(hv:bF p=true){l:List Inst}(hl: ∀x∈l,eA p x){i:Nat}{a:Inst}(h:l[i]? =some a):(rc p a).length≤12:=(inst_c hv (hl _ (cR h))).2.2.1
theorem aIB{R:Type}{Q:R→Prop}{A B:Option Bool}{p:Prog}{a b:Inst}(hA:A=some (decide ((wc p a:Int)∈rc p b)))(hB:B=some (decide ((wc p b:Int)∈rc p a))){J:Int→Option R}(h:Ev (J (yE p a b)) Q):
  Ev (jn (fun(x5:Int)=>jn (fun(x10:Int)=>jn J fun j11=>bif decide ((wc p a:Int)=(wc p b:Int)) then(j11 (wr (x10+4))) else(j11 x10))
   fun j6=>Option.bind B fun x9=>bif x9 then(j6 (wr (x5+2))) else(j6 x5))
   fun j1=>Option.bind A fun x4=>bif x4 then(j1 (wr (0+1))) else(j1 0)) Q:=by
 refine Ev.jn (fun z=>z=if(wc p a:Int)∈rc p b then 1 else 0) (fun j hj=>aA hA (aG (fun e=>hj _ (by rw [if_pos e];rfl)) fun e=>hj _ (by rw [if_neg e]))) fun z hz=>?_;subst hz;refine Ev.jn (fun z=>z=(if(wc p a:Int)∈rc p b then 1 else 0)+if(wc p b:Int)∈rc p a then 2 else 0) (fun j hj=>aA hB (aG (fun e=>hj _ ?_) fun e=>hj _ ?_)) fun z hz=>?_
 ·rw [if_pos e];split<;>rfl
 ·rw [if_neg e,Int.add_zero]
 subst hz;refine Ev.jn (fun z=>z=yE p a b) (fun j hj=>aG (fun e=>hj _ ?_) fun e=>hj _ ?_) fun z hz=>by subst hz;exact h
 ·unfold yE;rw [if_pos (show wc p a=wc p b by omega)];split<;>split<;>rfl
 unfold yE;rw [if_neg (show¬wc p a=wc p b by omega),Int.add_zero]
theorem aDK{n:Nat}(hn:7100≤n){p:Prog}(hv:bF p=true){i k:Nat}{a b:Inst}(ha:(insts p.parts)[i]? =some a)(hb:(insts p.parts)[k]? =some b):jL n (trc p) (i:Int) (k:Int)=some (kd p (insts p.parts) i k):=by rw [aDF ha hb];have la:=aDu hv (fun x hx=>insts_mem hx) ha;have lb:=aDu hv (fun x hx=>insts_mem hx) hb;have ra:ix (trc p).reads (i:Int)=some (rc p a):=aI (F7 ha);have rb:ix (trc p).reads (k:Int)=some (rc p b):=aI (F7 hb);have wa:ix (trc p).writes (i:Int)=some (wc p a:Int):=aI (F7 ha);have wb:ix (trc p).writes (k:Int)=some (wc p b:Int):=aI (F7 hb);refine Ev.eq ?_;unfold jL;rw [ra,rb,wa,wb];exact aIB (I1 (by omega) (by omega) _) (I1 (by omega) (by omega) _) (Ev.some rfl)
theorem aGz{n:Nat}(hn:7100≤n){p:Prog}{a b:Inst}(la:(rc p a).length≤12)(lb:(rc p b).length≤12):w5 n ⟨rc p a,(wc p a:Int)⟩ ⟨rc p b,(wc p b:Int)⟩=some (yE p a b):=by refine Ev.eq ?_;unfold w5;exact aIB (aEU (by omega) (by omega) _) (aEU (by omega) (by omega) _) (Ev.some rfl)
theorem aJG{n:Nat}(hn:7100≤n){p:Prog}(hv:bF p=true):mP n (trc p)=some (kG p (insts p.parts) (insts p.parts).length):=by
 have hil:=(gC hv).2.2.2.2;refine Ev.eq ?_;unfold mP;rw [show(trc p).list=insts p.parts from rfl];generalize hL:insts p.parts=l at*;have hok: ∀x∈l,eA p x:=fun x hx=>insts_mem (by rw [hL];exact hx);refine Ev.loop (fun z:List Dep×Int=> ∃i:Nat,z.2=i∧i≤l.length∧z.1=kG p l i) (fun z=>l.length-z.2.toNat) ?_ n _ ⟨0,rfl,by omega,rfl⟩ (by dsimp only;omega);rintro again ⟨a,z⟩ ⟨i,hz,hi,ha⟩ hr;dsimp only at hz ha⊢;subst hz;refine aG (fun hlt=>?_) fun hge=>Ev.some ?_
 ·have hg:=cP (show i<l.length by omega);rw [aN (by omega)];refine Ev.loop (fun z:List Dep×Int=> ∃j:Nat,z.2=j∧i<j∧j≤l.length∧z.1=kG p l i++lJ p l i j) (fun z=>l.length-z.2.toNat) ?_ n _ ⟨i+1,by dsimp only;omega,by omega,by omega,by dsimp only;rw [ha,zH p l i _ (kH _),vBo]⟩ (by dsimp only;omega);rintro again2 ⟨b,y⟩ ⟨j,hy,hij,hj,hb⟩ hr2;dsimp only at hy hb⊢;subst hy;refine aG (fun hlt2=>?_) fun hge2=>?_
  ·have hgj:=cP (show j<l.length by omega);have hbt:=aDK hn hv (i:=i) (k:=j) (by rw [hL];exact hg) (by rw [hL];exact hgj);rw [hL] at hbt;have hb0:=(aRz p l i j).1;refine Ev.jn (fun z=>z=kG p l i++lJ p l i (j+1)) (fun jj hjj=>aA hbt (aG (fun e=>aA (bJ ?_) (hjj _ ?_)) fun e=>hjj _ ?_)) fun z hz=>?_
   ·have h1:=xP p l i;have h2:=zI p l i j;have h3:i*l.length≤120*120:=vBw (by omega) hil;rw [hb,pV,vAY];omega
   ·rw [hb,qN p l hij,if_neg (by omega),vAR]
   ·rw [hb,qN p l hij,if_pos (by omega),vBo]
   subst hz;rw [aN (by omega)];exact hr2 _ ⟨j+1,by dsimp only;omega,by omega,by omega,rfl⟩ (by dsimp only;omega)
  have e:j=l.length:=by omega
  try rw [aN (by omega)]
  exact hr _ ⟨i+1,by dsimp only;omega,by omega,by dsimp only;rw [hb,e,zG]⟩ (by dsimp only;omega)
 have e:i=l.length:=by omega
 rw [ha,e]
theorem aJi{n:Nat}(hn:7100≤n){p:Prog}(hv:bF p=true):C2 n p=some (kG p (insts p.parts) (insts p.parts).length):=by
 have hil:=(gC hv).2.2.2.2;refine Ev.eq ?_;unfold C2;refine aA (aJf hn hv) ?_;have hul:(aB8 p).length=(insts p.parts).length:=by unfold aB8;rw [o7]
 have hug: ∀(i:Nat) x,(insts p.parts)[i]? =some x→ix (aB8 p) (i:Int)=some ⟨rc p x,(wc p x:Int)⟩:=fun i x h=>aI (F7 h);rw [hul];generalize aB8 p=u at*;generalize hL:insts p.parts=l at*;have hok: ∀x∈l,eA p x:=fun x hx=>insts_mem (by rw [hL];exact hx);refine Ev.loop (fun z:List Dep×Int=> ∃i:Nat,z.2=i∧i≤l.length∧z.1=kG p l i) (fun z=>l.length-z.2.toNat) ?_ n _ ⟨0,rfl,by omega,rfl⟩ (by dsimp only;omega);rintro again ⟨a,z⟩ ⟨i,hz,hi,ha⟩ hr;dsimp only at hz ha⊢;subst hz;refine aG (fun hlt=>?_) fun hge=>Ev.some ?_
 ·have hg:=cP (show i<l.length by omega);rw [aN (by omega)];refine Ev.loop (fun z:List Dep×Int=> ∃j:Nat,z.2=j∧i<j∧j≤l.length∧z.1=kG p l i++lJ p l i j) (fun z=>l.length-z.2.toNat) ?_ n _ ⟨i+1,by dsimp only;omega,by omega,by omega,by dsimp only;rw [ha,zH p l i _ (kH _),vBo]⟩ (by dsimp only;omega);rintro again2 ⟨b,y⟩ ⟨j,hy,hij,hj,hb⟩ hr2;dsimp only at hy hb⊢;subst hy;refine aG (fun hlt2=>?_) fun hge2=>?_
  ·have hgj:=cP (show j<l.length by omega);have hk:=aGz hn (aDu hv hok hg) (aDu hv hok hgj);refine Ev.jn (fun z=>z=kG p l i++lJ p l i (j+1)) (fun jj hjj=>aA (hug _ _ hg) (aA (hug _ _ hgj) (aA hk (cZ (fun e=>aA (bJ ?_) (hjj _ ?_)) fun e=>hjj _ ?_)))) fun z hz=>?_
   ·have h1:=xP p l i;have h2:=zI p l i j;have h3:i*l.length≤120*120:=vBw (by omega) hil;rw [hb,pV,vAY];omega
   ·rw [hb,qN p l hij,aDF hg hgj,if_neg e,vAR]
   ·rw [hb,qN p l hij,aDF hg hgj,if_pos e,vBo]
   subst hz;rw [aN (by omega)];exact hr2 _ ⟨j+1,by dsimp only;omega,by omega,by omega,rfl⟩ (by dsimp only;omega)
  have e:j=l.length:=by omega
  try rw [aN (by omega)]
  exact hr _ ⟨i+1,by dsimp only;omega,by omega,by dsimp only;rw [hb,e,zG]⟩ (by dsimp only;omega)
 have e:i=l.length:=by omega
 rw [ha,e]
theorem aA5{p:Prog}{l:List Inst}(hl:l.length≤120):(kG p l l.length).length≤15000:=by have h1:=xP p l l.length;have h2:l.length*l.length≤120*120:=vBw hl hl;omega
theorem aJe{a b:List Int}{n:Nat}(hn:a.length<n)(hl:a.length≤1000000):
  (bif !decide ((a.length:Int)=(b.length:Int)) then(some false) else(aJ (fun again2 (x1:Int)=>bif decide (x1<(a.length:Int)) then(Option.bind (ix a x1) fun x3=>Option.bind (ix b x1) fun x4=>bif !decide (x3=x4) then(some false) else(again2 (wr (x1+1)))) else(some true)) n 0))=some (decide (a=b)):=by
 refine Ev.eq (cZ (fun h=>Ev.some ?_) fun h=>?_)
 ·exact(decide_eq_false fun e=>h (by rw [e])).symm
 refine Ev.loop (fun x:Int=> ∃i:Nat,x=i∧i≤a.length∧a.take i=b.take i) (fun x=>a.length-x.toNat) ?_ n 0 ⟨0,rfl,by omega,rfl⟩ (by omega);rintro again x ⟨i,rfl,hi,hs⟩ hr;refine aG (fun hlt=>?_) fun hge=>Ev.some ?_
 ·have h1:i<a.length:=by omega
  have h2:i<b.length:=by omega
  have ha:=cP h1;have hb:=cP h2;refine aA (aI ha) (aA (aI hb) ?_);refine cZ (fun hne=>Ev.some ?_) fun he=>?_
  ·exact(decide_eq_false fun e=>hne (by subst e;rfl)).symm
  rw [aN (by omega)];exact hr _ ⟨i+1,by omega,by omega,by rw [lQ ha,lQ hb,hs,he]⟩ (by omega)
 have e1:a.take i=a:=vBf (by omega);have e2:b.take i=b:=vBf (by omega);rw [e1,e2] at hs;exact(decide_eq_true hs).symm
theorem aET{n:Nat}{a b:List Int}(hn:a.length<n)(hl:a.length≤1000000):D4 n a b=some (decide (a=b)):=by unfold D4;exact aJe hn hl
end Go.Lift
