/- Programs compose. -/
import Derived.Test.YtjmaejilmokdgaaGreatSDraw1
set_option maxRecDepth 100000
set_option linter.unusedVariables false
namespace Go.Lift
open Go
theorem E7{n:Nat}(hn:5000≤n){a:List Int}(h:a.length≤1000):pW n a a=some true:=by refine Ev.eq ?_;unfold pW;refine eC (fun h=>absurd rfl h) fun _=>?_;refine Ev.loop (fun x:Int=>0≤x∧x≤a.length) (fun x=>(a.length-x).toNat) ?_ n 0 ⟨by omega,by omega⟩ (by omega);rintro again x ⟨h0,h1⟩ hr;refine aI (fun hlt=>?_) fun _=>Ev.some rfl;obtain⟨y,hy,_⟩:=jA h0 hlt;refine aA hy (aA hy (eC (fun h=>absurd rfl h) fun _=>?_));rw [aO (by omega)];exact hr _ ⟨by omega,by omega⟩ (by omega)
def kR(k:Nat)(x:Inst):Inst:=⟨x.part+(k:Int),x.stmt,x.point⟩
theorem instP_shift(k i:Nat)(x:Part):instP (k+i) x=(instP i x).map (kR k):=by unfold instP;rw [List.map_flatMap];congr 1;funext q;rw [vBA];congr 1;funext m;simp only [Function.comp,kR,Int.natCast_add];rw [Int.add_comm]
theorem insts_app(a b:List Part):insts (a++b)=insts a++(insts b).map (kR a.length):=by unfold insts;rw [List.zipIdx_append,vAS,List.map_flatMap,lQ];congr 1;have e:b.zipIdx a.length=b.zipIdx.map (fun y=>(y.1,a.length+y.2)):=List.zipIdx_eq_map_add;rw [e,List.flatMap_map];congr 1;funext y;exact instP_shift a.length y.2 y.1
theorem aJo{p:Prog}{m:List Int}(h:cL p=true)(hm:iS p.arrays m):aBe p m=true:=by simp only [aBe,Bool.and_eq_true,decide_eq_true_eq,List.all_eq_true];exact⟨h,hm.1,hm.2⟩
theorem aFj{p:Prog}{m:List Int}(h:cL p=true)(hm:iS p.arrays m):m.length≤1000:=by
 obtain⟨hl,hd,_⟩:=gL h
 have:=aE7 hd
 have:=hm.1;omega
def inL:List Loop→List Int→List Int→Bool
 | [],_,[]=>true
 |l::ls,p,v::vs=>decide (jR l p≤v∧v<n7 l p)&&inL ls (p++[v]) vs
 |_,_,_=>false
theorem yR: ∀(ls:List Loop) (p q:List Int),q∈pts ls p↔ ∃vs,q=p++vs∧inL ls p vs=true
 | [],p,q=>by
  simp only [pts,List.mem_singleton];constructor
  ·rintro rfl;exact⟨[],by simp,rfl⟩
  rintro⟨vs,rfl,h⟩;cases vs with
  |nil=>simp
  |cons=>simp [inL] at h
 |l::ls,p,q=>by
  simp only [pts,List.mem_flatMap,aA3];constructor
  ·rintro⟨v,hv,hq⟩;obtain⟨vs,rfl,h⟩:=(yR ls (p++[v]) q).1 hq;exact⟨v::vs,by simp,by simp [inL,hv,h]⟩
  rintro⟨vs,rfl,h⟩;cases vs with
  |nil=>simp [inL] at h
  |cons v vs=>
   simp only [inL,Bool.and_eq_true,decide_eq_true_eq] at h;exact⟨v,h.1,(yR ls (p++[v]) _).2 ⟨vs,by simp,h.2⟩⟩
def pIn(nest:List Loop)(q:List Int):Bool:=fT nest&&(ptV q&&(decide (q.length=nest.length)&&inL nest [] q))
theorem A3{α:Type}{l:List α}{i:Nat}{x:α}(h:l[i]? =some x):l.take (i+1)=l.take i++[x]:=by rw [K1,h];rfl
theorem aDT{n:Nat}(hn:6000≤n){nest:List Loop}(hf:Fit nest){q:List Int}(hl:q.length=nest.length){span:Loop→List Int→Option (Int×Int)}
  (hs: ∀(l:Loop) (d:Int) (k:Nat) (p:List Int),cJ l.lo d=true→cJ l.hi d=true→nD k p→span l p=some (jR l p,n7 l p)):
  aN (fun again6 (x5:Int)=>bif decide (x5<(nest.length:Int)) then(
     Option.bind (ix nest x5) fun x7=>Option.bind (sub q 0 x5) fun x8=>Option.bind (span x7 x8) fun x9=>
     jn (fun(x12:Bool)=>bif x12 then(some false) else(again6 (wr (x5+1))))
      fun j10=>Option.bind (ix q x5) fun x11=>bif decide (x11<x9.1) then(j10 true) else(j10 (decide (x9.2≤x11)))) else(some true)) n 0=some (inL nest [] q):=by
 refine Ev.eq ?_;have h4:=hf.1;refine Ev.loop (fun x:Int=> ∃i:Nat,x=i∧i≤nest.length∧nD i (q.take i)∧inL nest [] q=inL (nest.drop i) (q.take i) (q.drop i)) (fun x=>nest.length-x.toNat) ?_ n 0 ⟨0,rfl,by omega,pt0,rfl⟩ (by omega);rintro again x ⟨i,rfl,hi,hp,hI⟩ hr;refine aI (fun hlt=>?_) fun hge=>Ev.some ?_
 ·have hg:=eD (show i<nest.length by omega);have hq:=eD (show i<q.length by omega);obtain⟨s1,s2⟩:=hf.2 i _ hg;have hsub:sub q 0 (i:Int)=some (q.take i):=by rw [wB (by omega) (by omega) (by omega),vAE];rfl
  refine aA (aT hg) (aA hsub (aA (hs _ _ _ _ s1 s2 hp) ?_));rw [iC hg,iC hq] at hI;simp only [inL] at hI;refine Ev.jn (fun z=>z= !decide (jR nest[i] (q.take i)≤q[i]∧q[i]<n7 nest[i] (q.take i))) (fun j hj=>aA (aT hq) (aI (fun h=>hj _ ?_) fun h=>hj _ ?_)) fun z hz=>?_
  ·dsimp only at h;rw [decide_eq_false (by omega)];rfl
  ·dsimp only at h⊢;by_cases h2:n7 nest[i] (q.take i)≤q[i]
   ·rw [decide_eq_true h2,decide_eq_false (by omega)];rfl
   rw [decide_eq_false h2,decide_eq_true (by omega)];rfl
  subst hz;by_cases hv:jR nest[i] (q.take i)≤q[i]∧q[i]<n7 nest[i] (q.take i)
  ·rw [decide_eq_true hv] at hI⊢;rw [vAO] at hI;show Ev (again (wr ((i:Int)+1))) _;rw [aO (by omega)];refine hr _ ⟨i+1,by omega,by omega,?_,?_⟩ (by omega)
   ·rw [A3 hq];exact yF s1 s2 hp (by omega) hv
   rw [hI,A3 hq]
  rw [decide_eq_false hv] at hI⊢;rw [Bool.false_and] at hI;exact Ev.some hI.symm
 have e:i=nest.length:=by omega
 subst e;rw [hI,vBv,←hl,vBv];rfl
theorem aBk{n:Nat}(hn:6000≤n){nest:List Loop}(h:SmN nest){q:List Int}(hq:q.length≤1000):u7 n nest q=some (pIn nest q):=by
 refine Ev.eq ?_;unfold u7 pIn;refine Ev.jn (fun z=>z= !(fT nest&&(ptV q&&decide (q.length=nest.length)))) (fun j hj=>?_) fun z hz=>?_
 ·refine aA (t0 (by omega) h) ?_;cases h1:fT nest with
  |false=>rw [h1] at hj;exact hj true rfl
  |true=>
   refine bY (aA (yT (by omega) hq) ?_);rw [h1] at hj;cases h2:ptV q with
   |false=>rw [h2] at hj;exact hj true rfl
   |true=>
    rw [h2] at hj;refine bY (hj _ ?_);rw [show decide ((q.length:Int)=(nest.length:Int))=decide (q.length=nest.length) from decide_eq_decide.2 (by omega)];rfl
 subst hz;cases h1:fT nest with
 |false=>exact Ev.some rfl
 |true=>
  cases h2:ptV q with
  |false=>exact Ev.some rfl
  |true=>
   by_cases h3:q.length=nest.length
   ·rw [decide_eq_true h3];refine Ev.of (aDT hn (Q3 h1) h3 fun l d k p a b c=>aAr (by omega) a b c) rfl
   rw [decide_eq_false h3];exact Ev.some rfl
def instB(p:Prog)(x:Inst):Bool:=match p.parts[x.part.toNat]? with
 |some P=>decide (0≤x.part)&&(decide (0≤x.stmt∧x.stmt<P.body.length)&&pIn P.nest x.point)
 |none=>false
theorem instB_iff{p:Prog}(hv:cL p=true){x:Inst}:instB p x=true↔gO p x:=by
 obtain⟨hl,hd,h4,hpo,hil⟩:=gL hv;constructor
 ·intro h;unfold instB at h;split at h
  ·rename_i P hP;simp only [Bool.and_eq_true,decide_eq_true_eq,pIn] at h;obtain⟨h1,⟨h2,h3⟩,g1,g2,g3,g4⟩:=h;have hk:=eD (show x.stmt.toNat<P.body.length by omega);have hn:=(lT (hpo P (dA hP))).1;refine⟨x.part.toNat,x.stmt.toNat,P,_,by omega,by omega,hP,hk,?_⟩;rw [(aBV hn).2.2.2.1,yR];exact⟨x.point,by simp,g4⟩
  cases h
 rintro⟨i,k,P,s,e1,e2,e3,e4,e5⟩;unfold instB;rw [e1,vAE,e3];have hk:=(cP.1 e4).1;obtain⟨hn,hb,_,hc⟩:=lT (hpo P (dA e3));have hpt:=(aBV hn).2.2.1 _ e5;have hpv:=(hc s (dA e4) _ e5).2;rw [(aBV hn).2.2.2.1,yR] at e5;obtain⟨vs,rfl0,h⟩:=e5;rw [List.nil_append] at rfl0;have hno:fT P.nest=true:=by
  unfold NP at hn;split at hn
  ·rename_i h;exact h.1
  cases hn
 simp only [Bool.and_eq_true,decide_eq_true_eq,pIn];rw [e2];exact⟨by omega,⟨by omega,by omega⟩,hno,hpv,hpt.1,by rw [rfl0];exact h⟩
theorem H1{n:Nat}(hn:7000≤n){p:Prog}(hp:SmP p){x:Inst}(hx:x.point.length≤1000):fB n p x=some (instB p x):=by
 obtain⟨hp1,hp2,hp3⟩:=hp;refine Ev.eq ?_;unfold fB instB;refine Ev.jn (fun z=>z=match p.parts[x.part.toNat]? with
 |some P=>decide (0≤x.part)&&(decide (0≤x.stmt∧x.stmt<P.body.length)&&pIn P.nest x.point)
 |none=>false) (fun j hj=>aA (dM _ _ _ _) ?_) fun z hz=>Ev.some hz
 rw [aO (by omega)];refine aI (fun h=>?_) fun h=>hj _ ?_
 ·have hg:=eD (show x.part.toNat<p.parts.length by omega);obtain⟨q1,q2,q3⟩:=hp3 _ (dA hg);refine aA (x:=p.parts[x.part.toNat]) (by unfold ix;rw [if_pos h.1];exact hg) (aA (dM _ _ _ _) ?_);rw [aO (by omega)];refine aI (fun h2=>aA (aBk (by omega) q1 hx) (hj _ ?_)) fun h2=>hj _ ?_
  ·rw [hg];dsimp only;rw [decide_eq_true h.1,decide_eq_true (show 0≤x.stmt∧x.stmt<_ by omega)];rfl
  rw [hg];dsimp only;rw [decide_eq_true h.1,decide_eq_false (show¬(0≤x.stmt∧x.stmt<_) by omega)];rfl
 split
 ·rename_i P hP
  have:=(cP.1 hP).1;rw [decide_eq_false (by omega)];rfl
 rfl
def wc(p:Prog)(x:Inst):Nat:=match iT p x with
 |some s=>(cY p.arrays s.write x.point 0).toNat
 |none=>0
def rc(p:Prog)(x:Inst):List Int:=match iT p x with
 |some s=>(cH 5 s.value).map (fun a=>cY p.arrays a x.point 0)
 |none=>[]
def vl(p:Prog)(m:List Int)(x:Inst):Int:=match iT p x with
 |some s=>zY 5 p.arrays m s.value x.point
 |none=>0
theorem aFy{list:List Arr}(hd:fE list){a:Access}{q:List Int}(h:0≤cY list a q 0):cY list a q 0<f0 list:=by rcases J3 hd a q 0 (z8 0) with hc|hc<;>omega
theorem inst_c{p:Prog}(hv:cL p=true){x:Inst}(hx:gO p x):(wc p x:Int)<f0 p.arrays∧(∀c∈rc p x,0≤c∧c<f0 p.arrays)∧(rc p x).length≤12∧ ∀m,kX p m x=m.set (wc p x) (vl p m x):=by obtain⟨i,k,P,s,d,e1,e2,e3,e4,e5,e6,e7,e8⟩:=inst_d hv hx;obtain⟨hl,hd,h4,hpo,hil⟩:=gL hv;obtain⟨c1,c2⟩:=aBB e8;obtain⟨s1,s2,s3,s4⟩:=rH e6;unfold wc rc vl kX;rw [e5];dsimp only;refine⟨by have:=aFy hd c1;omega,fun c hc=>?_,by rw [vAJ];exact s4,fun m=>rfl⟩;obtain⟨a,ha,rfl⟩:=vAW.1 hc;exact⟨c2 a ha,aFy hd (c2 a ha)⟩
theorem aBh{n:Nat}(hn:7100≤n){p:Prog}(hv:cL p=true){x:Inst}(hx:gO p x):gT n p x=some (rc p x,(wc p x:Int)):=by
 obtain⟨i,k,P,s,d,e1,e2,e3,e4,e5,e6,e7,e8⟩:=inst_d hv hx;obtain⟨hl,hd,h4,hpo,hil⟩:=gL hv;obtain⟨c1,c2⟩:=aBB e8;obtain⟨s1,s2,s3,s4⟩:=rH e6;obtain⟨n,rfl⟩: ∃j,n=j+1:=⟨n-1,by omega⟩
 have hst:eK (n+1) p x=some s:=by
  unfold eK;rw [e1,e2,aT e3];show Option.bind (ix P.body (k:Int)) _=_;rw [aT e4];rfl
 have ew:(wc p x:Int)=cY p.arrays s.write x.point 0:=by unfold wc;rw [e5];dsimp only;omega
 have er:rc p x=(cH 5 s.value).map (fun a=>cY p.arrays a x.point 0):=by unfold rc;rw [e5]
 rw [ew,er];refine Ev.eq ?_;unfold gT;refine aA hst (aA (wN (d:=d) 5 n s.value (by omega) (by omega) s2) ?_);generalize hR:cH 5 s.value=R at*;refine Ev.loop (fun z:List Int×Int=> ∃i:Nat,z.2=i∧i≤R.length∧z.1=(R.take i).map fun a=>cY p.arrays a x.point 0) (fun z=>R.length-z.2.toNat) ?_ (n+1) _ ⟨0,rfl,by omega,by simp⟩ (by dsimp only;omega);rintro again ⟨out,z⟩ ⟨i,hz,hi,ho⟩ hr;dsimp only at hz ho⊢;subst hz;refine aI (fun hlt=>?_) fun hge=>?_
 ·have hg:=eD (show i<R.length by omega);refine aA (aT hg) (aA (nJ (by omega) hl hd (s3 _ (dA hg)) e7) (aA (cD (by rw [ho,vAJ,pJ,List.length_singleton];omega)) ?_));rw [aO (by omega)];refine hr _ ⟨i+1,by dsimp only;omega,by omega,?_⟩ (by dsimp only;omega);dsimp only;rw [A3 hg,V2,ho];rfl
 have e:i=R.length:=by omega
 refine aA (nJ (by omega) hl hd s1 e7) (Ev.some ?_);rw [ho,e,vN]
def pick(l:List Inst)(o:List Int):List Inst:=o.filterMap fun c=>l[c.toNat]?
def com(p:Prog)(a b:Inst):Prop:= ∀m,iS p.arrays m→kX p (kX p m a) b=kX p (kX p m b) a
def places(o:List Int):Nat→List Int
 |0=>List.replicate o.length 0
 |k+1=>(places o k).set (o.getD k 0).toNat (k:Int)
end Go.Lift
