/- Programs compose. -/
import Derived.Test.YtjmaejilmokdgaaGreatRDraw1
set_option maxRecDepth 100000
set_option linter.unusedVariables false
namespace Go.Lift
open Go
theorem E7{n:Nat}(hn:5000≤n){a:List Int}(h:a.length≤1000):lC n a a=some true:=by refine Ev.eq ?_;unfold lC;refine eU (fun h=>absurd rfl h) fun _=>?_;refine Ev.loop (fun x:Int=>0≤x∧x≤a.length) (fun x=>(a.length-x).toNat) ?_ n 0 ⟨by omega,by omega⟩ (by omega);rintro again x ⟨h0,h1⟩ hr;refine aH (fun hlt=>?_) fun _=>Ev.some rfl;obtain⟨y,hy,_⟩:=iH h0 hlt;refine aA hy (aA hy (eU (fun h=>absurd rfl h) fun _=>?_));rw [aK (by omega)];exact hr _ ⟨by omega,by omega⟩ (by omega)
theorem aKd{p:Prog}{m:List Int}(h:bM p=true)(hm:fD p.arrays m):yH p m=true:=by simp only [yH,Bool.and_eq_true,decide_eq_true_eq,List.all_eq_true];exact⟨h,hm.1,hm.2⟩
theorem aFB{p:Prog}{m:List Int}(h:bM p=true)(hm:fD p.arrays m):m.length≤1000:=by
 obtain⟨hl,hd,_⟩:=dT h
 have:=aFm hd
 have:=hm.1;omega
theorem iY{α:Type}{l:List α}{i:Nat}{x:α}(h:l[i]? =some x):l.take (i+1)=l.take i++[x]:=by rw [xC,h];rfl
theorem aHI{p:Prog}{m:List Int}(h:yH p m=true):aJW p m=(cB p m (insts p.parts),true):=by unfold aJW;rw [h];rfl
def wc(p:Prog)(x:Inst):Nat:=match zZ p x with
 |some s=>(cM p.arrays s.write x.point 0).toNat
 |none=>0
def rc(p:Prog)(x:Inst):List Int:=match zZ p x with
 |some s=>(cC 5 s.value).map (fun a=>cM p.arrays a x.point 0)
 |none=>[]
def vl(p:Prog)(m:List Int)(x:Inst):Int:=match zZ p x with
 |some s=>sL 5 p.arrays m s.value x.point
 |none=>0
theorem aF1{list:List Arr}(hd:eS list){a:Access}{q:List Int}(h:0≤cM list a q 0):cM list a q 0<fN list:=by rcases K7 hd a q 0 (zV 0) with hc|hc<;>omega
theorem inst_c{p:Prog}(hv:bM p=true){x:Inst}(hx:dF p x):(wc p x:Int)<fN p.arrays∧(∀c∈rc p x,0≤c∧c<fN p.arrays)∧(rc p x).length≤12∧ ∀m,runI p m x=m.set (wc p x) (vl p m x):=by obtain⟨i,k,P,s,d,e1,e2,e3,e4,e5,e6,e7,e8⟩:=inst_d hv hx;obtain⟨hl,hd,h4,hpo,hil⟩:=dT hv;obtain⟨c1,c2⟩:=aBJ e8;obtain⟨s1,s2,s3,s4⟩:=wE e6;unfold wc rc vl runI;rw [e5];dsimp only;refine⟨by have:=aF1 hd c1;omega,fun c hc=>?_,by rw [lT];exact s4,fun m=>rfl⟩;obtain⟨a,ha,rfl⟩:=D7.1 hc;exact⟨c2 a ha,aF1 hd (c2 a ha)⟩
theorem aBm{n:Nat}(hn:7100≤n){p:Prog}(hv:bM p=true){x:Inst}(hx:dF p x):gC n p x=some (rc p x,(wc p x:Int)):=by
 obtain⟨i,k,P,s,d,e1,e2,e3,e4,e5,e6,e7,e8⟩:=inst_d hv hx;obtain⟨hl,hd,h4,hpo,hil⟩:=dT hv;obtain⟨c1,c2⟩:=aBJ e8;obtain⟨s1,s2,s3,s4⟩:=wE e6;obtain⟨n,rfl⟩: ∃j,n=j+1:=⟨n-1,by omega⟩
 have hst:dV (n+1) p x=some s:=by
  unfold dV;rw [e1,e2,aM e3];show Option.bind (ix P.body (k:Int)) _=_;rw [aM e4];rfl
 have ew:(wc p x:Int)=cM p.arrays s.write x.point 0:=by unfold wc;rw [e5];dsimp only;omega
 have er:rc p x=(cC 5 s.value).map (fun a=>cM p.arrays a x.point 0):=by unfold rc;rw [e5]
 rw [ew,er];refine Ev.eq ?_;unfold gC;refine aA hst (aA (wS (d:=d) 5 n s.value (by omega) (by omega) s2) ?_);generalize hR:cC 5 s.value=R at*;refine Ev.loop (fun z:List Int×Int=> ∃i:Nat,z.2=i∧i≤R.length∧z.1=(R.take i).map fun a=>cM p.arrays a x.point 0) (fun z=>R.length-z.2.toNat) ?_ (n+1) _ ⟨0,rfl,by omega,by simp⟩ (by dsimp only;omega);rintro again ⟨out,z⟩ ⟨i,hz,hi,ho⟩ hr;dsimp only at hz ho⊢;subst hz;refine aH (fun hlt=>?_) fun hge=>?_
 ·have hg:=cI (show i<R.length by omega);refine aA (aM hg) (aA (mW (by omega) hl hd (s3 _ (cF hg)) e7) (aA (bI (by rw [ho,lT,qS,vAJ];omega)) ?_));rw [aK (by omega)];refine hr _ ⟨i+1,by dsimp only;omega,by omega,?_⟩ (by dsimp only;omega);dsimp only;rw [iY hg,sY,ho];rfl
 have e:i=R.length:=by omega
 refine aA (mW (by omega) hl hd s1 e7) (Ev.some ?_);rw [ho,e,pB]
theorem Y5{list:List Arr}{m m':List Int}{q:List Int}{d:Int}: ∀{L:Nat} {e:Expr},dN L e d=true→(∀a∈cC L e,m.getD (cM list a q 0).toNat 0=m'.getD (cM list a q 0).toNat 0)→sL L list m e q=sL L list m' e q
 |0,e,h,_=>by cases h
 |L+1,e,h,hr=>by
  obtain⟨h1,h2,h3⟩:=lW h;simp only [sL];split
  ·rfl
  split
  ·rfl
  split
  ·rename_i k3;exact hr _ (by simp [cC,k3])
  have hk: ∀c∈e.kids,sL L list m c q=sL L list m' c q:=fun c hc=>
   Y5 (h3 c hc) fun a ha=>hr a (by simp only [cC,List.mem_append,List.mem_flatMap];exact .inr ⟨c,hc,ha⟩)
  split
  ·rename_i a b hab;rw [hab] at hk;rw [hk a (by simp),hk b (by simp)]
  rfl
theorem aJs{p:Prog}(hv:bM p=true){x:Inst}(hx:dF p x){m m':List Int}(h: ∀c∈rc p x,m.getD c.toNat 0=m'.getD c.toNat 0):vl p m x=vl p m' x:=by obtain⟨i,k,P,s,d,e1,e2,e3,e4,e5,e6,e7,e8⟩:=inst_d hv hx;unfold vl;unfold rc at h;rw [e5] at h⊢;exact Y5 (wE e6).2.1 fun a ha=>h _ (List.mem_map_of_mem ha)
theorem R5{α:Type}(l:List α)(i j:Nat)(x d:α):(l.set i x).getD j d=if i=j∧i<l.length then x else l.getD j d:=by
 rw [I6,I6,List.getElem?_set];split
 ·rename_i h;subst h;split
  ·rename_i h2;rw [if_pos ⟨rfl,h2⟩];rfl
  rename_i h2;rw [if_neg (by omega),vBp (by omega)]
 rename_i h;rw [if_neg fun h2=>h h2.1]
theorem aFQ{l:List Int}{i:Nat}(h:i<l.length):ix l (i:Int)=some (l.getD i 0):=by rw [aM (cI h),I6,cI h];rfl
theorem yR{n:Nat}(hn:7000≤n){p:Prog}(hp:SmP p): ∃L,b9 n p=some (L,bM p)∧(bM p=true→L=insts p.parts):=by
 rw [nG hn hp];cases ha:o9 p with
 |false=>
  refine⟨[],?_,fun h=>?_⟩
  ·rw [if_neg (by simp),show bM p=false by unfold bM;rw [ha];rfl]
  unfold bM at h;rw [ha] at h;cases h
 |true=>
  refine⟨insts p.parts,?_,fun _=>rfl⟩;rw [if_pos rfl,show bM p=decide ((insts p.parts).length≤120) by
   unfold bM;rw [ha,Bool.true_and];exact decide_eq_decide.2 (by have:=insts_len' p.parts;omega)]
theorem aK7{α:Type}{n:Int}(h:0≤n∧n≤1000000000)(x:α):mk n x=some (List.replicate n.toNat x):=by unfold mk;rw [if_pos h]
theorem aNj{p:Prog}(hv:bM p=true):0≤fN p.arrays∧fN p.arrays≤144:=by
 obtain⟨hl,hd,h4,hpo,hil⟩:=dT hv
 have:=aFm hd;omega
def tQ:List Bool→List Int→Bool
 |_,[]=>true
 |f,c::cs=>decide (0≤c∧c<f.length)&&(!f.getD c.toNat false&&tQ (f.set c.toNat true) cs)
def sE(T:Nat)(o:List Int):Bool:=tQ (List.replicate T false) o&&decide (o.length=T)
theorem uS: ∀{o:List Int} {f:List Bool},tQ f o=true→ ∀c∈o,0≤c∧c<f.length
 | [],f,_,c,hc=>by cases hc
 |d::o,f,h,c,hc=>by
  simp only [tQ,Bool.and_eq_true,decide_eq_true_eq] at h;rcases jY.1 hc with rfl|hc
  ·exact h.1
  have:=uS h.2.2 c hc
  rwa [vBd] at this
theorem aBo{n:Nat}(hn:5000≤n){T:Nat}(hT:T≤1000){o:List Int}(ho:o.length≤1000):uZ n o (T:Int)=some (sE T o):=by
 refine Ev.eq ?_;unfold uZ sE;refine aA (aK7 (by omega) false) ?_;rw [sZ];generalize hf:List.replicate T false=f0;have hf0:f0.length=T:=by rw [←hf];simp
 refine Ev.loop (fun z:List Bool×Int=> ∃i:Nat,z.2=i∧i≤o.length∧z.1.length=T∧tQ f0 o=tQ z.1 (o.drop i)) (fun z=>o.length-z.2.toNat) ?_ n _ ⟨0,rfl,by omega,hf0,rfl⟩ (by dsimp only;omega);rintro again ⟨f,z⟩ ⟨i,hz,hi,hfl,hp⟩ hr;dsimp only at hz hfl hp⊢;subst hz;refine aH (fun hlt=>?_) fun hge=>Ev.some ?_
 ·have hg:=cI (show i<o.length by omega);rw [iK hg] at hp;simp only [tQ] at hp;rw [hfl] at hp;refine aA (aM hg) ?_;have ew:wr ((T:Int)-1)=(T:Int)-1:=aK (by omega);refine Ev.jn (fun z=>z= !(decide (0≤o[i]∧o[i]<T)&& !f.getD o[i].toNat false)) (fun j hj=>aA (dH _ _ _ _) ?_) fun z hz=>?_
  ·rw [ew];by_cases h1:0≤o[i]∧o[i]<T
   ·rw [decide_eq_true (show 0≤o[i]∧o[i]≤(T:Int)-1 by omega)];rw [decide_eq_true h1] at hj;refine bT (aA (P8 h1.1 (by omega)) (hj _ ?_));rw [I6,cI (show o[i].toNat<f.length by omega)];simp
   rw [decide_eq_false (show¬(0≤o[i]∧o[i]≤(T:Int)-1) by omega)];rw [decide_eq_false h1] at hj;exact bY (hj _ rfl)
  subst hz;by_cases h1:0≤o[i]∧o[i]<T
  ·rw [decide_eq_true h1] at hp⊢;cases h2:f.getD o[i].toNat false with
   |true=>rw [h2] at hp;exact bY (Ev.some (by rw [hp];rfl))
   |false=>
    rw [h2] at hp;refine bT (aA (P8 h1.1 (by omega)) (aA (M6 h1.1 (by omega) true) ?_));rw [aK (by omega)];refine hr _ ⟨i+1,by dsimp only;omega,by omega,by dsimp only;rw [vBd];exact hfl,?_⟩ (by dsimp only;omega);dsimp only;rw [hp];rfl
  rw [decide_eq_false h1] at hp⊢;exact bY (Ev.some (by rw [hp];rfl))
 have e:i=o.length:=by omega
 rw [e,vBx] at hp;rw [hp];show decide ((o.length:Int)=(T:Int))=(true&&decide (o.length=T))
 rw [W0];exact decide_eq_decide.2 (by omega)
def aA9(p:Prog)(o:List Int):Bool:=bM p&&sE (insts p.parts).length o
theorem H6{n:Nat}(hn:7100≤n){p:Prog}(hp:SmP p){o:List Int}(ho:o.length≤1000):l6 n p o=some (aA9 p o):=by
 obtain⟨L,h1,h2⟩:=yR (n:=n) (by omega) hp;refine Ev.eq ?_;unfold l6 aA9;refine aA h1 ?_;dsimp only;cases hv:bM p with
 |false=>exact Ev.some rfl
 |true=>
  rw [h2 hv];have hil:=(dT hv).2.2.2.2;exact Ev.jn (fun z=>z=sE (insts p.parts).length o) (fun j hj=>bY (aA (aBo (by omega) (by omega) ho) (hj _ rfl))) fun z hz=>Ev.some hz
def pick(l:List Inst)(o:List Int):List Inst:=o.filterMap fun c=>l[c.toNat]?
theorem aAa{l:List Inst}{o:List Int}{c:Int}{x:Inst}(h:l[c.toNat]? =some x):pick l (o++[c])=pick l o++[x]:=by unfold pick;rw [List.filterMap_append];simp [h]
theorem aHR{l:List Inst}{o:List Int}{x:Inst}(h:x∈pick l o):x∈l:=by unfold pick at h;obtain⟨c,_,hc⟩:=List.mem_filterMap.1 h;exact cF hc
def aFt(p:Prog)(m:List Int)(o:List Int):List Int×Bool:=if yH p m=true∧aA9 p o=true then(cB p m (pick (insts p.parts) o),true) else([],false)
theorem aHU{n:Nat}(hn:7100≤n){p:Prog}(hv:bM p=true){m:List Int}(hm:fD p.arrays m){l:List Inst}(hl: ∀x∈l,dF p x){o:List Int}(ho:o.length≤1000)(hb: ∀c∈o,0≤c∧c<l.length){f:List Int→Inst→Option (List Int)}(hf: ∀m x,fD p.arrays m→dF p x→f m x=some (runI p m x)):
  aL (fun again10 ((x7,x8):(List Int)×Int)=>bif decide (x8<(o.length:Int)) then(Option.bind (ix o x8) fun x11=>Option.bind (ix l x11) fun x12=>Option.bind (f x7 x12) fun x13=>Option.bind (kV x7 x13) fun x14=>again10 (x13,wr (x8+1))) else(some (x7,true))) n (m,0)=some (cB p m (pick l o),true):=by
 refine Ev.eq ?_;refine Ev.loop (fun x:List Int×Int=> ∃i:Nat,x.2=i∧i≤o.length∧x.1=cB p m (pick l (o.take i))) (fun x=>o.length-x.2.toNat) ?_ n _ ⟨0,rfl,by omega,rfl⟩ (by dsimp only;omega);rintro again ⟨x,z⟩ ⟨i,hz,hi,hx1⟩ hr;dsimp only at hz hx1⊢;subst hz;have hok:fD p.arrays x:=by rw [hx1];exact uL hv (fun y hy=>hl y (aHR hy)) hm
 refine aH (fun hlt=>?_) fun hge=>Ev.some ?_
 ·have hg:=cI (show i<o.length by omega);obtain⟨b0,b1⟩:=hb _ (cF hg);have hx:=cI (show o[i].toNat<l.length by omega);have hxo:=hl _ (cF hx);have hok2:=qX hv hok hxo;have hsl:kV x (runI p x l[o[i].toNat])=some ():=by
   unfold kV;rw [if_pos]
   have:=hok.1;have:=hok2.1;omega
  refine aA (aM hg) (aA (P8 b0 (by omega)) (aA (hf x _ hok hxo) (aA hsl ?_)));rw [aK (by omega)];refine hr _ ⟨i+1,by dsimp only;omega,by omega,?_⟩ (by dsimp only;omega);dsimp only;rw [iY hg,aAa hx,E2,←hx1]
 have hie:i=o.length:=by omega
 rw [hx1,hie,pB]
theorem aL4{p:Prog}{o:List Int}(h:aA9 p o=true):bM p=true∧o.length=(insts p.parts).length∧ ∀c∈o,0≤c∧c<((insts p.parts).length:Int):=by
 simp only [aA9,sE,Bool.and_eq_true,decide_eq_true_eq] at h;obtain⟨h1,h2,h3⟩:=h;refine⟨h1,h3,fun c hc=>?_⟩
 have:=uS h2 c hc
 rwa [vBc] at this
theorem X4{n:Nat}(hn:7100≤n){p:Prog}(hp:SmP p){m:List Int}(hm:m.length≤1000){o:List Int}(ho:o.length≤1000):nJ n p m o=some (aFt p m o):=by
 refine Ev.eq ?_;unfold nJ aFt;refine Ev.jn (fun z=>z= !(yH p m&&aA9 p o)) (fun j hj=>?_) fun z hz=>?_
 ·refine aA (qD (by omega) hp hm) ?_;cases h1:yH p m with
  |false=>rw [h1] at hj;exact hj true rfl
  |true=>rw [h1] at hj;exact bT (aA (H6 hn hp ho) (hj _ rfl))
 subst hz;cases h1:yH p m with
 |false=>exact Ev.some (by simp)
 |true=>
  cases h2:aA9 p o with
  |false=>exact Ev.some (by simp)
  |true=>
   obtain⟨hv,hmo⟩:=aK8 h1;obtain⟨_,_,hb⟩:=aL4 h2;have hc:m_ownClone m=some m:=by unfold m_ownClone;rw [if_pos (by omega)]
   refine bT (aA (kE (by omega) hp) (aA hc ?_));rw [if_pos hv,if_pos ⟨rfl,rfl⟩];exact Ev.of (aHU hn hv hmo (fun x hx=>insts_mem hx) ho hb fun m x hm hx=>aFO hn hv hm hx) rfl
def aBk(a:Nat):Nat→List Int
 |0=>[]
 |k+1=>(a:Int)::aBk (a+1) k
theorem aAr: ∀(k a:Nat),aBk a (k+1)=aBk a k++[((a+k:Nat):Int)]
 |0,a=>rfl
 |k+1,a=>by show(a:Int)::aBk (a+1) (k+1)=(a:Int)::aBk (a+1) k++_;rw [aAr k (a+1),show a+1+k=a+(k+1) by omega];rfl
theorem aAb(l:List Inst): ∀k,k≤l.length→pick l (aBk 0 k)=l.take k
 |0,_=>rfl
 |k+1,h=>by have hg:=cI (show k<l.length by omega);rw [aAr,mM,aAa (x:=l[k]) (by rw [sZ];exact hg),aAb l k (by omega),iY hg]
def aGN(p:Prog)(a b:Inst):Prop:=(wc p a:Int)∈rc p b∨(wc p b:Int)∈rc p a∨wc p a=wc p b
def com(p:Prog)(a b:Inst):Prop:= ∀m,fD p.arrays m→runI p (runI p m a) b=runI p (runI p m b) a
theorem aHi{p:Prog}(hv:bM p=true){b:Inst}(hb:dF p b){w:Nat}(h:(w:Int)∉rc p b)(m:List Int)(v:Int):vl p (m.set w v) b=vl p m b:=by refine aJs hv hb fun c hc=>?_;have h0:=(inst_c hv hb).2.1 c hc;rw [R5,if_neg];rintro⟨e,_⟩;exact h (by rw [e,vBI h0.1];exact hc)
theorem aNY{p:Prog}(hv:bM p=true){a b:Inst}(ha:dF p a)(hb:dF p b)(h: ¬aGN p a b):com p a b:=by intro m _;have h1:(wc p a:Int)∉rc p b:=fun e=>h (.inl e);have h2:(wc p b:Int)∉rc p a:=fun e=>h (.inr (.inl e));have h3:wc p a≠wc p b:=fun e=>h (.inr (.inr e));have ra:=(inst_c hv ha).2.2.2;have rb:=(inst_c hv hb).2.2.2;rw [ra,rb,rb,ra,aHi hv hb h1,aHi hv ha h2,List.set_comm _ _ h3]
def ins(x:Int):List Int→List Int
 | []=>[x]
 |y::ys=>if x≤y then x::y::ys else y::ins x ys
def sH:List Int→List Int
 | []=>[]
 |x::xs=>ins x (sH xs)
def Inc:Int→List Int→Prop
 |_,[]=>True
 |a,x::xs=>a≤x∧Inc (x+1) xs
theorem aFC{x y:Int}: ∀{s:List Int},y∈ins x s↔y=x∨y∈s
 | []=>by simp [ins]
 |z::s=>by
  unfold ins;split
  ·simp
  rw [jY,aFC,jY];constructor
  ·rintro(h|h|h)
   ·exact .inr (.inl h)
   ·exact .inl h
   exact .inr (.inr h)
  rintro(h|h|h)
  ·exact .inr (.inl h)
  ·exact .inl h
  exact .inr (.inr h)
theorem mU{y:Int}: ∀{s:List Int},y∈sH s↔y∈s
 | []=>by simp [sH]
 |z::s=>by rw [sH,aFC,mU,jY]
theorem aFF(x:Int): ∀s:List Int,(ins x s).length=s.length+1
 | []=>rfl
 |y::s=>by
  unfold ins;split
  ·simp
  simp [aFF x s]
theorem uW: ∀s:List Int,(sH s).length=s.length
 | []=>rfl
 |x::s=>by rw [sH,aFF,uW s];rfl
theorem aFM{x:Int}: ∀{s:List Int} {a:Int},Inc a s→a≤x→x∉s→Inc a (ins x s)
 | [],a,_,h,_=>⟨h,trivial⟩
 |y::s,a,k,h,hx=>by
  have hne:x≠y:=fun e=>hx (by simp [e]);unfold ins;split
  ·exact⟨h,by omega,k.2⟩
  exact⟨k.1,aFM k.2 (by omega) fun e=>hx (by simp [e])⟩
theorem B4: ∀{s:List Int} {a:Int},s.Nodup→(∀y∈s,a≤y)→Inc a (sH s)
 | [],_,_,_=>trivial
 |x::s,a,h,hb=>by have h':=List.nodup_cons.1 h;exact aFM (B4 h'.2 fun y hy=>hb y (by simp [hy])) (hb x qQ) fun e=>h'.1 (mU.1 e)
theorem aFL: ∀{s:List Int} {a b:Int},Inc a s→(∀y∈s,y<b)→a≤b→(s.length:Int)≤b-a
 | [],a,b,_,_,h=>by simp;omega
 |x::s,a,b,k,hb,h=>by
  have hx:=hb x (by simp)
  have:=aFL k.2 (fun y hy=>hb y (by simp [hy])) (show x+1≤b by omega)
  have:=k.1;rw [vCa];omega
theorem aCM: ∀{s:List Int} {a:Nat},Inc a s→(∀y∈s,y<(a:Int)+s.length)→s=aBk a s.length
 | [],_,_,_=>rfl
 |x::s,a,k,hb=>by
  have hx:=hb x (by simp);have hl:((x::s).length:Int)=s.length+1:=by simp
  have h1:=aFL k.2 (fun y hy=>hb y (by simp [hy])) (show x+1≤(a:Int)+(x::s).length by omega)
  have:=k.1;have e:x=a:=by omega
  subst e;have ih:=aCM (s:=s) (a:=a+1) (by have:=k.2;rwa [Int.natCast_add]) fun y hy=>by have:=hb y (by simp [hy]);rw [hl] at this;rw [Int.natCast_add];omega
  show(a:Int)::s=(a:Int)::aBk (a+1) s.length;rw [←ih]
theorem E6: ∀{o:List Int} {f:List Bool},tQ f o=true→o.Nodup∧ ∀c∈o,f.getD c.toNat false=false
 | [],f,_=>⟨List.nodup_nil,fun c hc=>by cases hc⟩
 |c::o,f,h=>by
  simp only [tQ,Bool.and_eq_true,decide_eq_true_eq,Bool.not_eq_true'] at h;obtain⟨h1,h2,h3⟩:=h;obtain⟨i1,i2⟩:=E6 h3;have hc: ∀d∈o,d≠c∧f.getD d.toNat false=false:=fun d hd=>by
   have:=i2 d hd;rw [R5] at this;split at this
   ·cases this
   rename_i hn;exact⟨fun e=>hn ⟨by rw [e],by omega⟩,this⟩
  refine⟨List.nodup_cons.2 ⟨fun hm=>(hc c hm).1 rfl,i1⟩,fun d hd=>?_⟩;rcases jY.1 hd with rfl|hd
  ·exact h2
  exact(hc d hd).2
theorem aEg{T:Nat}{o:List Int}(h:sE T o=true):sH o=aBk 0 T:=by
 simp only [sE,Bool.and_eq_true,decide_eq_true_eq] at h;obtain⟨h1,h2⟩:=h;have hm:=uS h1;rw [vBc] at hm
 have:=aCM (s:=sH o) (a:=0) (B4 (E6 h1).1 fun y hy=>(hm y hy).1) fun y hy=>by have:=hm y (mU.1 hy);rw [uW,h2];omega
 rw [this,uW,h2]
theorem mT{l:List Inst}{o:List Int}{c:Int}{x:Inst}(h:l[c.toNat]? =some x):pick l (c::o)=x::pick l o:=by unfold pick;rw [List.filterMap_cons,h]
theorem aH1{α:Type}{x y z:α}{s:List α}(h:z∈x::s):z∈x::y::s:=by
 rcases jY.1 h with h|h
 ·exact jY.2 (.inl h)
 exact nW _ (nW _ h)
theorem aFs{p:Prog}(hv:bM p=true){l:List Inst}(hl: ∀x∈l,dF p x){x:Int}: ∀(s:List Int) (m:List Int),fD p.arrays m→(∀y∈x::s,y.toNat<l.length)→(∀y∈s,y<x→ ∀a b,l[x.toNat]? =some a→l[y.toNat]? =some b→com p a b)→
  cB p m (pick l (x::s))=cB p m (pick l (ins x s))
 | [],_,_,_,_=>rfl
 |y::s,m,hm,hb,hc=>by
  unfold ins;split
  ·rfl
  obtain⟨a,hx⟩: ∃a,l[x.toNat]? =some a:=⟨_,cI (hb x qQ)⟩
  obtain⟨b,hy⟩: ∃b,l[y.toNat]? =some b:=⟨_,cI (hb y (nW _ qQ))⟩
  have hxo:=hl _ (cF hx);have hyo:=hl _ (cF hy);have ih:=aFs hv hl (x:=x) s (runI p m b) (qX hv hm hyo) (fun z hz=>hb z (aH1 hz)) fun z hz=>hc z (nW _ hz);rw [mT hx,mT hy,mT hy];rw [mT hx] at ih;show cB p (runI p (runI p m a) b) (pick l s)=cB p (runI p m b) (pick l (ins x s));rw [←ih,hc y qQ (by omega) _ _ hx hy m hm];rfl
theorem Z5{p:Prog}(hv:bM p=true){l:List Inst}(hl: ∀x∈l,dF p x): ∀(o:List Int) (m:List Int),fD p.arrays m→(∀y∈o,y.toNat<l.length)→o.Pairwise (fun x y=>y<x→ ∀a b,l[x.toNat]? =some a→l[y.toNat]? =some b→com p a b)→
  cB p m (pick l o)=cB p m (pick l (sH o))
 | [],_,_,_,_=>rfl
 |x::o,m,hm,hb,hp=>by
  have hp':=vBb.1 hp;obtain⟨a,hx⟩: ∃a,l[x.toNat]? =some a:=⟨_,cI (hb x qQ)⟩
  have hxo:=hl _ (cF hx);have ih:=Z5 hv hl o (runI p m a) (qX hv hm hxo) (fun y hy=>hb y (nW _ hy)) hp'.2;rw [sH,←aFs hv hl (sH o) m hm (fun y hy=>hb y (by rcases jY.1 hy with h|h;exact h▸qQ;exact nW _ (mU.1 h))) fun y hy=>hp'.1 y (mU.1 hy),mT hx,mT hx];exact ih
theorem aDZ{p:Prog}(hv:bM p=true){l:List Inst}(hl: ∀x∈l,dF p x){o:List Int}(ho:sE l.length o=true)(hp:o.Pairwise fun x y=>y<x→ ∀a b,l[x.toNat]? =some a→l[y.toNat]? =some b→com p a b)
  {m:List Int} (hm:fD p.arrays m):cB p m (pick l o)=cB p m l:=by
 have hb: ∀y∈o,y.toNat<l.length:=fun y hy=>by
  have h:=ho;simp only [sE,Bool.and_eq_true,decide_eq_true_eq] at h
  have:=uS h.1 y hy;rw [vBc] at this;omega
 rw [Z5 hv hl o m hm hb hp,aEg ho,aAb l l.length (iB _),pB]
def tX(p:Prog)(a b:Inst):Int:=(if(wc p a:Int)∈rc p b then 1 else 0)+(if(wc p b:Int)∈rc p a then 2 else 0)+(if wc p a=wc p b then 4 else 0)
theorem aL8(p:Prog)(a b:Inst):0≤tX p a b∧tX p a b≤7:=by unfold tX;split<;>split<;>split<;>omega
def kd(p:Prog)(l:List Inst)(i k:Nat):Int:=match l[i]?,l[k]? with
 |some a,some b=>tX p a b
 |_,_=>0
theorem aBi{p:Prog}{l:List Inst}{i k:Nat}{a b:Inst}(h1:l[i]? =some a)(h2:l[k]? =some b):kd p l i k=tX p a b:=by unfold kd;rw [h1,h2]
theorem aN2(p:Prog)(l:List Inst)(i k:Nat):0≤kd p l i k∧kd p l i k≤7:=by
 unfold kd;split
 ·exact aL8 _ _ _
 omega
def lP(p:Prog)(l:List Inst)(i j:Nat):List Dep:=((List.range j).filter fun k=>decide (i<k)&&decide (kd p l i k≠0)).map (fun(k:Nat)=>(⟨(i:Int),(k:Int),kd p l i k⟩:Dep))
def nP(p:Prog)(l:List Inst)(n:Nat):List Dep:=(List.range n).flatMap fun i=>lP p l i l.length
theorem F7(p:Prog)(l:List Inst){i j:Nat}(h:i<j):lP p l i (j+1)=lP p l i j++(if kd p l i j=0 then [] else [⟨(i:Int),(j:Int),kd p l i j⟩]):=by
 unfold lP;rw [vBR,vBC,sY];congr 1;split
 ·rename_i e;simp [e]
 rename_i e;simp [e,h]
theorem T0(p:Prog)(l:List Inst)(i:Nat): ∀j,j≤i+1→lP p l i j=[]
 |0,_=>rfl
 |j+1,h=>by have ih:=T0 p l i j (by omega);unfold lP at ih⊢;rw [vBR,vBC,sY,ih];simp [show¬i<j by omega]
theorem S9(p:Prog)(l:List Inst)(n:Nat):nP p l (n+1)=nP p l n++lP p l n l.length:=by unfold nP;rw [vBR,vAW];simp
theorem T1(p:Prog)(l:List Inst)(i j:Nat):(lP p l i j).length≤j:=by unfold lP;rw [lT];exact I7 (vBS _ _) (by simp)
theorem C4(p:Prog)(l:List Inst): ∀n,(nP p l n).length≤n*l.length
 |0=>by simp [nP]
 |n+1=>by
  rw [S9,iX,mZ,Nat.one_mul]
  have:=C4 p l n
  have:=T1 p l n l.length;omega
theorem P4{p:Prog}{l:List Inst}{d:Dep}:d∈nP p l l.length↔ ∃i k:Nat,i<k∧k<l.length∧kd p l i k≠0∧d=⟨(i:Int),(k:Int),kd p l i k⟩:=by
 unfold nP lP;simp only [List.mem_flatMap,List.mem_range,List.mem_map,List.mem_filter,Bool.and_eq_true,decide_eq_true_eq];constructor
 ·rintro⟨i,h1,k,⟨h2,h3,h4⟩,rfl⟩;exact⟨i,k,h3,h2,h4,rfl⟩
 rintro⟨i,k,h1,h2,h3,rfl⟩;exact⟨i,by omega,k,⟨h2,h1,h3⟩,rfl⟩
def places(o:List Int):Nat→List Int
 |0=>List.replicate o.length 0
 |k+1=>(places o k).set (o.getD k 0).toNat (k:Int)
theorem aCw: ∀{o:List Int} {f:List Bool},o.Nodup→(∀c∈o,0≤c∧c<(f.length:Int)∧f.getD c.toNat false=false)→tQ f o=true
 | [],_,_,_=>rfl
 |c::o,f,h,hb=>by have h':=List.nodup_cons.1 h;obtain⟨b0,b1,b2⟩:=hb c qQ;simp only [tQ,Bool.and_eq_true,decide_eq_true_eq];refine⟨⟨b0,b1⟩,by rw [b2];rfl,aCw h'.2 fun d hd=>?_⟩;obtain⟨d0,d1,d2⟩:=hb d (nW _ hd);have hne:d≠c:=fun e=>h'.1 (e▸hd);refine⟨d0,by rw [vBd];exact d1,?_⟩;rw [R5,if_neg (by rintro⟨e,_⟩;omega)];exact d2
def dO(cs:List Int)(n many:Nat):Nat:=if cs.length=0 then 0 else(max 0 (Int.tmod (cs.getD (n%cs.length) 0) (many:Int))).toNat
theorem aMt{p:Prog}{l:List Inst}: ∀d∈nP p l l.length,0≤d.1∧d.1<d.2∧d.2<(l.length:Int):=by intro d hd;obtain⟨i,k,h1,h2,h3,rfl⟩:=P4.1 hd;exact⟨by show(0:Int)≤(i:Int);omega,by show(i:Int)<(k:Int);omega,by show(k:Int)<_;omega⟩
theorem yZ{n:Nat}{l:List Int}(hl:l.length<n)(hs:l.length≤1000)(v:Int):gG n l v=some (decide (v∈l)):=by
 refine Ev.eq ?_;unfold gG;refine aI (P:=fun i=>decide ((0:Int)≤i)=decide (v∈l)) ?_ fun x hx=>Ev.some hx;unfold tV;refine Ev.loop (fun z:Int=> ∃i:Nat,z=i∧i≤l.length∧v∉l.take i) (fun z=>l.length-z.toNat) ?_ n 0 ⟨0,rfl,by omega,by simp⟩ (by omega);rintro again z ⟨i,rfl,hi,hno⟩ hr;refine aH (fun hlt=>?_) fun hge=>Ev.some ?_
 ·have hg:=cI (show i<l.length by omega);refine aA (aM hg) (aH (fun e=>Ev.some ?_) fun e=>?_)
  ·rw [decide_eq_true (by omega),decide_eq_true];rw [e];exact cF hg
  rw [aK (by omega)];refine hr _ ⟨i+1,by omega,by omega,?_⟩ (by omega);rw [iY hg,vO,List.mem_singleton];rintro(h|h)
  ·exact hno h
  exact e h
 have e:i=l.length:=by omega
 rw [e,pB] at hno;rw [decide_eq_false (by omega),decide_eq_false hno]
def trc(p:Prog):Traced:=⟨p,insts p.parts,(insts p.parts).map (rc p),(insts p.parts).map fun x=>(wc p x:Int)⟩
theorem J7{α β:Type}{l:List α}{f:α→β}{i:Nat}{x:α}(h:l[i]? =some x):(l.map f)[i]? =some (f x):=by rw [vF,h];rfl
theorem aCE{α β:Type}{l:List α}{f:α→β}{i:Nat}{x:α}(h:l[i]? =some x):(l.take (i+1)).map f=(l.take i).map f++[f x]:=by rw [iY h,sY];rfl
theorem Q7{n:Nat}(hn:7100≤n){p:Prog}(hp:SmP p):uX n p=some (if bM p=true then(some (trc p),true) else(none,false)):=by
 obtain⟨L,h1,h2⟩:=yR (n:=n) (by omega) hp;refine Ev.eq ?_;unfold uX;refine aA h1 ?_;dsimp only;cases hv:bM p with
 |false=>exact Ev.some rfl
 |true=>
  rw [h2 hv];have hil:=(dT hv).2.2.2.2;refine bT (Ev.loop (fun z:List (List Int)×List Int×Int=> ∃i:Nat,z.2.2=i∧i≤(insts p.parts).length∧z.1=((insts p.parts).take i).map (rc p)∧z.2.1=((insts p.parts).take i).map fun x=>(wc p x:Int)) (fun z=>(insts p.parts).length-z.2.2.toNat) ?_ n _ ⟨0,rfl,by omega,rfl,rfl⟩ (by first|omega|(dsimp only;omega)));rintro again ⟨a,b,z⟩ ⟨i,hz,hi,ha,hb⟩ hr;dsimp only at hz ha hb⊢;subst hz;refine aH (fun hlt=>?_) fun hge=>Ev.some ?_
  ·have hg:=cI (show i<(insts p.parts).length by omega);refine aA (aM hg) (aA (aBm (by omega) hv (insts_mem (cF hg))) (aA (bI (by rw [ha,lT,qS,vAJ];omega)) (aA (bI (by rw [hb,lT,qS,vAJ];omega)) ?_)));rw [aK (by omega)];exact hr _ ⟨i+1,by dsimp only;omega,by omega,by dsimp only;rw [aCE hg,ha],by dsimp only;rw [aCE hg,hb]⟩ (by dsimp only;omega)
  have e:i=(insts p.parts).length:=by omega
  rw [ha,hb,e,pB];rfl
theorem aHO{p:Prog}(hv:bM p=true){l:List Inst}(hl: ∀x∈l,dF p x){i:Nat}{a:Inst}(h:l[i]? =some a):(rc p a).length≤12:=(inst_c hv (hl _ (cF h))).2.2.1
theorem aKh{R:Type}{Q:R→Prop}{A B:Option Bool}{p:Prog}{a b:Inst}(hA:A=some (decide ((wc p a:Int)∈rc p b)))(hB:B=some (decide ((wc p b:Int)∈rc p a))){J:Int→Option R}(h:Ev (J (tX p a b)) Q):
  Ev (jn (fun(x5:Int)=>jn (fun(x10:Int)=>jn J fun j11=>bif decide ((wc p a:Int)=(wc p b:Int)) then(j11 (wr (x10+4))) else(j11 x10))
   fun j6=>Option.bind B fun x9=>bif x9 then(j6 (wr (x5+2))) else(j6 x5))
   fun j1=>Option.bind A fun x4=>bif x4 then(j1 (wr (0+1))) else(j1 0)) Q:=by
 refine Ev.jn (fun z=>z=if(wc p a:Int)∈rc p b then 1 else 0) (fun j hj=>aA hA (aH (fun e=>hj _ (by rw [if_pos e];rfl)) fun e=>hj _ (by rw [if_neg e]))) fun z hz=>?_;subst hz;refine Ev.jn (fun z=>z=(if(wc p a:Int)∈rc p b then 1 else 0)+if(wc p b:Int)∈rc p a then 2 else 0) (fun j hj=>aA hB (aH (fun e=>hj _ ?_) fun e=>hj _ ?_)) fun z hz=>?_
 ·rw [if_pos e];split<;>rfl
 ·rw [if_neg e,Int.add_zero]
 subst hz;refine Ev.jn (fun z=>z=tX p a b) (fun j hj=>aH (fun e=>hj _ ?_) fun e=>hj _ ?_) fun z hz=>by subst hz;exact h
 ·unfold tX;rw [if_pos (show wc p a=wc p b by omega)];split<;>split<;>rfl
 unfold tX;rw [if_neg (show¬wc p a=wc p b by omega),Int.add_zero]
theorem aBq{n:Nat}(hn:7100≤n){p:Prog}(hv:bM p=true){i k:Nat}{a b:Inst}(ha:(insts p.parts)[i]? =some a)(hb:(insts p.parts)[k]? =some b):gT n (trc p) (i:Int) (k:Int)=some (kd p (insts p.parts) i k):=by rw [aBi ha hb];have la:=aHO hv (fun x hx=>insts_mem hx) ha;have lb:=aHO hv (fun x hx=>insts_mem hx) hb;have ra:ix (trc p).reads (i:Int)=some (rc p a):=aM (J7 ha);have rb:ix (trc p).reads (k:Int)=some (rc p b):=aM (J7 hb);have wa:ix (trc p).writes (i:Int)=some (wc p a:Int):=aM (J7 ha);have wb:ix (trc p).writes (k:Int)=some (wc p b:Int):=aM (J7 hb);refine Ev.eq ?_;unfold gT;rw [ra,rb,wa,wb];exact aKh (yZ (by omega) (by omega) _) (yZ (by omega) (by omega) _) (Ev.some rfl)
theorem aGB{n:Nat}(hn:7100≤n){p:Prog}(hv:bM p=true):kY n (trc p)=some (nP p (insts p.parts) (insts p.parts).length):=by
 have hil:=(dT hv).2.2.2.2;refine Ev.eq ?_;unfold kY;rw [show(trc p).list=insts p.parts from rfl];generalize hL:insts p.parts=l at*;have hok: ∀x∈l,dF p x:=fun x hx=>insts_mem (by rw [hL];exact hx);refine Ev.loop (fun z:List Dep×Int=> ∃i:Nat,z.2=i∧i≤l.length∧z.1=nP p l i) (fun z=>l.length-z.2.toNat) ?_ n _ ⟨0,rfl,by omega,rfl⟩ (by dsimp only;omega);rintro again ⟨a,z⟩ ⟨i,hz,hi,ha⟩ hr;dsimp only at hz ha⊢;subst hz;refine aH (fun hlt=>?_) fun hge=>Ev.some ?_
 ·have hg:=cI (show i<l.length by omega);rw [aK (by omega)];refine Ev.loop (fun z:List Dep×Int=> ∃j:Nat,z.2=j∧i<j∧j≤l.length∧z.1=nP p l i++lP p l i j) (fun z=>l.length-z.2.toNat) ?_ n _ ⟨i+1,by dsimp only;omega,by omega,by omega,by dsimp only;rw [ha,T0 p l i _ (iB _),vAY]⟩ (by dsimp only;omega);rintro again2 ⟨b,y⟩ ⟨j,hy,hij,hj,hb⟩ hr2;dsimp only at hy hb⊢;subst hy;refine aH (fun hlt2=>?_) fun hge2=>?_
  ·have hgj:=cI (show j<l.length by omega);have hbt:=aBq hn hv (i:=i) (k:=j) (by rw [hL];exact hg) (by rw [hL];exact hgj);rw [hL] at hbt;have hb0:=(aN2 p l i j).1;refine Ev.jn (fun z=>z=nP p l i++lP p l i (j+1)) (fun jj hjj=>aA hbt (aH (fun e=>aA (bI ?_) (hjj _ ?_)) fun e=>hjj _ ?_)) fun z hz=>?_
   ·have h1:=C4 p l i;have h2:=T1 p l i j;have h3:i*l.length≤120*120:=vBM (by omega) hil;rw [hb,iX,vAJ];omega
   ·rw [hb,F7 p l hij,if_neg (by omega),Y6]
   ·rw [hb,F7 p l hij,if_pos (by omega),vAY]
   subst hz;rw [aK (by omega)];exact hr2 _ ⟨j+1,by dsimp only;omega,by omega,by omega,rfl⟩ (by dsimp only;omega)
  have e:j=l.length:=by omega
  try rw [aK (by omega)]
  exact hr _ ⟨i+1,by dsimp only;omega,by omega,by dsimp only;rw [hb,e,S9]⟩ (by dsimp only;omega)
 have e:i=l.length:=by omega
 rw [ha,e]
theorem aC4{p:Prog}{l:List Inst}(hl:l.length≤120):(nP p l l.length).length≤15000:=by have h1:=C4 p l l.length;have h2:l.length*l.length≤120*120:=vBM hl hl;omega
theorem aCq{n:Nat}{cs:List Int}{k many:Nat}(hm:0<many):qU n cs (k:Int) (many:Int)=some (dO cs k many:Int):=by
 refine Ev.eq ?_;unfold qU dO;by_cases hc:cs.length=0
 ·rw [if_pos hc,hc];exact Ev.some rfl
 rw [if_neg hc,decide_eq_false (by omega)];have hlt:k%cs.length<cs.length:=Nat.mod_lt _ (by omega);have e:Int.tmod (k:Int) (cs.length:Int)=((k%cs.length:Nat):Int):=rfl;refine bT (aA (q7 (by omega)) ?_);rw [e];refine aA (aFQ hlt) (aA (q7 (by omega)) ?_);generalize Int.tmod (cs.getD (k%cs.length) 0) (many:Int)=q;refine aH (fun h=>Ev.some ?_) (fun h=>Ev.some ?_)<;>omega
theorem H8{n:Nat}(hn:7100≤n){p:Prog}(hp:SmP p)(hv:bM p=true):l8 n p=some (fN p.arrays):=by refine Ev.eq ?_;obtain⟨hl,hd,_⟩:=dT hv;unfold l8;refine aA (oO (by omega) hp) ?_;rw [hv];exact bT (aA (Q9 (by omega) hl hd) (Ev.some rfl))
theorem aKv{R:Type}{Q:R→Prop}{n:Nat}(hn:5000≤n){T:Nat}(hT:T≤1000){e:Int→Int}(he: ∀i,0≤i→i<(T:Int)→0≤e i∧e i≤999){K:List Int→Option R}(hK: ∀m,m.length=T→(∀x∈m,0≤x∧x≤999)→Ev (K m) Q):
  Ev (aL (fun again (z:(List Int)×Int)=>bif decide (z.2<(z.1.length:Int)) then(Option.bind (ix z.1 z.2) fun _=>Option.bind (fZ z.1 z.2 (e z.2)) fun y=>again (y,wr (z.2+1))) else(K z.1)) n (List.replicate T 0,0)) Q:=by
 refine Ev.loop (fun z:List Int×Int=>0≤z.2∧z.2≤T∧z.1.length=T∧ ∀x∈z.1,0≤x∧x≤999) (fun z=>T-z.2.toNat) ?_ n _ ⟨zV _,by dsimp only;omega,vBc,fun x hx=>by rw [(vBj.1 hx).2];omega⟩ (by dsimp only;omega);rintro again ⟨x,i⟩ ⟨h0,h1,h2,h3⟩ hr;dsimp only at h0 h1 h2 h3⊢;refine aH (fun hlt=>?_) fun hge=>hK _ h2 h3;refine aA (P8 h0 (by omega)) (aA (M6 h0 (by omega) _) ?_);rw [aK (by omega)];exact hr _ ⟨by dsimp only;omega,by dsimp only;omega,by dsimp only;rw [vBd,h2],fun y hy=>by
  rcases vAZ hy with hy|rfl
  ·exact h3 y hy
  exact he i h0 (by omega)⟩ (by dsimp only;omega)
theorem aNl{x:Int}(h:0≤x):0≤Int.tmod x 1000∧Int.tmod x 1000≤999:=by have h1:=vCc 1000 h;have h2:=vBB x (show(0:Int)<1000 by omega);omega
theorem Y9{a b:List Int}{n:Nat}(hn:a.length<n)(hl:a.length≤1000000):
  (bif !decide ((a.length:Int)=(b.length:Int)) then(some false) else(aL (fun again2 (x1:Int)=>bif decide (x1<(a.length:Int)) then(Option.bind (ix a x1) fun x3=>Option.bind (ix b x1) fun x4=>bif !decide (x3=x4) then(some false) else(again2 (wr (x1+1)))) else(some true)) n 0))=some (decide (a=b)):=by
 refine Ev.eq (eU (fun h=>Ev.some ?_) fun h=>?_)
 ·exact(decide_eq_false fun e=>h (by rw [e])).symm
 refine Ev.loop (fun x:Int=> ∃i:Nat,x=i∧i≤a.length∧a.take i=b.take i) (fun x=>a.length-x.toNat) ?_ n 0 ⟨0,rfl,by omega,rfl⟩ (by omega);rintro again x ⟨i,rfl,hi,hs⟩ hr;refine aH (fun hlt=>?_) fun hge=>Ev.some ?_
 ·have h1:i<a.length:=by omega
  have h2:i<b.length:=by omega
  have ha:=cI h1;have hb:=cI h2;refine aA (aM ha) (aA (aM hb) ?_);refine eU (fun hne=>Ev.some ?_) fun he=>?_
  ·exact(decide_eq_false fun e=>hne (by subst e;rfl)).symm
  rw [aK (by omega)];exact hr _ ⟨i+1,by omega,by omega,by rw [iY ha,iY hb,hs,he]⟩ (by omega)
 have e1:a.take i=a:=vBe (by omega);have e2:b.take i=b:=vBe (by omega);rw [e1,e2] at hs;exact(decide_eq_true hs).symm
theorem tW{n:Nat}{a b:List Int}(hn:a.length<n)(hl:a.length≤1000000):jC n a b=some (decide (a=b)):=by unfold jC;exact Y9 hn hl
theorem E0{n:Nat}{a b:List Int}(hn:a.length<n)(hl:a.length≤1000000):tJ n a b=some (decide (a=b)):=by unfold tJ;exact Y9 hn hl
end Go.Lift
