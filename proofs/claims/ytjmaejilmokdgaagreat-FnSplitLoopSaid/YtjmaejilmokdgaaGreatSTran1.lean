/- Two programs that do the same. -/
import Derived.Test.YtjmaejilmokdgaaGreatSRun1
import Derived.Test.YtjmaejilmokdgaaGreatSDraw1
import Derived.Test.YtjmaejilmokdgaaGreatSDrawD
set_option maxRecDepth 100000
set_option linter.unusedVariables false
namespace Go.Lift
open Go
theorem aJJ{n:Nat}(hn:7100≤n){p:Prog}(hp:SmP p)(hv:cL p=true):mY n p=some (f0 p.arrays):=by refine Ev.eq ?_;obtain⟨hl,hd,_⟩:=gL hv;unfold mY;refine aA (fC (by omega) hp) ?_;rw [hv];exact bY (aA (P6 (by omega) hl hd) (Ev.some rfl))
theorem aKQ{α:Type}{n:Int}(h:0≤n∧n≤1000000000)(x:α):mk n x=some (List.replicate n.toNat x):=by unfold mk;rw [if_pos h]
theorem aHE{R:Type}{Q:R→Prop}{n:Nat}(hn:5000≤n){T:Nat}(hT:T≤1000){e:Int→Int}(he: ∀i,0≤i→i<(T:Int)→0≤e i∧e i≤999){K:List Int→Option R}(hK: ∀m,m.length=T→(∀x∈m,0≤x∧x≤999)→Ev (K m) Q):
  Ev (aN (fun again (z:(List Int)×Int)=>bif decide (z.2<(z.1.length:Int)) then(Option.bind (ix z.1 z.2) fun _=>Option.bind (gX z.1 z.2 (e z.2)) fun y=>again (y,wr (z.2+1))) else(K z.1)) n (List.replicate T 0,0)) Q:=by
 refine Ev.loop (fun z:List Int×Int=>0≤z.2∧z.2≤T∧z.1.length=T∧ ∀x∈z.1,0≤x∧x≤999) (fun z=>T-z.2.toNat) ?_ n _ ⟨z8 _,by dsimp only;omega,List.length_replicate,fun x hx=>by rw [(vBa.1 hx).2];omega⟩ (by dsimp only;omega);rintro again ⟨x,i⟩ ⟨h0,h1,h2,h3⟩ hr;dsimp only at h0 h1 h2 h3⊢;refine aI (fun hlt=>?_) fun hge=>hK _ h2 h3;refine aA (aJ7 h0 (by omega)) (aA (aCi h0 (by omega) _) ?_);rw [aO (by omega)];exact hr _ ⟨by dsimp only;omega,by dsimp only;omega,by dsimp only;rw [vBb,h2],fun y hy=>by
  rcases vAX hy with hy|rfl
  ·exact h3 y hy
  exact he i h0 (by omega)⟩ (by dsimp only;omega)
theorem aLR{x:Int}(h:0≤x):0≤Int.tmod x 1000∧Int.tmod x 1000≤999:=by have h1:=vBF 1000 h;have h2:=vBw x (show(0:Int)<1000 by omega);omega
theorem aGX{p:Prog}(hv:cL p=true):0≤f0 p.arrays∧f0 p.arrays≤144:=by
 obtain⟨hl,hd,_⟩:=gL hv
 have:=aE7 hd;omega
theorem aJ2{p:Prog}{m:List Int}(hv:cL p=true)(hm:iS p.arrays m):aJb p m=(dO p m (insts p.parts),true):=by unfold aJb;rw [aJo hv hm];rfl
theorem aIn{p q:Prog}(hp:SmP p)(hq:SmP q)(hv:cL p=true)(hw:cL q=true)(ha:q.arrays=p.arrays)(h: ∀m,iS p.arrays m→dO q m (insts q.parts)=dO p m (insts p.parts)){s:Int}(hs:0≤s∧s≤1048576):uI N p q s=some true:=by
 have hN:N=100000:=rfl;have ht:=aGX hv;refine Ev.eq ?_;unfold uI;refine aA (aJJ (by omega) hp hv) (aA (aKQ ⟨by omega,by omega⟩ 0) (aHE (n:=N) (T:=(f0 p.arrays).toNat) (e:=fun i=>Int.tmod (wr ((wr ((wr (i*41))+(wr (s*17))))+3)) 1000) (K:=fun x3=>Option.bind (fV N p x3) fun x9=>Option.bind (fV N q x3) fun x10=>jn (fun(x13:Bool)=>some x13) fun j11=>bif x9.2 then(bif x10.2 then(Option.bind (pW N x9.1 x10.1) fun x12=>j11 x12) else(j11 false)) else(j11 false)) (by omega) (by omega) (fun i h0 h1=>?_) fun m h1 h2=>?_))
 ·rw [aO (n:=i*41) (by omega),aO (n:=s*17) (by omega),aO (n:=i*41+s*17) (by omega),aO (by omega)];exact aLR (by omega)
 have hmo:iS p.arrays m:=⟨by omega,h2⟩
 have hmq:iS q.arrays m:=by rw [ha];exact hmo
 have hml:=aFj hv hmo;refine aA (sZ (by omega) hp hml) (aA (sZ (by omega) hq hml) ?_);rw [aJ2 hv hmo,aJ2 hw hmq,h m hmo];have hok: ∀x∈insts p.parts,gO p x:=fun x hx=>insts_mem hx;refine Ev.jn (fun z=>z=true) (fun j hj=>b6 (b6 (aA (E7 (by omega) (aFj hv (B1 hv hok hmo))) (hj _ rfl)))) fun z hz=>Ev.some hz
theorem n6{n:Nat}(hn:7100≤n){p:Prog}(hp:SmP p)(hv:cL p=true){x:Inst}(hx:gO p x)(hl:x.point.length≤1000):gE n p x=some (rc p x,(wc p x:Int),true):=by
 refine Ev.eq ?_;unfold gE;refine Ev.jn (fun z=>z=false) (fun j hj=>?_) fun z hz=>?_
 ·refine aA (fC (by omega) hp) ?_;rw [hv];refine bY (aA (H1 (by omega) hp hl) (hj _ ?_));rw [(instB_iff hv).2 hx];rfl
 rw [hz];exact bY (aA (aBh hn hv hx) (Ev.some rfl))
theorem inst_pl{p:Prog}(hv:cL p=true){x:Inst}(hx:gO p x):x.point.length≤4:=by
 obtain⟨i,k,P,s,d,e1,e2,e3,e4,e5,e6,e7,e8⟩:=inst_d hv hx
 have:=e7.1;have:=e7.2.1;omega
theorem aFO{p q:Prog}(hp:SmP p)(hq:SmP q)(hv:cL p=true)(hw:cL q=true){σ:Inst→Inst}(hi:insts q.parts=(insts p.parts).map σ)(hc: ∀x∈insts p.parts,rc q (σ x)=rc p x∧wc q (σ x)=wc p x):rG N p q=some true:=by
 have hN:N=100000:=rfl;have hil:=(gL hv).2.2.2.2;refine Ev.eq ?_;unfold rG;refine aA (gM (by omega) hp) (aA (gM (by omega) hq) ?_);rw [if_pos hv,if_pos hw,hi];refine eC (fun h=>absurd (by rw [vAJ]) h) fun _=>?_;refine Ev.loop (fun z:Int=> ∃i:Nat,z=i∧i≤(insts p.parts).length) (fun z=>(insts p.parts).length-z.toNat) ?_ N _ ⟨0,rfl,by omega⟩ (by omega);rintro again z ⟨i,rfl,hle⟩ hr;refine aI (fun hlt=>?_) fun _=>Ev.some rfl;obtain⟨x,hg⟩: ∃x,(insts p.parts)[i]? =some x:=⟨_,eD (show i<(insts p.parts).length by omega)⟩
 have hg2:((insts p.parts).map σ)[i]? =some (σ x):=by rw [zZ,hg];rfl
 have hx:=dA hg;have hxp:=insts_mem hx;have hxq:gO q (σ x):=insts_mem (by rw [hi];exact dA hg2);have l1:=inst_pl hv hxp;have l2:=inst_pl hw hxq;refine aA (aT hg) (aA (n6 (by omega) hp hv hxp (by omega)) (aA (aT hg2) (aA (n6 (by omega) hq hw hxq (by omega)) ?_)));rw [(hc x hx).1,(hc x hx).2];have h12:=(inst_c hv hxp).2.2.1;refine Ev.jn (fun z=>z=false) (fun j hj=>eC (fun h=>(h rfl).elim) fun _=>aA (E7 (by omega) (by dsimp only;omega)) (hj _ rfl)) fun z hz=>?_;rw [hz,aO (by omega)];exact bY (hr _ ⟨i+1,by omega,by omega⟩ (by omega))
theorem O3{α β R:Type}{l:List α}{F:α→(β→Option R)→Option R}{g:α→β}{K:List β→Option R}{Q:R→Prop}{n:Nat}(hF: ∀x∈l,∀k:β→Option R,Ev (k (g x)) Q→Ev (F x k) Q)
  {s:Nat} (hs:s≤l.length) {pre:List β} (hp:pre.length≤1000) (hl:l.length≤1000) (hn:5000≤n) (hK:Ev (K (pre++(l.drop s).map g)) Q):
  Ev (aN (fun again ((x,i):List β×Int)=>bif decide (i<(l.length:Int)) then(Option.bind (ix l i) fun y=>F y fun z=>Option.bind (app x [z]) fun w=>again (w,wr (i+1))) else K x) n (pre,(s:Int))) Q:=by
 refine Ev.loop (fun z:List β×Int=> ∃i:Nat,z.2=i∧s≤i∧i≤l.length∧z.1=pre++((l.drop s).take (i-s)).map g) (fun z=>l.length-z.2.toNat) ?_ n _ ⟨s,rfl,by omega,by omega,by simp⟩ (by dsimp only;omega);rintro again ⟨x,z⟩ ⟨i,hz,hsi,hi,hx⟩ hr;dsimp only at hz hx⊢;subst hz;refine aI (fun hlt=>?_) fun hge=>?_
 ·have hg:=eD (show i<l.length by omega);have hxl:x.length≤2000:=by rw [hx,pX,vAJ,pJ,vAQ];omega
  refine aA (aT hg) (hF _ (dA hg) _ (aA (cD (by simp;omega)) ?_));rw [aO (by omega)];refine hr _ ⟨i+1,by dsimp only;omega,by omega,by omega,?_⟩ (by dsimp only;omega);dsimp only;rw [show i+1-s=(i-s)+1 by omega,K1,vAy,show s+(i-s)=i by omega,hg,hx,V2,vAG];rfl
 have:i=l.length:=by omega
 subst this;rw [hx,List.take_of_length_le (by rw [vAQ];omega)];exact hK
theorem yN{α β R:Type}{l:List α}{f:α→Option β}{g:α→β}{K:List β→Option R}{Q:R→Prop}{n:Nat}(hf: ∀x∈l,f x=some (g x))(hl:l.length≤1000)(hn:5000≤n)(hK:Ev (K (l.map g)) Q):
  Ev (aN (fun again ((x,i):List β×Int)=>bif decide (i<(l.length:Int)) then(Option.bind (ix l i) fun y=>Option.bind (f y) fun z=>Option.bind (app x [z]) fun w=>again (w,wr (i+1))) else K x) n ([],0)) Q:=
 O3 (F:=fun y k=>Option.bind (f y) k) (g:=g) (s:=0) (pre:=[]) (fun x hx k hk=>aA (hf x hx) hk) (by omega) (by simp) hl hn (by simpa using hK)
def B9(f:Affine→Affine)(a:Access):Access:=⟨a.array,a.subs.map f⟩
def aHm(f:Affine→Affine):Nat→Expr→Expr
 |0,e=>e
 |L+1,e=>⟨e.kind,e.num,if e.kind=2 then f e.index else⟨[],0⟩,if e.kind=3 then B9 f e.read else⟨[],[]⟩,e.kids.map (aHm f L)⟩
def aKR(f:Affine→Affine)(s:Stmt):Stmt:=⟨B9 f s.write,aHm f 5 s.value⟩
theorem aA7{e:Expr}{d:Int}(h:fP e d=true)(hk:e.kind=2):cZ e.index=true∧mH e.read=true:=by unfold fP bZ at h;rw [if_pos hk] at h;simp only [Bool.and_eq_true] at h;exact⟨h.2.2.1,h.2.1⟩
theorem aA6{e:Expr}{d:Int}(h:fP e d=true)(hk:e.kind=3):iI e.read d=true∧iX e.index=true:=by unfold fP at h;rw [if_neg (by omega),if_pos hk] at h;simp only [Bool.and_eq_true] at h;exact⟨h.2.2,h.2.1⟩
theorem aDV{e:Expr}{d:Int}(h:fP e d=true)(h2: ¬e.kind=2)(h3: ¬e.kind=3):iX e.index=true∧mH e.read=true:=by unfold fP at h;rw [if_neg h2,if_neg h3] at h;split at h<;>simp only [Bool.and_eq_true] at h<;>exact⟨h.2.1,h.2.2⟩
theorem yJ{a:Affine}(h:iX a=true):a=⟨[],0⟩:=by obtain⟨c,k⟩:=a;simp only [iX,Bool.and_eq_true,decide_eq_true_eq] at h;obtain⟨h1,rfl⟩:=h;rw [vAv h1]
theorem yK{a:Access}(h:mH a=true):a=⟨[],[]⟩:=by obtain⟨c,k⟩:=a;simp only [mH,Bool.and_eq_true,decide_eq_true_eq] at h;obtain⟨rfl,h1⟩:=h;rw [vAv h1]
theorem tZ{n:Nat}(hn:5000≤n){a:Access}{d:Int}(ha:iI a d=true){F:Affine→Option Affine}{f:Affine→Affine}(hF: ∀x,cZ x=true→F x=some (f x)):lW n a F=some (B9 f a):=by obtain⟨h1,h2,h3⟩:=U9 ha;refine Ev.eq ?_;unfold lW;exact yN (K:=fun x1=>some (⟨a.array,x1⟩:Access)) (fun x hx=>hF x (h3 x hx)) (by omega) hn (Ev.some rfl)
theorem yV{d:Int}{F:Affine→Option Affine}{f:Affine→Affine}(hF: ∀x,cZ x=true→F x=some (f x)): ∀(L n:Nat) (e:Expr),5000+L≤n→dV L e d=true→i_exprMap (n+1) e F=some (aHm f L e)
 |0,_,_,_,h=>by cases h
 |L+1,n,e,hn,h=>by
  obtain⟨hk,ho,hs⟩:=jT h;obtain⟨n,rfl⟩: ∃j,n=j+1:=⟨n-1,by omega⟩
  have hkl:e.kids.length≤2:=by have:=qM e.kind;omega
  unfold i_exprMap;refine Ev.eq (Ev.jn (fun z=>(⟨z.1,z.2.1⟩:Affine)=(if e.kind=2 then f e.index else⟨[],0⟩)∧(⟨z.2.2.1,z.2.2.2⟩:Access)=(if e.kind=3 then B9 f e.read else⟨[],[]⟩)) (fun j hj=>?_) fun z hz=>?_)
  ·refine aI (fun h2=>?_) fun h2=>aI (fun h3=>?_) fun h3=>?_
   ·exact aA (hF _ (aA7 ho h2).1) (hj _ ⟨by rw [if_pos h2],by rw [if_neg (by omega)]⟩)
   ·exact aA (tZ (by omega) (aA6 ho h3).1 hF) (hj _ ⟨by rw [if_neg h2],by rw [if_pos h3]⟩)
   exact hj _ ⟨by rw [if_neg h2],by rw [if_neg h3]⟩
  obtain⟨x4,x5,x6,x7⟩:=z;obtain⟨z1,z2⟩:=hz;dsimp only at z1 z2⊢;refine yN (K:=fun x8=>some (⟨e.kind,e.num,(⟨x4,x5⟩:Affine),(⟨x6,x7⟩:Access),x8⟩:Expr)) (fun x hx=>yV hF L n x (by omega) (hs x hx)) (by omega) (by omega) (Ev.some ?_);rw [z1,z2];rfl
theorem aBi{n:Nat}(hn:6000≤n){s:Stmt}{d:Int}(hs:gW s d=true){F:Affine→Option Affine}{f:Affine→Affine}(hF: ∀x,cZ x=true→F x=some (f x)):u5 n s F=some (aKR f s):=by
 obtain⟨h1,h2,_⟩:=rH hs;obtain⟨n,rfl⟩: ∃j,n=j+1:=⟨n-1,by omega⟩
 unfold u5;rw [tZ (by omega) h1 hF,yV hF 5 n s.value (by omega) h2];rfl
theorem O2{α:Type}{f:α→α}: ∀{l:List α},(∀x∈l,f x=x)→l.map f=l
 | [],_=>rfl
 |x::l,h=>by rw [List.map_cons,h x wA,O2 fun y hy=>h y (uJ _ hy)]
theorem aAk{f:Affine→Affine}{a:Access}{d:Int}(ha:iI a d=true)(hf: ∀x,cZ x=true→f x=x):B9 f a=a:=by obtain⟨h1,h2,h3⟩:=U9 ha;unfold B9;rw [O2 fun x hx=>hf x (h3 x hx)]
theorem aFk{d:Int}{f:Affine→Affine}(hf: ∀x,cZ x=true→f x=x): ∀{L:Nat} {e:Expr},dV L e d=true→aHm f L e=e
 |0,_,_=>rfl
 |L+1,e,h=>by
  obtain⟨hk,ho,hs⟩:=jT h;obtain⟨kind,num,index,read,kids⟩:=e;unfold aHm;dsimp only at hk ho hs⊢;rw [O2 fun x hx=>aFk hf (hs x hx)];by_cases h2:kind=2
  ·have e1:=aA7 ho h2;dsimp only at e1;rw [if_pos h2,if_neg (by omega),hf _ e1.1,yK e1.2]
  by_cases h3:kind=3
  ·have e1:=aA6 ho h3;dsimp only at e1;rw [if_neg h2,if_pos h3,aAk e1.1 hf,yJ e1.2]
  have e1:=aDV ho h2 h3;dsimp only at e1;rw [if_neg h2,if_neg h3,yJ e1.1,yK e1.2]
theorem aJp{f:Affine→Affine}(hf: ∀x,cZ x=true→f x=x){s:Stmt}{d:Int}(hs:gW s d=true):aKR f s=s:=by obtain⟨h1,h2,_⟩:=rH hs;unfold aKR;rw [aAk h1 hf,aFk hf h2]
def aD9(l:Loop):Prop:=(l.lo.length≤2∧ ∀x∈l.lo,cZ x=true)∧l.hi.length≤2∧ ∀x∈l.hi,cZ x=true
theorem aK6{nest:List Loop}(h:Fit nest): ∀l∈nest,aD9 l:=fun l hl=>by
 obtain⟨i,hi⟩:=vAM.1 hl
 have:=h.2 i l hi;exact⟨(tH this.1).2,(tH this.2).2⟩
theorem uX{list:List Arr}{x:Part}(h:cK list x=true):x.nest.length≤4∧ ∀l∈x.nest,aD9 l:=by have:=(aBV (lT h).1).1;exact⟨this.1,aK6 this⟩
theorem aKe{a:Affine}(h:cZ a=true):BA 4 a:=by have:=(jH h).1;unfold BA;omega
theorem aBK{l:List Affine}(h1:l.length≤2)(h2: ∀x∈l,cZ x=true):BAs 4 l:=⟨by omega,fun a ha=>aKe (h2 a ha)⟩
theorem aKd{d:Int}: ∀{L:Nat} {e:Expr},dV L e d=true→BE 4 L e
 |0,_,h=>by cases h
 |L+1,e,h=>by
  obtain⟨hk,ho,hs⟩:=jT h
  have:=qM e.kind;refine⟨by omega,?_,?_,fun k hk=>aKd (hs k hk)⟩
  ·by_cases h2:e.kind=2
   ·exact aKe (aA7 ho h2).1
   by_cases h3:e.kind=3
   ·rw [yJ (aA6 ho h3).2];unfold BA;simp
   rw [yJ (aDV ho h2 h3).1];unfold BA;simp
  by_cases h3:e.kind=3
  ·have:=U9 (aA6 ho h3).1;exact aBK this.2.1 this.2.2
  by_cases h2:e.kind=2
  ·rw [yK (aA7 ho h2).2];exact⟨by simp,fun x hx=>by cases hx⟩
  rw [yK (aDV ho h2 h3).2];exact⟨by simp,fun x hx=>by cases hx⟩
theorem aMb{s:Stmt}{d:Int}(hs:gW s d=true):BS 4 s:=by
 obtain⟨h1,h2,_⟩:=rH hs
 have:=U9 h1;exact⟨aBK this.2.1 this.2.2,aKd h2⟩
theorem aIh{list:List Arr}{x:Part}(h:cK list x=true):BPt 4 x:=by obtain⟨h1,h2⟩:=uX h;obtain⟨_,h4,h5,_⟩:=lT h;exact⟨⟨h1,fun l hl=>⟨aBK (h2 l hl).1.1 (h2 l hl).1.2,aBK (h2 l hl).2.1 (h2 l hl).2.2⟩⟩,h4.2,fun s hs=>aMb (h5 s hs)⟩
theorem aKc{l:List Arr}(h1:l.length≤4)(h2:fE l):BR 4 l:=⟨h1,fun x hx=>by have:=h2 x hx;simp only [iU,Bool.and_eq_true,decide_eq_true_eq] at this;omega⟩
theorem aIl{p:Prog}(h:cL p=true):BG 4 p:=by obtain⟨h1,h2,h3,h4,_⟩:=gL h;exact⟨aKc h1 h2,h3,fun x hx=>aIh (h4 x hx)⟩
theorem aFU(n:Nat){a:Affine}(h:a.coefs.length≤1000):fS n a=some a:=by unfold fS m_ownClone;rw [if_pos (by omega)];rfl
theorem aAa(n:Nat): ∀x,cZ x=true→fS n x=some x:=fun x hx=>aFU n (by have:=(jH hx).1;omega)
theorem N1{n:Nat}(hn:5000≤n){l:List Affine}(h1:l.length≤2)(h2: ∀x∈l,cZ x=true):e9 n l=some l:=by unfold e9;refine Ev.eq (yN (g:=fun x=>x) (K:=fun x1=>some x1) (fun x hx=>aAa n x (h2 x hx)) (by omega) hn (Ev.some ?_));simp
theorem aDW{n:Nat}(hn:5000≤n){nest:List Loop}(h1:nest.length≤4)(h2: ∀l∈nest,aD9 l):nI n nest=some nest:=by unfold nI;refine Ev.eq ?_;refine O3 (β:=Loop) (l:=nest) (n:=n) (F:=fun x5 k=>Option.bind (e9 n x5.lo) fun x6=>Option.bind (e9 n x5.hi) fun x7=>k (⟨x6,x7⟩:Loop)) (g:=fun x=>x) (s:=0) (pre:=[]) (K:=fun x1=>some x1) ?_ (by omega) (by simp) (by omega) hn (Ev.some (by simp));exact fun x hx k hk=>aA (N1 hn (h2 x hx).1.1 (h2 x hx).1.2) (aA (N1 hn (h2 x hx).2.1 (h2 x hx).2.2) hk)
theorem aDU{n:Nat}(hn:6000≤n){s:Stmt}{d:Int}(hs:gW s d=true):u6 n s=some s:=by unfold u6;rw [aBi hn hs (F:=fun q0=>fS n q0) (f:=fun x=>x) (aAa n),aJp (fun _ _=>rfl) hs];rfl
theorem M9{n:Nat}(hn:6000≤n){list:List Arr}{x:Part}(h:cK list x=true):jP n x=some x:=by obtain⟨h1,h2⟩:=uX h;obtain⟨_,h4,h5,_⟩:=lT h;unfold jP;refine Ev.eq (aA (aDW (by omega) h1 h2) (yN (g:=fun x=>x) (K:=fun x2=>some (⟨x.nest,x2⟩:Part)) (fun s hs=>aDU hn (h5 s hs)) (by omega) (by omega) (Ev.some ?_)));simp
theorem aHe{n:Nat}(hn:6000≤n){p:Prog}(h:cL p=true):gJ n p=some p:=by
 obtain⟨h1,h2,h3,h4,_⟩:=gL h;unfold gJ;refine Ev.eq (O3 (F:=fun x5 k=>Option.bind (m_ownClone x5.dims) fun x6=>k (⟨x5.name,x6⟩:Arr)) (g:=fun x=>x) (s:=0) (pre:=[]) (K:=fun x1=>aN (fun again11 ((x8,x9):(List Part)×Int)=>
    bif decide (x9<(p.parts.length:Int)) then(
     Option.bind (ix p.parts x9) fun x12=>
     Option.bind (jP n x12) fun x13=>
     Option.bind (app x8 [x13]) fun x14=>
     again11 (x14,wr (x9+1))
    ) else(
     some (⟨x1,x8⟩:Prog)
    )
   ) n ([],0)) (fun x hx k hk=>aA (x:=x.dims) ?_ hk) (by omega) (by simp) (by omega) (by omega) ?_)
 ·have:=(aKc h1 h2).2 x hx;unfold m_ownClone;rw [if_pos (by omega)]
 refine yN (g:=fun x=>x) (K:=fun x8=>some (⟨_,x8⟩:Prog)) (fun x hx=>M9 hn (h4 x hx)) (by omega) (by omega) (Ev.some ?_);simp
theorem aAg(n:Nat){a:Affine}(h:BA 1000 a):hD n a=some a:=by unfold hD;rw [fI _ h];rfl
theorem wJ{n:Nat}(hn:5000≤n){l:List Affine}(h:BAs 1000 l):dN n l=some l:=by unfold dN;exact Ev.eq (l4 (K:=fun x1=>some x1) (fun x hx=>aAg n (h.2 x hx)) h.1 hn (Ev.some rfl))
theorem aAh{n:Nat}(hn:5000≤n){a:Access}(h:BAs 1000 a.subs):hJ n a=some a:=by unfold hJ;rw [wJ hn h];rfl
theorem N5: ∀(L n:Nat) (e:Expr),5000+L≤n→BE 1000 L e→s_l16OwnExpr (n+1) e=some e
 |0,_,_,_,h=>h.elim
 |L+1,n,e,hn,h=>by
  obtain⟨h1,h2,h3,h4⟩:=h;obtain⟨n,rfl⟩: ∃j,n=j+1:=⟨n-1,by omega⟩
  unfold s_l16OwnExpr kV;rw [aAg _ h2,aAh (by omega) h3];refine Ev.eq (aA rfl (aA rfl (aA (x:=e.kids) ?_ (Ev.some (by cases e;rfl)))));exact Ev.eq (l4 (f:=s_l16OwnExpr (n+1)) (K:=fun x1=>some x1) (fun x hx=>N5 L n x (by omega) (h4 x hx)) h1 (by omega) (Ev.some rfl))
theorem aD0{n:Nat}(hn:6000≤n){s:Stmt}(h:BS 1000 s):mM n s=some s:=by
 obtain⟨n,rfl⟩: ∃j,n=j+1:=⟨n-1,by omega⟩
 unfold mM;rw [aAh (by omega) h.1,N5 5 n s.value (by omega) h.2];rfl
theorem aD2{n:Nat}(hn:6000≤n){x:Part}(h:BPt 1000 x):mN n x=some x:=by
 obtain⟨⟨h1,h2⟩,h3,h4⟩:=h;have e1:iN n x.nest=some x.nest:=by
  unfold iN;refine Ev.eq (l4 (K:=fun x1=>some x1) (fun l hl=>?_) h1 (by omega) (Ev.some rfl));unfold rN;rw [wJ (by omega) (h2 l hl).1,wJ (by omega) (h2 l hl).2];rfl
 have e2:iL n x.body=some x.body:=by
  unfold iL;exact Ev.eq (l4 (K:=fun x1=>some x1) (fun l hl=>aD0 hn (h4 l hl)) h3 (by omega) (Ev.some rfl))
 unfold mN;rw [e1,e2];rfl
theorem aD1{n:Nat}(hn:6000≤n){p:Prog}(h:BG 1000 p):jD n p=some p:=by
 obtain⟨⟨h1,h2⟩,h3,h4⟩:=h;have e1:gP n p.arrays=some p.arrays:=by
  unfold gP;refine Ev.eq (l4 (K:=fun x1=>some x1) (fun l hl=>?_) h1 (by omega) (Ev.some rfl));unfold pK;rw [fI _ (h2 l hl)];rfl
 have e2:iM n p.parts=some p.parts:=by
  unfold iM;exact Ev.eq (l4 (K:=fun x1=>some x1) (fun l hl=>aD2 hn (h4 l hl)) h3 (by omega) (Ev.some rfl))
 unfold jD;rw [e1,e2];rfl
theorem qC{α:Type}{f:α→α→Option Bool}{l:List α}(hf: ∀x∈l,f x x=some true){n:Nat}(hn:l.length<n)(hl:l.length≤1000000):
  (bif !decide ((l.length:Int)=(l.length:Int)) then(some false) else(aN (fun again2 (x1:Int)=>bif decide (x1<(l.length:Int)) then(Option.bind (ix l x1) fun x3=>Option.bind (ix l x1) fun x4=>Option.bind (f x3 x4) fun x5=>bif !x5 then(some false) else(again2 (wr (x1+1)))) else(some true)) n 0))=some true:=by
 refine Ev.eq (eC (fun h=>(h rfl).elim) fun _=>?_);refine Ev.loop (fun x:Int=> ∃i:Nat,x=i∧i≤l.length) (fun x=>l.length-x.toNat) ?_ n 0 ⟨0,rfl,by omega⟩ (by omega);rintro again x ⟨i,rfl,hi⟩ hr;refine aI (fun hlt=>?_) fun _=>Ev.some rfl;obtain⟨e,hg⟩: ∃e,l[i]? =some e:=⟨_,eD (show i<l.length by omega)⟩
 refine aA (aT hg) (aA (aT hg) (aA (hf e (dA hg)) (bY ?_)));rw [aO (by omega)];exact hr _ ⟨i+1,by omega,by omega⟩ (by omega)
theorem Y9{a:List Int}{n:Nat}(hn:a.length<n)(hl:a.length≤1000000):lU n a a=some true:=by
 unfold lU;refine Ev.eq (eC (fun h=>(h rfl).elim) fun _=>?_);refine Ev.loop (fun x:Int=> ∃i:Nat,x=i∧i≤a.length) (fun x=>a.length-x.toNat) ?_ n 0 ⟨0,rfl,by omega⟩ (by omega);rintro again x ⟨i,rfl,hi⟩ hr;refine aI (fun hlt=>?_) fun _=>Ev.some rfl;obtain⟨e,hg⟩: ∃e,a[i]? =some e:=⟨_,eD (show i<a.length by omega)⟩
 refine aA (aT hg) (aA (aT hg) (eC (fun h=>(h rfl).elim) fun _=>?_));rw [aO (by omega)];exact hr _ ⟨i+1,by omega,by omega⟩ (by omega)
theorem aFD{n:Nat}(hn:5000≤n){a:Affine}(h:BA 1000 a):cR n a a=some true:=by unfold BA at h;unfold cR;refine Ev.eq (Ev.jn (fun z=>z=true) (fun j hj=>aA (Y9 (by omega) (by omega)) (b6 (hj _ (decide_eq_true rfl)))) fun z hz=>Ev.some hz)
theorem U8{n:Nat}(hn:5000≤n){l:List Affine}(h:BAs 1000 l):dP n l l (fun q0 q1=>cR n q0 q1)=some true:=by have:=h.1;unfold dP;exact qC (fun x hx=>aFD hn (h.2 x hx)) (by omega) (by omega)
theorem aFE{n:Nat}(hn:5000≤n){a:Access}(h:BAs 1000 a.subs):kE n a a=some true:=by unfold kE;refine Ev.eq (Ev.jn (fun z=>z=true) (fun j hj=>?_) fun z hz=>Ev.some hz);exact aI (fun _=>aA (U8 hn h) (hj _ rfl)) fun h=>(h rfl).elim
theorem aCO: ∀(L n:Nat) (e:Expr),5000+L≤n→BE 1000 L e→i_exprSame (n+1) e e=some true
 |0,_,_,_,h=>h.elim
 |L+1,n,e,hn,h=>by
  obtain⟨h1,h2,h3,h4⟩:=h;obtain⟨n,rfl⟩: ∃j,n=j+1:=⟨n-1,by omega⟩
  unfold i_exprSame;refine Ev.eq (Ev.jn (fun z=>z=true) (fun j hj=>?_) fun z hz=>Ev.some hz);refine aI (fun _=>aI (fun _=>aA (aFD (by omega) h2) (b6 (aA (aFE (by omega) h3) (b6 (aA (x:=true) ?_ (hj _ rfl)))))) fun h=>(h rfl).elim) fun h=>(h rfl).elim;unfold lD;exact qC (fun x hx=>aCO L n x (by omega) (h4 x hx)) (by omega) (by omega)
theorem aGY{n:Nat}(hn:6000≤n){s:Stmt}(h:BS 1000 s):n4 n s s=some true:=by
 obtain⟨n,rfl⟩: ∃j,n=j+1:=⟨n-1,by omega⟩
 unfold n4;refine Ev.eq (Ev.jn (fun z=>z=true) (fun j hj=>?_) fun z hz=>Ev.some hz);exact aA (aFE (by omega) h.1) (b6 (aA (aCO 5 n s.value (by omega) h.2) (hj _ rfl)))
theorem aHi{n:Nat}(hn:5000≤n){nest:List Loop}(h:BN 1000 nest):sB n nest nest=some true:=by
 have:=h.1;unfold sB lC;rw [qC (fun l hl=>?_) (by omega) (by omega)]
 ·rfl
 unfold mV;refine Ev.eq (Ev.jn (fun z=>z=true) (fun j hj=>?_) fun z hz=>Ev.some hz);exact aA (U8 hn (h.2 l hl).1) (b6 (aA (U8 hn (h.2 l hl).2) (hj _ rfl)))
theorem aHc{n:Nat}(hn:6000≤n){x:Part}(h:BPt 1000 x):gB n x x=some true:=by have:=h.2.1;unfold gB;refine Ev.eq (Ev.jn (fun z=>z=true) (fun j hj=>?_) fun z hz=>Ev.some hz);refine aA (aHi (by omega) h.1) (b6 (aA (x:=true) ?_ (hj _ rfl)));unfold lA;exact qC (fun s hs=>aGY hn (h.2.2 s hs)) (by omega) (by omega)
theorem aHb{n:Nat}(hn:6000≤n){p:Prog}(h:BG 1000 p):fK n p p=some true:=by
 obtain⟨⟨h1,h2⟩,h3,h4⟩:=h;unfold fK;refine Ev.eq (Ev.jn (fun z=>z=true) (fun j hj=>?_) fun z hz=>Ev.some hz);refine aA (x:=true) ?_ (b6 (aA (x:=true) ?_ (hj _ rfl)))
 ·unfold kC;refine qC (fun x hx=>?_) (by omega) (by omega);unfold gC;refine Ev.eq (Ev.jn (fun z=>z=true) (fun j hj=>?_) fun z hz=>Ev.some hz)
  have:=h2 x hx;exact aI (fun _=>aA (Y9 (by omega) (by omega)) (hj _ rfl)) fun h=>(h rfl).elim
 unfold lB;exact qC (fun x hx=>aHc hn (h4 x hx)) (by omega) (by omega)
def sC(p:Prog)(part loop:Int):Bool:=cL p&&match ix p.parts part with
 |some x=>decide (0≤loop∧loop<(x.nest.length:Int))
 |none=>false
theorem aJ6{α:Type}{l:List α}{i:Int}(h: ¬(0≤i∧i<(l.length:Int))):ix l i=none:=by
 cases hx:ix l i with
 |none=>rfl
 |some x=>
  obtain⟨h1,h2⟩:=rW hx
  have:=(cP.1 h2).1;exact absurd ⟨h1,by omega⟩ h
theorem aKX{α:Type}{l:List α}{i:Int}{x:α}(h:ix l i=some x): ∃k:Nat,i=k∧k<l.length∧l[k]? =some x:=by obtain⟨h1,h2⟩:=rW h;exact⟨i.toNat,by omega,(cP.1 h2).1,h2⟩
theorem aF3(n:Nat){p:Prog}(h:p.parts.length≤1000)(part:Int):fQ n p part=some (decide (0≤part∧part<(p.parts.length:Int))):=by unfold fQ;rw [dM,aO (by omega)];exact congrArg some (decide_eq_decide.2 (by omega))
def Q6(q:Prog):Prog×Bool:=if cL q=true then(q,true) else(⟨[],[]⟩,false)
theorem aCN{n:Nat}(hn:7000≤n){p:Prog}(hp:BG 1000 p):nX n p=some (Q6 p):=by
 unfold nX Q6;refine Ev.eq (aA (fC hn hp.sm) (Ev.cond (fun h=>Ev.some ?_) fun h=>?_))
 ·rw [if_neg (by simpa using h)]
 have hv:cL p=true:=by simpa using h
 rw [if_pos hv];exact aA (aHe (by omega) hv) (Ev.some rfl)
theorem aK2{n:Nat}(hn:7000≤n){p:Prog}(hp:BG 1000 p)(part loop:Int):I3 n p part loop=some (sC p part loop):=by
 unfold I3;refine Ev.eq (Ev.jn (fun z=>z=sC p part loop) (fun j hj=>?_) fun z hz=>Ev.some hz);refine aA (jV hn hp.sm) (Ev.cond (fun hv=>?_) fun hv=>hj _ (by unfold sC;rw [hv];rfl));refine aI (fun h1=>aI (fun h2=>?_) fun h2=>?_) fun h1=>?_
 ·obtain⟨x,hx,hx2⟩:=jA h1 h2;refine aI (fun h3=>aA hx (hj _ ?_)) fun h3=>hj _ ?_
  ·unfold sC;rw [hv,hx];exact decide_eq_decide.2 (by omega)
  unfold sC;rw [hv,hx];exact(decide_eq_false (by omega)).symm
 ·exact hj _ (by unfold sC;rw [aJ6 (by omega),vBj])
 exact hj _ (by unfold sC;rw [aJ6 (by omega),vBj])
def bB(m:Int)(a:Affine):Prop:=a.coefs.length=4∧E8 m a.const∧ ∀c∈a.coefs,E8 m c
theorem bB.mono{m m':Int}{a:Affine}(h:bB m a)(hm:m≤m'):bB m' a:=⟨h.1,⟨by have:=h.2.1.1;omega,by have:=h.2.1.2;omega⟩,fun c hc=>⟨by have:=(h.2.2 c hc).1;omega,by have:=(h.2.2 c hc).2;omega⟩⟩
theorem aMz{l:List Int}(h:l.length=4): ∃a b c d,l=[a,b,c,d]:=by
 match l,h with
 | [a,b,c,d],_=>exact⟨a,b,c,d,rfl⟩
def noP:Prog×Bool:=(⟨[],[]⟩,false)
theorem aBl{p:Prog}{part loop:Int}(h:sC p part loop=true):cL p=true∧ ∃(i k:Nat) (P:Part) (l:Loop),part=i∧loop=k∧p.parts[i]? =some P∧P.nest[k]? =some l∧i<p.parts.length∧k<P.nest.length∧cK p.arrays P=true∧k<4:=by
 unfold sC at h;rw [vBB] at h;obtain⟨hv,h⟩:=h;refine⟨hv,?_⟩;cases hx:ix p.parts part with
 |none=>rw [hx] at h;cases h
 |some P=>
  rw [hx] at h;obtain⟨i,rfl,hi,hP⟩:=aKX hx;obtain⟨h1,h2⟩:=of_decide_eq_true h;obtain⟨l,hl,hl2⟩:=jA h1 h2;have hok:=(gL hv).2.2.2.1 P (dA hP)
  have:=(uX hok).1;exact⟨i,loop.toNat,P,l,rfl,by omega,hP,hl2,hi,by omega,hok,by omega⟩
theorem take_set{α:Type}{l r:List α}{k:Nat}{x y:α}(h:l[k]? =some x):(l.take (k+1)++r).set k y=l.take k++y::r:=by have hk:=(cP.1 h).1;rw [K1,h,vAG,List.set_append_right _ _ (by simp;omega),pJ,Nat.min_eq_left (by omega),Nat.sub_self];rfl
theorem aJE{q:Prog}(h:BG 1000 q):BG 1000 (Q6 q).1:=by
 unfold Q6;split
 ·exact h
 exact⟨⟨by simp,fun x hx=>by cases hx⟩,by simp,fun x hx=>by cases hx⟩
theorem aHh:BG 1000 noP.1:=⟨⟨by simp [noP],fun x hx=>by cases hx⟩,by simp [noP],fun x hx=>by cases hx⟩
def kA(k:Nat)(s:Int):Affine:=⟨[0,0,0,0].set k s,0⟩
theorem aK5{B:Option Bool}{a b:Int}(h:b≤1048576→Ev B fun r=>r=true):Ev (jn (fun(x2:Bool)=>bif x2 then(some true) else B) fun j1=>bif decide ((1048576:Int)<a) then(j1 true) else(j1 (decide ((1048576:Int)<b)))) (fun r=>r=true):=by exact Ev.jn (fun z=>z=false→b≤1048576) (fun j hj=>aI (fun _=>hj _ fun h=>by cases h) fun _=>hj _ fun h=>by have:=of_decide_eq_false h;omega) fun z hz=>Ev.cond (fun _=>Ev.some rfl) fun h0=>h (hz h0)
theorem aK4{I S:Option (Prog×Bool)}{REST:Prog×Bool→Prog×Bool→Option Bool}{R:Prog×Bool}(hR:BG 1000 R.1)(h1:I=some R)(h2:S=some R)(hb:R.2=true→Ev (REST R R) fun r=>r=true):
  Ev (Option.bind I fun x4=>Option.bind S fun x5=>jn (fun(x8:Bool)=>
    bif x8 then(
     jn (fun(x11:Bool)=>
      some x11
     ) (fun j9=>
      bif(x4.2==x5.2) then(
       Option.bind (fK N x4.1 x5.1) fun x10=>
       j9 x10
      ) else(
       j9 false
      )
     )
    ) else(
     REST x4 x5
    )
   ) (fun j6=>
    bif !(x4.2==x5.2) then(
     j6 true
    ) else(
     Option.bind (fK N x4.1 x5.1) fun x7=>
     bif !x7 then(
      j6 true
     ) else(
      j6 (!x4.2)
     )
    )
   )) (fun r=>r=true):=by
 have hN:N=100000:=rfl;have hs:=aHb (n:=N) (by omega) hR;have he:(R.2==R.2)=true:=by cases R.2<;>rfl
 refine aA h1 (aA h2 (Ev.jn (fun z=>z= !R.2) (fun j hj=>?_) fun z hz=>?_))
 ·rw [he];exact bY (aA hs (bY (hj _ rfl)))
 subst hz;cases hr:R.2 with
 |false=>exact b6 (Ev.jn (fun z=>z=true) (fun j hj=>b6 (aA hs (hj _ rfl))) fun z hz=>Ev.some hz)
 |true=>exact bY (hb hr)
theorem aK7{p q:Prog}(h:Q6 p=(q,true)):q=p∧cL p=true:=by
 unfold Q6 at h;split at h
 ·rename_i hv;cases h;exact⟨rfl,hv⟩
 cases h
def low(k:Nat)(b:Affine):Prop:= ∀j,k≤j→b.coefs.getD j 0=0
theorem tT{list:List Arr}{x:Part}(h:cK list x=true):cQ x=pts x.nest []:=(aBV (lT h).1).2.2.2.1
def isP(p:Prog)(a:Int):Bool:=decide (0≤a∧a<(p.parts.length:Int))
theorem aD4{b:Bool}(h:(!b)=true):b=false:=by cases b with
 |false=>rfl
 |true=>cases h
theorem aD5{b:Bool}(h:(!b)=false):b=true:=by cases b with
 |false=>cases h
 |true=>rfl
theorem instP_rho{i j:Nat}{P:Part}{σ:Inst→Inst}(h: ∀s q,σ ⟨(i:Int),s,q⟩=⟨(j:Int),s,q⟩):(instP i P).map σ=instP j P:=by unfold instP;rw [List.map_flatMap,List.flatMap_def,List.flatMap_def];congr 1;refine vBD fun q _=>?_;rw [vBA];exact vBD fun t _=>h _ _
theorem insts_cons(P:Part)(ps:List Part):insts (P::ps)=instP 0 P++(insts ps).map (kR 1):=by
 have h1:=insts_app [P] ps;have h2:insts [P]=instP 0 P:=by unfold insts;simp
 rw [h2] at h1;exact h1
theorem insts_two(A C:List Part)(P1 P2:Part):insts (A++P1::P2::C)=insts A++(instP A.length P1++(instP (A.length+1) P2++((insts C).map (kR 1)).map fun x=>kR A.length (kR 1 x))):=by
 rw [insts_app,insts_cons,insts_cons,V2,V2,V2];congr 2
 ·exact instP_rho fun s q=>by unfold kR;simp
 rw [vBA,vBA];congr 1;exact instP_rho fun s q=>by unfold kR;simp<;>omega
theorem insts_lt{ps:List Part}{x:Inst}(h:x∈insts ps):0≤x.part∧x.part<(ps.length:Int):=by
 obtain⟨i,k,P,s,e1,_,e3,_⟩:=insts_mem h
 have:=(cP.1 e3).1;omega
theorem aIj{p:Prog}(hv:cL p=true){x:Inst}(hx:gO p x): ∀{Y:List Inst} {m:List Int},(∀y∈Y,gO p y)→(∀y∈Y,com p x y)→iS p.arrays m→dO p (kX p m x) Y=kX p (dO p m Y) x
 | [],m,_,_,_=>rfl
 |y::Y,m,h1,h2,hm=>by show dO p (kX p (kX p m x) y) Y=kX p (dO p (kX p m y) Y) x;rw [h2 y wA m hm];exact aIj hv hx (fun z hz=>h1 z (uJ _ hz)) (fun z hz=>h2 z (uJ _ hz)) (I6 hv hm (h1 y wA))
theorem block{p:Prog}(hv:cL p=true): ∀{X Y:List Inst} {m:List Int},(∀x∈X,gO p x)→(∀y∈Y,gO p y)→(∀x∈X,∀y∈Y,com p x y)→iS p.arrays m→dO p (dO p m X) Y=dO p (dO p m Y) X
 | [],Y,m,_,_,_,_=>rfl
 |x::X,Y,m,h1,h2,h3,hm=>by show dO p (dO p (kX p m x) X) Y=dO p (kX p (dO p m Y) x) X;rw [block hv (fun z hz=>h1 z (uJ _ hz)) h2 (fun z hz=>h3 z (uJ _ hz)) (I6 hv hm (h1 x wA)),aIj hv (h1 x wA) h2 (h3 x wA) hm]
def vF(p:Prog)(i many:Nat)(ys:List Part):Prog:=⟨p.arrays,p.parts.take i++ys++p.parts.drop (i+many)⟩
theorem aA4{p:Prog}(hp:BG 900 p){i many:Nat}{ys:List Part}(h1:ys.length≤4)(h2: ∀y∈ys,BPt 1000 y):BG 1000 (vF p i many ys):=by
 have hpl:=hp.2.1;refine⟨(hp.mono (show 900≤1000 by omega)).1,?_,fun x hx=>?_⟩
 ·show(p.parts.take i++ys++p.parts.drop (i+many)).length≤1000;simp only [List.length_append,List.length_take,List.length_drop];omega
 have hx:x∈p.parts.take i++ys++p.parts.drop (i+many):=hx;simp only [List.mem_append] at hx;rcases hx with (h|h)|h
 ·exact(hp.mono (show 900≤1000 by omega)).2.2 x (V6 h)
 ·exact h2 x h
 exact(hp.mono (show 900≤1000 by omega)).2.2 x (vAx h)
theorem aGG{n:Nat}(hn:7000≤n){p:Prog}(hp:BG 900 p){i many:Nat}(hi:i+many≤p.parts.length){ys:List Part}(h1:ys.length≤4)(h2: ∀y∈ys,BPt 1000 y):xL n p (i:Int) (many:Int) ys=some (Q6 (vF p i many ys)):=by
 have hpl:=hp.2.1;have hp':=hp.mono (show 900≤1000 by omega);have hq:=aA4 hp (i:=i) (many:=many) h1 h2;unfold xL Q6;refine Ev.eq (aA (t1 (by omega) hp') (aA (wB (by omega) (by omega) (by omega)) ?_));rw [vAE,show(0:Int).toNat=0 from rfl,List.drop_zero];refine aA (x:=p.parts.take i) (cD (by simp;omega)) (aA (x:=p.parts.take i++ys) (cD (by simp;omega)) ?_);rw [aO (by omega)];refine aA (wB (by omega) (by omega) (by omega)) ?_;rw [vAE,vN,show((i:Int)+(many:Int)).toNat=i+many by omega];refine aA (x:=(vF p i many ys).parts) ?_ ?_;rotate_left;show Ev (Option.bind (dW n (vF p i many ys)) _) _;refine(aA (jV hn hq.sm) (Ev.cond (fun h=>Ev.some ?_) fun h=>?_))
 ·rw [if_neg (by simpa using h)]
 ·rw [if_pos (by simpa using h)];exact aA (t1 (by omega) hq) (Ev.some rfl)
 rw [cD (by simp;omega)];rfl
theorem aGj{n:Nat}(hn:7000≤n){p:Prog}(hp:BG 1000 p)(part:Int):yW n p part (-1)=some (if cL p=true∧isP p part=true then(p,true) else noP):=by
 unfold yW;refine Ev.eq (Ev.jn (fun z=>z= !(cL p&&isP p part)) (fun j hj=>?_) fun z hz=>?_)
 ·refine aA (fC hn hp.sm) (Ev.cond (fun h=>hj _ (by rw [aD4 h];rfl)) fun h=>?_);have hv:=aD5 h;refine aA (aF3 n hp.2.1 part) (Ev.cond (fun h2=>hj _ ?_) fun h2=>eC (fun h=>(h rfl).elim) fun _=>hj _ ?_)
  ·rw [hv,show isP p part=false from aD4 h2];rfl
  rw [hv,show isP p part=true from aD5 h2];rfl
 subst hz;refine Ev.cond (fun h=>Ev.some ?_) fun h=>?_
 ·have:=aD4 h;rw [if_neg fun hc=>by rw [hc.1,hc.2] at this;cases this];rfl
 have:=aD5 h;simp only [Bool.and_eq_true] at this;obtain⟨hv,hi⟩:=this;rw [if_pos ⟨hv,hi⟩];have hi':0≤part∧part<(p.parts.length:Int):=of_decide_eq_true hi;obtain⟨x,hx,_⟩:=jA hi'.1 hi'.2;exact aA (aHe (by omega) hv) (aA hx (Ev.some rfl))
def atQ(i:Int)(k:Nat)(q:List Int):List Inst:=(List.range k).map fun(k:Nat)=>(⟨i,(k:Int),q⟩:Inst)
theorem insts_one(A C:List Part)(P:Part):insts (A++P::C)=insts A++(instP A.length P++((insts C).map (kR 1)).map (kR A.length)):=by rw [insts_app,insts_cons,V2];congr 2;exact instP_rho fun s q=>by unfold kR;simp
theorem instP_atQ(i:Nat)(P:Part):instP i P=(cQ P).flatMap (atQ (i:Int) P.body.length):=rfl
theorem tW{α β γ:Type}{f:α→List β}{g:β→γ}{h:α→List γ}: ∀{l:List α},(∀x∈l,(f x).map g=h x)→(l.flatMap f).map g=l.flatMap h
 | [],_=>rfl
 |x::l,hx=>by rw [vBq,vBq,V2,hx x wA,tW fun y hy=>hx y (uJ _ hy)]
theorem yG{p:Prog}{i many:Nat}{ys:List Part}(hi:i+many≤p.parts.length)(j:Nat):(vF p i many ys).parts[j]? =if j<i then p.parts[j]? else if j<i+ys.length then ys[j-i]? else p.parts[j-ys.length+many]? :=by
 show(p.parts.take i++ys++p.parts.drop (i+many))[j]? =_;have ht:(p.parts.take i).length=i:=by rw [pJ];omega
 rw [vAG];by_cases h1:j<i
 ·rw [if_pos h1,K2 (by omega),z7,if_pos h1]
 rw [if_neg h1,Y4 (by omega),ht];by_cases h2:j<i+ys.length
 ·rw [if_pos h2,K2 (by omega)]
 rw [if_neg h2,Y4 (by omega),vAy];congr 1;omega
theorem aCg{p q:Prog}(ha:q.arrays=p.arrays){σ:Inst→Inst}: ∀{l:List Inst} {m:List Int},(∀x∈l,iT q (σ x)=iT p x∧(σ x).point=x.point)→dO q m (l.map σ)=dO p m l
 | [],m,_=>rfl
 |x::l,m,h=>by
  obtain⟨h1,h2⟩:=h x wA;have e:kX q m (σ x)=kX p m x:=by unfold kX;rw [h1,h2,ha]
  show dO q (kX q m (σ x)) (l.map σ)=dO p (kX p m x) l;rw [e];exact aCg ha fun y hy=>h y (uJ _ hy)
theorem aJS{i:Int}{k:Nat}{q:List Int}{x:Inst}(h:x∈atQ i k q):x.part=i∧x.point=q∧0≤x.stmt∧x.stmt<(k:Int):=by
 unfold atQ at h;obtain⟨j,hj,rfl⟩:=vAW.1 h
 have:=List.mem_range.1 hj;exact⟨rfl,rfl,by dsimp only;omega,by dsimp only;omega⟩
theorem aJy{n:Nat}{s:List Part}{i:Nat}{v:List Part}(h1:i≤s.length)(h2:s.length+v.length≤1000000000):iZ n s (i:Int) v=some (s.take i++v++s.drop i):=by unfold iZ;rw [decide_eq_true (show(0:Int)≤(i:Int) by omega),decide_eq_true (show(i:Int)≤(s.length:Int) by omega),cond_true,cond_true,vAE];exact cD (by simp only [List.length_append,List.length_take,List.length_drop];omega)
theorem aCT(code:List UInt8):Ev (eY N code) (fun x=>BG 1000 x.1∧ -1≤x.2.1∧x.2.1≤9):=by have hN:N=100000:=rfl;unfold eY;refine aK (aJg code) fun x1 r1=>aK (P:=fun x=>BG 1000 x.1∧ -1≤x.2.1∧x.2.1≤9) ?_ fun x2 h2=>Ev.some h2;unfold L6;refine aK (aFZ r1 (by omega)) fun x1 ⟨h1,r1⟩=>aK (aJm (by omega) r1 (by omega) h1) fun x2 ⟨h2,r2⟩=>aK (iR N r2 (by omega) (by simp)) fun x3 ⟨m3,r3⟩=>aK (iR N r3 (by omega) (by simp)) fun x4 ⟨_,r4⟩=>aK (iR N r4 (by omega) (by simp)) fun x5 _=>Ev.some ⟨h2.mono (show 30≤1000 by omega),?_⟩;simp at m3;dsimp only;omega
def zA(c:Int):Affine:=⟨[0,0,0,0],c⟩
def lZ(l:List Affine):Bool:=l.all fun a=>decide (dE a.coefs=0)
def oP(l:Loop):Bool:=decide (l.lo.length=1)&&(decide (l.hi.length=1)&&(lZ l.lo&&lZ l.hi))
def iY(l:List Affine):Int:=(l.headD ⟨[],0⟩).const
theorem O8{n:Nat}(hn:5000≤n){l:List Affine}(h1:l.length≤2)(h2: ∀x∈l,cZ x=true):qR n l=some (lZ l):=by
 unfold qR;rw [mC (p:=fun a=>decide (0<(dE a.coefs:Int))) (fun x hx=>by
  unfold o9;rw [wO hn (show x.coefs.length≤1000 by have:=(jH (h2 x hx)).1;omega)];rfl) (by omega) (by omega)]
 show some (!l.any _)=_;congr 1;unfold lZ;rw [List.not_any_eq_all_not];congr 1;funext a;by_cases h:dE a.coefs=0
 ·simp [h]
 have:0<(dE a.coefs:Int):=by omega
 simp [h];omega
theorem aHC{n:Nat}(hn:5000≤n){l:Loop}(h:aD9 l):mX n l=some (if oP l=true then(iY l.lo,iY l.hi,true) else(0,0,false)):=by
 obtain⟨⟨h1,h2⟩,h3,h4⟩:=h;unfold mX;refine Ev.eq (Ev.jn (fun z=>z= !oP l) (fun j hj=>?_) fun z hz=>?_)
 ·refine eC (fun h=>hj _ ?_) fun h=>eC (fun h'=>hj _ ?_) fun h'=>aA (O8 hn h1 h2) (Ev.cond (fun h5=>hj _ ?_) fun h5=>aA (O8 hn h3 h4) (hj _ ?_))
  ·unfold oP;rw [decide_eq_false (show¬l.lo.length=1 by omega)];rfl
  ·unfold oP;rw [decide_eq_false (show¬l.hi.length=1 by omega),Bool.false_and,vBj];rfl
  ·unfold oP;rw [show lZ l.lo=false by simpa using h5];simp
  unfold oP;rw [show lZ l.lo=true by simpa using h5,decide_eq_true (show l.lo.length=1 by omega),decide_eq_true (show l.hi.length=1 by omega)];rfl
 subst hz;cases hf:oP l with
 |false=>exact b6 (Ev.some rfl)
 |true=>
  refine bY ?_;unfold oP at hf;simp only [Bool.and_eq_true,decide_eq_true_eq] at hf;obtain⟨e1,e2,_⟩:=hf;obtain⟨x,hx⟩:=vBd.1 e1;obtain⟨y,hy⟩:=vBd.1 e2;rw [hx,hy];exact aA (x:=x) rfl (aA (x:=y) rfl (Ev.some rfl))
theorem aJC{n:Nat}(hn:5000≤n){l:Loop}(h:aD9 l):xX n l=some (lZ l.lo&&lZ l.hi):=by
 obtain⟨⟨h1,h2⟩,h3,h4⟩:=h;have hd: ∀x,cZ x=true→iK n x=some (dE x.coefs:Int):=fun x hx=>rO hn (show x.coefs.length≤1000 by have:=(jH hx).1;omega);have hall: ∀(l:List Affine) (i:Nat) (x:Affine),l[i]? =some x→dE x.coefs=0→lZ (l.take i)=true→lZ (l.take (i+1))=true:=fun l i x hx h0 hf=>by
  unfold lZ at hf⊢;rw [K1,hx,List.all_append,hf];simp [h0]
 have hno: ∀(l:List Affine) (i:Nat) (x:Affine),l[i]? =some x→ ¬dE x.coefs=0→lZ l=false:=fun l i x hx h0=>by
  unfold lZ;rw [vAD];exact⟨x,dA hx,by simp [h0]⟩
 unfold xX;refine Ev.eq (Ev.loop (fun z:Int=> ∃i:Nat,z=i∧i≤l.lo.length∧lZ (l.lo.take i)=true) (fun z=>l.lo.length-z.toNat) ?_ n _ ⟨0,rfl,by omega,rfl⟩ (by omega));rintro again z ⟨i,rfl,hi,hf⟩ hr;refine aI (fun hlt=>?_) fun hge=>?_
 ·have hlt:i<l.lo.length:=by omega
  have hx:=eD hlt;refine aA (aT hx) (aA (hd _ (h2 _ (vBk hlt))) (aI (fun h0=>Ev.some ?_) fun h0=>?_))
  ·rw [hno l.lo i _ hx (by omega)];rfl
  rw [aO (by omega)];exact hr _ ⟨i+1,by omega,by omega,hall _ _ _ hx (by omega) hf⟩ (by omega)
 have e:i=l.lo.length:=by omega
 subst e;rw [vN] at hf;rw [hf,vAO];refine Ev.loop (fun z:Int=> ∃i:Nat,z=i∧i≤l.hi.length∧lZ (l.hi.take i)=true) (fun z=>l.hi.length-z.toNat) ?_ n _ ⟨0,rfl,by omega,rfl⟩ (by omega);rintro again z ⟨i,rfl,hi,hf⟩ hr;refine aI (fun hlt=>?_) fun hge=>Ev.some ?_
 ·have hlt:i<l.hi.length:=by omega
  have hx:=eD hlt;refine aA (aT hx) (aA (hd _ (h4 _ (vBk hlt))) (aI (fun h0=>Ev.some ?_) fun h0=>?_))
  ·exact(hno l.hi i _ hx (by omega)).symm
  rw [aO (by omega)];exact hr _ ⟨i+1,by omega,by omega,hall _ _ _ hx (by omega) hf⟩ (by omega)
 have e:i=l.hi.length:=by omega
 subst e;rw [vN] at hf;exact hf.symm
theorem aGg{n:Nat}(hn:5000≤n){l:Loop}(h:aD9 l):uN n l=some (if oP l=true then(iY l.lo,iY l.hi,true) else(0,0,false)):=by
 unfold uN;refine Ev.eq (Ev.jn (fun z=>z= !oP l) (fun j hj=>?_) fun z hz=>?_)
 ·refine eC (fun h5=>hj _ ?_) fun h5=>eC (fun h6=>hj _ ?_) fun h6=>aA (aJC hn h) (hj _ ?_)
  ·unfold oP;rw [decide_eq_false (show¬l.lo.length=1 by omega)];rfl
  ·unfold oP;rw [decide_eq_false (show¬l.hi.length=1 by omega),Bool.false_and,vBj];rfl
  unfold oP;rw [decide_eq_true (show l.lo.length=1 by omega),decide_eq_true (show l.hi.length=1 by omega)];rfl
 subst hz;cases hf:oP l with
 |false=>exact b6 (Ev.some rfl)
 |true=>
  refine bY ?_;unfold oP at hf;simp only [Bool.and_eq_true,decide_eq_true_eq] at hf;obtain⟨e1,e2,_⟩:=hf;obtain⟨x,hx⟩:=vBd.1 e1;obtain⟨y,hy⟩:=vBd.1 e2;rw [hx,hy];exact aA (x:=x) rfl (aA (x:=y) rfl (Ev.some rfl))
theorem aCL{l:Loop}(h:aD9 l)(hf:oP l=true): ∃a b,l=⟨[a],[b]⟩∧a=zA (iY l.lo)∧b=zA (iY l.hi)∧E8 99 (iY l.lo)∧E8 99 (iY l.hi):=by
 obtain⟨⟨h1,h2⟩,h3,h4⟩:=h;unfold oP at hf;simp only [Bool.and_eq_true,decide_eq_true_eq] at hf;obtain⟨e1,e2,f1,f2⟩:=hf;obtain⟨lo,hi⟩:=l;dsimp only at*;obtain⟨x,hx⟩:=vBd.1 e1;obtain⟨y,hy⟩:=vBd.1 e2;subst hx;subst hy;have key: ∀z:Affine,cZ z=true→lZ [z]=true→z=zA z.const:=fun z hz hf=>by
  obtain⟨g1,_,_⟩:=jH hz;obtain⟨a,b,c,d,e⟩:=aMz g1;obtain⟨cs,k0⟩:=z;dsimp only at e;subst e;unfold lZ at hf;simp only [List.all_cons,List.all_nil,Bool.and_true,decide_eq_true_eq] at hf;have h0:=l3 (l:=[a,b,c,d]) (i:=0) rfl (by omega);have h1:=l3 (l:=[a,b,c,d]) (i:=1) rfl (by omega);have h2:=l3 (l:=[a,b,c,d]) (i:=2) rfl (by omega);have h3:=l3 (l:=[a,b,c,d]) (i:=3) rfl (by omega);rw [h0,h1,h2,h3];rfl
 exact⟨x,y,rfl,key x (h2 x (by simp)) f1,key y (h4 y (by simp)) f2,(jH (h2 x (by simp))).2.1,(jH (h4 y (by simp))).2.1⟩
theorem aHG(c:Int)(p:List Int):fD (zA c) p=c:=by
 unfold fD zA
 match p with
 | []=>simp [X0]
 | [a]=>simp [X0]
 | [a,b]=>simp [X0]
 | [a,b,d]=>simp [X0]
 |a::b::d::e::r=>simp [X0]
theorem aFb{a b:Int}(h1:a≤b): ∀n:Nat,jI a b++jI b (b+n)=jI a (b+n)
 |0=>by rw [show b+((0:Nat):Int)=b by omega,gQ (z8 b),List.append_nil]
 |n+1=>by rw [show b+((n+1:Nat):Int)=b+n+1 by omega,jX (show b≤b+(n:Int) by omega),jX (show a≤b+(n:Int) by omega),←vAG,aFb h1 n]
theorem aG4{a b c:Int}(h1:a≤b)(h2:b≤c):jI a b++jI b c=jI a c:=by
 have:=aFb h1 (c-b).toNat
 rwa [show b+(((c-b).toNat:Nat):Int)=c by omega] at this
def oK(P:Part)(a b:Int):Part:=⟨(⟨[zA a],[zA b]⟩:Loop)::P.nest.drop 1,P.body⟩
def wC(p:Prog)(part c:Int):Prog×Bool:=
 match ix p.parts part with
 |some P=>match ix P.nest 0 with
  |some l=>if sC p part 0=true∧oP l=true∧iY l.lo≤c∧c≤iY l.hi then Q6 (vF p part.toNat 1 [oK P (iY l.lo) c,oK P c (iY l.hi)]) else noP
  |none=>noP
 |none=>noP
theorem pZ{p:Prog}{part c:Int}(h:sC p part 0≠true):wC p part c=noP:=by
 unfold wC;split
 ·split
  ·rw [if_neg fun hc=>h hc.1]
  rfl
 rfl
theorem I9{α:Type}{l:List α}{x:α}(h:l[0]? =some x):ix l 0=some x:=aT h
theorem uK{p:Prog}{i:Nat}{P:Part}{l:Loop}(hP:p.parts[i]? =some P)(hl:P.nest[0]? =some l)(c:Int):
  wC p (i:Int) c=if sC p (i:Int) 0=true∧oP l=true∧iY l.lo≤c∧c≤iY l.hi then Q6 (vF p i 1 [oK P (iY l.lo) c,oK P c (iY l.hi)]) else noP:=by unfold wC;rw [aT hP];dsimp only;rw [I9 hl];rfl
theorem aJ1{list:List Arr}{P:Part}(hP:cK list P=true)(a b:Int):BPt 4 (oK P a b):=by
 obtain⟨b1,b2,b3⟩:=aIh hP;have hz: ∀c,BA 4 (zA c):=fun c=>by unfold BA zA;simp
 have:=b1.1;refine⟨⟨by simp only [oK,List.length_cons,List.length_drop];omega,fun y hy=>?_⟩,b2,b3⟩;rcases s6.1 hy with rfl|hy
 ·exact⟨⟨by simp,fun a ha=>by simp at ha;subst ha;exact hz _⟩,by simp,fun a ha=>by simp at ha;subst ha;exact hz _⟩
 exact b1.2 y (vAx hy)
theorem A5{list:List Arr}{P:Part}(hP:cK list P=true)(a b c d:Int): ∀y∈[oK P a b,oK P c d],BPt 1000 y:=by
 intro y hy;simp only [List.mem_cons,List.not_mem_nil,or_false] at hy;rcases hy with rfl|rfl
 ·exact(aJ1 hP a b).mono (by omega)
 exact(aJ1 hP c d).mono (by omega)
theorem aFP{p:Prog}(hp:BG 1000 p)(part c:Int):BG 1000 (wC p part c).1:=by
 by_cases hc:sC p part 0=true
 ·obtain⟨hv,i,k,P,l,rfl,hk0,hP,hl,hi,hkl,hok,hk⟩:=aBl hc;obtain rfl:k=0:=by omega
  rw [uK hP hl];split
  ·exact aJE (aA4 ((aIl hv).mono (show 4≤900 by omega)) (by simp) (A5 hok _ _ _ _))
  exact aHh
 rw [pZ hc];exact aHh
theorem aJB{p:Prog}(hv:cL p=true){i:Nat}{P:Part}(hP:p.parts[i]? =some P):sC p (i:Int) 0=decide (0<P.nest.length):=by unfold sC;rw [hv,aT hP,vAO];rw [vBE];simp only [decide_eq_true_eq];omega
theorem aG9{p:Prog}{i:Nat}(hi:i<p.parts.length)(A B:Part):(⟨p.arrays,(p.parts.set i A).take (i+1)++[B]++(p.parts.set i A).drop (i+1)⟩:Prog)=vF p i 1 [A,B]:=by
 unfold vF;congr 1;rw [List.take_set,List.drop_set_of_lt (by omega),K1,eD hi,List.set_append_right _ _ (by rw [pJ];omega)]
 have:i-(p.parts.take i).length=0:=by rw [pJ];omega
 rw [this];simp
theorem aEe{n:Nat}(hn:20000≤n){p:Prog}(hp:BG 1000 p)(part c:Int):pB n p part c=some (wC p part c):=by
 unfold pB;refine Ev.eq (aA (aGj (by omega) hp part) ?_);by_cases hc:cL p=true∧isP p part=true
 ·rw [if_pos hc];obtain⟨hv,hi⟩:=hc;have hi':0≤part∧part<(p.parts.length:Int):=of_decide_eq_true hi;obtain⟨i,rfl⟩: ∃i:Nat,part=i:=⟨part.toNat,by omega⟩
  have e1:=eD (show i<p.parts.length by omega);generalize hP1:p.parts[i]=P at e1;have hpl:=(gL hv).2.2.1;have hok:=(gL hv).2.2.2.1 P (dA e1);obtain⟨hl1,hl2⟩:=uX hok;have hB:=aJB hv e1;refine b6 (aA (aT e1) (aI (fun h0=>Ev.some ?_) fun h0=>?_))
  ·rw [pZ (by rw [hB,decide_eq_false (by omega)];simp)];rfl
  have h0:0<P.nest.length:=by omega
  rw [decide_eq_true h0] at hB;have e2:=eD h0;generalize P.nest[0]=l at e2;have hlp:=hl2 l (dA e2);rw [uK e1 e2];refine aA (I9 e2) (aA (aHC (by omega) hlp) ?_);by_cases hf:oP l=true
  ·rw [if_pos hf];refine b6 (aA (dM n c _ _) ?_);by_cases hw:iY l.lo≤c∧c≤iY l.hi
   ·rw [if_pos ⟨hB,hf,hw.1,hw.2⟩];dsimp only;rw [decide_eq_true hw];obtain⟨a,b,el,ea,eb,b1,b2⟩:=aCL hlp hf;have hq:=aA4 (i:=i) (many:=1) (ys:=[oK P (iY l.lo) c,oK P c (iY l.hi)]) ((aIl hv).mono (show 4≤900 by omega)) (by simp) (A5 hok _ _ _ _);generalize iY l.lo=L at*;generalize iY l.hi=H at*;subst ea;subst eb;subst el;have hd:P.nest=(⟨[zA L],[zA H]⟩:Loop)::P.nest.drop 1:=by
     have:=iC e2
     rwa [List.drop_zero] at this
    have hs: ∀R:Loop,P.nest.set (0:Int).toNat R=R::P.nest.drop 1:=fun R=>by
     show P.nest.set 0 R=_;rw [hd];rfl
    refine b6 (aA (M9 (by omega) hok) (aA (x:=zA H) rfl (aA (x:=[zA c]) rfl (aA (jC (by omega) _) (aA (jC (by omega) _) (aA (I9 e2) (aA (x:=zA L) rfl (aA (x:=[zA c]) rfl (aA (jC (by omega) _) ?_)))))))));rw [hs,hs,aO (by omega),vAE];refine aA (aJy (i:=i+1) (by rw [vBb];omega) (by rw [vBb];simp;omega)) ?_;show Ev (Option.bind (nX n (⟨p.arrays,(p.parts.set i (oK P L c)).take (i+1)++[oK P c H]++(p.parts.set i (oK P L c)).drop (i+1)⟩:Prog)) _) _;rw [aG9 (by omega)];exact aA (aCN (by omega) hq) (Ev.some rfl)
   rw [if_neg fun h=>hw ⟨h.2.2.1,h.2.2.2⟩];dsimp only;rw [decide_eq_false hw];exact bY (Ev.some rfl)
  rw [if_neg hf,if_neg fun h=>hf h.2.1];exact bY (Ev.some rfl)
 rw [if_neg hc,pZ fun hb=>hc ?_]
 ·exact bY (Ev.some rfl)
 obtain⟨hv,i,k,P,l,rfl,_,hP,_,hi,_⟩:=aBl hb;exact⟨hv,decide_eq_true (by omega)⟩
theorem aDN{n:Nat}(hn:20000≤n){p:Prog}(hp:BG 1000 p)(part c:Int):o1 n p part c=some (wC p part c):=by
 unfold o1;refine Ev.eq (aA (aD1 (by omega) hp) (aA (aK2 (by omega) hp part 0) ?_));cases hB:sC p part 0 with
 |false=>
  rw [pZ (by rw [hB];simp)];exact b6 (Ev.some rfl)
 |true=>
  obtain⟨hv,i,k,P,l,rfl,hk0,e1,e2,hi,h0,hok,hk⟩:=aBl hB;obtain rfl:k=0:=by omega
  obtain⟨hl1,hl2⟩:=uX hok;have hlp:=hl2 l (dA e2);rw [uK e1 e2];refine bY (aA (aT e1) (aA (I9 e2) (aA (aGg (by omega) hlp) ?_)));by_cases hf:oP l=true
  ·rw [if_pos hf];dsimp only;refine Ev.jn (fun z=>z= !decide (iY l.lo≤c∧c≤iY l.hi)) (fun j hj=>bY (aI (fun h=>hj _ ?_) fun h=>hj _ ?_)) fun z hz=>?_
   ·rw [decide_eq_false (by omega)];rfl
   ·rw [vBE];simp only [Bool.not_eq_true',decide_eq_true_eq,decide_eq_false_iff_not];omega
   subst hz;by_cases hw:iY l.lo≤c∧c≤iY l.hi
   ·rw [if_pos ⟨hB,hf,hw.1,hw.2⟩,decide_eq_true hw];refine bY (aA (eN n _) (aA (eN n _) (aA (wB (by omega) (by omega) (by omega)) (aA (cD (by simp;omega)) (aA (eN n _) (aA (eN n _) (aA (wB (by omega) (by omega) (by omega)) (aA (cD (by simp;omega)) ?_))))))));rw [vAE,vN];have hw2:=aGG (n:=n) (by omega) ((aIl hv).mono (show 4≤900 by omega)) (i:=i) (many:=1) (by omega) (ys:=[oK P (iY l.lo) c,oK P c (iY l.hi)]) (by simp) (A5 hok _ _ _ _);exact aA hw2 (Ev.some rfl)
   rw [if_neg fun h=>hw ⟨h.2.2.1,h.2.2.2⟩,decide_eq_false hw];exact b6 (Ev.some rfl)
  rw [if_neg hf,if_neg fun h=>hf h.2.1];exact Ev.jn (fun z=>z=true) (fun j hj=>b6 (hj _ rfl)) fun z hz=>by rw [hz];exact b6 (Ev.some rfl)
end Go.Lift
