/- Two programs that do the same. -/
import Derived.Test.YtjmaejilmokdgaaGreatARun1
import Derived.Test.YtjmaejilmokdgaaGreatADraw1
import Derived.Test.YtjmaejilmokdgaaGreatADrawD
set_option maxRecDepth 100000
set_option linter.unusedVariables false
namespace Go.Lift
open Go
theorem aN3{n:Nat}(hn:7100≤n){p:Prog}(hp:SmP p)(hv:bM p=true):nX n p=some (gN p.arrays):=by refine Ev.eq ?_;obtain⟨hl,hd,_⟩:=eN hv;unfold nX;refine aA (eG (by omega) hp) ?_;rw [hv];exact b6 (aA (aAs (by omega) hl hd) (Ev.some rfl))
theorem aPi{α:Type}{n:Int}(h:0≤n∧n≤1000000000)(x:α):mk n x=some (List.replicate n.toNat x):=by unfold mk;rw [if_pos h]
theorem aLv{R:Type}{Q:R→Prop}{n:Nat}(hn:5000≤n){T:Nat}(hT:T≤1000){e:Int→Int}(he: ∀i,0≤i→i<(T:Int)→0≤e i∧e i≤999){K:List Int→Option R}(hK: ∀m,m.length=T→(∀x∈m,0≤x∧x≤999)→Ev (K m) Q):
  Ev (aM (fun again (z:(List Int)×Int)=>bif decide (z.2<(z.1.length:Int)) then(Option.bind (ix z.1 z.2) fun _=>Option.bind (dW z.1 z.2 (e z.2)) fun y=>again (y,wr (z.2+1))) else(K z.1)) n (List.replicate T 0,0)) Q:=by
 refine Ev.loop (fun z:List Int×Int=>0≤z.2∧z.2≤T∧z.1.length=T∧ ∀x∈z.1,0≤x∧x≤999) (fun z=>T-z.2.toNat) ?_ n _ ⟨O7 _,by dsimp only;omega,List.length_replicate,fun x hx=>by rw [(vBk.1 hx).2];omega⟩ (by dsimp only;omega);rintro again ⟨x,i⟩ ⟨h0,h1,h2,h3⟩ hr;dsimp only at h0 h1 h2 h3⊢;refine aH (fun hlt=>?_) fun hge=>hK _ h2 h3;refine aA (aCt h0 (by omega)) (aA (aEw h0 (by omega) _) ?_);rw [aN (by omega)];exact hr _ ⟨by dsimp only;omega,by dsimp only;omega,by dsimp only;rw [vAV,h2],fun y hy=>by
  rcases vBf hy with hy|rfl
  ·exact h3 y hy
  exact he i h0 (by omega)⟩ (by dsimp only;omega)
theorem aQw{x:Int}(h:0≤x):0≤Int.tmod x 1000∧Int.tmod x 1000≤999:=by have h1:=vBT 1000 h;have h2:=vBO x (show(0:Int)<1000 by omega);omega
theorem aKt{p:Prog}(hv:bM p=true):0≤gN p.arrays∧gN p.arrays≤144:=by
 obtain⟨hl,hd,_⟩:=eN hv
 have:=aH8 hd;omega
theorem aOt{p:Prog}{m:List Int}(hv:bM p=true)(hm:hJ p.arrays m):aNk p m=(cH p m (insts p.parts),true):=by unfold aNk;rw [aNE hv hm];rfl
theorem aMn{p q:Prog}(hp:SmP p)(hq:SmP q)(hv:bM p=true)(hw:bM q=true)(ha:q.arrays=p.arrays)(h: ∀m,hJ p.arrays m→cH q m (insts q.parts)=cH p m (insts p.parts)){s:Int}(hs:0≤s∧s≤1048576):wZ N p q s=some true:=by
 have hN:N=100000:=rfl;have ht:=aKt hv;refine Ev.eq ?_;unfold wZ;refine aA (aN3 (by omega) hp hv) (aA (aPi ⟨by omega,by omega⟩ 0) (aLv (n:=N) (T:=(gN p.arrays).toNat) (e:=fun i=>Int.tmod (wr ((wr ((wr (i*41))+(wr (s*17))))+3)) 1000) (K:=fun x3=>Option.bind (gH N p x3) fun x9=>Option.bind (gH N q x3) fun x10=>jn (fun(x13:Bool)=>some x13) fun j11=>bif x9.2 then(bif x10.2 then(Option.bind (u9 N x9.1 x10.1) fun x12=>j11 x12) else(j11 false)) else(j11 false)) (by omega) (by omega) (fun i h0 h1=>?_) fun m h1 h2=>?_))
 ·rw [aN (n:=i*41) (by omega),aN (n:=s*17) (by omega),aN (n:=i*41+s*17) (by omega),aN (by omega)];exact aQw (by omega)
 have hmo:hJ p.arrays m:=⟨by omega,h2⟩
 have hmq:hJ q.arrays m:=by rw [ha];exact hmo
 have hml:=aIq hv hmo;refine aA (uQ (by omega) hp hml) (aA (uQ (by omega) hq hml) ?_);rw [aOt hv hmo,aOt hw hmq,h m hmo];have hok: ∀x∈insts p.parts,cX p x:=fun x hx=>insts_mem hx;refine Ev.jn (fun z=>z=true) (fun j hj=>b9 (b9 (aA (aE0 (by omega) (aIq hv (L3 hv hok hmo))) (hj _ rfl)))) fun z hz=>Ev.some hz
theorem wD{α β R:Type}{l:List α}{F:α→(β→Option R)→Option R}{g:α→β}{K:List β→Option R}{Q:R→Prop}{n:Nat}(hF: ∀x∈l,∀k:β→Option R,Ev (k (g x)) Q→Ev (F x k) Q)
  {s:Nat} (hs:s≤l.length) {pre:List β} (hp:pre.length≤1000) (hl:l.length≤1000) (hn:5000≤n) (hK:Ev (K (pre++(l.drop s).map g)) Q):
  Ev (aM (fun again ((x,i):List β×Int)=>bif decide (i<(l.length:Int)) then(Option.bind (ix l i) fun y=>F y fun z=>Option.bind (app x [z]) fun w=>again (w,wr (i+1))) else K x) n (pre,(s:Int))) Q:=by
 refine Ev.loop (fun z:List β×Int=> ∃i:Nat,z.2=i∧s≤i∧i≤l.length∧z.1=pre++((l.drop s).take (i-s)).map g) (fun z=>l.length-z.2.toNat) ?_ n _ ⟨s,rfl,by omega,by omega,by simp⟩ (by dsimp only;omega);rintro again ⟨x,z⟩ ⟨i,hz,hsi,hi,hx⟩ hr;dsimp only at hz hx⊢;subst hz;refine aH (fun hlt=>?_) fun hge=>?_
 ·have hg:=cP (show i<l.length by omega);have hxl:x.length≤2000:=by rw [hx,qJ,q7,u4,vAU];omega
  refine aA (aS hg) (hF _ (cS hg) _ (aA (bW (by simp;omega)) ?_));rw [aN (by omega)];refine hr _ ⟨i+1,by dsimp only;omega,by omega,by omega,?_⟩ (by dsimp only;omega);dsimp only;rw [show i+1-s=(i-s)+1 by omega,yB,vAC,show s+(i-s)=i by omega,hg,hx,vAM,vAK];rfl
 have:i=l.length:=by omega
 subst this;rw [hx,vBl (by rw [vAU];omega)];exact hK
theorem tP{α β R:Type}{l:List α}{f:α→Option β}{g:α→β}{K:List β→Option R}{Q:R→Prop}{n:Nat}(hf: ∀x∈l,f x=some (g x))(hl:l.length≤1000)(hn:5000≤n)(hK:Ev (K (l.map g)) Q):
  Ev (aM (fun again ((x,i):List β×Int)=>bif decide (i<(l.length:Int)) then(Option.bind (ix l i) fun y=>Option.bind (f y) fun z=>Option.bind (app x [z]) fun w=>again (w,wr (i+1))) else K x) n ([],0)) Q:=
 wD (F:=fun y k=>Option.bind (f y) k) (g:=g) (s:=0) (pre:=[]) (fun x hx k hk=>aA (hf x hx) hk) (by omega) (by simp) hl hn (by simpa using hK)
theorem aC4{α R:Type}{l:List α}{F:α→(α→Option R)→Option R}{W:List α→Option R→Option R}{m:List α→Int}{g:α→α}{K:List α→Option R}{Q:R→Prop}{n:Nat}
  (hW: ∀y o,y.length=l.length→Ev o Q→Ev (W y o) Q) (hm: ∀y:List α,y.length=l.length→m y=(l.length:Int))
  {s:Nat} (hs:s≤l.length) (hF: ∀x∈l,∀k:α→Option R,Ev (k (g x)) Q→Ev (F x k) Q) (hl:l.length≤1000) (hn:5000≤n) (hK:Ev (K (l.take s++(l.drop s).map g)) Q):
  Ev (aM (fun again ((y,i):List α×Int)=>W y (bif decide (i<m y) then(Option.bind (ix y i) fun x=>F x fun z=>Option.bind (dW y i z) fun w=>again (w,wr (i+1))) else K y)) n (l,(s:Int))) Q:=by
 refine Ev.loop (fun z:List α×Int=> ∃i:Nat,z.2=i∧s≤i∧i≤l.length∧z.1=l.take s++((l.drop s).take (i-s)).map g++l.drop i) (fun z=>l.length-z.2.toNat) ?_ n _ ⟨s,rfl,by omega,by omega,by simp⟩ (by dsimp only;omega);rintro again ⟨x,z⟩ ⟨i,hz,hsi,hi,hx⟩ hr;dsimp only at hz hx⊢;subst hz;have hpl:(l.take s++((l.drop s).take (i-s)).map g).length=i:=by rw [qJ,q7,u4,u4,vAU];omega
 have hxl:x.length=l.length:=by rw [hx,qJ,hpl,vAU];omega
 refine hW _ _ hxl ?_;rw [hm _ hxl];refine aH (fun hlt=>?_) fun hge=>?_
 ·obtain⟨e,hg⟩: ∃e,l[i]? =some e:=⟨_,cP (show i<l.length by omega)⟩
  have hgx:x[i]? =some e:=by
   rw [hx,vAp (by omega),hpl,vBw,vAC];exact hg
  refine aA (aS hgx) (hF _ (cS hg) _ (aA (fL (by omega) _) ?_));rw [aN (by omega)];refine hr _ ⟨i+1,by dsimp only;omega,by omega,by omega,?_⟩ (by dsimp only;omega);dsimp only;rw [hx,vAE,vBQ _ _ (by omega),hpl,vBw,lG hg,List.set_cons_zero,show i+1-s=(i-s)+1 by omega,yB,vAC,show s+(i-s)=i by omega,hg];simp
 have:i=l.length:=by omega
 subst this;rw [hx,vBl (l:=l.drop s) (by rw [vAU];omega),vBq,vBo];exact hK
def fV(f:Affine→Affine)(a:Access):Access:=⟨a.array,a.subs.map f⟩
def wE(f:Affine→Affine):Nat→Expr→Expr
 |0,e=>e
 |L+1,e=>⟨e.kind,e.num,if e.kind=2 then f e.index else⟨[],0⟩,if e.kind=3 then fV f e.read else⟨[],[]⟩,e.kids.map (wE f L)⟩
def y0(f:Affine→Affine)(s:Stmt):Stmt:=⟨fV f s.write,wE f 5 s.value⟩
def jW(f:Affine→Affine)(l:Loop):Loop:=⟨l.lo.map f,l.hi.map f⟩
theorem yU{e:Expr}{d:Int}(h:gC e d=true)(hk:e.kind=2):bX e.index=true∧nG e.read=true:=by unfold gC cB at h;rw [if_pos hk] at h;simp only [Bool.and_eq_true] at h;exact⟨h.2.2.1,h.2.1⟩
theorem yT{e:Expr}{d:Int}(h:gC e d=true)(hk:e.kind=3):gY e.read d=true∧jV e.index=true:=by unfold gC at h;rw [if_neg (by omega),if_pos hk] at h;simp only [Bool.and_eq_true] at h;exact⟨h.2.2,h.2.1⟩
theorem aGF{e:Expr}{d:Int}(h:gC e d=true)(h2: ¬e.kind=2)(h3: ¬e.kind=3):jV e.index=true∧nG e.read=true:=by unfold gC at h;rw [if_neg h2,if_neg h3] at h;split at h<;>simp only [Bool.and_eq_true] at h<;>exact⟨h.2.1,h.2.2⟩
theorem E6{a:Affine}(h:jV a=true):a=⟨[],0⟩:=by obtain⟨c,k⟩:=a;simp only [jV,Bool.and_eq_true,decide_eq_true_eq] at h;obtain⟨h1,rfl⟩:=h;rw [vAy h1]
theorem E7{a:Access}(h:nG a=true):a=⟨[],[]⟩:=by obtain⟨c,k⟩:=a;simp only [nG,Bool.and_eq_true,decide_eq_true_eq] at h;obtain⟨rfl,h1⟩:=h;rw [vAy h1]
theorem wI{n:Nat}(hn:5000≤n){a:Access}{d:Int}(ha:gY a d=true){F:Affine→Option Affine}{f:Affine→Affine}(hF: ∀x,bX x=true→F x=some (f x)):kR n a F=some (fV f a):=by obtain⟨h1,h2,h3⟩:=uU ha;refine Ev.eq ?_;unfold kR;exact tP (K:=fun x1=>some (⟨a.array,x1⟩:Access)) (fun x hx=>hF x (h3 x hx)) (by omega) hn (Ev.some rfl)
theorem G6{d:Int}{F:Affine→Option Affine}{f:Affine→Affine}(hF: ∀x,bX x=true→F x=some (f x)): ∀(L n:Nat) (e:Expr),5000+L≤n→dO L e d=true→i_exprMap (n+1) e F=some (wE f L e)
 |0,_,_,_,h=>by cases h
 |L+1,n,e,hn,h=>by
  obtain⟨hk,ho,hs⟩:=fY h;obtain⟨n,rfl⟩: ∃j,n=j+1:=⟨n-1,by omega⟩
  have hkl:e.kids.length≤2:=by have:=mW e.kind;omega
  unfold i_exprMap;refine Ev.eq (Ev.jn (fun z=>(⟨z.1,z.2.1⟩:Affine)=(if e.kind=2 then f e.index else⟨[],0⟩)∧(⟨z.2.2.1,z.2.2.2⟩:Access)=(if e.kind=3 then fV f e.read else⟨[],[]⟩)) (fun j hj=>?_) fun z hz=>?_)
  ·refine aH (fun h2=>?_) fun h2=>aH (fun h3=>?_) fun h3=>?_
   ·exact aA (hF _ (yU ho h2).1) (hj _ ⟨by rw [if_pos h2],by rw [if_neg (by omega)]⟩)
   ·exact aA (wI (by omega) (yT ho h3).1 hF) (hj _ ⟨by rw [if_neg h2],by rw [if_pos h3]⟩)
   exact hj _ ⟨by rw [if_neg h2],by rw [if_neg h3]⟩
  obtain⟨x4,x5,x6,x7⟩:=z;obtain⟨z1,z2⟩:=hz;dsimp only at z1 z2⊢;refine tP (K:=fun x8=>some (⟨e.kind,e.num,(⟨x4,x5⟩:Affine),(⟨x6,x7⟩:Access),x8⟩:Expr)) (fun x hx=>G6 hF L n x (by omega) (hs x hx)) (by omega) (by omega) (Ev.some ?_);rw [z1,z2];rfl
theorem G4{n:Nat}(hn:6000≤n){s:Stmt}{d:Int}(hs:fX s d=true){F:Affine→Option Affine}{f:Affine→Affine}(hF: ∀x,bX x=true→F x=some (f x)):kQ n s F=some (y0 f s):=by
 obtain⟨h1,h2,_⟩:=jN hs;obtain⟨n,rfl⟩: ∃j,n=j+1:=⟨n-1,by omega⟩
 unfold kQ;rw [wI (by omega) h1 hF,G6 hF 5 n s.value (by omega) h2];rfl
theorem aDl{α:Type}{f:α→α}: ∀{l:List α},(∀x∈l,f x=x)→l.map f=l
 | [],_=>rfl
 |x::l,h=>by rw [vBU,h x uN,aDl fun y hy=>h y (rQ _ hy)]
theorem aCn{f:Affine→Affine}{a:Access}{d:Int}(ha:gY a d=true)(hf: ∀x,bX x=true→f x=x):fV f a=a:=by obtain⟨h1,h2,h3⟩:=uU ha;unfold fV;rw [aDl fun x hx=>hf x (h3 x hx)]
theorem aIr{d:Int}{f:Affine→Affine}(hf: ∀x,bX x=true→f x=x): ∀{L:Nat} {e:Expr},dO L e d=true→wE f L e=e
 |0,_,_=>rfl
 |L+1,e,h=>by
  obtain⟨hk,ho,hs⟩:=fY h;obtain⟨kind,num,index,read,kids⟩:=e;unfold wE;dsimp only at hk ho hs⊢;rw [aDl fun x hx=>aIr hf (hs x hx)];by_cases h2:kind=2
  ·have e1:=yU ho h2;dsimp only at e1;rw [if_pos h2,if_neg (by omega),hf _ e1.1,E7 e1.2]
  by_cases h3:kind=3
  ·have e1:=yT ho h3;dsimp only at e1;rw [if_neg h2,if_pos h3,aCn e1.1 hf,E6 e1.2]
  have e1:=aGF ho h2 h3;dsimp only at e1;rw [if_neg h2,if_neg h3,E6 e1.1,E7 e1.2]
theorem aNF{f:Affine→Affine}(hf: ∀x,bX x=true→f x=x){s:Stmt}{d:Int}(hs:fX s d=true):y0 f s=s:=by obtain⟨h1,h2,_⟩:=jN hs;unfold y0;rw [aCn h1 hf,aIr hf h2]
def F6(l:Loop):Prop:=(l.lo.length≤2∧ ∀x∈l.lo,bX x=true)∧l.hi.length≤2∧ ∀x∈l.hi,bX x=true
theorem aPy{nest:List Loop}(h:Fit nest): ∀l∈nest,F6 l:=fun l hl=>by
 obtain⟨i,hi⟩:=vAG.1 hl
 have:=h.2 i l hi;exact⟨(vF this.1).2,(vF this.2).2⟩
theorem qN{list:List Arr}{x:Part}(h:cV list x=true):x.nest.length≤4∧ ∀l∈x.nest,F6 l:=by have:=(aF2 (iQ h).1).1;exact⟨this.1,aPy this⟩
theorem aOD{a:Affine}(h:bX a=true):BA 4 a:=by have:=(jJ h).1;unfold BA;omega
theorem aDX{l:List Affine}(h1:l.length≤2)(h2: ∀x∈l,bX x=true):BAs 4 l:=⟨by omega,fun a ha=>aOD (h2 a ha)⟩
theorem aOC{d:Int}: ∀{L:Nat} {e:Expr},dO L e d=true→BE 4 L e
 |0,_,h=>by cases h
 |L+1,e,h=>by
  obtain⟨hk,ho,hs⟩:=fY h
  have:=mW e.kind;refine⟨by omega,?_,?_,fun k hk=>aOC (hs k hk)⟩
  ·by_cases h2:e.kind=2
   ·exact aOD (yU ho h2).1
   by_cases h3:e.kind=3
   ·rw [E6 (yT ho h3).2];unfold BA;simp
   rw [E6 (aGF ho h2 h3).1];unfold BA;simp
  by_cases h3:e.kind=3
  ·have:=uU (yT ho h3).1;exact aDX this.2.1 this.2.2
  by_cases h2:e.kind=2
  ·rw [E7 (yU ho h2).2];exact⟨by simp,fun x hx=>by cases hx⟩
  rw [E7 (aGF ho h2 h3).2];exact⟨by simp,fun x hx=>by cases hx⟩
theorem aQT{s:Stmt}{d:Int}(hs:fX s d=true):BS 4 s:=by
 obtain⟨h1,h2,_⟩:=jN hs
 have:=uU h1;exact⟨aDX this.2.1 this.2.2,aOC h2⟩
theorem aPJ{list:List Arr}{x:Part}(h:cV list x=true):BPt 4 x:=by obtain⟨h1,h2⟩:=qN h;obtain⟨_,h4,h5,_⟩:=iQ h;exact⟨⟨h1,fun l hl=>⟨aDX (h2 l hl).1.1 (h2 l hl).1.2,aDX (h2 l hl).2.1 (h2 l hl).2.2⟩⟩,h4.2,fun s hs=>aQT (h5 s hs)⟩
theorem aQU{l:List Arr}(h1:l.length≤4)(h2:fR l):BR 4 l:=⟨h1,fun x hx=>by have:=h2 x hx;simp only [jP,Bool.and_eq_true,decide_eq_true_eq] at this;omega⟩
theorem V4{B:Nat}{l:List Affine}{f:Affine→Affine}(h:l.length≤B)(hf: ∀x∈l,BA B (f x)):BAs B (l.map f):=⟨by rw [q7];exact h,fun a ha=>by obtain⟨x,hx,rfl⟩:=R3.1 ha;exact hf x hx⟩
theorem aMk{d:Int}{f:Affine→Affine}(hf: ∀x,bX x=true→BA 4 (f x)): ∀{L:Nat} {e:Expr},dO L e d=true→BE 4 L (wE f L e)
 |0,_,h=>by cases h
 |L+1,e,h=>by
  obtain⟨hk,ho,hs⟩:=fY h
  have:=mW e.kind;unfold wE BE;refine⟨by dsimp only;rw [q7];omega,?_,?_,fun k hk=>?_⟩
  ·dsimp only;by_cases h2:e.kind=2
   ·rw [if_pos h2];exact hf _ (yU ho h2).1
   rw [if_neg h2];unfold BA;simp
  ·dsimp only;by_cases h3:e.kind=3
   ·rw [if_pos h3]
    have:=uU (yT ho h3).1;exact V4 (by omega) fun x hx=>hf x (this.2.2 x hx)
   rw [if_neg h3];exact⟨by simp,fun x hx=>by cases hx⟩
  obtain⟨x,hx,rfl⟩:=R3.1 hk;exact aMk hf (hs x hx)
theorem aPI{f:Affine→Affine}(hf: ∀x,bX x=true→BA 4 (f x)){s:Stmt}{d:Int}(hs:fX s d=true):BS 4 (y0 f s):=by
 obtain⟨h1,h2,_⟩:=jN hs
 have:=uU h1;exact⟨V4 (by omega) fun x hx=>hf x (this.2.2 x hx),aMk hf h2⟩
theorem aOd{f:Affine→Affine}(hf: ∀x,bX x=true→BA 4 (f x)){l:Loop}(h:F6 l):BAs 4 (jW f l).lo∧BAs 4 (jW f l).hi:=
 ⟨V4 (by have:=h.1.1;omega) fun x hx=>hf x (h.1.2 x hx),V4 (by have:=h.2.1;omega) fun x hx=>hf x (h.2.2 x hx)⟩
theorem aCb(n:Nat){a:Affine}(h:a.coefs.length≤1000):d8 n a=some a:=by unfold d8 m_ownClone;rw [if_pos (by omega)];rfl
theorem aCa(n:Nat): ∀x,bX x=true→d8 n x=some x:=fun x hx=>aCb n (by have:=(jJ hx).1;omega)
theorem Z2{n:Nat}(hn:5000≤n){l:List Affine}(h1:l.length≤2)(h2: ∀x∈l,bX x=true):gG n l=some l:=by unfold gG;refine Ev.eq (tP (g:=fun x=>x) (K:=fun x1=>some x1) (fun x hx=>aCa n x (h2 x hx)) (by omega) hn (Ev.some ?_));simp
theorem aGG{n:Nat}(hn:5000≤n){nest:List Loop}(h1:nest.length≤4)(h2: ∀l∈nest,F6 l):sL n nest=some nest:=by unfold sL;refine Ev.eq ?_;refine wD (β:=Loop) (l:=nest) (n:=n) (F:=fun x5 k=>Option.bind (gG n x5.lo) fun x6=>Option.bind (gG n x5.hi) fun x7=>k (⟨x6,x7⟩:Loop)) (g:=fun x=>x) (s:=0) (pre:=[]) (K:=fun x1=>some x1) ?_ (by omega) (by simp) (by omega) hn (Ev.some (by simp));exact fun x hx k hk=>aA (Z2 hn (h2 x hx).1.1 (h2 x hx).1.2) (aA (Z2 hn (h2 x hx).2.1 (h2 x hx).2.2) hk)
theorem aGD{n:Nat}(hn:6000≤n){s:Stmt}{d:Int}(hs:fX s d=true):xN n s=some s:=by unfold xN;rw [G4 hn hs (F:=fun q0=>d8 n q0) (f:=fun x=>x) (aCa n),aNF (fun _ _=>rfl) hs];rfl
theorem aGE{n:Nat}(hn:6000≤n){list:List Arr}{x:Part}(h:cV list x=true):o4 n x=some x:=by obtain⟨h1,h2⟩:=qN h;obtain⟨_,h4,h5,_⟩:=iQ h;unfold o4;refine Ev.eq (aA (aGG (by omega) h1 h2) (tP (g:=fun x=>x) (K:=fun x2=>some (⟨x.nest,x2⟩:Part)) (fun s hs=>aGD hn (h5 s hs)) (by omega) (by omega) (Ev.some ?_)));simp
theorem aGC{n:Nat}(hn:6000≤n){p:Prog}(h:bM p=true):iC n p=some p:=by
 obtain⟨h1,h2,h3,h4,_⟩:=eN h;unfold iC;refine Ev.eq (wD (F:=fun x5 k=>Option.bind (m_ownClone x5.dims) fun x6=>k (⟨x5.name,x6⟩:Arr)) (g:=fun x=>x) (s:=0) (pre:=[]) (K:=fun x1=>aM (fun again11 ((x8,x9):(List Part)×Int)=>
    bif decide (x9<(p.parts.length:Int)) then(
     Option.bind (ix p.parts x9) fun x12=>
     Option.bind (o4 n x12) fun x13=>
     Option.bind (app x8 [x13]) fun x14=>
     again11 (x14,wr (x9+1))
    ) else(
     some (⟨x1,x8⟩:Prog)
    )
   ) n ([],0)) (fun x hx k hk=>aA (x:=x.dims) ?_ hk) (by omega) (by simp) (by omega) (by omega) ?_)
 ·have:=(aQU h1 h2).2 x hx;unfold m_ownClone;rw [if_pos (by omega)]
 refine tP (g:=fun x=>x) (K:=fun x8=>some (⟨_,x8⟩:Prog)) (fun x hx=>aGE hn (h4 x hx)) (by omega) (by omega) (Ev.some ?_);simp
theorem gE{α:Type}{a b:List α}(h:b.length=a.length):fM a b=some ():=by unfold fM;rw [if_pos h]
theorem aBy{n:Nat}(hn:5000≤n){l:Loop}(hl:F6 l){F:Affine→Option Affine}{f:Affine→Affine}(hF: ∀x,bX x=true→F x=some (f x)):mN n l F=some (jW f l):=by
 obtain⟨⟨a1,a2⟩,b1,b2⟩:=hl;unfold mN;refine Ev.eq (Ev.loop (fun z:Loop×Int=>(z.2=0∧z.1=l)∨(z.2=1∧z.1=⟨l.lo.map f,l.hi⟩)∨(z.2=2∧z.1=jW f l)) (fun z=>3-z.2.toNat) ?_ n _ (.inl ⟨rfl,rfl⟩) (by dsimp only;omega));rintro again ⟨x,i⟩ hz hr;dsimp only at hz hr⊢;rcases hz with ⟨rfl,rfl⟩|⟨rfl,rfl⟩|⟨rfl,rfl⟩
 ·refine aA (gE rfl) (aA (gE rfl) (aH (fun _=>aH (fun _=>?_) fun h=>(h rfl).elim) fun h=>absurd h (by omega)));refine aC4 (F:=fun x k=>Option.bind (F x) k) (W:=fun _ o=>o) (m:=fun _=>(x.lo.length:Int)) (g:=f) (s:=0) (K:=fun y=>again ((⟨y,x.hi⟩:Loop),wr (0+1))) (fun _ _ _ h=>h) (fun _ _=>rfl) (by omega) (fun x hx k hk=>aA (hF x (a2 x hx)) hk) (by omega) hn ?_;rw [aN (by omega)];exact hr _ (.inr (.inl ⟨by dsimp only;omega,by simp⟩)) (by dsimp only;omega)
 ·refine aA (gE (by simp)) (aA (gE rfl) (aH (fun _=>aH (fun h=>absurd h (by omega)) fun _=>aH (fun _=>?_) fun h=>(h rfl).elim) fun h=>absurd h (by omega)));refine aC4 (F:=fun x k=>Option.bind (F x) k) (W:=fun _ o=>o) (m:=fun _=>(l.hi.length:Int)) (g:=f) (s:=0) (K:=fun y=>again ((⟨l.lo.map f,y⟩:Loop),wr (1+1))) (fun _ _ _ h=>h) (fun _ _=>rfl) (by omega) (fun x hx k hk=>aA (hF x (b2 x hx)) hk) (by omega) hn ?_;rw [aN (by omega)];exact hr _ (.inr (.inr ⟨by dsimp only;omega,by simp [jW]⟩)) (by dsimp only;omega)
 refine aA (gE (by simp [jW])) (aA (gE (by simp [jW])) (aH (fun h=>absurd h (by omega)) fun _=>Ev.some rfl))
theorem aBx{n:Nat}(hn:6000≤n){nest:List Loop}{body:List Stmt}{s:Nat}(hs:s≤nest.length)(h1:nest.length≤4)(h2: ∀l∈nest.drop s,F6 l){d:Int}(h3:body.length≤4)(h4: ∀s∈body,fX s d=true){F:Affine→Option Affine}{f:Affine→Affine}(hF: ∀x,bX x=true→F x=some (f x)):
  mL n ⟨nest,body⟩ (s:Int) F=some ⟨nest.take s++(nest.drop s).map (jW f),body.map (y0 f)⟩:=by
 have key: ∀(nest2:List Loop),Ev (aM (fun again2 ((y,j):(List Stmt)×Int)=>
    Option.bind (fM body y) fun x5=>
    bif decide (j<(body.length:Int)) then(
     Option.bind (ix y j) fun x6=>
     Option.bind (kQ n x6 F) fun x7=>
     Option.bind (dW y j x7) fun x8=>
     again2 (x8,wr (j+1))
    ) else(
     some (⟨nest2,y⟩:Part)
    )
   ) n (body,0)) (fun r=>r=⟨nest2,body.map (y0 f)⟩):=fun nest2=>
  aC4 (F:=fun x k=>Option.bind (kQ n x F) k) (W:=fun y o=>Option.bind (fM body y) fun _=>o) (m:=fun _=>(body.length:Int)) (g:=y0 f) (s:=0) (K:=fun y=>some (⟨nest2,y⟩:Part)) (fun y o h ho=>aA (gE h) ho) (fun _ _=>rfl) (by omega) (fun x hx k hk=>aA (G4 hn (h4 x hx) hF) hk) (by omega) (by omega) (Ev.some (by simp))
 unfold mL;refine Ev.eq ?_
 -- the loops ahead stay: only those behind are changed
 refine Ev.loop (fun z:List Loop×Int=> ∃i:Nat,z.2=i∧s≤i∧i≤nest.length∧z.1=nest.take s++((nest.drop s).take (i-s)).map (jW f)++nest.drop i) (fun z=>nest.length-z.2.toNat) ?_ n _ ⟨s,rfl,by omega,by omega,by simp⟩ (by dsimp only;omega);rintro again ⟨x,z⟩ ⟨i,hz,hsi,hi,hx⟩ hr;dsimp only at hz hx⊢;subst hz;have hpl:(nest.take s++((nest.drop s).take (i-s)).map (jW f)).length=i:=by rw [qJ,q7,u4,u4,vAU];omega
 have hxl:x.length=nest.length:=by rw [hx,qJ,hpl,vAU];omega
 refine aA (gE hxl) (aH (fun hlt=>?_) fun hge=>?_)
 ·obtain⟨e,hg⟩: ∃e,nest[i]? =some e:=⟨_,cP (show i<nest.length by omega)⟩
  have hgx:x[i]? =some e:=by
   rw [hx,vAp (by omega),hpl,vBw,vAC];exact hg
  have he:e∈nest.drop s:=vAG.2 ⟨i-s,by rw [vAC,show s+(i-s)=i by omega];exact hg⟩;refine aA (aS hgx) (aA (aBy (by omega) (h2 _ he) hF) (aA (fL (by omega) _) ?_));rw [aN (by omega)];refine hr _ ⟨i+1,by dsimp only;omega,by omega,by omega,?_⟩ (by dsimp only;omega);dsimp only;rw [hx,vAE,vBQ _ _ (by omega),hpl,vBw,lG hg,List.set_cons_zero,show i+1-s=(i-s)+1 by omega,yB,vAC,show s+(i-s)=i by omega,hg];simp
 have:i=nest.length:=by omega
 subst this;rw [hx,vBl (l:=nest.drop s) (by rw [vAU];omega),vBq,vBo];exact key _
theorem aC8{n:Nat}(hn:5000≤n){l:List Affine}(h1:l.length≤2)(h2: ∀x∈l,bX x=true){way v:Int}{b:Affine}{f:Affine→Affine}(hF: ∀x,bX x=true→iM n x way v b=some (f x)):rW n l way v b=some (l.map f):=by unfold rW;exact Ev.eq (tP (K:=fun x1=>some x1) (fun x hx=>hF x (h2 x hx)) (by omega) hn (Ev.some rfl))
theorem aJh{n:Nat}(hn:5000≤n){l:Loop}(hl:F6 l){way v:Int}{b:Affine}{f:Affine→Affine}(hF: ∀x,bX x=true→iM n x way v b=some (f x)):vJ n l way v b=some (jW f l):=by unfold vJ;rw [aC8 hn hl.1.1 hl.1.2 hF,aC8 hn hl.2.1 hl.2.2 hF];rfl
theorem P4{n:Nat}(hn:5000≤n){a:Access}{d:Int}(ha:gY a d=true){way v:Int}{b:Affine}{f:Affine→Affine}(hF: ∀x,bX x=true→iM n x way v b=some (f x)):lQ n a way v b=some (fV f a):=by have:=uU ha;unfold lQ;rw [aC8 hn this.2.1 this.2.2 hF];rfl
theorem aCr{d way v:Int}{b:Affine}{f:Affine→Affine}(hF: ∀n,5000≤n→ ∀x,bX x=true→iM n x way v b=some (f x)): ∀(L n:Nat) (e:Expr),5000+L≤n→dO L e d=true→s_l8Expr (n+1) e way v b=some (wE f L e)
 |0,_,_,_,h=>by cases h
 |L+1,n,e,hn,h=>by
  obtain⟨hk,ho,hs⟩:=fY h;obtain⟨n,rfl⟩: ∃j,n=j+1:=⟨n-1,by omega⟩
  have hkl:e.kids.length≤2:=by have:=mW e.kind;omega
  unfold s_l8Expr;refine Ev.eq (Ev.jn (fun z=>(⟨z.1,z.2⟩:Affine)=(if e.kind=2 then f e.index else⟨[],0⟩)) (fun j hj=>?_) fun z hz=>Ev.jn (fun y=>(⟨y.1,y.2⟩:Access)=(if e.kind=3 then fV f e.read else⟨[],[]⟩)) (fun j hj=>?_) fun y hy=>?_)
  ·exact aH (fun h2=>aA (hF _ (by omega) _ (yU ho h2).1) (hj _ (by rw [if_pos h2]))) fun h2=>hj _ (by rw [if_neg h2])
  ·exact aH (fun h3=>aA (P4 (by omega) (yT ho h3).1 (hF _ (by omega))) (hj _ (by rw [if_pos h3]))) fun h3=>hj _ (by rw [if_neg h3])
  obtain⟨x3,x4⟩:=z;obtain⟨x7,x8⟩:=y;dsimp only at hz hy⊢;refine tP (K:=fun x9=>some (⟨e.kind,e.num,(⟨x3,x4⟩:Affine),(⟨x7,x8⟩:Access),x9⟩:Expr)) (fun x hx=>aCr hF L n x (by omega) (hs x hx)) (by omega) (by omega) (Ev.some ?_);rw [hz,hy];rfl
theorem aJj{n:Nat}(hn:6000≤n){l:List Stmt}{d:Int}(h1:l.length≤4)(h2: ∀s∈l,fX s d=true){way v:Int}{b:Affine}{f:Affine→Affine}(hF: ∀n,5000≤n→ ∀x,bX x=true→iM n x way v b=some (f x)):B6 n l way v b=some (l.map (y0 f)):=by
 obtain⟨n,rfl⟩: ∃j,n=j+1:=⟨n-1,by omega⟩
 unfold B6;refine Ev.eq ?_;refine wD (β:=Stmt) (l:=l) (n:=n+1) (F:=fun x5 k=>Option.bind (lQ (n+1) x5.write way v b) fun x6=>Option.bind (s_l8Expr (n+1) x5.value way v b) fun x7=>k (⟨x6,x7⟩:Stmt)) (g:=y0 f) (s:=0) (pre:=[]) (K:=fun x1=>some x1) (fun x hx k hk=>?_) (by omega) (by simp) (by omega) (by omega) (Ev.some (by simp));obtain⟨h1,h2,_⟩:=jN (h2 x hx);exact aA (P4 (by omega) h1 (hF _ (by omega))) (aA (aCr hF 5 n x.value (by omega) h2) hk)
theorem aGR{n:Nat}(hn:6000≤n){x:Part}{s:Nat}(hs:s+1≤x.nest.length)(h1:x.nest.length≤4)(h2: ∀l∈x.nest,F6 l){d:Int}(h3:x.body.length≤4)(h4: ∀s∈x.body,fX s d=true){way v:Int}{b:Affine}{f:Affine→Affine}(hF: ∀n,5000≤n→ ∀x,bX x=true→iM n x way v b=some (f x)):
  w5 n x (s:Int) way v b=some ⟨x.nest.take (s+1)++(x.nest.drop (s+1)).map (jW f),x.body.map (y0 f)⟩:=by unfold w5;rw [aN (by omega)];refine Ev.eq (aA (X3 (by omega) (by omega) (by omega)) ?_);rw [show((s:Int)+1).toNat=s+1 by omega,show(0:Int).toNat=0 from rfl,List.drop_zero];refine aA (x:=x.nest.take (s+1)) (bW (by simp;omega)) (aA (aJj hn h3 h4 hF) ?_);exact wD (F:=fun x8 k=>Option.bind (vJ n x8 way v b) k) (g:=jW f) (s:=s+1) (pre:=x.nest.take (s+1)) (K:=fun x4=>some (⟨x4,x.body.map (y0 f)⟩:Part)) (fun l hl k hk=>aA (aJh (by omega) (h2 l hl) (hF _ (by omega))) hk) (by omega) (by simp;omega) (by omega) (by omega) (Ev.some rfl)
theorem aCh(n:Nat){a:Affine}(h:BA 1000 a):iO n a=some a:=by unfold iO;rw [eB _ h];rfl
theorem yW{n:Nat}(hn:5000≤n){l:List Affine}(h:BAs 1000 l):dY n l=some l:=by unfold dY;exact Ev.eq (mY (K:=fun x1=>some x1) (fun x hx=>aCh n (h.2 x hx)) h.1 hn (Ev.some rfl))
theorem aCi{n:Nat}(hn:5000≤n){a:Access}(h:BAs 1000 a.subs):iP n a=some a:=by unfold iP;rw [yW hn h];rfl
theorem Z6: ∀(L n:Nat) (e:Expr),5000+L≤n→BE 1000 L e→s_l16OwnExpr (n+1) e=some e
 |0,_,_,_,h=>h.elim
 |L+1,n,e,hn,h=>by
  obtain⟨h1,h2,h3,h4⟩:=h;obtain⟨n,rfl⟩: ∃j,n=j+1:=⟨n-1,by omega⟩
  unfold s_l16OwnExpr lV;rw [aCh _ h2,aCi (by omega) h3];refine Ev.eq (aA rfl (aA rfl (aA (x:=e.kids) ?_ (Ev.some (by cases e;rfl)))));exact Ev.eq (mY (f:=s_l16OwnExpr (n+1)) (K:=fun x1=>some x1) (fun x hx=>Z6 L n x (by omega) (h4 x hx)) h1 (by omega) (Ev.some rfl))
theorem aGK{n:Nat}(hn:6000≤n){s:Stmt}(h:BS 1000 s):nL n s=some s:=by
 obtain⟨n,rfl⟩: ∃j,n=j+1:=⟨n-1,by omega⟩
 unfold nL;rw [aCi (by omega) h.1,Z6 5 n s.value (by omega) h.2];rfl
theorem aGM{n:Nat}(hn:6000≤n){x:Part}(h:BPt 1000 x):nM n x=some x:=by
 obtain⟨⟨h1,h2⟩,h3,h4⟩:=h;have e1:jC n x.nest=some x.nest:=by
  unfold jC;refine Ev.eq (mY (K:=fun x1=>some x1) (fun l hl=>?_) h1 (by omega) (Ev.some rfl));unfold tI;rw [yW (by omega) (h2 l hl).1,yW (by omega) (h2 l hl).2];rfl
 have e2:jA n x.body=some x.body:=by
  unfold jA;exact Ev.eq (mY (K:=fun x1=>some x1) (fun l hl=>aGK hn (h4 l hl)) h3 (by omega) (Ev.some rfl))
 unfold nM;rw [e1,e2];rfl
theorem aGL{n:Nat}(hn:6000≤n){p:Prog}(h:BG 1000 p):kD n p=some p:=by
 obtain⟨⟨h1,h2⟩,h3,h4⟩:=h;have e1:iF n p.arrays=some p.arrays:=by
  unfold iF;refine Ev.eq (mY (K:=fun x1=>some x1) (fun l hl=>?_) h1 (by omega) (Ev.some rfl));unfold rA;rw [eB _ (h2 l hl)];rfl
 have e2:jB n p.parts=some p.parts:=by
  unfold jB;exact Ev.eq (mY (K:=fun x1=>some x1) (fun l hl=>aGM hn (h4 l hl)) h3 (by omega) (Ev.some rfl))
 unfold kD;rw [e1,e2];rfl
theorem rV{α:Type}{f:α→α→Option Bool}{l:List α}(hf: ∀x∈l,f x x=some true){n:Nat}(hn:l.length<n)(hl:l.length≤1000000):
  (bif !decide ((l.length:Int)=(l.length:Int)) then(some false) else(aM (fun again2 (x1:Int)=>bif decide (x1<(l.length:Int)) then(Option.bind (ix l x1) fun x3=>Option.bind (ix l x1) fun x4=>Option.bind (f x3 x4) fun x5=>bif !x5 then(some false) else(again2 (wr (x1+1)))) else(some true)) n 0))=some true:=by
 refine Ev.eq (cZ (fun h=>(h rfl).elim) fun _=>?_);refine Ev.loop (fun x:Int=> ∃i:Nat,x=i∧i≤l.length) (fun x=>l.length-x.toNat) ?_ n 0 ⟨0,rfl,by omega⟩ (by omega);rintro again x ⟨i,rfl,hi⟩ hr;refine aH (fun hlt=>?_) fun _=>Ev.some rfl;obtain⟨e,hg⟩: ∃e,l[i]? =some e:=⟨_,cP (show i<l.length by omega)⟩
 refine aA (aS hg) (aA (aS hg) (aA (hf e (cS hg)) (b6 ?_)));rw [aN (by omega)];exact hr _ ⟨i+1,by omega,by omega⟩ (by omega)
theorem aBX{a:List Int}{n:Nat}(hn:a.length<n)(hl:a.length≤1000000):mV n a a=some true:=by
 unfold mV;refine Ev.eq (cZ (fun h=>(h rfl).elim) fun _=>?_);refine Ev.loop (fun x:Int=> ∃i:Nat,x=i∧i≤a.length) (fun x=>a.length-x.toNat) ?_ n 0 ⟨0,rfl,by omega⟩ (by omega);rintro again x ⟨i,rfl,hi⟩ hr;refine aH (fun hlt=>?_) fun _=>Ev.some rfl;obtain⟨e,hg⟩: ∃e,a[i]? =some e:=⟨_,cP (show i<a.length by omega)⟩
 refine aA (aS hg) (aA (aS hg) (cZ (fun h=>(h rfl).elim) fun _=>?_));rw [aN (by omega)];exact hr _ ⟨i+1,by omega,by omega⟩ (by omega)
theorem aIU{n:Nat}(hn:5000≤n){a:Affine}(h:BA 1000 a):dF n a a=some true:=by unfold BA at h;unfold dF;refine Ev.eq (Ev.jn (fun z=>z=true) (fun j hj=>aA (aBX (by omega) (by omega)) (b9 (hj _ (decide_eq_true rfl)))) fun z hz=>Ev.some hz)
theorem aBn{n:Nat}(hn:5000≤n){l:List Affine}(h:BAs 1000 l):d4 n l l (fun q0 q1=>dF n q0 q1)=some true:=by have:=h.1;unfold d4;exact rV (fun x hx=>aIU hn (h.2 x hx)) (by omega) (by omega)
theorem aIV{n:Nat}(hn:5000≤n){a:Access}(h:BAs 1000 a.subs):lD n a a=some true:=by unfold lD;refine Ev.eq (Ev.jn (fun z=>z=true) (fun j hj=>?_) fun z hz=>Ev.some hz);exact aH (fun _=>aA (aBn hn h) (hj _ rfl)) fun h=>(h rfl).elim
theorem aFf: ∀(L n:Nat) (e:Expr),5000+L≤n→BE 1000 L e→i_exprSame (n+1) e e=some true
 |0,_,_,_,h=>h.elim
 |L+1,n,e,hn,h=>by
  obtain⟨h1,h2,h3,h4⟩:=h;obtain⟨n,rfl⟩: ∃j,n=j+1:=⟨n-1,by omega⟩
  unfold i_exprSame;refine Ev.eq (Ev.jn (fun z=>z=true) (fun j hj=>?_) fun z hz=>Ev.some hz);refine aH (fun _=>aH (fun _=>aA (aIU (by omega) h2) (b9 (aA (aIV (by omega) h3) (b9 (aA (x:=true) ?_ (hj _ rfl)))))) fun h=>(h rfl).elim) fun h=>(h rfl).elim;unfold l5;exact rV (fun x hx=>aFf L n x (by omega) (h4 x hx)) (by omega) (by omega)
theorem aKx{n:Nat}(hn:6000≤n){s:Stmt}(h:BS 1000 s):pQ n s s=some true:=by
 obtain⟨n,rfl⟩: ∃j,n=j+1:=⟨n-1,by omega⟩
 unfold pQ;refine Ev.eq (Ev.jn (fun z=>z=true) (fun j hj=>?_) fun z hz=>Ev.some hz);exact aA (aIV (by omega) h.1) (b9 (aA (aFf 5 n s.value (by omega) h.2) (hj _ rfl)))
theorem aK2{n:Nat}(hn:5000≤n){nest:List Loop}(h:BN 1000 nest):tX n nest nest=some true:=by
 have:=h.1;unfold tX l4;rw [rV (fun l hl=>?_) (by omega) (by omega)]
 ·rfl
 unfold nU;refine Ev.eq (Ev.jn (fun z=>z=true) (fun j hj=>?_) fun z hz=>Ev.some hz);exact aA (aBn hn (h.2 l hl).1) (b9 (aA (aBn hn (h.2 l hl).2) (hj _ rfl)))
theorem aKX{n:Nat}(hn:6000≤n){x:Part}(h:BPt 1000 x):gS n x x=some true:=by have:=h.2.1;unfold gS;refine Ev.eq (Ev.jn (fun z=>z=true) (fun j hj=>?_) fun z hz=>Ev.some hz);refine aA (aK2 (by omega) h.1) (b9 (aA (x:=true) ?_ (hj _ rfl)));unfold lZ;exact rV (fun s hs=>aKx hn (h.2.2 s hs)) (by omega) (by omega)
theorem aKV{n:Nat}(hn:6000≤n){p:Prog}(h:BG 1000 p):fW n p p=some true:=by
 obtain⟨⟨h1,h2⟩,h3,h4⟩:=h;unfold fW;refine Ev.eq (Ev.jn (fun z=>z=true) (fun j hj=>?_) fun z hz=>Ev.some hz);refine aA (x:=true) ?_ (b9 (aA (x:=true) ?_ (hj _ rfl)))
 ·unfold lB;refine rV (fun x hx=>?_) (by omega) (by omega);unfold gT;refine Ev.eq (Ev.jn (fun z=>z=true) (fun j hj=>?_) fun z hz=>Ev.some hz)
  have:=h2 x hx;exact aH (fun _=>aA (aBX (by omega) (by omega)) (hj _ rfl)) fun h=>(h rfl).elim
 unfold l3;exact rV (fun x hx=>aKX hn (h4 x hx)) (by omega) (by omega)
def kT(p:Prog)(part loop:Int):Bool:=bM p&&match ix p.parts part with
 |some x=>decide (0≤loop∧loop<(x.nest.length:Int))
 |none=>false
theorem aLc{α:Type}{l:List α}{i:Int}(h: ¬(0≤i∧i<(l.length:Int))):ix l i=none:=by
 cases hx:ix l i with
 |none=>rfl
 |some x=>
  obtain⟨h1,h2⟩:=tR hx
  have:=(cY.1 h2).1;exact absurd ⟨h1,by omega⟩ h
theorem aPp{α:Type}{l:List α}{i:Int}{x:α}(h:ix l i=some x): ∃k:Nat,i=k∧k<l.length∧l[k]? =some x:=by obtain⟨h1,h2⟩:=tR h;exact⟨i.toNat,by omega,(cY.1 h2).1,h2⟩
theorem xM(n:Nat){p:Prog}(h:p.parts.length≤1000)(part:Int):dL n p part=some (decide (0≤part∧part<(p.parts.length:Int))):=by unfold dL;rw [eS,aN (by omega)];exact congrArg some (decide_eq_decide.2 (by omega))
theorem aMj{n:Nat}(hn:7000≤n){p:Prog}(hp:BG 1000 p)(part loop:Int)(hl:loop≠ -1):tV n p part loop=some (if kT p part loop=true then(p,true) else(⟨[],[]⟩,false)):=by
 unfold tV;refine Ev.eq (Ev.jn (fun z=>z= !kT p part loop) (fun j hj=>?_) fun z hz=>?_)
 ·refine aA (eG hn hp.sm) (Ev.cond (fun h=>?_) fun h=>?_)
  ·refine hj _ ?_;unfold kT;rw [show bM p=false by simpa using h];rfl
  have hv:bM p=true:=by simpa using h
  refine aA (xM n hp.2.1 part) ?_;by_cases hi:0≤part∧part<(p.parts.length:Int)
  ·obtain⟨x,hx,hx2⟩:=jL hi.1 hi.2;rw [decide_eq_true hi];refine b6 (cZ (fun _=>aA (x:=kT p part loop) ?_ (hj _ rfl)) fun h=>absurd h hl);unfold l8;refine Ev.eq (Ev.jn (fun z=>z=kT p part loop) (fun j hj=>?_) fun z hz=>Ev.some hz);rw [xM n hp.2.1 part,decide_eq_true hi];refine aA rfl (b9 (aA hx ?_))
   have:=(hp.2.2 x (cS hx2)).1.1;rw [aN (by omega),eS];refine aA rfl (hj _ ?_);unfold kT;rw [hv,hx];exact decide_eq_decide.2 (by omega)
  rw [decide_eq_false hi];refine b9 (hj _ ?_);unfold kT;rw [aLc hi,vBj];rfl
 subst hz;by_cases hc:kT p part loop=true
 ·rw [hc];have hv:bM p=true:=by unfold kT at hc;rw [vBt] at hc;exact hc.1
  obtain⟨x,hx⟩: ∃x,ix p.parts part=some x:=by
   cases hx:ix p.parts part with
   |some x=>exact⟨x,rfl⟩
   |none=>unfold kT at hc;rw [hx,vBj] at hc;cases hc
  exact b6 (aA (aGC (by omega) hv) (aA hx (Ev.some rfl)))
 rw [show kT p part loop=false by simpa using hc];exact b9 (Ev.some rfl)
def aBD(q:Prog):Prog×Bool:=if bM q=true then(q,true) else(⟨[],[]⟩,false)
theorem aFe{n:Nat}(hn:7000≤n){p:Prog}(hp:BG 1000 p):tU n p=some (aBD p):=by
 unfold tU aBD;refine Ev.eq (aA (eG hn hp.sm) (Ev.cond (fun h=>Ev.some ?_) fun h=>?_))
 ·rw [if_neg (by simpa using h)]
 have hv:bM p=true:=by simpa using h
 rw [if_pos hv];exact aA (aGC (by omega) hv) (Ev.some rfl)
theorem aPt{n:Nat}(hn:7000≤n){p:Prog}(hp:BG 1000 p)(part loop:Int):T3 n p part loop=some (kT p part loop):=by
 unfold T3;refine Ev.eq (Ev.jn (fun z=>z=kT p part loop) (fun j hj=>?_) fun z hz=>Ev.some hz);refine aA (kW hn hp.sm) (Ev.cond (fun hv=>?_) fun hv=>hj _ (by unfold kT;rw [hv];rfl));refine aH (fun h1=>aH (fun h2=>?_) fun h2=>?_) fun h1=>?_
 ·obtain⟨x,hx,hx2⟩:=jL h1 h2;refine aH (fun h3=>aA hx (hj _ ?_)) fun h3=>hj _ ?_
  ·unfold kT;rw [hv,hx];exact decide_eq_decide.2 (by omega)
  unfold kT;rw [hv,hx];exact(decide_eq_false (by omega)).symm
 ·exact hj _ (by unfold kT;rw [aLc (by omega),vBj])
 exact hj _ (by unfold kT;rw [aLc (by omega),vBj])
theorem aMK{n:Nat}(hn:7000≤n){p:Prog}(hp:BG 1000 p){i:Nat}(hi:i<p.parts.length){y:Part}(hy:BPt 1000 y):B3 n p (i:Int) 1 [y]=some (aBD ⟨p.arrays,p.parts.set i y⟩):=by
 have hpl:=hp.2.1;have hq:BG 1000 ⟨p.arrays,p.parts.set i y⟩:=⟨hp.1,by dsimp only;rw [vAV];exact hpl,tF hp.2.2 hy⟩
 unfold B3 aBD;refine Ev.eq (aA (wK (by omega) hp) (aA (X3 (by omega) (by omega) (by omega)) ?_));rw [vAE,show(0:Int).toNat=0 from rfl,List.drop_zero];refine aA (x:=p.parts.take i) (bW (by simp;omega)) (aA (x:=p.parts.take i++[y]) (bW (by simp;omega)) ?_);rw [aN (by omega)];refine aA (X3 (by omega) (by omega) (by omega)) ?_;rw [vAE,qI,show((i:Int)+1).toNat=i+1 by omega];refine aA (x:=p.parts.set i y) ?_ (aA (kW hn hq.sm) (Ev.cond (fun h=>Ev.some ?_) fun h=>?_))
 ·rw [bW (by simp;omega),List.set_eq_take_append_cons_drop,if_pos hi,vAK];rfl
 ·rw [if_neg (by simpa using h)]
 rw [if_pos (by simpa using h)];exact aA (wK (by omega) hq) (Ev.some rfl)
def aHW(a:Affine)(k:Int)(b:Affine):Affine:=⟨List.zipWith (fun x y=>x+k*y) a.coefs b.coefs,a.const+k*b.const⟩
def aEq(k:Nat):Affine:=⟨[0,0,0,0].set k 1,0⟩
def bB(m:Int)(a:Affine):Prop:=a.coefs.length=4∧kG m a.const∧ ∀c∈a.coefs,kG m c
theorem bB.mono{m m':Int}{a:Affine}(h:bB m a)(hm:m≤m'):bB m' a:=⟨h.1,⟨by have:=h.2.1.1;omega,by have:=h.2.1.2;omega⟩,fun c hc=>⟨by have:=(h.2.2 c hc).1;omega,by have:=(h.2.2 c hc).2;omega⟩⟩
theorem aNI{l:List Int}(h:l.length=4): ∃a b c d,l=[a,b,c,d]:=by
 match l,h with
 | [a,b,c,d],_=>exact⟨a,b,c,d,rfl⟩
theorem aMo{a:Affine}(h:bX a=true):bB 99 a:=by obtain⟨h1,h2,h3⟩:=jJ h;exact⟨h1,h2,fun c hc=>⟨by have:=(h3 c hc).1;omega,by have:=(h3 c hc).2;omega⟩⟩
theorem aMT{k:Nat}(hk:k<4):bB 6 (aEq k):=by rcases(show k=0∨k=1∨k=2∨k=3 by omega) with rfl|rfl|rfl|rfl<;>(unfold bB kG aEq;simp)
theorem yY{k b:Int}(hk:kG 1000 k)(hb:kG 1000 b):kG 1000000 (k*b):=aIm (by omega) (by omega) hk hb
theorem wrB{a x:Int}(ha:kG 1000 a)(hx:kG 1000000 x):wr (a+wr x)=a+x:=by unfold kG at ha hx;rw [aN (n:=x) (by omega),aN (by omega)]
theorem aPs(m:Nat)(a0 a1 a2 a3 ac k b0 b1 b2 b3 bc:Int):aIy (m+6) ⟨[a0,a1,a2,a3],ac⟩ k ⟨[b0,b1,b2,b3],bc⟩=
  some ⟨[wr (a0+wr (k*b0)),wr (a1+wr (k*b1)),wr (a2+wr (k*b2)),wr (a3+wr (k*b3))],wr (ac+wr (k*bc))⟩:=by kernel_rfl
theorem aLk{n:Nat}(hn:5000≤n){a b:Affine}(ha:bB 1000 a)(hb:bB 1000 b){k:Int}(hk:kG 1000 k):aIy n a k b=some (aHW a k b):=by
 obtain⟨m,rfl⟩: ∃m,n=m+6:=⟨n-6,by omega⟩
 obtain⟨ac,a⟩:=a;obtain⟨bc,b⟩:=b;obtain⟨h1,h2,h3⟩:=ha;obtain⟨g1,g2,g3⟩:=hb;dsimp only at h1 h2 h3 g1 g2 g3;obtain⟨a0,a1,a2,a3,rfl⟩:=aNI h1;obtain⟨b0,b1,b2,b3,rfl⟩:=aNI g1;rw [aPs,wrB (h3 a0 (by simp)) (yY hk (g3 b0 (by simp))),wrB (h3 a1 (by simp)) (yY hk (g3 b1 (by simp))),wrB (h3 a2 (by simp)) (yY hk (g3 b2 (by simp))),wrB (h3 a3 (by simp)) (yY hk (g3 b3 (by simp))),wrB h2 (yY hk g2)];rfl
def aN2(a:Affine)(x:Int)(b:Affine)(y:Int):Affine:=⟨List.zipWith (fun p q=>x*p+y*q) a.coefs b.coefs,x*a.const+y*b.const⟩
theorem aPe(m:Nat)(a0 a1 a2 a3 ac x b0 b1 b2 b3 bc y:Int):eO (m+6) ⟨[a0,a1,a2,a3],ac⟩ x ⟨[b0,b1,b2,b3],bc⟩ y=
  some ⟨[wr (wr (x*a0)+wr (y*b0)),wr (wr (x*a1)+wr (y*b1)),wr (wr (x*a2)+wr (y*b2)),wr (wr (x*a3)+wr (y*b3))],wr (wr (x*ac)+wr (y*bc))⟩:=by kernel_rfl
theorem wrC{a x:Int}(ha:kG 1000000 a)(hx:kG 1000000 x):wr (wr a+wr x)=a+x:=by unfold kG at ha hx;rw [aN (n:=x) (by omega),aN (n:=a) (by omega),aN (by omega)]
theorem aEH{n:Nat}(hn:5000≤n){a b:Affine}(ha:bB 1000 a)(hb:bB 1000 b){x y:Int}(hx:kG 1000 x)(hy:kG 1000 y):eO n a x b y=some (aN2 a x b y):=by
 obtain⟨m,rfl⟩: ∃m,n=m+6:=⟨n-6,by omega⟩
 obtain⟨ac,a⟩:=a;obtain⟨bc,b⟩:=b;obtain⟨h1,h2,h3⟩:=ha;obtain⟨g1,g2,g3⟩:=hb;dsimp only at h1 h2 h3 g1 g2 g3;obtain⟨a0,a1,a2,a3,rfl⟩:=aNI h1;obtain⟨b0,b1,b2,b3,rfl⟩:=aNI g1;rw [aPe,wrC (yY hx (h3 a0 (by simp))) (yY hy (g3 b0 (by simp))),wrC (yY hx (h3 a1 (by simp))) (yY hy (g3 b1 (by simp))),wrC (yY hx (h3 a2 (by simp))) (yY hy (g3 b2 (by simp))),wrC (yY hx (h3 a3 (by simp))) (yY hy (g3 b3 (by simp))),wrC (yY hx h2) (yY hy g2)];rfl
theorem aN1(a b:Affine)(k:Int):aN2 a 1 b k=aHW a k b:=by unfold aN2 aHW;simp only [Int.one_mul]
theorem aPL(a b:Affine)(k:Int)(ha:a.coefs.length=4)(hb:b.coefs.length=4):(aHW a k b).coefs.length=4:=by unfold aHW;rw [vBs];omega
def aKw(a:Affine)(k:Nat)(b:Affine):Affine:=aHW ⟨a.coefs.set k 0,a.const⟩ (a.coefs.getD k 0) b
theorem aIc{a:Affine}(h:bB 1000 a)(k:Nat):bB 1000 ⟨a.coefs.set k 0,a.const⟩:=⟨by dsimp only;rw [vAV];exact h.1,h.2.1,tF h.2.2 ⟨by omega,by omega⟩⟩
theorem aIM{a:Affine}(h:bB 1000 a){k:Nat}(hk:k<4):a.coefs[k]? =some (a.coefs.getD k 0)∧kG 1000 (a.coefs.getD k 0):=by
 have hl:k<a.coefs.length:=by rw [h.1];exact hk
 have e:=cP hl;have e2:a.coefs.getD k 0=a.coefs[k]:=by rw [K6,e];rfl
 rw [e2];exact⟨e,h.2.2 _ (W4 hl)⟩
theorem aGY{n:Nat}(hn:5000≤n){a b:Affine}(ha:bB 1000 a)(hb:bB 1000 b){k:Nat}(hk:k<4):U4 n a (k:Int) b=some (aKw a k b):=by
 obtain⟨h1,h2⟩:=aIM ha hk;have hl:k<a.coefs.length:=by rw [ha.1];exact hk
 unfold U4;rw [aCb n (by have:=ha.1;omega)];refine Ev.eq (aA rfl (aA (aS h1) (aA (fL (by omega) _) (aA (aLk hn (aIc ha k) hb h2) (Ev.some rfl)))))
theorem aGq{n:Nat}(hn:5000≤n){a b:Affine}(ha:bB 1000 a)(hb:bB 1000 b){k:Nat}(hk:k<4):w9 n a (k:Int) b=some (aKw a k b):=by
 obtain⟨h1,h2⟩:=aIM ha hk;have hl:k<a.coefs.length:=by rw [ha.1];exact hk
 unfold w9;rw [eB _ (by have:=ha.1;omega)];refine Ev.eq (aA rfl (aA (aS h1) (aA (fL (by omega) _) (aA (aS h1) (aA (aEH hn (aIc ha k) hb ⟨by omega,by omega⟩ h2) (Ev.some ?_))))));rw [aN1];rfl
theorem aKC(n:Nat){k:Nat}(hk:k<4):mH n (k:Int)=some (aEq k):=by rcases(show k=0∨k=1∨k=2∨k=3 by omega) with rfl|rfl|rfl|rfl<;>rfl
def noP:Prog×Bool:=(⟨[],[]⟩,false)
theorem aAx{p:Prog}{part loop:Int}(h:kT p part loop=true):bM p=true∧ ∃(i k:Nat) (P:Part) (l:Loop),part=i∧loop=k∧p.parts[i]? =some P∧P.nest[k]? =some l∧i<p.parts.length∧k<P.nest.length∧cV p.arrays P=true∧k<4:=by
 unfold kT at h;rw [vBt] at h;obtain⟨hv,h⟩:=h;refine⟨hv,?_⟩;cases hx:ix p.parts part with
 |none=>rw [hx] at h;cases h
 |some P=>
  rw [hx] at h;obtain⟨i,rfl,hi,hP⟩:=aPp hx;obtain⟨h1,h2⟩:=of_decide_eq_true h;obtain⟨l,hl,hl2⟩:=jL h1 h2;have hok:=(eN hv).2.2.2.1 P (cS hP)
  have:=(qN hok).1;exact⟨i,loop.toNat,P,l,rfl,by omega,hP,hl2,hi,by omega,hok,by omega⟩
theorem aMi{p:Prog}(hp:BG 1000 p)(i:Nat){y:Part}(hy:BPt 4 y):BG 1000 ⟨p.arrays,p.parts.set i y⟩:=⟨hp.1,by dsimp only;rw [vAV];exact hp.2.1,tF hp.2.2 (hy.mono (by omega))⟩
theorem aE8{p:Prog}{part loop:Int}(h:loop<0):kT p part loop=false:=by
 cases hc:kT p part loop with
 |false=>rfl
 |true=>obtain⟨_,i,k,P,l,_,hk,_⟩:=aAx hc;omega
theorem aJN{n:Nat}(hn:7000≤n){p:Prog}(hp:BG 1000 p)(part:Int):Ev (tV n p part (-1)) (fun r=>r.2=false→r=noP):=by
 unfold tV;refine Ev.jn (fun z=>z=false→bM p=true∧(0≤part∧part<(p.parts.length:Int))) (fun j hj=>?_) fun z hz=>?_
 ·refine aA (eG hn hp.sm) (Ev.cond (fun h=>hj _ fun h=>by cases h) fun h=>?_);refine aA (xM n hp.2.1 part) (Ev.cond (fun h=>hj _ fun h=>by cases h) fun h2=>cZ (fun h=>(h rfl).elim) fun _=>hj _ fun _=>⟨by simpa using h,by simpa using h2⟩)
 refine Ev.cond (fun _=>Ev.some fun _=>rfl) fun h=>?_;obtain⟨hv,h1,h2⟩:=hz h;obtain⟨x,hx,hx2⟩:=jL h1 h2;exact aA (aGC (by omega) hv) (aA hx (Ev.some fun h=>by cases h))
theorem aKA{α:Type}{l:List α}{i:Nat}{x:α}(h:l[i]? =some x):l.set i x=l:=by
 refine List.ext_getElem? fun j=>?_;by_cases hj:i=j
 ·subst hj;rw [vAA (cY.1 h).1,h]
 rw [vAH hj]
theorem aNU{q:Prog}(h:BG 1000 q):BG 1000 (aBD q).1:=by
 unfold aBD;split
 ·exact h
 exact⟨⟨by simp,fun x hx=>by cases hx⟩,by simp,fun x hx=>by cases hx⟩
theorem aK1:BG 1000 noP.1:=⟨⟨by simp [noP],fun x hx=>by cases hx⟩,by simp [noP],fun x hx=>by cases hx⟩
def kA(k:Nat)(s:Int):Affine:=⟨[0,0,0,0].set k s,0⟩
theorem aPw{B:Option Bool}{a b:Int}(h:b≤1048576→Ev B fun r=>r=true):Ev (jn (fun(x2:Bool)=>bif x2 then(some true) else B) fun j1=>bif decide ((1048576:Int)<a) then(j1 true) else(j1 (decide ((1048576:Int)<b)))) (fun r=>r=true):=by exact Ev.jn (fun z=>z=false→b≤1048576) (fun j hj=>aH (fun _=>hj _ fun h=>by cases h) fun _=>hj _ fun h=>by have:=of_decide_eq_false h;omega) fun z hz=>Ev.cond (fun _=>Ev.some rfl) fun h0=>h (hz h0)
theorem aPv{I S:Option (Prog×Bool)}{REST:Prog×Bool→Prog×Bool→Option Bool}{R:Prog×Bool}(hR:BG 1000 R.1)(h1:I=some R)(h2:S=some R)(hb:R.2=true→Ev (REST R R) fun r=>r=true):
  Ev (Option.bind I fun x4=>Option.bind S fun x5=>jn (fun(x8:Bool)=>
    bif x8 then(
     jn (fun(x11:Bool)=>
      some x11
     ) (fun j9=>
      bif(x4.2==x5.2) then(
       Option.bind (fW N x4.1 x5.1) fun x10=>
       j9 x10
      ) else(
       j9 false
      )
     )
    ) else(
     REST x4 x5
    )
   ) (fun j6=>
    bif !(x4.2==x5.2) then(
     j6 true
    ) else(
     Option.bind (fW N x4.1 x5.1) fun x7=>
     bif !x7 then(
      j6 true
     ) else(
      j6 (!x4.2)
     )
    )
   )) (fun r=>r=true):=by
 have hN:N=100000:=rfl;have hs:=aKV (n:=N) (by omega) hR;have he:(R.2==R.2)=true:=by cases R.2<;>rfl
 refine aA h1 (aA h2 (Ev.jn (fun z=>z= !R.2) (fun j hj=>?_) fun z hz=>?_))
 ·rw [he];exact b6 (aA hs (b6 (hj _ rfl)))
 subst hz;cases hr:R.2 with
 |false=>exact b9 (Ev.jn (fun z=>z=true) (fun j hj=>b9 (aA hs (hj _ rfl))) fun z hz=>Ev.some hz)
 |true=>exact b6 (hb hr)
theorem sH{α β:Type}{f g:α→β}: ∀{l:List α},(∀x∈l,f x=g x)→l.map f=l.map g
 | [],_=>rfl
 |x::l,h=>by rw [vBU,vBU,h x uN,sH fun y hy=>h y (rQ _ hy)]
theorem aPz{p q:Prog}(h:aBD p=(q,true)):q=p∧bM p=true:=by
 unfold aBD at h;split at h
 ·rename_i hv;cases h;exact⟨rfl,hv⟩
 cases h
theorem aIF(m:Int): ∀(a b p:List Int),a.length=b.length→uX (List.zipWith (fun x y=>x+m*y) a b) p=uX a p+m*uX b p
 | [],[],p,_=>by simp [uX]
 |x::a,y::b,[],_=>by simp [uX]
 |x::a,y::b,z::p,h=>by simp only [List.zipWith_cons_cons,uX];rw [aIF m a b p (by simpa using h),Int.add_mul,vBV,Int.mul_assoc];omega
theorem aIG: ∀(cs p:List Int) (k:Nat) (v:Int),k<p.length→uX cs (p.set k v)=uX cs p+cs.getD k 0*(v-p.getD k 0)
 | [],p,k,v,_=>by simp [uX]
 |c::cs,x::p,0,v,_=>by
  simp only [List.set_cons_zero,uX,List.getD_cons_zero];rw [vBW];omega
 |c::cs,x::p,k+1,v,h=>by simp only [List.set_cons_succ,uX,List.getD_cons_succ];rw [aIG cs p k v (by simpa using h)];omega
def low(k:Nat)(b:Affine):Prop:= ∀j,k≤j→b.coefs.getD j 0=0
theorem aJz{α:Type}{l:List α}{v d:α}:(l++[v]).getD l.length d=v:=by rw [K6,vAp (kC _),vBw];rfl
theorem aJy{α:Type}{l:List α}{k:Nat}{v d:α}(h:k<l.length):(l++[v]).getD k d=l.getD k d:=by rw [K6,vAo h,K6]
theorem U7{α β:Type}{f g:α→List β}{l:List α}(h: ∀x∈l,f x=g x):l.flatMap f=l.flatMap g:=by rw [List.flatMap_def,List.flatMap_def,sH h]
theorem wA{list:List Arr}{x:Part}(h:cV list x=true):dQ x=pts x.nest []:=(aF2 (iQ h).1).2.2.2.1
theorem aOx{f:Affine→Affine}{t q:List Int}: ∀{ss:List Affine} (ds:List Int) (acc:Int),(∀x∈ss,cJ (f x) t=cJ x q)→l7 (ss.map f) ds t acc=l7 ss ds q acc
 | [],ds,acc,_=>by cases ds<;>rfl
 |s::ss,[],acc,_=>rfl
 |s::ss,d::ds,acc,h=>by
  simp only [List.map_cons,l7];rw [h s uN];split
  ·exact aOx ds _ fun x hx=>h x (rQ _ hx)
  rfl
theorem aHo{f:Affine→Affine}{t q:List Int}{a:Access}(h: ∀x∈a.subs,cJ (f x) t=cJ x q): ∀(xs:List Arr) (base:Int),cK xs (fV f a) t base=cK xs a q base
 | [],_=>rfl
 |x::xs,base=>by
  have e1:l7 (fV f a).subs x.dims t 0=l7 a.subs x.dims q 0:=aOx _ _ h;have e2:(fV f a).subs.length=a.subs.length:=by simp [fV]
  have e3:(fV f a).array=a.array:=rfl;simp only [cK,e1,e2,e3,aHo h xs]
theorem aIh{d:Int}{f:Affine→Affine}: ∀{L:Nat} {e:Expr},dO L e d=true→bY L (wE f L e)=(bY L e).map (fV f)
 |0,_,h=>by cases h
 |L+1,e,h=>by
  obtain⟨hk,ho,hs⟩:=fY h;show(if e.kind=3 then [if e.kind=3 then fV f e.read else⟨[],[]⟩] else [])++(e.kids.map (wE f L)).flatMap (bY L)=((if e.kind=3 then [e.read] else [])++e.kids.flatMap (bY L)).map (fV f);rw [vAM,List.flatMap_map,vBN];congr 1
  ·by_cases h3:e.kind=3
   ·simp only [if_pos h3];rfl
   simp only [if_neg h3];rfl
  exact U7 fun x hx=>aIh (hs x hx)
theorem aKf{d:Int}{f:Affine→Affine}{t q:List Int}(h: ∀x,bX x=true→cJ (f x) t=cJ x q)(list:List Arr)(m:List Int): ∀{L:Nat} {e:Expr},dO L e d=true→pA L list m (wE f L e) t=pA L list m e q
 |0,_,_=>rfl
 |L+1,e,he=>by
  obtain⟨hk,ho,hs⟩:=fY he;have e1:(wE f (L+1) e).kind=e.kind:=rfl;have e2:(wE f (L+1) e).num=e.num:=rfl;have e5:(wE f (L+1) e).kids=e.kids.map (wE f L):=rfl;unfold pA;rw [e1,e2,e5];by_cases h1:e.kind=1
  ·rw [if_pos h1,if_pos h1]
  rw [if_neg h1,if_neg h1];by_cases h2:e.kind=2
  ·have e3:(wE f (L+1) e).index=f e.index:=by show(if e.kind=2 then f e.index else _)=_;rw [if_pos h2]
   rw [if_pos h2,if_pos h2,e3,h _ (yU ho h2).1]
  rw [if_neg h2,if_neg h2];by_cases h3:e.kind=3
  ·have e4:(wE f (L+1) e).read=fV f e.read:=by show(if e.kind=3 then fV f e.read else _)=_;rw [if_pos h3]
   rw [if_pos h3,if_pos h3,e4,aHo fun x hx=>h x ((uU (yT ho h3).1).2.2 x hx)]
  rw [if_neg h3,if_neg h3];obtain⟨kind,num,index,read,kids⟩:=e;dsimp only at hs⊢
  match kids,hs with
  | [],_=>rfl
  | [a],_=>rfl
  | [a,c],hs=>
   simp only [List.map_cons,List.map_nil];rw [aKf h list m (hs a (by simp)),aKf h list m (hs c (by simp))]
  |a::c::e::r,_=>rfl
theorem aIH: ∀{cs:List Int},cO cs=0→ ∀p,uX cs p=0
 | [],_,_=>by simp [uX]
 |c::cs,h,[]=>by simp [uX]
 |c::cs,h,x::p=>by
  have h1:c=0:=P7 (l:=c::cs) (i:=0) rfl (by omega);have h2:cO cs=0:=by
   cases hd:cO cs with
   |zero=>rfl
   |succ k=>unfold cO at h;rw [hd] at h;simp at h
  simp only [uX];rw [h1,aIH h2];simp
theorem aMg{p:Prog}(hv:bM p=true){x:Inst}(hx:cX p x): ∀{Y:List Inst} {m:List Int},(∀y∈Y,cX p y)→(∀y∈Y,com p x y)→hJ p.arrays m→cH p (runI p m x) Y=runI p (cH p m Y) x
 | [],m,_,_,_=>rfl
 |y::Y,m,h1,h2,hm=>by show cH p (runI p (runI p m x) y) Y=runI p (cH p (runI p m y) Y) x;rw [h2 y uN m hm];exact aMg hv hx (fun z hz=>h1 z (rQ _ hz)) (fun z hz=>h2 z (rQ _ hz)) (xC hv hm (h1 y uN))
theorem block{p:Prog}(hv:bM p=true): ∀{X Y:List Inst} {m:List Int},(∀x∈X,cX p x)→(∀y∈Y,cX p y)→(∀x∈X,∀y∈Y,com p x y)→hJ p.arrays m→cH p (cH p m X) Y=cH p (cH p m Y) X
 | [],Y,m,_,_,_,_=>rfl
 |x::X,Y,m,h1,h2,h3,hm=>by show cH p (cH p (runI p m x) X) Y=cH p (runI p (cH p m Y) x) X;rw [block hv (fun z hz=>h1 z (rQ _ hz)) h2 (fun z hz=>h3 z (rQ _ hz)) (xC hv hm (h1 x uN)),aMg hv (h1 x uN) h2 (h3 x uN) hm]
def aAf:List Int→List Int→Bool
 |a::as,b::bs=>if a=b then aAf as bs else decide (a<b)
 | [],_::_=>true
 |_,[]=>false
theorem aKH{n:Nat}{p q:List Int}(hn:p.length<n)(hp:p.length≤1000)(hq:q.length≤1000):xB n p q=some (aAf p q):=by
 unfold xB;refine Ev.eq (Ev.loop (fun x:Int=> ∃i:Nat,x=i∧i≤p.length∧i≤q.length∧aAf (p.drop i) (q.drop i)=aAf p q) (fun x=>p.length-x.toNat) ?_ n 0 ⟨0,rfl,by omega,by omega,rfl⟩ (by omega));rintro again x ⟨i,rfl,h1,h2,hs⟩ hr;refine Ev.jn (fun z=>z=decide (i<p.length∧i<q.length)) (fun j hj=>aH (fun h=>hj _ ?_) fun h=>hj _ ?_) fun z hz=>?_
 ·rw [Bool.eq_iff_iff];simp only [decide_eq_true_eq];omega
 ·exact(decide_eq_false (by omega)).symm
 subst hz;refine aH (fun h=>?_) fun h=>Ev.some ?_
 ·have ha1:=cP h.1;have hb1:=cP h.2;rw [vBg h.1,vBg h.2] at hs;simp only [aAf] at hs;refine aA (aS ha1) (aA (aS hb1) (cZ (fun hne=>Ev.some ?_) fun he=>?_))
  ·rw [if_neg hne] at hs;exact hs
  rw [if_pos he] at hs;rw [aN (by omega)];exact hr _ ⟨i+1,by omega,by omega,by omega,hs⟩ (by omega)
 rw [←hs];by_cases e:i<p.length
 ·have e2:q.drop i=[]:=List.drop_eq_nil_of_le (by omega);rw [e2,vBg e];simp only [aAf];exact decide_eq_false (by omega)
 have e1:p.drop i=[]:=List.drop_eq_nil_of_le (by omega);rw [e1];by_cases e3:i<q.length
 ·rw [vBg e3];simp only [aAf];exact decide_eq_true (by omega)
 rw [List.drop_eq_nil_of_le (show q.length≤i by omega)];simp only [aAf];exact decide_eq_false (by omega)
def nH(l:List Affine):Bool:=l.all fun a=>decide (cO a.coefs=0)
def kM(l:Loop):Bool:=decide (l.lo.length=1)&&(decide (l.hi.length=1)&&(nH l.lo&&nH l.hi))
def kJ(l:List Affine):Int:=(l.headD ⟨[],0⟩).const
theorem aAk{n:Nat}(hn:5000≤n){l:List Affine}(h1:l.length≤2)(h2: ∀x∈l,bX x=true):sM n l=some (nH l):=by
 unfold sM;rw [nD (p:=fun a=>decide (0<(cO a.coefs:Int))) (fun x hx=>by
  unfold qQ;rw [zE hn (show x.coefs.length≤1000 by have:=(jJ (h2 x hx)).1;omega)];rfl) (by omega) (by omega)]
 show some (!l.any _)=_;congr 1;unfold nH;rw [List.not_any_eq_all_not];congr 1;funext a;by_cases h:cO a.coefs=0
 ·simp [h]
 have:0<(cO a.coefs:Int):=by omega
 simp [h];omega
theorem aLt{n:Nat}(hn:5000≤n){l:Loop}(h:F6 l):nW n l=some (if kM l=true then(kJ l.lo,kJ l.hi,true) else(0,0,false)):=by
 obtain⟨⟨h1,h2⟩,h3,h4⟩:=h;unfold nW;refine Ev.eq (Ev.jn (fun z=>z= !kM l) (fun j hj=>?_) fun z hz=>?_)
 ·refine cZ (fun h=>hj _ ?_) fun h=>cZ (fun h'=>hj _ ?_) fun h'=>aA (aAk hn h1 h2) (Ev.cond (fun h5=>hj _ ?_) fun h5=>aA (aAk hn h3 h4) (hj _ ?_))
  ·unfold kM;rw [decide_eq_false (show¬l.lo.length=1 by omega)];rfl
  ·unfold kM;rw [decide_eq_false (show¬l.hi.length=1 by omega),Bool.false_and,vBj];rfl
  ·unfold kM;rw [show nH l.lo=false by simpa using h5];simp
  unfold kM;rw [show nH l.lo=true by simpa using h5,decide_eq_true (show l.lo.length=1 by omega),decide_eq_true (show l.hi.length=1 by omega)];rfl
 subst hz;cases hf:kM l with
 |false=>exact b9 (Ev.some rfl)
 |true=>
  refine b6 ?_;unfold kM at hf;simp only [Bool.and_eq_true,decide_eq_true_eq] at hf;obtain⟨e1,e2,_⟩:=hf;obtain⟨x,hx⟩:=vBm.1 e1;obtain⟨y,hy⟩:=vBm.1 e2;rw [hx,hy];exact aA (x:=x) rfl (aA (x:=y) rfl (Ev.some rfl))
theorem aNS{n:Nat}(hn:5000≤n){l:Loop}(h:F6 l):D1 n l=some (nH l.lo&&nH l.hi):=by
 obtain⟨⟨h1,h2⟩,h3,h4⟩:=h;have hd: ∀x,bX x=true→i8 n x=some (cO x.coefs:Int):=fun x hx=>tJ hn (show x.coefs.length≤1000 by have:=(jJ hx).1;omega);have hall: ∀(l:List Affine) (i:Nat) (x:Affine),l[i]? =some x→cO x.coefs=0→nH (l.take i)=true→nH (l.take (i+1))=true:=fun l i x hx h0 hf=>by
  unfold nH at hf⊢;rw [yB,hx,List.all_append,hf];simp [h0]
 have hno: ∀(l:List Affine) (i:Nat) (x:Affine),l[i]? =some x→ ¬cO x.coefs=0→nH l=false:=fun l i x hx h0=>by
  unfold nH;rw [vAI];exact⟨x,cS hx,by simp [h0]⟩
 unfold D1;refine Ev.eq (Ev.loop (fun z:Int=> ∃i:Nat,z=i∧i≤l.lo.length∧nH (l.lo.take i)=true) (fun z=>l.lo.length-z.toNat) ?_ n _ ⟨0,rfl,by omega,rfl⟩ (by omega));rintro again z ⟨i,rfl,hi,hf⟩ hr;refine aH (fun hlt=>?_) fun hge=>?_
 ·have hlt:i<l.lo.length:=by omega
  have hx:=cP hlt;refine aA (aS hx) (aA (hd _ (h2 _ (W4 hlt))) (aH (fun h0=>Ev.some ?_) fun h0=>?_))
  ·rw [hno l.lo i _ hx (by omega)];rfl
  rw [aN (by omega)];exact hr _ ⟨i+1,by omega,by omega,hall _ _ _ hx (by omega) hf⟩ (by omega)
 have e:i=l.lo.length:=by omega
 subst e;rw [qI] at hf;rw [hf,vAW];refine Ev.loop (fun z:Int=> ∃i:Nat,z=i∧i≤l.hi.length∧nH (l.hi.take i)=true) (fun z=>l.hi.length-z.toNat) ?_ n _ ⟨0,rfl,by omega,rfl⟩ (by omega);rintro again z ⟨i,rfl,hi,hf⟩ hr;refine aH (fun hlt=>?_) fun hge=>Ev.some ?_
 ·have hlt:i<l.hi.length:=by omega
  have hx:=cP hlt;refine aA (aS hx) (aA (hd _ (h4 _ (W4 hlt))) (aH (fun h0=>Ev.some ?_) fun h0=>?_))
  ·exact(hno l.hi i _ hx (by omega)).symm
  rw [aN (by omega)];exact hr _ ⟨i+1,by omega,by omega,hall _ _ _ hx (by omega) hf⟩ (by omega)
 have e:i=l.hi.length:=by omega
 subst e;rw [qI] at hf;exact hf.symm
theorem aJI{n:Nat}(hn:5000≤n){l:Loop}(h:F6 l):w6 n l=some (if kM l=true then(kJ l.lo,kJ l.hi,true) else(0,0,false)):=by
 unfold w6;refine Ev.eq (Ev.jn (fun z=>z= !kM l) (fun j hj=>?_) fun z hz=>?_)
 ·refine cZ (fun h5=>hj _ ?_) fun h5=>cZ (fun h6=>hj _ ?_) fun h6=>aA (aNS hn h) (hj _ ?_)
  ·unfold kM;rw [decide_eq_false (show¬l.lo.length=1 by omega)];rfl
  ·unfold kM;rw [decide_eq_false (show¬l.hi.length=1 by omega),Bool.false_and,vBj];rfl
  unfold kM;rw [decide_eq_true (show l.lo.length=1 by omega),decide_eq_true (show l.hi.length=1 by omega)];rfl
 subst hz;cases hf:kM l with
 |false=>exact b9 (Ev.some rfl)
 |true=>
  refine b6 ?_;unfold kM at hf;simp only [Bool.and_eq_true,decide_eq_true_eq] at hf;obtain⟨e1,e2,_⟩:=hf;obtain⟨x,hx⟩:=vBm.1 e1;obtain⟨y,hy⟩:=vBm.1 e2;rw [hx,hy];exact aA (x:=x) rfl (aA (x:=y) rfl (Ev.some rfl))
end Go.Lift
