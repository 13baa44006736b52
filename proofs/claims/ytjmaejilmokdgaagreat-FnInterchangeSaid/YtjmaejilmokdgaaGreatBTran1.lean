/- Two programs that do the same. -/
import Derived.Test.YtjmaejilmokdgaaGreatBRun1
import Derived.Test.YtjmaejilmokdgaaGreatBDraw1
import Derived.Test.YtjmaejilmokdgaaGreatBDrawD
set_option maxRecDepth 100000
set_option linter.unusedVariables false
namespace Go.Lift
open Go
theorem aNo{n:Nat}(hn:7100≤n){p:Prog}(hp:SmP p)(hv:bM p=true):nT n p=some (gQ p.arrays):=by refine Ev.eq ?_;obtain⟨hl,hd,_⟩:=eN hv;unfold nT;refine aA (eG (by omega) hp) ?_;rw [hv];exact cC (aA (aAq (by omega) hl hd) (Ev.some rfl))
theorem aOL{α:Type}{n:Int}(h:0≤n∧n≤1000000000)(x:α):mk n x=some (List.replicate n.toNat x):=by unfold mk;rw [if_pos h]
theorem aK0{R:Type}{Q:R→Prop}{n:Nat}(hn:5000≤n){T:Nat}(hT:T≤1000){e:Int→Int}(he: ∀i,0≤i→i<(T:Int)→0≤e i∧e i≤999){K:List Int→Option R}(hK: ∀m,m.length=T→(∀x∈m,0≤x∧x≤999)→Ev (K m) Q):
  Ev (aL (fun again (z:(List Int)×Int)=>bif decide (z.2<(z.1.length:Int)) then(Option.bind (ix z.1 z.2) fun _=>Option.bind (dA z.1 z.2 (e z.2)) fun y=>again (y,wr (z.2+1))) else(K z.1)) n (List.replicate T 0,0)) Q:=by
 refine Ev.loop (fun z:List Int×Int=>0≤z.2∧z.2≤T∧z.1.length=T∧ ∀x∈z.1,0≤x∧x≤999) (fun z=>T-z.2.toNat) ?_ n _ ⟨O3 _,by dsimp only;omega,List.length_replicate,fun x hx=>by rw [(vBk.1 hx).2];omega⟩ (by dsimp only;omega);rintro again ⟨x,i⟩ ⟨h0,h1,h2,h3⟩ hr;dsimp only at h0 h1 h2 h3⊢;refine aH (fun hlt=>?_) fun hge=>hK _ h2 h3;refine aA (aCk h0 (by omega)) (aA (aEq h0 (by omega) _) ?_);rw [aO (by omega)];exact hr _ ⟨by dsimp only;omega,by dsimp only;omega,by dsimp only;rw [vAI,h2],fun y hy=>by
  rcases vAW hy with hy|rfl
  ·exact h3 y hy
  exact he i h0 (by omega)⟩ (by dsimp only;omega)
theorem aPS{x:Int}(h:0≤x):0≤Int.tmod x 1000∧Int.tmod x 1000≤999:=by have h1:=vBS 1000 h;have h2:=vBN x (show(0:Int)<1000 by omega);omega
theorem aJ1{p:Prog}(hv:bM p=true):0≤gQ p.arrays∧gQ p.arrays≤144:=by
 obtain⟨hl,hd,_⟩:=eN hv
 have:=aHU hd;omega
theorem aNS{p:Prog}{m:List Int}(hv:bM p=true)(hm:iE p.arrays m):aMP p m=(cH p m (insts p.parts),true):=by unfold aMP;rw [aM4 hv hm];rfl
theorem aLS{p q:Prog}(hp:SmP p)(hq:SmP q)(hv:bM p=true)(hw:bM q=true)(ha:q.arrays=p.arrays)(h: ∀m,iE p.arrays m→cH q m (insts q.parts)=cH p m (insts p.parts)){s:Int}(hs:0≤s∧s≤1048576):wM N p q s=some true:=by
 have hN:N=100000:=rfl;have ht:=aJ1 hv;refine Ev.eq ?_;unfold wM;refine aA (aNo (by omega) hp hv) (aA (aOL ⟨by omega,by omega⟩ 0) (aK0 (n:=N) (T:=(gQ p.arrays).toNat) (e:=fun i=>Int.tmod (wr ((wr ((wr (i*41))+(wr (s*17))))+3)) 1000) (K:=fun x3=>Option.bind (gJ N p x3) fun x9=>Option.bind (gJ N q x3) fun x10=>jn (fun(x13:Bool)=>some x13) fun j11=>bif x9.2 then(bif x10.2 then(Option.bind (uT N x9.1 x10.1) fun x12=>j11 x12) else(j11 false)) else(j11 false)) (by omega) (by omega) (fun i h0 h1=>?_) fun m h1 h2=>?_))
 ·rw [aO (n:=i*41) (by omega),aO (n:=s*17) (by omega),aO (n:=i*41+s*17) (by omega),aO (by omega)];exact aPS (by omega)
 have hmo:iE p.arrays m:=⟨by omega,h2⟩
 have hmq:iE q.arrays m:=by rw [ha];exact hmo
 have hml:=aIa hv hmo;refine aA (uI (by omega) hp hml) (aA (uI (by omega) hq hml) ?_);rw [aNS hv hmo,aNS hw hmq,h m hmo];have hok: ∀x∈insts p.parts,cY p x:=fun x hx=>insts_mem hx;refine Ev.jn (fun z=>z=true) (fun j hj=>cA (cA (aA (aEP (by omega) (aIa hv (K9 hv hok hmo))) (hj _ rfl)))) fun z hz=>Ev.some hz
theorem vT{α β R:Type}{l:List α}{F:α→(β→Option R)→Option R}{g:α→β}{K:List β→Option R}{Q:R→Prop}{n:Nat}(hF: ∀x∈l,∀k:β→Option R,Ev (k (g x)) Q→Ev (F x k) Q)
  {s:Nat} (hs:s≤l.length) {pre:List β} (hp:pre.length≤1000) (hl:l.length≤1000) (hn:5000≤n) (hK:Ev (K (pre++(l.drop s).map g)) Q):
  Ev (aL (fun again ((x,i):List β×Int)=>bif decide (i<(l.length:Int)) then(Option.bind (ix l i) fun y=>F y fun z=>Option.bind (app x [z]) fun w=>again (w,wr (i+1))) else K x) n (pre,(s:Int))) Q:=by
 refine Ev.loop (fun z:List β×Int=> ∃i:Nat,z.2=i∧s≤i∧i≤l.length∧z.1=pre++((l.drop s).take (i-s)).map g) (fun z=>l.length-z.2.toNat) ?_ n _ ⟨s,rfl,by omega,by omega,by simp⟩ (by dsimp only;omega);rintro again ⟨x,z⟩ ⟨i,hz,hsi,hi,hx⟩ hr;dsimp only at hz hx⊢;subst hz;refine aH (fun hlt=>?_) fun hge=>?_
 ·have hg:=cP (show i<l.length by omega);have hxl:x.length≤2000:=by rw [hx,qA,qF,rN,vAV];omega
  refine aA (aM hg) (hF _ (cR hg) _ (aA (bW (by simp;omega)) ?_));rw [aO (by omega)];refine hr _ ⟨i+1,by dsimp only;omega,by omega,by omega,?_⟩ (by dsimp only;omega);dsimp only;rw [show i+1-s=(i-s)+1 by omega,xI,vAF,show s+(i-s)=i by omega,hg,hx,vAM,vAO];rfl
 have:i=l.length:=by omega
 subst this;rw [hx,vBf (by rw [vAV];omega)];exact hK
theorem tJ{α β R:Type}{l:List α}{f:α→Option β}{g:α→β}{K:List β→Option R}{Q:R→Prop}{n:Nat}(hf: ∀x∈l,f x=some (g x))(hl:l.length≤1000)(hn:5000≤n)(hK:Ev (K (l.map g)) Q):
  Ev (aL (fun again ((x,i):List β×Int)=>bif decide (i<(l.length:Int)) then(Option.bind (ix l i) fun y=>Option.bind (f y) fun z=>Option.bind (app x [z]) fun w=>again (w,wr (i+1))) else K x) n ([],0)) Q:=
 vT (F:=fun y k=>Option.bind (f y) k) (g:=g) (s:=0) (pre:=[]) (fun x hx k hk=>aA (hf x hx) hk) (by omega) (by simp) hl hn (by simpa using hK)
theorem aCZ{α R:Type}{l:List α}{F:α→(α→Option R)→Option R}{W:List α→Option R→Option R}{m:List α→Int}{g:α→α}{K:List α→Option R}{Q:R→Prop}{n:Nat}
  (hW: ∀y o,y.length=l.length→Ev o Q→Ev (W y o) Q) (hm: ∀y:List α,y.length=l.length→m y=(l.length:Int))
  {s:Nat} (hs:s≤l.length) (hF: ∀x∈l,∀k:α→Option R,Ev (k (g x)) Q→Ev (F x k) Q) (hl:l.length≤1000) (hn:5000≤n) (hK:Ev (K (l.take s++(l.drop s).map g)) Q):
  Ev (aL (fun again ((y,i):List α×Int)=>W y (bif decide (i<m y) then(Option.bind (ix y i) fun x=>F x fun z=>Option.bind (dA y i z) fun w=>again (w,wr (i+1))) else K y)) n (l,(s:Int))) Q:=by
 refine Ev.loop (fun z:List α×Int=> ∃i:Nat,z.2=i∧s≤i∧i≤l.length∧z.1=l.take s++((l.drop s).take (i-s)).map g++l.drop i) (fun z=>l.length-z.2.toNat) ?_ n _ ⟨s,rfl,by omega,by omega,by simp⟩ (by dsimp only;omega);rintro again ⟨x,z⟩ ⟨i,hz,hsi,hi,hx⟩ hr;dsimp only at hz hx⊢;subst hz;have hpl:(l.take s++((l.drop s).take (i-s)).map g).length=i:=by rw [qA,qF,rN,rN,vAV];omega
 have hxl:x.length=l.length:=by rw [hx,qA,hpl,vAV];omega
 refine hW _ _ hxl ?_;rw [hm _ hxl];refine aH (fun hlt=>?_) fun hge=>?_
 ·obtain⟨e,hg⟩: ∃e,l[i]? =some e:=⟨_,cP (show i<l.length by omega)⟩
  have hgx:x[i]? =some e:=by
   rw [hx,vAr (by omega),hpl,vBO,vAF];exact hg
  refine aA (aM hgx) (hF _ (cR hg) _ (aA (dO (by omega) _) ?_));rw [aO (by omega)];refine hr _ ⟨i+1,by dsimp only;omega,by omega,by omega,?_⟩ (by dsimp only;omega);dsimp only;rw [hx,yF,List.set_append_right _ _ (by omega),hpl,vBO,jZ hg,List.set_cons_zero,show i+1-s=(i-s)+1 by omega,xI,vAF,show s+(i-s)=i by omega,hg];simp
 have:i=l.length:=by omega
 subst this;rw [hx,vBf (l:=l.drop s) (by rw [vAV];omega),vBq,vBn];exact hK
def fX(f:Affine→Affine)(a:Access):Access:=⟨a.array,a.subs.map f⟩
def vU(f:Affine→Affine):Nat→Expr→Expr
 |0,e=>e
 |L+1,e=>⟨e.kind,e.num,if e.kind=2 then f e.index else⟨[],0⟩,if e.kind=3 then fX f e.read else⟨[],[]⟩,e.kids.map (vU f L)⟩
def xK(f:Affine→Affine)(s:Stmt):Stmt:=⟨fX f s.write,vU f 5 s.value⟩
def gU(f:Affine→Affine)(l:Loop):Loop:=⟨l.lo.map f,l.hi.map f⟩
theorem yN{e:Expr}{d:Int}(h:gD e d=true)(hk:e.kind=2):bY e.index=true∧nD e.read=true:=by unfold gD b8 at h;rw [if_pos hk] at h;simp only [Bool.and_eq_true] at h;exact⟨h.2.2.1,h.2.1⟩
theorem yM{e:Expr}{d:Int}(h:gD e d=true)(hk:e.kind=3):iC e.read d=true∧jW e.index=true:=by unfold gD at h;rw [if_neg (by omega),if_pos hk] at h;simp only [Bool.and_eq_true] at h;exact⟨h.2.2,h.2.1⟩
theorem aGu{e:Expr}{d:Int}(h:gD e d=true)(h2: ¬e.kind=2)(h3: ¬e.kind=3):jW e.index=true∧nD e.read=true:=by unfold gD at h;rw [if_neg h2,if_neg h3] at h;split at h<;>simp only [Bool.and_eq_true] at h<;>exact⟨h.2.1,h.2.2⟩
theorem E1{a:Affine}(h:jW a=true):a=⟨[],0⟩:=by obtain⟨c,k⟩:=a;simp only [jW,Bool.and_eq_true,decide_eq_true_eq] at h;obtain⟨h1,rfl⟩:=h;rw [vAA h1]
theorem E2{a:Access}(h:nD a=true):a=⟨[],[]⟩:=by obtain⟨c,k⟩:=a;simp only [nD,Bool.and_eq_true,decide_eq_true_eq] at h;obtain⟨rfl,h1⟩:=h;rw [vAA h1]
theorem vZ{n:Nat}(hn:5000≤n){a:Access}{d:Int}(ha:iC a d=true){F:Affine→Option Affine}{f:Affine→Affine}(hF: ∀x,bY x=true→F x=some (f x)):kR n a F=some (fX f a):=by obtain⟨h1,h2,h3⟩:=uL ha;refine Ev.eq ?_;unfold kR;exact tJ (K:=fun x1=>some (⟨a.array,x1⟩:Access)) (fun x hx=>hF x (h3 x hx)) (by omega) hn (Ev.some rfl)
theorem G0{d:Int}{F:Affine→Option Affine}{f:Affine→Affine}(hF: ∀x,bY x=true→F x=some (f x)): ∀(L n:Nat) (e:Expr),5000+L≤n→dQ L e d=true→i_exprMap (n+1) e F=some (vU f L e)
 |0,_,_,_,h=>by cases h
 |L+1,n,e,hn,h=>by
  obtain⟨hk,ho,hs⟩:=f9 h;obtain⟨n,rfl⟩: ∃j,n=j+1:=⟨n-1,by omega⟩
  have hkl:e.kids.length≤2:=by have:=mT e.kind;omega
  unfold i_exprMap;refine Ev.eq (Ev.jn (fun z=>(⟨z.1,z.2.1⟩:Affine)=(if e.kind=2 then f e.index else⟨[],0⟩)∧(⟨z.2.2.1,z.2.2.2⟩:Access)=(if e.kind=3 then fX f e.read else⟨[],[]⟩)) (fun j hj=>?_) fun z hz=>?_)
  ·refine aH (fun h2=>?_) fun h2=>aH (fun h3=>?_) fun h3=>?_
   ·exact aA (hF _ (yN ho h2).1) (hj _ ⟨by rw [if_pos h2],by rw [if_neg (by omega)]⟩)
   ·exact aA (vZ (by omega) (yM ho h3).1 hF) (hj _ ⟨by rw [if_neg h2],by rw [if_pos h3]⟩)
   exact hj _ ⟨by rw [if_neg h2],by rw [if_neg h3]⟩
  obtain⟨x4,x5,x6,x7⟩:=z;obtain⟨z1,z2⟩:=hz;dsimp only at z1 z2⊢;refine tJ (K:=fun x8=>some (⟨e.kind,e.num,(⟨x4,x5⟩:Affine),(⟨x6,x7⟩:Access),x8⟩:Expr)) (fun x hx=>G0 hF L n x (by omega) (hs x hx)) (by omega) (by omega) (Ev.some ?_);rw [z1,z2];rfl
theorem F8{n:Nat}(hn:6000≤n){s:Stmt}{d:Int}(hs:fZ s d=true){F:Affine→Option Affine}{f:Affine→Affine}(hF: ∀x,bY x=true→F x=some (f x)):kQ n s F=some (xK f s):=by
 obtain⟨h1,h2,_⟩:=jQ hs;obtain⟨n,rfl⟩: ∃j,n=j+1:=⟨n-1,by omega⟩
 unfold kQ;rw [vZ (by omega) h1 hF,G0 hF 5 n s.value (by omega) h2];rfl
theorem aDi{α:Type}{f:α→α}: ∀{l:List α},(∀x∈l,f x=x)→l.map f=l
 | [],_=>rfl
 |x::l,h=>by rw [vBT,h x uM,aDi fun y hy=>h y (rK _ hy)]
theorem aCe{f:Affine→Affine}{a:Access}{d:Int}(ha:iC a d=true)(hf: ∀x,bY x=true→f x=x):fX f a=a:=by obtain⟨h1,h2,h3⟩:=uL ha;unfold fX;rw [aDi fun x hx=>hf x (h3 x hx)]
theorem aIb{d:Int}{f:Affine→Affine}(hf: ∀x,bY x=true→f x=x): ∀{L:Nat} {e:Expr},dQ L e d=true→vU f L e=e
 |0,_,_=>rfl
 |L+1,e,h=>by
  obtain⟨hk,ho,hs⟩:=f9 h;obtain⟨kind,num,index,read,kids⟩:=e;unfold vU;dsimp only at hk ho hs⊢;rw [aDi fun x hx=>aIb hf (hs x hx)];by_cases h2:kind=2
  ·have e1:=yN ho h2;dsimp only at e1;rw [if_pos h2,if_neg (by omega),hf _ e1.1,E2 e1.2]
  by_cases h3:kind=3
  ·have e1:=yM ho h3;dsimp only at e1;rw [if_neg h2,if_pos h3,aCe e1.1 hf,E1 e1.2]
  have e1:=aGu ho h2 h3;dsimp only at e1;rw [if_neg h2,if_neg h3,E1 e1.1,E2 e1.2]
theorem aM5{f:Affine→Affine}(hf: ∀x,bY x=true→f x=x){s:Stmt}{d:Int}(hs:fZ s d=true):xK f s=s:=by obtain⟨h1,h2,_⟩:=jQ hs;unfold xK;rw [aCe h1 hf,aIb hf h2]
def R3(l:Loop):Prop:=(l.lo.length≤2∧ ∀x∈l.lo,bY x=true)∧l.hi.length≤2∧ ∀x∈l.hi,bY x=true
theorem aOZ{nest:List Loop}(h:Fit nest): ∀l∈nest,R3 l:=fun l hl=>by
 obtain⟨i,hi⟩:=vAH.1 hl
 have:=h.2 i l hi;exact⟨(uX this.1).2,(uX this.2).2⟩
theorem nN{list:List Arr}{x:Part}(h:cW list x=true):x.nest.length≤4∧ ∀l∈x.nest,R3 l:=by have:=(aD5 (gS h).1).1;exact⟨this.1,aOZ this⟩
theorem aN3{a:Affine}(h:bY a=true):BA 4 a:=by have:=(gM h).1;unfold BA;omega
theorem aDU{l:List Affine}(h1:l.length≤2)(h2: ∀x∈l,bY x=true):BAs 4 l:=⟨by omega,fun a ha=>aN3 (h2 a ha)⟩
theorem aN2{d:Int}: ∀{L:Nat} {e:Expr},dQ L e d=true→BE 4 L e
 |0,_,h=>by cases h
 |L+1,e,h=>by
  obtain⟨hk,ho,hs⟩:=f9 h
  have:=mT e.kind;refine⟨by omega,?_,?_,fun k hk=>aN2 (hs k hk)⟩
  ·by_cases h2:e.kind=2
   ·exact aN3 (yN ho h2).1
   by_cases h3:e.kind=3
   ·rw [E1 (yM ho h3).2];unfold BA;simp
   rw [E1 (aGu ho h2 h3).1];unfold BA;simp
  by_cases h3:e.kind=3
  ·have:=uL (yM ho h3).1;exact aDU this.2.1 this.2.2
  by_cases h2:e.kind=2
  ·rw [E2 (yN ho h2).2];exact⟨by simp,fun x hx=>by cases hx⟩
  rw [E2 (aGu ho h2 h3).2];exact⟨by simp,fun x hx=>by cases hx⟩
theorem aQf{s:Stmt}{d:Int}(hs:fZ s d=true):BS 4 s:=by
 obtain⟨h1,h2,_⟩:=jQ hs
 have:=uL h1;exact⟨aDU this.2.1 this.2.2,aN2 h2⟩
theorem aPa{list:List Arr}{x:Part}(h:cW list x=true):BPt 4 x:=by obtain⟨h1,h2⟩:=nN h;obtain⟨_,h4,h5,_⟩:=gS h;exact⟨⟨h1,fun l hl=>⟨aDU (h2 l hl).1.1 (h2 l hl).1.2,aDU (h2 l hl).2.1 (h2 l hl).2.2⟩⟩,h4.2,fun s hs=>aQf (h5 s hs)⟩
theorem aQg{l:List Arr}(h1:l.length≤4)(h2:fT l):BR 4 l:=⟨h1,fun x hx=>by have:=h2 x hx;simp only [jS,Bool.and_eq_true,decide_eq_true_eq] at this;omega⟩
theorem V2{B:Nat}{l:List Affine}{f:Affine→Affine}(h:l.length≤B)(hf: ∀x∈l,BA B (f x)):BAs B (l.map f):=⟨by rw [qF];exact h,fun a ha=>by obtain⟨x,hx,rfl⟩:=Q9.1 ha;exact hf x hx⟩
theorem aLP{d:Int}{f:Affine→Affine}(hf: ∀x,bY x=true→BA 4 (f x)): ∀{L:Nat} {e:Expr},dQ L e d=true→BE 4 L (vU f L e)
 |0,_,h=>by cases h
 |L+1,e,h=>by
  obtain⟨hk,ho,hs⟩:=f9 h
  have:=mT e.kind;unfold vU BE;refine⟨by dsimp only;rw [qF];omega,?_,?_,fun k hk=>?_⟩
  ·dsimp only;by_cases h2:e.kind=2
   ·rw [if_pos h2];exact hf _ (yN ho h2).1
   rw [if_neg h2];unfold BA;simp
  ·dsimp only;by_cases h3:e.kind=3
   ·rw [if_pos h3]
    have:=uL (yM ho h3).1;exact V2 (by omega) fun x hx=>hf x (this.2.2 x hx)
   rw [if_neg h3];exact⟨by simp,fun x hx=>by cases hx⟩
  obtain⟨x,hx,rfl⟩:=Q9.1 hk;exact aLP hf (hs x hx)
theorem aO9{f:Affine→Affine}(hf: ∀x,bY x=true→BA 4 (f x)){s:Stmt}{d:Int}(hs:fZ s d=true):BS 4 (xK f s):=by
 obtain⟨h1,h2,_⟩:=jQ hs
 have:=uL h1;exact⟨V2 (by omega) fun x hx=>hf x (this.2.2 x hx),aLP hf h2⟩
theorem aNx{f:Affine→Affine}(hf: ∀x,bY x=true→BA 4 (f x)){l:Loop}(h:R3 l):BAs 4 (gU f l).lo∧BAs 4 (gU f l).hi:=
 ⟨V2 (by have:=h.1.1;omega) fun x hx=>hf x (h.1.2 x hx),V2 (by have:=h.2.1;omega) fun x hx=>hf x (h.2.2 x hx)⟩
theorem aIR(n:Nat){a:Affine}(h:a.coefs.length≤1000):eO n a=some a:=by unfold eO m_ownClone;rw [if_pos (by omega)];rfl
theorem L0(n:Nat): ∀x,bY x=true→eO n x=some x:=fun x hx=>aIR n (by have:=(gM hx).1;omega)
theorem Z0{n:Nat}(hn:5000≤n){l:List Affine}(h1:l.length≤2)(h2: ∀x∈l,bY x=true):gI n l=some l:=by unfold gI;refine Ev.eq (tJ (g:=fun x=>x) (K:=fun x1=>some x1) (fun x hx=>L0 n x (h2 x hx)) (by omega) hn (Ev.some ?_));simp
theorem aGv{n:Nat}(hn:5000≤n){nest:List Loop}(h1:nest.length≤4)(h2: ∀l∈nest,R3 l):sG n nest=some nest:=by unfold sG;refine Ev.eq ?_;refine vT (β:=Loop) (l:=nest) (n:=n) (F:=fun x5 k=>Option.bind (gI n x5.lo) fun x6=>Option.bind (gI n x5.hi) fun x7=>k (⟨x6,x7⟩:Loop)) (g:=fun x=>x) (s:=0) (pre:=[]) (K:=fun x1=>some x1) ?_ (by omega) (by simp) (by omega) hn (Ev.some (by simp));exact fun x hx k hk=>aA (Z0 hn (h2 x hx).1.1 (h2 x hx).1.2) (aA (Z0 hn (h2 x hx).2.1 (h2 x hx).2.2) hk)
theorem aGs{n:Nat}(hn:6000≤n){s:Stmt}{d:Int}(hs:fZ s d=true):xA n s=some s:=by unfold xA;rw [F8 hn hs (F:=fun q0=>eO n q0) (f:=fun x=>x) (L0 n),aM5 (fun _ _=>rfl) hs];rfl
theorem aGt{n:Nat}(hn:6000≤n){list:List Arr}{x:Part}(h:cW list x=true):o0 n x=some x:=by obtain⟨h1,h2⟩:=nN h;obtain⟨_,h4,h5,_⟩:=gS h;unfold o0;refine Ev.eq (aA (aGv (by omega) h1 h2) (tJ (g:=fun x=>x) (K:=fun x2=>some (⟨x.nest,x2⟩:Part)) (fun s hs=>aGs hn (h5 s hs)) (by omega) (by omega) (Ev.some ?_)));simp
theorem aGr{n:Nat}(hn:6000≤n){p:Prog}(h:bM p=true):iG n p=some p:=by
 obtain⟨h1,h2,h3,h4,_⟩:=eN h;unfold iG;refine Ev.eq (vT (F:=fun x5 k=>Option.bind (m_ownClone x5.dims) fun x6=>k (⟨x5.name,x6⟩:Arr)) (g:=fun x=>x) (s:=0) (pre:=[]) (K:=fun x1=>aL (fun again11 ((x8,x9):(List Part)×Int)=>
    bif decide (x9<(p.parts.length:Int)) then(
     Option.bind (ix p.parts x9) fun x12=>
     Option.bind (o0 n x12) fun x13=>
     Option.bind (app x8 [x13]) fun x14=>
     again11 (x14,wr (x9+1))
    ) else(
     some (⟨x1,x8⟩:Prog)
    )
   ) n ([],0)) (fun x hx k hk=>aA (x:=x.dims) ?_ hk) (by omega) (by simp) (by omega) (by omega) ?_)
 ·have:=(aQg h1 h2).2 x hx;unfold m_ownClone;rw [if_pos (by omega)]
 refine tJ (g:=fun x=>x) (K:=fun x8=>some (⟨_,x8⟩:Prog)) (fun x hx=>aGt hn (h4 x hx)) (by omega) (by omega) (Ev.some ?_);simp
theorem gH{α:Type}{a b:List α}(h:b.length=a.length):fO a b=some ():=by unfold fO;rw [if_pos h]
theorem aBu{n:Nat}(hn:5000≤n){l:Loop}(hl:R3 l){F:Affine→Option Affine}{f:Affine→Affine}(hF: ∀x,bY x=true→F x=some (f x)):mL n l F=some (gU f l):=by
 obtain⟨⟨a1,a2⟩,b1,b2⟩:=hl;unfold mL;refine Ev.eq (Ev.loop (fun z:Loop×Int=>(z.2=0∧z.1=l)∨(z.2=1∧z.1=⟨l.lo.map f,l.hi⟩)∨(z.2=2∧z.1=gU f l)) (fun z=>3-z.2.toNat) ?_ n _ (.inl ⟨rfl,rfl⟩) (by dsimp only;omega));rintro again ⟨x,i⟩ hz hr;dsimp only at hz hr⊢;rcases hz with ⟨rfl,rfl⟩|⟨rfl,rfl⟩|⟨rfl,rfl⟩
 ·refine aA (gH rfl) (aA (gH rfl) (aH (fun _=>aH (fun _=>?_) fun h=>(h rfl).elim) fun h=>absurd h (by omega)));refine aCZ (F:=fun x k=>Option.bind (F x) k) (W:=fun _ o=>o) (m:=fun _=>(x.lo.length:Int)) (g:=f) (s:=0) (K:=fun y=>again ((⟨y,x.hi⟩:Loop),wr (0+1))) (fun _ _ _ h=>h) (fun _ _=>rfl) (by omega) (fun x hx k hk=>aA (hF x (a2 x hx)) hk) (by omega) hn ?_;rw [aO (by omega)];exact hr _ (.inr (.inl ⟨by dsimp only;omega,by simp⟩)) (by dsimp only;omega)
 ·refine aA (gH (by simp)) (aA (gH rfl) (aH (fun _=>aH (fun h=>absurd h (by omega)) fun _=>aH (fun _=>?_) fun h=>(h rfl).elim) fun h=>absurd h (by omega)));refine aCZ (F:=fun x k=>Option.bind (F x) k) (W:=fun _ o=>o) (m:=fun _=>(l.hi.length:Int)) (g:=f) (s:=0) (K:=fun y=>again ((⟨l.lo.map f,y⟩:Loop),wr (1+1))) (fun _ _ _ h=>h) (fun _ _=>rfl) (by omega) (fun x hx k hk=>aA (hF x (b2 x hx)) hk) (by omega) hn ?_;rw [aO (by omega)];exact hr _ (.inr (.inr ⟨by dsimp only;omega,by simp [gU]⟩)) (by dsimp only;omega)
 refine aA (gH (by simp [gU])) (aA (gH (by simp [gU])) (aH (fun h=>absurd h (by omega)) fun _=>Ev.some rfl))
theorem aBt{n:Nat}(hn:6000≤n){nest:List Loop}{body:List Stmt}{s:Nat}(hs:s≤nest.length)(h1:nest.length≤4)(h2: ∀l∈nest.drop s,R3 l){d:Int}(h3:body.length≤4)(h4: ∀s∈body,fZ s d=true){F:Affine→Option Affine}{f:Affine→Affine}(hF: ∀x,bY x=true→F x=some (f x)):
  mJ n ⟨nest,body⟩ (s:Int) F=some ⟨nest.take s++(nest.drop s).map (gU f),body.map (xK f)⟩:=by
 have key: ∀(nest2:List Loop),Ev (aL (fun again2 ((y,j):(List Stmt)×Int)=>
    Option.bind (fO body y) fun x5=>
    bif decide (j<(body.length:Int)) then(
     Option.bind (ix y j) fun x6=>
     Option.bind (kQ n x6 F) fun x7=>
     Option.bind (dA y j x7) fun x8=>
     again2 (x8,wr (j+1))
    ) else(
     some (⟨nest2,y⟩:Part)
    )
   ) n (body,0)) (fun r=>r=⟨nest2,body.map (xK f)⟩):=fun nest2=>
  aCZ (F:=fun x k=>Option.bind (kQ n x F) k) (W:=fun y o=>Option.bind (fO body y) fun _=>o) (m:=fun _=>(body.length:Int)) (g:=xK f) (s:=0) (K:=fun y=>some (⟨nest2,y⟩:Part)) (fun y o h ho=>aA (gH h) ho) (fun _ _=>rfl) (by omega) (fun x hx k hk=>aA (F8 hn (h4 x hx) hF) hk) (by omega) (by omega) (Ev.some (by simp))
 unfold mJ;refine Ev.eq ?_
 -- the loops ahead stay: only those behind are changed
 refine Ev.loop (fun z:List Loop×Int=> ∃i:Nat,z.2=i∧s≤i∧i≤nest.length∧z.1=nest.take s++((nest.drop s).take (i-s)).map (gU f)++nest.drop i) (fun z=>nest.length-z.2.toNat) ?_ n _ ⟨s,rfl,by omega,by omega,by simp⟩ (by dsimp only;omega);rintro again ⟨x,z⟩ ⟨i,hz,hsi,hi,hx⟩ hr;dsimp only at hz hx⊢;subst hz;have hpl:(nest.take s++((nest.drop s).take (i-s)).map (gU f)).length=i:=by rw [qA,qF,rN,rN,vAV];omega
 have hxl:x.length=nest.length:=by rw [hx,qA,hpl,vAV];omega
 refine aA (gH hxl) (aH (fun hlt=>?_) fun hge=>?_)
 ·obtain⟨e,hg⟩: ∃e,nest[i]? =some e:=⟨_,cP (show i<nest.length by omega)⟩
  have hgx:x[i]? =some e:=by
   rw [hx,vAr (by omega),hpl,vBO,vAF];exact hg
  have he:e∈nest.drop s:=vAH.2 ⟨i-s,by rw [vAF,show s+(i-s)=i by omega];exact hg⟩;refine aA (aM hgx) (aA (aBu (by omega) (h2 _ he) hF) (aA (dO (by omega) _) ?_));rw [aO (by omega)];refine hr _ ⟨i+1,by dsimp only;omega,by omega,by omega,?_⟩ (by dsimp only;omega);dsimp only;rw [hx,yF,List.set_append_right _ _ (by omega),hpl,vBO,jZ hg,List.set_cons_zero,show i+1-s=(i-s)+1 by omega,xI,vAF,show s+(i-s)=i by omega,hg];simp
 have:i=nest.length:=by omega
 subst this;rw [hx,vBf (l:=nest.drop s) (by rw [vAV];omega),vBq,vBn];exact key _
theorem aC4{n:Nat}(hn:5000≤n){l:List Affine}(h1:l.length≤2)(h2: ∀x∈l,bY x=true){way v:Int}{b:Affine}{f:Affine→Affine}(hF: ∀x,bY x=true→iO n x way v b=some (f x)):rQ n l way v b=some (l.map f):=by unfold rQ;exact Ev.eq (tJ (K:=fun x1=>some x1) (fun x hx=>hF x (h2 x hx)) (by omega) hn (Ev.some rfl))
theorem aIW{n:Nat}(hn:5000≤n){l:Loop}(hl:R3 l){way v:Int}{b:Affine}{f:Affine→Affine}(hF: ∀x,bY x=true→iO n x way v b=some (f x)):u4 n l way v b=some (gU f l):=by unfold u4;rw [aC4 hn hl.1.1 hl.1.2 hF,aC4 hn hl.2.1 hl.2.2 hF];rfl
theorem P0{n:Nat}(hn:5000≤n){a:Access}{d:Int}(ha:iC a d=true){way v:Int}{b:Affine}{f:Affine→Affine}(hF: ∀x,bY x=true→iO n x way v b=some (f x)):lN n a way v b=some (fX f a):=by have:=uL ha;unfold lN;rw [aC4 hn this.2.1 this.2.2 hF];rfl
theorem aCi{d way v:Int}{b:Affine}{f:Affine→Affine}(hF: ∀n,5000≤n→ ∀x,bY x=true→iO n x way v b=some (f x)): ∀(L n:Nat) (e:Expr),5000+L≤n→dQ L e d=true→s_l8Expr (n+1) e way v b=some (vU f L e)
 |0,_,_,_,h=>by cases h
 |L+1,n,e,hn,h=>by
  obtain⟨hk,ho,hs⟩:=f9 h;obtain⟨n,rfl⟩: ∃j,n=j+1:=⟨n-1,by omega⟩
  have hkl:e.kids.length≤2:=by have:=mT e.kind;omega
  unfold s_l8Expr;refine Ev.eq (Ev.jn (fun z=>(⟨z.1,z.2⟩:Affine)=(if e.kind=2 then f e.index else⟨[],0⟩)) (fun j hj=>?_) fun z hz=>Ev.jn (fun y=>(⟨y.1,y.2⟩:Access)=(if e.kind=3 then fX f e.read else⟨[],[]⟩)) (fun j hj=>?_) fun y hy=>?_)
  ·exact aH (fun h2=>aA (hF _ (by omega) _ (yN ho h2).1) (hj _ (by rw [if_pos h2]))) fun h2=>hj _ (by rw [if_neg h2])
  ·exact aH (fun h3=>aA (P0 (by omega) (yM ho h3).1 (hF _ (by omega))) (hj _ (by rw [if_pos h3]))) fun h3=>hj _ (by rw [if_neg h3])
  obtain⟨x3,x4⟩:=z;obtain⟨x7,x8⟩:=y;dsimp only at hz hy⊢;refine tJ (K:=fun x9=>some (⟨e.kind,e.num,(⟨x3,x4⟩:Affine),(⟨x7,x8⟩:Access),x9⟩:Expr)) (fun x hx=>aCi hF L n x (by omega) (hs x hx)) (by omega) (by omega) (Ev.some ?_);rw [hz,hy];rfl
theorem aIY{n:Nat}(hn:6000≤n){l:List Stmt}{d:Int}(h1:l.length≤4)(h2: ∀s∈l,fZ s d=true){way v:Int}{b:Affine}{f:Affine→Affine}(hF: ∀n,5000≤n→ ∀x,bY x=true→iO n x way v b=some (f x)):B4 n l way v b=some (l.map (xK f)):=by
 obtain⟨n,rfl⟩: ∃j,n=j+1:=⟨n-1,by omega⟩
 unfold B4;refine Ev.eq ?_;refine vT (β:=Stmt) (l:=l) (n:=n+1) (F:=fun x5 k=>Option.bind (lN (n+1) x5.write way v b) fun x6=>Option.bind (s_l8Expr (n+1) x5.value way v b) fun x7=>k (⟨x6,x7⟩:Stmt)) (g:=xK f) (s:=0) (pre:=[]) (K:=fun x1=>some x1) (fun x hx k hk=>?_) (by omega) (by simp) (by omega) (by omega) (Ev.some (by simp));obtain⟨h1,h2,_⟩:=jQ (h2 x hx);exact aA (P0 (by omega) h1 (hF _ (by omega))) (aA (aCi hF 5 n x.value (by omega) h2) hk)
theorem aGF{n:Nat}(hn:6000≤n){x:Part}{s:Nat}(hs:s+1≤x.nest.length)(h1:x.nest.length≤4)(h2: ∀l∈x.nest,R3 l){d:Int}(h3:x.body.length≤4)(h4: ∀s∈x.body,fZ s d=true){way v:Int}{b:Affine}{f:Affine→Affine}(hF: ∀n,5000≤n→ ∀x,bY x=true→iO n x way v b=some (f x)):
  wR n x (s:Int) way v b=some ⟨x.nest.take (s+1)++(x.nest.drop (s+1)).map (gU f),x.body.map (xK f)⟩:=by unfold wR;rw [aO (by omega)];refine Ev.eq (aA (X2 (by omega) (by omega) (by omega)) ?_);rw [show((s:Int)+1).toNat=s+1 by omega,show(0:Int).toNat=0 from rfl,List.drop_zero];refine aA (x:=x.nest.take (s+1)) (bW (by simp;omega)) (aA (aIY hn h3 h4 hF) ?_);exact vT (F:=fun x8 k=>Option.bind (u4 n x8 way v b) k) (g:=gU f) (s:=s+1) (pre:=x.nest.take (s+1)) (K:=fun x4=>some (⟨x4,x.body.map (xK f)⟩:Part)) (fun l hl k hk=>aA (aIW (by omega) (h2 l hl) (hF _ (by omega))) hk) (by omega) (by simp;omega) (by omega) (by omega) (Ev.some rfl)
theorem aB9(n:Nat){a:Affine}(h:BA 1000 a):iQ n a=some a:=by unfold iQ;rw [eQ _ h];rfl
theorem yQ{n:Nat}(hn:5000≤n){l:List Affine}(h:BAs 1000 l):dZ n l=some l:=by unfold dZ;exact Ev.eq (mW (K:=fun x1=>some x1) (fun x hx=>aB9 n (h.2 x hx)) h.1 hn (Ev.some rfl))
theorem aCa{n:Nat}(hn:5000≤n){a:Access}(h:BAs 1000 a.subs):iR n a=some a:=by unfold iR;rw [yQ hn h];rfl
theorem Z4: ∀(L n:Nat) (e:Expr),5000+L≤n→BE 1000 L e→s_l16OwnExpr (n+1) e=some e
 |0,_,_,_,h=>h.elim
 |L+1,n,e,hn,h=>by
  obtain⟨h1,h2,h3,h4⟩:=h;obtain⟨n,rfl⟩: ∃j,n=j+1:=⟨n-1,by omega⟩
  unfold s_l16OwnExpr lR;rw [aB9 _ h2,aCa (by omega) h3];refine Ev.eq (aA rfl (aA rfl (aA (x:=e.kids) ?_ (Ev.some (by cases e;rfl)))));exact Ev.eq (mW (f:=s_l16OwnExpr (n+1)) (K:=fun x1=>some x1) (fun x hx=>Z4 L n x (by omega) (h4 x hx)) h1 (by omega) (Ev.some rfl))
theorem aGz{n:Nat}(hn:6000≤n){s:Stmt}(h:BS 1000 s):nH n s=some s:=by
 obtain⟨n,rfl⟩: ∃j,n=j+1:=⟨n-1,by omega⟩
 unfold nH;rw [aCa (by omega) h.1,Z4 5 n s.value (by omega) h.2];rfl
theorem aGA{n:Nat}(hn:6000≤n){x:Part}(h:BPt 1000 x):nI n x=some x:=by
 obtain⟨⟨h1,h2⟩,h3,h4⟩:=h;have e1:jC n x.nest=some x.nest:=by
  unfold jC;refine Ev.eq (mW (K:=fun x1=>some x1) (fun l hl=>?_) h1 (by omega) (Ev.some rfl));unfold tD;rw [yQ (by omega) (h2 l hl).1,yQ (by omega) (h2 l hl).2];rfl
 have e2:jA n x.body=some x.body:=by
  unfold jA;exact Ev.eq (mW (K:=fun x1=>some x1) (fun l hl=>aGz hn (h4 l hl)) h3 (by omega) (Ev.some rfl))
 unfold nI;rw [e1,e2];rfl
theorem yP{n:Nat}(hn:6000≤n){p:Prog}(h:BG 1000 p):kD n p=some p:=by
 obtain⟨⟨h1,h2⟩,h3,h4⟩:=h;have e1:iJ n p.arrays=some p.arrays:=by
  unfold iJ;refine Ev.eq (mW (K:=fun x1=>some x1) (fun l hl=>?_) h1 (by omega) (Ev.some rfl));unfold q7;rw [eQ _ (h2 l hl)];rfl
 have e2:jB n p.parts=some p.parts:=by
  unfold jB;exact Ev.eq (mW (K:=fun x1=>some x1) (fun l hl=>aGA hn (h4 l hl)) h3 (by omega) (Ev.some rfl))
 unfold kD;rw [e1,e2];rfl
theorem rP{α:Type}{f:α→α→Option Bool}{l:List α}(hf: ∀x∈l,f x x=some true){n:Nat}(hn:l.length<n)(hl:l.length≤1000000):
  (bif !decide ((l.length:Int)=(l.length:Int)) then(some false) else(aL (fun again2 (x1:Int)=>bif decide (x1<(l.length:Int)) then(Option.bind (ix l x1) fun x3=>Option.bind (ix l x1) fun x4=>Option.bind (f x3 x4) fun x5=>bif !x5 then(some false) else(again2 (wr (x1+1)))) else(some true)) n 0))=some true:=by
 refine Ev.eq (dP (fun h=>(h rfl).elim) fun _=>?_);refine Ev.loop (fun x:Int=> ∃i:Nat,x=i∧i≤l.length) (fun x=>l.length-x.toNat) ?_ n 0 ⟨0,rfl,by omega⟩ (by omega);rintro again x ⟨i,rfl,hi⟩ hr;refine aH (fun hlt=>?_) fun _=>Ev.some rfl;obtain⟨e,hg⟩: ∃e,l[i]? =some e:=⟨_,cP (show i<l.length by omega)⟩
 refine aA (aM hg) (aA (aM hg) (aA (hf e (cR hg)) (cC ?_)));rw [aO (by omega)];exact hr _ ⟨i+1,by omega,by omega⟩ (by omega)
theorem aBR{a:List Int}{n:Nat}(hn:a.length<n)(hl:a.length≤1000000):mS n a a=some true:=by
 unfold mS;refine Ev.eq (dP (fun h=>(h rfl).elim) fun _=>?_);refine Ev.loop (fun x:Int=> ∃i:Nat,x=i∧i≤a.length) (fun x=>a.length-x.toNat) ?_ n 0 ⟨0,rfl,by omega⟩ (by omega);rintro again x ⟨i,rfl,hi⟩ hr;refine aH (fun hlt=>?_) fun _=>Ev.some rfl;obtain⟨e,hg⟩: ∃e,a[i]? =some e:=⟨_,cP (show i<a.length by omega)⟩
 refine aA (aM hg) (aA (aM hg) (dP (fun h=>(h rfl).elim) fun _=>?_));rw [aO (by omega)];exact hr _ ⟨i+1,by omega,by omega⟩ (by omega)
theorem aIz{n:Nat}(hn:5000≤n){a:Affine}(h:BA 1000 a):dH n a a=some true:=by unfold BA at h;unfold dH;refine Ev.eq (Ev.jn (fun z=>z=true) (fun j hj=>aA (aBR (by omega) (by omega)) (cA (hj _ (decide_eq_true rfl)))) fun z hz=>Ev.some hz)
theorem aBi{n:Nat}(hn:5000≤n){l:List Affine}(h:BAs 1000 l):d5 n l l (fun q0 q1=>dH n q0 q1)=some true:=by have:=h.1;unfold d5;exact rP (fun x hx=>aIz hn (h.2 x hx)) (by omega) (by omega)
theorem aIA{n:Nat}(hn:5000≤n){a:Access}(h:BAs 1000 a.subs):lB n a a=some true:=by unfold lB;refine Ev.eq (Ev.jn (fun z=>z=true) (fun j hj=>?_) fun z hz=>Ev.some hz);exact aH (fun _=>aA (aBi hn h) (hj _ rfl)) fun h=>(h rfl).elim
theorem aE6: ∀(L n:Nat) (e:Expr),5000+L≤n→BE 1000 L e→i_exprSame (n+1) e e=some true
 |0,_,_,_,h=>h.elim
 |L+1,n,e,hn,h=>by
  obtain⟨h1,h2,h3,h4⟩:=h;obtain⟨n,rfl⟩: ∃j,n=j+1:=⟨n-1,by omega⟩
  unfold i_exprSame;refine Ev.eq (Ev.jn (fun z=>z=true) (fun j hj=>?_) fun z hz=>Ev.some hz);refine aH (fun _=>aH (fun _=>aA (aIz (by omega) h2) (cA (aA (aIA (by omega) h3) (cA (aA (x:=true) ?_ (hj _ rfl)))))) fun h=>(h rfl).elim) fun h=>(h rfl).elim;unfold l3;exact rP (fun x hx=>aE6 L n x (by omega) (h4 x hx)) (by omega) (by omega)
theorem aJ8{n:Nat}(hn:6000≤n){s:Stmt}(h:BS 1000 s):pO n s s=some true:=by
 obtain⟨n,rfl⟩: ∃j,n=j+1:=⟨n-1,by omega⟩
 unfold pO;refine Ev.eq (Ev.jn (fun z=>z=true) (fun j hj=>?_) fun z hz=>Ev.some hz);exact aA (aIA (by omega) h.1) (cA (aA (aE6 5 n s.value (by omega) h.2) (hj _ rfl)))
theorem aKx{n:Nat}(hn:5000≤n){nest:List Loop}(h:BN 1000 nest):tQ n nest nest=some true:=by
 have:=h.1;unfold tQ lZ;rw [rP (fun l hl=>?_) (by omega) (by omega)]
 ·rfl
 unfold nR;refine Ev.eq (Ev.jn (fun z=>z=true) (fun j hj=>?_) fun z hz=>Ev.some hz);exact aA (aBi hn (h.2 l hl).1) (cA (aA (aBi hn (h.2 l hl).2) (hj _ rfl)))
theorem aKt{n:Nat}(hn:6000≤n){x:Part}(h:BPt 1000 x):gZ n x x=some true:=by have:=h.2.1;unfold gZ;refine Ev.eq (Ev.jn (fun z=>z=true) (fun j hj=>?_) fun z hz=>Ev.some hz);refine aA (aKx (by omega) h.1) (cA (aA (x:=true) ?_ (hj _ rfl)));unfold lX;exact rP (fun s hs=>aJ8 hn (h.2.2 s hs)) (by omega) (by omega)
theorem aKr{n:Nat}(hn:6000≤n){p:Prog}(h:BG 1000 p):fY n p p=some true:=by
 obtain⟨⟨h1,h2⟩,h3,h4⟩:=h;unfold fY;refine Ev.eq (Ev.jn (fun z=>z=true) (fun j hj=>?_) fun z hz=>Ev.some hz);refine aA (x:=true) ?_ (cA (aA (x:=true) ?_ (hj _ rfl)))
 ·unfold kZ;refine rP (fun x hx=>?_) (by omega) (by omega);unfold hJ;refine Ev.eq (Ev.jn (fun z=>z=true) (fun j hj=>?_) fun z hz=>Ev.some hz)
  have:=h2 x hx;exact aH (fun _=>aA (aBR (by omega) (by omega)) (hj _ rfl)) fun h=>(h rfl).elim
 unfold lY;exact rP (fun x hx=>aKt hn (h4 x hx)) (by omega) (by omega)
def jH(p:Prog)(part loop:Int):Bool:=bM p&&match ix p.parts part with
 |some x=>decide (0≤loop∧loop<(x.nest.length:Int))
 |none=>false
theorem aKI{α:Type}{l:List α}{i:Int}(h: ¬(0≤i∧i<(l.length:Int))):ix l i=none:=by
 cases hx:ix l i with
 |none=>rfl
 |some x=>
  obtain⟨h1,h2⟩:=mH hx
  have:=(cZ.1 h2).1;exact absurd ⟨h1,by omega⟩ h
theorem aOS{α:Type}{l:List α}{i:Int}{x:α}(h:ix l i=some x): ∃k:Nat,i=k∧k<l.length∧l[k]? =some x:=by obtain⟨h1,h2⟩:=mH h;exact⟨i.toNat,by omega,(cZ.1 h2).1,h2⟩
theorem w9(n:Nat){p:Prog}(h:p.parts.length≤1000)(part:Int):dM n p part=some (decide (0≤part∧part<(p.parts.length:Int))):=by unfold dM;rw [eV,aO (by omega)];exact congrArg some (decide_eq_decide.2 (by omega))
theorem aLO{n:Nat}(hn:7000≤n){p:Prog}(hp:BG 1000 p)(part loop:Int)(hl:loop≠ -1):tO n p part loop=some (if jH p part loop=true then(p,true) else(⟨[],[]⟩,false)):=by
 unfold tO;refine Ev.eq (Ev.jn (fun z=>z= !jH p part loop) (fun j hj=>?_) fun z hz=>?_)
 ·refine aA (eG hn hp.sm) (Ev.cond (fun h=>?_) fun h=>?_)
  ·refine hj _ ?_;unfold jH;rw [show bM p=false by simpa using h];rfl
  have hv:bM p=true:=by simpa using h
  refine aA (w9 n hp.2.1 part) ?_;by_cases hi:0≤part∧part<(p.parts.length:Int)
  ·obtain⟨x,hx,hx2⟩:=jO hi.1 hi.2;rw [decide_eq_true hi];refine cC (dP (fun _=>aA (x:=jH p part loop) ?_ (hj _ rfl)) fun h=>absurd h hl);unfold l6;refine Ev.eq (Ev.jn (fun z=>z=jH p part loop) (fun j hj=>?_) fun z hz=>Ev.some hz);rw [w9 n hp.2.1 part,decide_eq_true hi];refine aA rfl (cA (aA hx ?_))
   have:=(hp.2.2 x (cR hx2)).1.1;rw [aO (by omega),eV];refine aA rfl (hj _ ?_);unfold jH;rw [hv,hx];exact decide_eq_decide.2 (by omega)
  rw [decide_eq_false hi];refine cA (hj _ ?_);unfold jH;rw [aKI hi,vBr];rfl
 subst hz;by_cases hc:jH p part loop=true
 ·rw [hc];have hv:bM p=true:=by unfold jH at hc;rw [vBt] at hc;exact hc.1
  obtain⟨x,hx⟩: ∃x,ix p.parts part=some x:=by
   cases hx:ix p.parts part with
   |some x=>exact⟨x,rfl⟩
   |none=>unfold jH at hc;rw [hx,vBr] at hc;cases hc
  exact cC (aA (aGr (by omega) hv) (aA hx (Ev.some rfl)))
 rw [show jH p part loop=false by simpa using hc];exact cA (Ev.some rfl)
def aDx(q:Prog):Prog×Bool:=if bM q=true then(q,true) else(⟨[],[]⟩,false)
theorem aE5{n:Nat}(hn:7000≤n){p:Prog}(hp:BG 1000 p):tN n p=some (aDx p):=by
 unfold tN aDx;refine Ev.eq (aA (eG hn hp.sm) (Ev.cond (fun h=>Ev.some ?_) fun h=>?_))
 ·rw [if_neg (by simpa using h)]
 have hv:bM p=true:=by simpa using h
 rw [if_pos hv];exact aA (aGr (by omega) hv) (Ev.some rfl)
theorem aAv{n:Nat}(hn:7000≤n){p:Prog}(hp:BG 1000 p)(part loop:Int):B0 n p part loop=some (jH p part loop):=by
 unfold B0;refine Ev.eq (Ev.jn (fun z=>z=jH p part loop) (fun j hj=>?_) fun z hz=>Ev.some hz);refine aA (kU hn hp.sm) (Ev.cond (fun hv=>?_) fun hv=>hj _ (by unfold jH;rw [hv];rfl));refine aH (fun h1=>aH (fun h2=>?_) fun h2=>?_) fun h1=>?_
 ·obtain⟨x,hx,hx2⟩:=jO h1 h2;refine aH (fun h3=>aA hx (hj _ ?_)) fun h3=>hj _ ?_
  ·unfold jH;rw [hv,hx];exact decide_eq_decide.2 (by omega)
  unfold jH;rw [hv,hx];exact(decide_eq_false (by omega)).symm
 ·exact hj _ (by unfold jH;rw [aKI (by omega),vBr])
 exact hj _ (by unfold jH;rw [aKI (by omega),vBr])
theorem aMf{n:Nat}(hn:7000≤n){p:Prog}(hp:BG 1000 p){i:Nat}(hi:i<p.parts.length){y:Part}(hy:BPt 1000 y):A8 n p (i:Int) 1 [y]=some (aDx ⟨p.arrays,p.parts.set i y⟩):=by
 have hpl:=hp.2.1;have hq:BG 1000 ⟨p.arrays,p.parts.set i y⟩:=⟨hp.1,by dsimp only;rw [vAI];exact hpl,wQ hp.2.2 hy⟩
 unfold A8 aDx;refine Ev.eq (aA (v7 (by omega) hp) (aA (X2 (by omega) (by omega) (by omega)) ?_));rw [yF,show(0:Int).toNat=0 from rfl,List.drop_zero];refine aA (x:=p.parts.take i) (bW (by simp;omega)) (aA (x:=p.parts.take i++[y]) (bW (by simp;omega)) ?_);rw [aO (by omega)];refine aA (X2 (by omega) (by omega) (by omega)) ?_;rw [yF,qG,show((i:Int)+1).toNat=i+1 by omega];refine aA (x:=p.parts.set i y) ?_ (aA (kU hn hq.sm) (Ev.cond (fun h=>Ev.some ?_) fun h=>?_))
 ·rw [bW (by simp;omega),List.set_eq_take_append_cons_drop,if_pos hi,vAO];rfl
 ·rw [if_neg (by simpa using h)]
 rw [if_pos (by simpa using h)];exact aA (v7 (by omega) hq) (Ev.some rfl)
def bB(m:Int)(a:Affine):Prop:=a.coefs.length=4∧xL m a.const∧ ∀c∈a.coefs,xL m c
theorem bB.mono{m m':Int}{a:Affine}(h:bB m a)(hm:m≤m'):bB m' a:=⟨h.1,⟨by have:=h.2.1.1;omega,by have:=h.2.1.2;omega⟩,fun c hc=>⟨by have:=(h.2.2 c hc).1;omega,by have:=(h.2.2 c hc).2;omega⟩⟩
def noP:Prog×Bool:=(⟨[],[]⟩,false)
theorem M3{p:Prog}{part loop:Int}(h:jH p part loop=true):bM p=true∧ ∃(i k:Nat) (P:Part) (l:Loop),part=i∧loop=k∧p.parts[i]? =some P∧P.nest[k]? =some l∧i<p.parts.length∧k<P.nest.length∧cW p.arrays P=true∧k<4:=by
 unfold jH at h;rw [vBt] at h;obtain⟨hv,h⟩:=h;refine⟨hv,?_⟩;cases hx:ix p.parts part with
 |none=>rw [hx] at h;cases h
 |some P=>
  rw [hx] at h;obtain⟨i,rfl,hi,hP⟩:=aOS hx;obtain⟨h1,h2⟩:=of_decide_eq_true h;obtain⟨l,hl,hl2⟩:=jO h1 h2;have hok:=(eN hv).2.2.2.1 P (cR hP)
  have:=(nN hok).1;exact⟨i,loop.toNat,P,l,rfl,by omega,hP,hl2,hi,by omega,hok,by omega⟩
theorem aLN{p:Prog}(hp:BG 1000 p)(i:Nat){y:Part}(hy:BPt 4 y):BG 1000 ⟨p.arrays,p.parts.set i y⟩:=⟨hp.1,by dsimp only;rw [vAI];exact hp.2.1,wQ hp.2.2 (hy.mono (by omega))⟩
theorem aEY{p:Prog}{part loop:Int}(h:loop<0):jH p part loop=false:=by
 cases hc:jH p part loop with
 |false=>rfl
 |true=>obtain⟨_,i,k,P,l,_,hk,_⟩:=M3 hc;omega
theorem aJk{n:Nat}(hn:7000≤n){p:Prog}(hp:BG 1000 p)(part:Int):Ev (tO n p part (-1)) (fun r=>r.2=false→r=noP):=by
 unfold tO;refine Ev.jn (fun z=>z=false→bM p=true∧(0≤part∧part<(p.parts.length:Int))) (fun j hj=>?_) fun z hz=>?_
 ·refine aA (eG hn hp.sm) (Ev.cond (fun h=>hj _ fun h=>by cases h) fun h=>?_);refine aA (w9 n hp.2.1 part) (Ev.cond (fun h=>hj _ fun h=>by cases h) fun h2=>dP (fun h=>(h rfl).elim) fun _=>hj _ fun _=>⟨by simpa using h,by simpa using h2⟩)
 refine Ev.cond (fun _=>Ev.some fun _=>rfl) fun h=>?_;obtain⟨hv,h1,h2⟩:=hz h;obtain⟨x,hx,hx2⟩:=jO h1 h2;exact aA (aGr (by omega) hv) (aA hx (Ev.some fun h=>by cases h))
theorem aDb:BG 1000 noP.1:=⟨⟨by simp [noP],fun x hx=>by cases hx⟩,by simp [noP],fun x hx=>by cases hx⟩
def kA(k:Nat)(s:Int):Affine:=⟨[0,0,0,0].set k s,0⟩
theorem aOY{B:Option Bool}{a b:Int}(h:b≤1048576→Ev B fun r=>r=true):Ev (jn (fun(x2:Bool)=>bif x2 then(some true) else B) fun j1=>bif decide ((1048576:Int)<a) then(j1 true) else(j1 (decide ((1048576:Int)<b)))) (fun r=>r=true):=by exact Ev.jn (fun z=>z=false→b≤1048576) (fun j hj=>aH (fun _=>hj _ fun h=>by cases h) fun _=>hj _ fun h=>by have:=of_decide_eq_false h;omega) fun z hz=>Ev.cond (fun _=>Ev.some rfl) fun h0=>h (hz h0)
theorem aOX{I S:Option (Prog×Bool)}{REST:Prog×Bool→Prog×Bool→Option Bool}{R:Prog×Bool}(hR:BG 1000 R.1)(h1:I=some R)(h2:S=some R)(hb:R.2=true→Ev (REST R R) fun r=>r=true):
  Ev (Option.bind I fun x4=>Option.bind S fun x5=>jn (fun(x8:Bool)=>
    bif x8 then(
     jn (fun(x11:Bool)=>
      some x11
     ) (fun j9=>
      bif(x4.2==x5.2) then(
       Option.bind (fY N x4.1 x5.1) fun x10=>
       j9 x10
      ) else(
       j9 false
      )
     )
    ) else(
     REST x4 x5
    )
   ) (fun j6=>
    bif !(x4.2==x5.2) then(
     j6 true
    ) else(
     Option.bind (fY N x4.1 x5.1) fun x7=>
     bif !x7 then(
      j6 true
     ) else(
      j6 (!x4.2)
     )
    )
   )) (fun r=>r=true):=by
 have hN:N=100000:=rfl;have hs:=aKr (n:=N) (by omega) hR;have he:(R.2==R.2)=true:=by cases R.2<;>rfl
 refine aA h1 (aA h2 (Ev.jn (fun z=>z= !R.2) (fun j hj=>?_) fun z hz=>?_))
 ·rw [he];exact cC (aA hs (cC (hj _ rfl)))
 subst hz;cases hr:R.2 with
 |false=>exact cA (Ev.jn (fun z=>z=true) (fun j hj=>cA (aA hs (hj _ rfl))) fun z hz=>Ev.some hz)
 |true=>exact cC (hb hr)
theorem oW{α β:Type}{f g:α→β}: ∀{l:List α},(∀x∈l,f x=g x)→l.map f=l.map g
 | [],_=>rfl
 |x::l,h=>by rw [vBT,vBT,h x uM,oW fun y hy=>h y (rK _ hy)]
theorem aO0{p q:Prog}(h:aDx p=(q,true)):q=p∧bM p=true:=by
 unfold aDx at h;split at h
 ·rename_i hv;cases h;exact⟨rfl,hv⟩
 cases h
theorem aFd: ∀(cs p:List Int) (v:Int),cs.getD p.length 0=0→G8 cs (p++[v])=G8 cs p
 | [],p,v,_=>by simp [G8]
 |c::cs,[],v,h=>by
  simp only [List.length_nil,List.getD_cons_zero] at h;subst h;cases cs<;>simp [G8]
 |c::cs,x::p,v,h=>by simp only [List.cons_append,G8];rw [aFd cs p v (by simpa using h)]
def low(k:Nat)(b:Affine):Prop:= ∀j,k≤j→b.coefs.getD j 0=0
theorem aCq{α:Type}{l:List α}{k:Nat}{v d:α}(h:k<l.length):(l++[v]).getD k d=l.getD k d:=by rw [z7,S8 h,z7]
theorem G2{α β:Type}{f g:α→List β}{l:List α}(h: ∀x∈l,f x=g x):l.flatMap f=l.flatMap g:=by rw [List.flatMap_def,List.flatMap_def,oW h]
theorem vO{list:List Arr}{x:Part}(h:cW list x=true):dS x=pts x.nest []:=(aD5 (gS h).1).2.2.2.1
theorem aNX{f:Affine→Affine}{t q:List Int}: ∀{ss:List Affine} (ds:List Int) (acc:Int),(∀x∈ss,dI (f x) t=dI x q)→l5 (ss.map f) ds t acc=l5 ss ds q acc
 | [],ds,acc,_=>by cases ds<;>rfl
 |s::ss,[],acc,_=>rfl
 |s::ss,d::ds,acc,h=>by
  simp only [List.map_cons,l5];rw [h s uM];split
  ·exact aNX ds _ fun x hx=>h x (rK _ hx)
  rfl
theorem aHb{f:Affine→Affine}{t q:List Int}{a:Access}(h: ∀x∈a.subs,dI (f x) t=dI x q): ∀(xs:List Arr) (base:Int),cK xs (fX f a) t base=cK xs a q base
 | [],_=>rfl
 |x::xs,base=>by
  have e1:l5 (fX f a).subs x.dims t 0=l5 a.subs x.dims q 0:=aNX _ _ h;have e2:(fX f a).subs.length=a.subs.length:=by simp [fX]
  have e3:(fX f a).array=a.array:=rfl;simp only [cK,e1,e2,e3,aHb h xs]
theorem aH2{d:Int}{f:Affine→Affine}: ∀{L:Nat} {e:Expr},dQ L e d=true→bX L (vU f L e)=(bX L e).map (fX f)
 |0,_,h=>by cases h
 |L+1,e,h=>by
  obtain⟨hk,ho,hs⟩:=f9 h;show(if e.kind=3 then [if e.kind=3 then fX f e.read else⟨[],[]⟩] else [])++(e.kids.map (vU f L)).flatMap (bX L)=((if e.kind=3 then [e.read] else [])++e.kids.flatMap (bX L)).map (fX f);rw [vAM,List.flatMap_map,vBu];congr 1
  ·by_cases h3:e.kind=3
   ·simp only [if_pos h3];rfl
   simp only [if_neg h3];rfl
  exact G2 fun x hx=>aH2 (hs x hx)
theorem aJO{d:Int}{f:Affine→Affine}{t q:List Int}(h: ∀x,bY x=true→dI (f x) t=dI x q)(list:List Arr)(m:List Int): ∀{L:Nat} {e:Expr},dQ L e d=true→o8 L list m (vU f L e) t=o8 L list m e q
 |0,_,_=>rfl
 |L+1,e,he=>by
  obtain⟨hk,ho,hs⟩:=f9 he;have e1:(vU f (L+1) e).kind=e.kind:=rfl;have e2:(vU f (L+1) e).num=e.num:=rfl;have e5:(vU f (L+1) e).kids=e.kids.map (vU f L):=rfl;unfold o8;rw [e1,e2,e5];by_cases h1:e.kind=1
  ·rw [if_pos h1,if_pos h1]
  rw [if_neg h1,if_neg h1];by_cases h2:e.kind=2
  ·have e3:(vU f (L+1) e).index=f e.index:=by show(if e.kind=2 then f e.index else _)=_;rw [if_pos h2]
   rw [if_pos h2,if_pos h2,e3,h _ (yN ho h2).1]
  rw [if_neg h2,if_neg h2];by_cases h3:e.kind=3
  ·have e4:(vU f (L+1) e).read=fX f e.read:=by show(if e.kind=3 then fX f e.read else _)=_;rw [if_pos h3]
   rw [if_pos h3,if_pos h3,e4,aHb fun x hx=>h x ((uL (yM ho h3).1).2.2 x hx)]
  rw [if_neg h3,if_neg h3];obtain⟨kind,num,index,read,kids⟩:=e;dsimp only at hs⊢
  match kids,hs with
  | [],_=>rfl
  | [a],_=>rfl
  | [a,c],hs=>
   simp only [List.map_cons,List.map_nil];rw [aJO h list m (hs a (by simp)),aJO h list m (hs c (by simp))]
  |a::c::e::r,_=>rfl
theorem aLL{p:Prog}(hv:bM p=true){x:Inst}(hx:cY p x): ∀{Y:List Inst} {m:List Int},(∀y∈Y,cY p y)→(∀y∈Y,com p x y)→iE p.arrays m→cH p (runI p m x) Y=runI p (cH p m Y) x
 | [],m,_,_,_=>rfl
 |y::Y,m,h1,h2,hm=>by show cH p (runI p (runI p m x) y) Y=runI p (cH p (runI p m y) Y) x;rw [h2 y uM m hm];exact aLL hv hx (fun z hz=>h1 z (rK _ hz)) (fun z hz=>h2 z (rK _ hz)) (wW hv hm (h1 y uM))
theorem block{p:Prog}(hv:bM p=true): ∀{X Y:List Inst} {m:List Int},(∀x∈X,cY p x)→(∀y∈Y,cY p y)→(∀x∈X,∀y∈Y,com p x y)→iE p.arrays m→cH p (cH p m X) Y=cH p (cH p m Y) X
 | [],Y,m,_,_,_,_=>rfl
 |x::X,Y,m,h1,h2,h3,hm=>by show cH p (cH p (runI p m x) X) Y=cH p (runI p (cH p m Y) x) X;rw [block hv (fun z hz=>h1 z (rK _ hz)) h2 (fun z hz=>h3 z (rK _ hz)) (wW hv hm (h1 x uM)),aLL hv (h1 x uM) h2 (h3 x uM) hm]
def aAe:List Int→List Int→Bool
 |a::as,b::bs=>if a=b then aAe as bs else decide (a<b)
 | [],_::_=>true
 |_,[]=>false
theorem aKg{n:Nat}{p q:List Int}(hn:p.length<n)(hp:p.length≤1000)(hq:q.length≤1000):wV n p q=some (aAe p q):=by
 unfold wV;refine Ev.eq (Ev.loop (fun x:Int=> ∃i:Nat,x=i∧i≤p.length∧i≤q.length∧aAe (p.drop i) (q.drop i)=aAe p q) (fun x=>p.length-x.toNat) ?_ n 0 ⟨0,rfl,by omega,by omega,rfl⟩ (by omega));rintro again x ⟨i,rfl,h1,h2,hs⟩ hr;refine Ev.jn (fun z=>z=decide (i<p.length∧i<q.length)) (fun j hj=>aH (fun h=>hj _ ?_) fun h=>hj _ ?_) fun z hz=>?_
 ·rw [Bool.eq_iff_iff];simp only [decide_eq_true_eq];omega
 ·exact(decide_eq_false (by omega)).symm
 subst hz;refine aH (fun h=>?_) fun h=>Ev.some ?_
 ·have ha1:=cP h.1;have hb1:=cP h.2;rw [vBh h.1,vBh h.2] at hs;simp only [aAe] at hs;refine aA (aM ha1) (aA (aM hb1) (dP (fun hne=>Ev.some ?_) fun he=>?_))
  ·rw [if_neg hne] at hs;exact hs
  rw [if_pos he] at hs;rw [aO (by omega)];exact hr _ ⟨i+1,by omega,by omega,by omega,hs⟩ (by omega)
 rw [←hs];by_cases e:i<p.length
 ·have e2:q.drop i=[]:=List.drop_eq_nil_of_le (by omega);rw [e2,vBh e];simp only [aAe];exact decide_eq_false (by omega)
 have e1:p.drop i=[]:=List.drop_eq_nil_of_le (by omega);rw [e1];by_cases e3:i<q.length
 ·rw [vBh e3];simp only [aAe];exact decide_eq_true (by omega)
 rw [List.drop_eq_nil_of_le (show q.length≤i by omega)];simp only [aAe];exact decide_eq_false (by omega)
end Go.Lift
