/- Two programs that do the same. -/
import Derived.Test.YtjkdffkjfhkhhaaGreatCRun1
import Derived.Test.YtjkdffkjfhkhhaaGreatCDraw1
import Derived.Test.YtjkdffkjfhkhhaaGreatCDrawD
set_option maxRecDepth 100000
set_option linter.unusedVariables false
namespace Go.Lift
open Go
theorem vO{α β R:Type}{l:List α}{F:α→(β→Option R)→Option R}{g:α→β}{K:List β→Option R}{Q:R→Prop}{n:Nat}(hF: ∀x∈l,∀k:β→Option R,Ev (k (g x)) Q→Ev (F x k) Q)
  {s:Nat} (hs:s≤l.length) {pre:List β} (hp:pre.length≤1000) (hl:l.length≤1000) (hn:5000≤n) (hK:Ev (K (pre++(l.drop s).map g)) Q):
  Ev (aN (fun again ((x,i):List β×Int)=>bif decide (i<(l.length:Int)) then(Option.bind (ix l i) fun y=>F y fun z=>Option.bind (app x [z]) fun w=>again (w,wr (i+1))) else K x) n (pre,(s:Int))) Q:=by
 refine Ev.loop (fun z:List β×Int=> ∃i:Nat,z.2=i∧s≤i∧i≤l.length∧z.1=pre++((l.drop s).take (i-s)).map g) (fun z=>l.length-z.2.toNat) ?_ n _ ⟨s,rfl,by omega,by omega,by simp⟩ (by dsimp only;omega);rintro again ⟨x,z⟩ ⟨i,hz,hsi,hi,hx⟩ hr;dsimp only at hz hx⊢;subst hz;refine aH (fun hlt=>?_) fun hge=>?_
 ·have hg:=cP (show i<l.length by omega);have hxl:x.length≤2000:=by rw [hx,pU,qL,uI,vAU];omega
  refine aA (aS hg) (hF _ (cN hg) _ (aA (bU (by simp;omega)) ?_));rw [aQ (by omega)];refine hr _ ⟨i+1,by dsimp only;omega,by omega,by omega,?_⟩ (by dsimp only;omega);dsimp only;rw [show i+1-s=(i-s)+1 by omega,xX,vAD,show s+(i-s)=i by omega,hg,hx,vAN,vAL];rfl
 have:i=l.length:=by omega
 subst this;rw [hx,vBe (by rw [vAU];omega)];exact hK
theorem tC{α β R:Type}{l:List α}{f:α→Option β}{g:α→β}{K:List β→Option R}{Q:R→Prop}{n:Nat}(hf: ∀x∈l,f x=some (g x))(hl:l.length≤1000)(hn:5000≤n)(hK:Ev (K (l.map g)) Q):
  Ev (aN (fun again ((x,i):List β×Int)=>bif decide (i<(l.length:Int)) then(Option.bind (ix l i) fun y=>Option.bind (f y) fun z=>Option.bind (app x [z]) fun w=>again (w,wr (i+1))) else K x) n ([],0)) Q:=
 vO (F:=fun y k=>Option.bind (f y) k) (g:=g) (s:=0) (pre:=[]) (fun x hx k hk=>aA (hf x hx) hk) (by omega) (by simp) hl hn (by simpa using hK)
theorem aCz{α R:Type}{l:List α}{F:α→(α→Option R)→Option R}{W:List α→Option R→Option R}{m:List α→Int}{g:α→α}{K:List α→Option R}{Q:R→Prop}{n:Nat}
  (hW: ∀y o,y.length=l.length→Ev o Q→Ev (W y o) Q) (hm: ∀y:List α,y.length=l.length→m y=(l.length:Int))
  {s:Nat} (hs:s≤l.length) (hF: ∀x∈l,∀k:α→Option R,Ev (k (g x)) Q→Ev (F x k) Q) (hl:l.length≤1000) (hn:5000≤n) (hK:Ev (K (l.take s++(l.drop s).map g)) Q):
  Ev (aN (fun again ((y,i):List α×Int)=>W y (bif decide (i<m y) then(Option.bind (ix y i) fun x=>F x fun z=>Option.bind (eD y i z) fun w=>again (w,wr (i+1))) else K y)) n (l,(s:Int))) Q:=by
 refine Ev.loop (fun z:List α×Int=> ∃i:Nat,z.2=i∧s≤i∧i≤l.length∧z.1=l.take s++((l.drop s).take (i-s)).map g++l.drop i) (fun z=>l.length-z.2.toNat) ?_ n _ ⟨s,rfl,by omega,by omega,by simp⟩ (by dsimp only;omega);rintro again ⟨x,z⟩ ⟨i,hz,hsi,hi,hx⟩ hr;dsimp only at hz hx⊢;subst hz;have hpl:(l.take s++((l.drop s).take (i-s)).map g).length=i:=by rw [pU,qL,uI,uI,vAU];omega
 have hxl:x.length=l.length:=by rw [hx,pU,hpl,vAU];omega
 refine hW _ _ hxl ?_;rw [hm _ hxl];refine aH (fun hlt=>?_) fun hge=>?_
 ·obtain⟨e,hg⟩: ∃e,l[i]? =some e:=⟨_,cP (show i<l.length by omega)⟩
  have hgx:x[i]? =some e:=by
   rw [hx,vAp (by omega),hpl,vBx,vAD];exact hg
  refine aA (aS hgx) (hF _ (cN hg) _ (aA (fC (by omega) _) ?_));rw [aQ (by omega)];refine hr _ ⟨i+1,by dsimp only;omega,by omega,by omega,?_⟩ (by dsimp only;omega);dsimp only;rw [hx,vAG,vBQ _ _ (by omega),hpl,vBx,kZ hg,List.set_cons_zero,show i+1-s=(i-s)+1 by omega,xX,vAD,show s+(i-s)=i by omega,hg];simp
 have:i=l.length:=by omega
 subst this;rw [hx,vBe (l:=l.drop s) (by rw [vAU];omega),vBq,vBn];exact hK
def dZ(f:Affine→Affine)(a:Access):Access:=⟨a.array,a.subs.map f⟩
def mQ(f:Affine→Affine):Nat→Expr→Expr
 |0,e=>e
 |L+1,e=>⟨e.kind,e.num,if e.kind=2 then f e.index else⟨[],0⟩,if e.kind=3 then dZ f e.read else⟨[],[]⟩,e.kids.map (mQ f L)⟩
def o9(f:Affine→Affine)(s:Stmt):Stmt:=⟨dZ f s.write,mQ f 5 s.value⟩
def d9(f:Affine→Affine)(l:Loop):Loop:=⟨l.lo.map f,l.hi.map f⟩
theorem yF{e:Expr}{d:Int}(h:fV e d=true)(hk:e.kind=2):bO e.index=true∧nA e.read=true:=by unfold fV b7 at h;rw [if_pos hk] at h;simp only [Bool.and_eq_true] at h;exact⟨h.2.2.1,h.2.1⟩
theorem yE{e:Expr}{d:Int}(h:fV e d=true)(hk:e.kind=3):gN e.read d=true∧jI e.index=true:=by unfold fV at h;rw [if_neg (by omega),if_pos hk] at h;simp only [Bool.and_eq_true] at h;exact⟨h.2.2,h.2.1⟩
theorem aF6{e:Expr}{d:Int}(h:fV e d=true)(h2: ¬e.kind=2)(h3: ¬e.kind=3):jI e.index=true∧nA e.read=true:=by unfold fV at h;rw [if_neg h2,if_neg h3] at h;split at h<;>simp only [Bool.and_eq_true] at h<;>exact⟨h.2.1,h.2.2⟩
theorem D0{a:Affine}(h:jI a=true):a=⟨[],0⟩:=by obtain⟨c,k⟩:=a;simp only [jI,Bool.and_eq_true,decide_eq_true_eq] at h;obtain⟨h1,rfl⟩:=h;rw [vAz h1]
theorem D1{a:Access}(h:nA a=true):a=⟨[],[]⟩:=by obtain⟨c,k⟩:=a;simp only [nA,Bool.and_eq_true,decide_eq_true_eq] at h;obtain⟨rfl,h1⟩:=h;rw [vAz h1]
theorem vV{n:Nat}(hn:5000≤n){a:Access}{d:Int}(ha:gN a d=true){F:Affine→Option Affine}{f:Affine→Affine}(hF: ∀x,bO x=true→F x=some (f x)):kK n a F=some (dZ f a):=by obtain⟨h1,h2,h3⟩:=uH ha;refine Ev.eq ?_;unfold kK;exact tC (K:=fun x1=>some (⟨a.array,x1⟩:Access)) (fun x hx=>hF x (h3 x hx)) (by omega) hn (Ev.some rfl)
theorem E6{d:Int}{F:Affine→Option Affine}{f:Affine→Affine}(hF: ∀x,bO x=true→F x=some (f x)): ∀(L n:Nat) (e:Expr),5000+L≤n→dO L e d=true→i_exprMap (n+1) e F=some (mQ f L e)
 |0,_,_,_,h=>by cases h
 |L+1,n,e,hn,h=>by
  obtain⟨hk,ho,hs⟩:=gU h;obtain⟨n,rfl⟩: ∃j,n=j+1:=⟨n-1,by omega⟩
  have hkl:e.kids.length≤2:=by have:=mS e.kind;omega
  unfold i_exprMap;refine Ev.eq (Ev.jn (fun z=>(⟨z.1,z.2.1⟩:Affine)=(if e.kind=2 then f e.index else⟨[],0⟩)∧(⟨z.2.2.1,z.2.2.2⟩:Access)=(if e.kind=3 then dZ f e.read else⟨[],[]⟩)) (fun j hj=>?_) fun z hz=>?_)
  ·refine aH (fun h2=>?_) fun h2=>aH (fun h3=>?_) fun h3=>?_
   ·exact aA (hF _ (yF ho h2).1) (hj _ ⟨by rw [if_pos h2],by rw [if_neg (by omega)]⟩)
   ·exact aA (vV (by omega) (yE ho h3).1 hF) (hj _ ⟨by rw [if_neg h2],by rw [if_pos h3]⟩)
   exact hj _ ⟨by rw [if_neg h2],by rw [if_neg h3]⟩
  obtain⟨x4,x5,x6,x7⟩:=z;obtain⟨z1,z2⟩:=hz;dsimp only at z1 z2⊢;refine tC (K:=fun x8=>some (⟨e.kind,e.num,(⟨x4,x5⟩:Affine),(⟨x6,x7⟩:Access),x8⟩:Expr)) (fun x hx=>E6 hF L n x (by omega) (hs x hx)) (by omega) (by omega) (Ev.some ?_);rw [z1,z2];rfl
theorem E4{n:Nat}(hn:6000≤n){s:Stmt}{d:Int}(hs:fN s d=true){F:Affine→Option Affine}{f:Affine→Affine}(hF: ∀x,bO x=true→F x=some (f x)):kJ n s F=some (o9 f s):=by
 obtain⟨h1,h2,_⟩:=jY hs;obtain⟨n,rfl⟩: ∃j,n=j+1:=⟨n-1,by omega⟩
 unfold kJ;rw [vV (by omega) h1 hF,E6 hF 5 n s.value (by omega) h2];rfl
theorem vN{α:Type}{f:α→α}: ∀{l:List α},(∀x∈l,f x=x)→l.map f=l
 | [],_=>rfl
 |x::l,h=>by rw [vBT,h x wI,vN fun y hy=>h y (sO _ hy)]
theorem aBT{f:Affine→Affine}{a:Access}{d:Int}(ha:gN a d=true)(hf: ∀x,bO x=true→f x=x):dZ f a=a:=by obtain⟨h1,h2,h3⟩:=uH ha;unfold dZ;rw [vN fun x hx=>hf x (h3 x hx)]
theorem aHP{d:Int}{f:Affine→Affine}(hf: ∀x,bO x=true→f x=x): ∀{L:Nat} {e:Expr},dO L e d=true→mQ f L e=e
 |0,_,_=>rfl
 |L+1,e,h=>by
  obtain⟨hk,ho,hs⟩:=gU h;obtain⟨kind,num,index,read,kids⟩:=e;unfold mQ;dsimp only at hk ho hs⊢;rw [vN fun x hx=>aHP hf (hs x hx)];by_cases h2:kind=2
  ·have e1:=yF ho h2;dsimp only at e1;rw [if_pos h2,if_neg (by omega),hf _ e1.1,D1 e1.2]
  by_cases h3:kind=3
  ·have e1:=yE ho h3;dsimp only at e1;rw [if_neg h2,if_pos h3,aBT e1.1 hf,D0 e1.2]
  have e1:=aF6 ho h2 h3;dsimp only at e1;rw [if_neg h2,if_neg h3,D0 e1.1,D1 e1.2]
theorem aHO{f:Affine→Affine}(hf: ∀x,bO x=true→f x=x){s:Stmt}{d:Int}(hs:fN s d=true):o9 f s=s:=by obtain⟨h1,h2,_⟩:=jY hs;unfold o9;rw [aBT h1 hf,aHP hf h2]
theorem aEs(f g:Affine→Affine): ∀(L:Nat) (e:Expr),mQ g L (mQ f L e)=mQ (fun x=>g (f x)) L e
 |0,_=>rfl
 |L+1,e=>by
  show(⟨e.kind,e.num,if e.kind=2 then g (if e.kind=2 then f e.index else⟨[],0⟩) else⟨[],0⟩,if e.kind=3 then dZ g (if e.kind=3 then dZ f e.read else⟨[],[]⟩) else⟨[],[]⟩,(e.kids.map (mQ f L)).map (mQ g L)⟩:Expr)
   =⟨e.kind,e.num,if e.kind=2 then g (f e.index) else⟨[],0⟩,if e.kind=3 then dZ (fun x=>g (f x)) e.read else⟨[],[]⟩,e.kids.map (mQ (fun x=>g (f x)) L)⟩
  rw [vBS,show(mQ g L ∘ mQ f L)=mQ (fun x=>g (f x)) L from funext (aEs f g L)];by_cases h2:e.kind=2
  ·have h3: ¬e.kind=3:=by omega
   simp only [if_pos h2,if_neg h3]
  by_cases h3:e.kind=3
  ·simp only [if_neg h2,if_pos h3,dZ,List.map_map];rfl
  simp only [if_neg h2,if_neg h3]
theorem aKv(f g:Affine→Affine)(s:Stmt):o9 g (o9 f s)=o9 (fun x=>g (f x)) s:=by unfold o9;rw [aEs];simp only [dZ,List.map_map];rfl
theorem aII(f g:Affine→Affine)(l:Loop):d9 g (d9 f l)=d9 (fun x=>g (f x)) l:=by simp only [d9,List.map_map];rfl
def yL(l:Loop):Prop:=(l.lo.length≤2∧ ∀x∈l.lo,bO x=true)∧l.hi.length≤2∧ ∀x∈l.hi,bO x=true
theorem aKw{f:Affine→Affine}(hf: ∀x,bO x=true→f x=x){l:Loop}(hl:yL l):d9 f l=l:=by unfold d9;rw [vN fun x hx=>hf x (hl.1.2 x hx),vN fun x hx=>hf x (hl.2.2 x hx)]
theorem aOQ{nest:List Loop}(h:Fit nest): ∀l∈nest,yL l:=fun l hl=>by
 obtain⟨i,hi⟩:=vAB.1 hl
 have:=h.2 i l hi;exact⟨(uT this.1).2,(uT this.2).2⟩
theorem nL{list:List Arr}{x:Part}(h:cQ list x=true):x.nest.length≤4∧ ∀l∈x.nest,yL l:=by have:=(aFx (gE h).1).1;exact⟨this.1,aOQ this⟩
theorem aNP{a:Affine}(h:bO a=true):BA 4 a:=by have:=(hJ h).1;unfold BA;omega
theorem aDs{l:List Affine}(h1:l.length≤2)(h2: ∀x∈l,bO x=true):BAs 4 l:=⟨by omega,fun a ha=>aNP (h2 a ha)⟩
theorem aNO{d:Int}: ∀{L:Nat} {e:Expr},dO L e d=true→BE 4 L e
 |0,_,h=>by cases h
 |L+1,e,h=>by
  obtain⟨hk,ho,hs⟩:=gU h
  have:=mS e.kind;refine⟨by omega,?_,?_,fun k hk=>aNO (hs k hk)⟩
  ·by_cases h2:e.kind=2
   ·exact aNP (yF ho h2).1
   by_cases h3:e.kind=3
   ·rw [D0 (yE ho h3).2];unfold BA;simp
   rw [D0 (aF6 ho h2 h3).1];unfold BA;simp
  by_cases h3:e.kind=3
  ·have:=uH (yE ho h3).1;exact aDs this.2.1 this.2.2
  by_cases h2:e.kind=2
  ·rw [D1 (yF ho h2).2];exact⟨by simp,fun x hx=>by cases hx⟩
  rw [D1 (aF6 ho h2 h3).2];exact⟨by simp,fun x hx=>by cases hx⟩
theorem aP8{s:Stmt}{d:Int}(hs:fN s d=true):BS 4 s:=by
 obtain⟨h1,h2,_⟩:=jY hs
 have:=uH h1;exact⟨aDs this.2.1 this.2.2,aNO h2⟩
theorem aO0{list:List Arr}{x:Part}(h:cQ list x=true):BPt 4 x:=by obtain⟨h1,h2⟩:=nL h;obtain⟨_,h4,h5,_⟩:=gE h;exact⟨⟨h1,fun l hl=>⟨aDs (h2 l hl).1.1 (h2 l hl).1.2,aDs (h2 l hl).2.1 (h2 l hl).2.2⟩⟩,h4.2,fun s hs=>aP8 (h5 s hs)⟩
theorem aP9{l:List Arr}(h1:l.length≤4)(h2:jV l):BR 4 l:=⟨h1,fun x hx=>by have:=h2 x hx;simp only [jD,Bool.and_eq_true,decide_eq_true_eq] at this;omega⟩
theorem S6{B:Nat}{l:List Affine}{f:Affine→Affine}(h:l.length≤B)(hf: ∀x∈l,BA B (f x)):BAs B (l.map f):=⟨by rw [qL];exact h,fun a ha=>by obtain⟨x,hx,rfl⟩:=I6.1 ha;exact hf x hx⟩
theorem aLI{d:Int}{f:Affine→Affine}(hf: ∀x,bO x=true→BA 4 (f x)): ∀{L:Nat} {e:Expr},dO L e d=true→BE 4 L (mQ f L e)
 |0,_,h=>by cases h
 |L+1,e,h=>by
  obtain⟨hk,ho,hs⟩:=gU h
  have:=mS e.kind;unfold mQ BE;refine⟨by dsimp only;rw [qL];omega,?_,?_,fun k hk=>?_⟩
  ·dsimp only;by_cases h2:e.kind=2
   ·rw [if_pos h2];exact hf _ (yF ho h2).1
   rw [if_neg h2];unfold BA;simp
  ·dsimp only;by_cases h3:e.kind=3
   ·rw [if_pos h3]
    have:=uH (yE ho h3).1;exact S6 (by omega) fun x hx=>hf x (this.2.2 x hx)
   rw [if_neg h3];exact⟨by simp,fun x hx=>by cases hx⟩
  obtain⟨x,hx,rfl⟩:=I6.1 hk;exact aLI hf (hs x hx)
theorem aOZ{f:Affine→Affine}(hf: ∀x,bO x=true→BA 4 (f x)){s:Stmt}{d:Int}(hs:fN s d=true):BS 4 (o9 f s):=by
 obtain⟨h1,h2,_⟩:=jY hs
 have:=uH h1;exact⟨S6 (by omega) fun x hx=>hf x (this.2.2 x hx),aLI hf h2⟩
theorem aNs{f:Affine→Affine}(hf: ∀x,bO x=true→BA 4 (f x)){l:Loop}(h:yL l):BAs 4 (d9 f l).lo∧BAs 4 (d9 f l).hi:=
 ⟨S6 (by have:=h.1.1;omega) fun x hx=>hf x (h.1.2 x hx),S6 (by have:=h.2.1;omega) fun x hx=>hf x (h.2.2 x hx)⟩
theorem aBJ(n:Nat){a:Affine}(h:a.coefs.length≤1000):d4 n a=some a:=by unfold d4 m_ownClone;rw [if_pos (by omega)];rfl
theorem aBI(n:Nat): ∀x,bO x=true→d4 n x=some x:=fun x hx=>aBJ n (by have:=(hJ hx).1;omega)
theorem W6{n:Nat}(hn:5000≤n){l:List Affine}(h1:l.length≤2)(h2: ∀x∈l,bO x=true):fZ n l=some l:=by unfold fZ;refine Ev.eq (tC (g:=fun x=>x) (K:=fun x1=>some x1) (fun x hx=>aBI n x (h2 x hx)) (by omega) hn (Ev.some ?_));simp
theorem aF7{n:Nat}(hn:5000≤n){nest:List Loop}(h1:nest.length≤4)(h2: ∀l∈nest,yL l):rU n nest=some nest:=by unfold rU;refine Ev.eq ?_;refine vO (β:=Loop) (l:=nest) (n:=n) (F:=fun x5 k=>Option.bind (fZ n x5.lo) fun x6=>Option.bind (fZ n x5.hi) fun x7=>k (⟨x6,x7⟩:Loop)) (g:=fun x=>x) (s:=0) (pre:=[]) (K:=fun x1=>some x1) ?_ (by omega) (by simp) (by omega) hn (Ev.some (by simp));exact fun x hx k hk=>aA (W6 hn (h2 x hx).1.1 (h2 x hx).1.2) (aA (W6 hn (h2 x hx).2.1 (h2 x hx).2.2) hk)
theorem aF4{n:Nat}(hn:6000≤n){s:Stmt}{d:Int}(hs:fN s d=true):w4 n s=some s:=by unfold w4;rw [E4 hn hs (F:=fun q0=>d4 n q0) (f:=fun x=>x) (aBI n),aHO (fun _ _=>rfl) hs];rfl
theorem aF5{n:Nat}(hn:6000≤n){list:List Arr}{x:Part}(h:cQ list x=true):oJ n x=some x:=by obtain⟨h1,h2⟩:=nL h;obtain⟨_,h4,h5,_⟩:=gE h;unfold oJ;refine Ev.eq (aA (aF7 (by omega) h1 h2) (tC (g:=fun x=>x) (K:=fun x2=>some (⟨x.nest,x2⟩:Part)) (fun s hs=>aF4 hn (h5 s hs)) (by omega) (by omega) (Ev.some ?_)));simp
theorem aF3{n:Nat}(hn:6000≤n){p:Prog}(h:bV p=true):gR n p=some p:=by
 obtain⟨h1,h2,h3,h4,_⟩:=fX h;unfold gR;refine Ev.eq (vO (F:=fun x5 k=>Option.bind (m_ownClone x5.dims) fun x6=>k (⟨x5.name,x6⟩:Arr)) (g:=fun x=>x) (s:=0) (pre:=[]) (K:=fun x1=>aN (fun again11 ((x8,x9):(List Part)×Int)=>
    bif decide (x9<(p.parts.length:Int)) then(
     Option.bind (ix p.parts x9) fun x12=>
     Option.bind (oJ n x12) fun x13=>
     Option.bind (app x8 [x13]) fun x14=>
     again11 (x14,wr (x9+1))
    ) else(
     some (⟨x1,x8⟩:Prog)
    )
   ) n ([],0)) (fun x hx k hk=>aA (x:=x.dims) ?_ hk) (by omega) (by simp) (by omega) (by omega) ?_)
 ·have:=(aP9 h1 h2).2 x hx;unfold m_ownClone;rw [if_pos (by omega)]
 refine tC (g:=fun x=>x) (K:=fun x8=>some (⟨_,x8⟩:Prog)) (fun x hx=>aF5 hn (h4 x hx)) (by omega) (by omega) (Ev.some ?_);simp
theorem fW{α:Type}{a b:List α}(h:b.length=a.length):iP a b=some ():=by unfold iP;rw [if_pos h]
theorem aA7{n:Nat}(hn:5000≤n){l:Loop}(hl:yL l){F:Affine→Option Affine}{f:Affine→Affine}(hF: ∀x,bO x=true→F x=some (f x)):mH n l F=some (d9 f l):=by
 obtain⟨⟨a1,a2⟩,b1,b2⟩:=hl;unfold mH;refine Ev.eq (Ev.loop (fun z:Loop×Int=>(z.2=0∧z.1=l)∨(z.2=1∧z.1=⟨l.lo.map f,l.hi⟩)∨(z.2=2∧z.1=d9 f l)) (fun z=>3-z.2.toNat) ?_ n _ (.inl ⟨rfl,rfl⟩) (by dsimp only;omega));rintro again ⟨x,i⟩ hz hr;dsimp only at hz hr⊢;rcases hz with ⟨rfl,rfl⟩|⟨rfl,rfl⟩|⟨rfl,rfl⟩
 ·refine aA (fW rfl) (aA (fW rfl) (aH (fun _=>aH (fun _=>?_) fun h=>(h rfl).elim) fun h=>absurd h (by omega)));refine aCz (F:=fun x k=>Option.bind (F x) k) (W:=fun _ o=>o) (m:=fun _=>(x.lo.length:Int)) (g:=f) (s:=0) (K:=fun y=>again ((⟨y,x.hi⟩:Loop),wr (0+1))) (fun _ _ _ h=>h) (fun _ _=>rfl) (by omega) (fun x hx k hk=>aA (hF x (a2 x hx)) hk) (by omega) hn ?_;rw [aQ (by omega)];exact hr _ (.inr (.inl ⟨by dsimp only;omega,by simp⟩)) (by dsimp only;omega)
 ·refine aA (fW (by simp)) (aA (fW rfl) (aH (fun _=>aH (fun h=>absurd h (by omega)) fun _=>aH (fun _=>?_) fun h=>(h rfl).elim) fun h=>absurd h (by omega)));refine aCz (F:=fun x k=>Option.bind (F x) k) (W:=fun _ o=>o) (m:=fun _=>(l.hi.length:Int)) (g:=f) (s:=0) (K:=fun y=>again ((⟨l.lo.map f,y⟩:Loop),wr (1+1))) (fun _ _ _ h=>h) (fun _ _=>rfl) (by omega) (fun x hx k hk=>aA (hF x (b2 x hx)) hk) (by omega) hn ?_;rw [aQ (by omega)];exact hr _ (.inr (.inr ⟨by dsimp only;omega,by simp [d9]⟩)) (by dsimp only;omega)
 refine aA (fW (by simp [d9])) (aA (fW (by simp [d9])) (aH (fun h=>absurd h (by omega)) fun _=>Ev.some rfl))
theorem aA6{n:Nat}(hn:6000≤n){nest:List Loop}{body:List Stmt}{s:Nat}(hs:s≤nest.length)(h1:nest.length≤4)(h2: ∀l∈nest.drop s,yL l){d:Int}(h3:body.length≤4)(h4: ∀s∈body,fN s d=true){F:Affine→Option Affine}{f:Affine→Affine}(hF: ∀x,bO x=true→F x=some (f x)):
  mG n ⟨nest,body⟩ (s:Int) F=some ⟨nest.take s++(nest.drop s).map (d9 f),body.map (o9 f)⟩:=by
 have key: ∀(nest2:List Loop),Ev (aN (fun again2 ((y,j):(List Stmt)×Int)=>
    Option.bind (iP body y) fun x5=>
    bif decide (j<(body.length:Int)) then(
     Option.bind (ix y j) fun x6=>
     Option.bind (kJ n x6 F) fun x7=>
     Option.bind (eD y j x7) fun x8=>
     again2 (x8,wr (j+1))
    ) else(
     some (⟨nest2,y⟩:Part)
    )
   ) n (body,0)) (fun r=>r=⟨nest2,body.map (o9 f)⟩):=fun nest2=>
  aCz (F:=fun x k=>Option.bind (kJ n x F) k) (W:=fun y o=>Option.bind (iP body y) fun _=>o) (m:=fun _=>(body.length:Int)) (g:=o9 f) (s:=0) (K:=fun y=>some (⟨nest2,y⟩:Part)) (fun y o h ho=>aA (fW h) ho) (fun _ _=>rfl) (by omega) (fun x hx k hk=>aA (E4 hn (h4 x hx) hF) hk) (by omega) (by omega) (Ev.some (by simp))
 unfold mG;refine Ev.eq ?_
 -- the loops ahead stay: only those behind are changed
 refine Ev.loop (fun z:List Loop×Int=> ∃i:Nat,z.2=i∧s≤i∧i≤nest.length∧z.1=nest.take s++((nest.drop s).take (i-s)).map (d9 f)++nest.drop i) (fun z=>nest.length-z.2.toNat) ?_ n _ ⟨s,rfl,by omega,by omega,by simp⟩ (by dsimp only;omega);rintro again ⟨x,z⟩ ⟨i,hz,hsi,hi,hx⟩ hr;dsimp only at hz hx⊢;subst hz;have hpl:(nest.take s++((nest.drop s).take (i-s)).map (d9 f)).length=i:=by rw [pU,qL,uI,uI,vAU];omega
 have hxl:x.length=nest.length:=by rw [hx,pU,hpl,vAU];omega
 refine aA (fW hxl) (aH (fun hlt=>?_) fun hge=>?_)
 ·obtain⟨e,hg⟩: ∃e,nest[i]? =some e:=⟨_,cP (show i<nest.length by omega)⟩
  have hgx:x[i]? =some e:=by
   rw [hx,vAp (by omega),hpl,vBx,vAD];exact hg
  have he:e∈nest.drop s:=vAB.2 ⟨i-s,by rw [vAD,show s+(i-s)=i by omega];exact hg⟩;refine aA (aS hgx) (aA (aA7 (by omega) (h2 _ he) hF) (aA (fC (by omega) _) ?_));rw [aQ (by omega)];refine hr _ ⟨i+1,by dsimp only;omega,by omega,by omega,?_⟩ (by dsimp only;omega);dsimp only;rw [hx,vAG,vBQ _ _ (by omega),hpl,vBx,kZ hg,List.set_cons_zero,show i+1-s=(i-s)+1 by omega,xX,vAD,show s+(i-s)=i by omega,hg];simp
 have:i=nest.length:=by omega
 subst this;rw [hx,vBe (l:=nest.drop s) (by rw [vAU];omega),vBq,vBn];exact key _
theorem aCD{n:Nat}(hn:5000≤n){l:List Affine}(h1:l.length≤2)(h2: ∀x∈l,bO x=true){way v:Int}{b:Affine}{f:Affine→Affine}(hF: ∀x,bO x=true→iA n x way v b=some (f x)):rB n l way v b=some (l.map f):=by unfold rB;exact Ev.eq (tC (K:=fun x1=>some x1) (fun x hx=>hF x (h2 x hx)) (by omega) hn (Ev.some rfl))
theorem aIK{n:Nat}(hn:5000≤n){l:Loop}(hl:yL l){way v:Int}{b:Affine}{f:Affine→Affine}(hF: ∀x,bO x=true→iA n x way v b=some (f x)):uW n l way v b=some (d9 f l):=by unfold uW;rw [aCD hn hl.1.1 hl.1.2 hF,aCD hn hl.2.1 hl.2.2 hF];rfl
theorem N6{n:Nat}(hn:5000≤n){a:Access}{d:Int}(ha:gN a d=true){way v:Int}{b:Affine}{f:Affine→Affine}(hF: ∀x,bO x=true→iA n x way v b=some (f x)):lK n a way v b=some (dZ f a):=by have:=uH ha;unfold lK;rw [aCD hn this.2.1 this.2.2 hF];rfl
theorem aBX{d way v:Int}{b:Affine}{f:Affine→Affine}(hF: ∀n,5000≤n→ ∀x,bO x=true→iA n x way v b=some (f x)): ∀(L n:Nat) (e:Expr),5000+L≤n→dO L e d=true→s_l8Expr (n+1) e way v b=some (mQ f L e)
 |0,_,_,_,h=>by cases h
 |L+1,n,e,hn,h=>by
  obtain⟨hk,ho,hs⟩:=gU h;obtain⟨n,rfl⟩: ∃j,n=j+1:=⟨n-1,by omega⟩
  have hkl:e.kids.length≤2:=by have:=mS e.kind;omega
  unfold s_l8Expr;refine Ev.eq (Ev.jn (fun z=>(⟨z.1,z.2⟩:Affine)=(if e.kind=2 then f e.index else⟨[],0⟩)) (fun j hj=>?_) fun z hz=>Ev.jn (fun y=>(⟨y.1,y.2⟩:Access)=(if e.kind=3 then dZ f e.read else⟨[],[]⟩)) (fun j hj=>?_) fun y hy=>?_)
  ·exact aH (fun h2=>aA (hF _ (by omega) _ (yF ho h2).1) (hj _ (by rw [if_pos h2]))) fun h2=>hj _ (by rw [if_neg h2])
  ·exact aH (fun h3=>aA (N6 (by omega) (yE ho h3).1 (hF _ (by omega))) (hj _ (by rw [if_pos h3]))) fun h3=>hj _ (by rw [if_neg h3])
  obtain⟨x3,x4⟩:=z;obtain⟨x7,x8⟩:=y;dsimp only at hz hy⊢;refine tC (K:=fun x9=>some (⟨e.kind,e.num,(⟨x3,x4⟩:Affine),(⟨x7,x8⟩:Access),x9⟩:Expr)) (fun x hx=>aBX hF L n x (by omega) (hs x hx)) (by omega) (by omega) (Ev.some ?_);rw [hz,hy];rfl
theorem aIM{n:Nat}(hn:6000≤n){l:List Stmt}{d:Int}(h1:l.length≤4)(h2: ∀s∈l,fN s d=true){way v:Int}{b:Affine}{f:Affine→Affine}(hF: ∀n,5000≤n→ ∀x,bO x=true→iA n x way v b=some (f x)):z8 n l way v b=some (l.map (o9 f)):=by
 obtain⟨n,rfl⟩: ∃j,n=j+1:=⟨n-1,by omega⟩
 unfold z8;refine Ev.eq ?_;refine vO (β:=Stmt) (l:=l) (n:=n+1) (F:=fun x5 k=>Option.bind (lK (n+1) x5.write way v b) fun x6=>Option.bind (s_l8Expr (n+1) x5.value way v b) fun x7=>k (⟨x6,x7⟩:Stmt)) (g:=o9 f) (s:=0) (pre:=[]) (K:=fun x1=>some x1) (fun x hx k hk=>?_) (by omega) (by simp) (by omega) (by omega) (Ev.some (by simp));obtain⟨h1,h2,_⟩:=jY (h2 x hx);exact aA (N6 (by omega) h1 (hF _ (by omega))) (aA (aBX hF 5 n x.value (by omega) h2) hk)
theorem aGi{n:Nat}(hn:6000≤n){x:Part}{s:Nat}(hs:s+1≤x.nest.length)(h1:x.nest.length≤4)(h2: ∀l∈x.nest,yL l){d:Int}(h3:x.body.length≤4)(h4: ∀s∈x.body,fN s d=true){way v:Int}{b:Affine}{f:Affine→Affine}(hF: ∀n,5000≤n→ ∀x,bO x=true→iA n x way v b=some (f x)):
  wL n x (s:Int) way v b=some ⟨x.nest.take (s+1)++(x.nest.drop (s+1)).map (d9 f),x.body.map (o9 f)⟩:=by unfold wL;rw [aQ (by omega)];refine Ev.eq (aA (U2 (by omega) (by omega) (by omega)) ?_);rw [show((s:Int)+1).toNat=s+1 by omega,show(0:Int).toNat=0 from rfl,List.drop_zero];refine aA (x:=x.nest.take (s+1)) (bU (by simp;omega)) (aA (aIM hn h3 h4 hF) ?_);exact vO (F:=fun x8 k=>Option.bind (uW n x8 way v b) k) (g:=d9 f) (s:=s+1) (pre:=x.nest.take (s+1)) (K:=fun x4=>some (⟨x4,x.body.map (o9 f)⟩:Part)) (fun l hl k hk=>aA (aIK (by omega) (h2 l hl) (hF _ (by omega))) hk) (by omega) (by simp;omega) (by omega) (by omega) (Ev.some rfl)
theorem aBO(n:Nat){a:Affine}(h:BA 1000 a):iC n a=some a:=by unfold iC;rw [d5 _ h];rfl
theorem yH{n:Nat}(hn:5000≤n){l:List Affine}(h:BAs 1000 l):dU n l=some l:=by unfold dU;exact Ev.eq (mU (K:=fun x1=>some x1) (fun x hx=>aBO n (h.2 x hx)) h.1 hn (Ev.some rfl))
theorem aBP{n:Nat}(hn:5000≤n){a:Access}(h:BAs 1000 a.subs):iD n a=some a:=by unfold iD;rw [yH hn h];rfl
theorem X0: ∀(L n:Nat) (e:Expr),5000+L≤n→BE 1000 L e→s_l16OwnExpr (n+1) e=some e
 |0,_,_,_,h=>h.elim
 |L+1,n,e,hn,h=>by
  obtain⟨h1,h2,h3,h4⟩:=h;obtain⟨n,rfl⟩: ∃j,n=j+1:=⟨n-1,by omega⟩
  unfold s_l16OwnExpr lO;rw [aBO _ h2,aBP (by omega) h3];refine Ev.eq (aA rfl (aA rfl (aA (x:=e.kids) ?_ (Ev.some (by cases e;rfl)))));exact Ev.eq (mU (f:=s_l16OwnExpr (n+1)) (K:=fun x1=>some x1) (fun x hx=>X0 L n x (by omega) (h4 x hx)) h1 (by omega) (Ev.some rfl))
theorem aGb{n:Nat}(hn:6000≤n){s:Stmt}(h:BS 1000 s):nF n s=some s:=by
 obtain⟨n,rfl⟩: ∃j,n=j+1:=⟨n-1,by omega⟩
 unfold nF;rw [aBP (by omega) h.1,X0 5 n s.value (by omega) h.2];rfl
theorem aGd{n:Nat}(hn:6000≤n){x:Part}(h:BPt 1000 x):nG n x=some x:=by
 obtain⟨⟨h1,h2⟩,h3,h4⟩:=h;have e1:iT n x.nest=some x.nest:=by
  unfold iT;refine Ev.eq (mU (K:=fun x1=>some x1) (fun l hl=>?_) h1 (by omega) (Ev.some rfl));unfold sV;rw [yH (by omega) (h2 l hl).1,yH (by omega) (h2 l hl).2];rfl
 have e2:iR n x.body=some x.body:=by
  unfold iR;exact Ev.eq (mU (K:=fun x1=>some x1) (fun l hl=>aGb hn (h4 l hl)) h3 (by omega) (Ev.some rfl))
 unfold nG;rw [e1,e2];rfl
theorem aGc{n:Nat}(hn:6000≤n){p:Prog}(h:BG 1000 p):jR n p=some p:=by
 obtain⟨⟨h1,h2⟩,h3,h4⟩:=h;have e1:gW n p.arrays=some p.arrays:=by
  unfold gW;refine Ev.eq (mU (K:=fun x1=>some x1) (fun l hl=>?_) h1 (by omega) (Ev.some rfl));unfold qP;rw [d5 _ (h2 l hl)];rfl
 have e2:iS n p.parts=some p.parts:=by
  unfold iS;exact Ev.eq (mU (K:=fun x1=>some x1) (fun l hl=>aGd hn (h4 l hl)) h3 (by omega) (Ev.some rfl))
 unfold jR;rw [e1,e2];rfl
theorem rA{α:Type}{f:α→α→Option Bool}{l:List α}(hf: ∀x∈l,f x x=some true){n:Nat}(hn:l.length<n)(hl:l.length≤1000000):
  (bif !decide ((l.length:Int)=(l.length:Int)) then(some false) else(aN (fun again2 (x1:Int)=>bif decide (x1<(l.length:Int)) then(Option.bind (ix l x1) fun x3=>Option.bind (ix l x1) fun x4=>Option.bind (f x3 x4) fun x5=>bif !x5 then(some false) else(again2 (wr (x1+1)))) else(some true)) n 0))=some true:=by
 refine Ev.eq (dI (fun h=>(h rfl).elim) fun _=>?_);refine Ev.loop (fun x:Int=> ∃i:Nat,x=i∧i≤l.length) (fun x=>l.length-x.toNat) ?_ n 0 ⟨0,rfl,by omega⟩ (by omega);rintro again x ⟨i,rfl,hi⟩ hr;refine aH (fun hlt=>?_) fun _=>Ev.some rfl;obtain⟨e,hg⟩: ∃e,l[i]? =some e:=⟨_,cP (show i<l.length by omega)⟩
 refine aA (aS hg) (aA (aS hg) (aA (hf e (cN hg)) (bZ ?_)));rw [aQ (by omega)];exact hr _ ⟨i+1,by omega,by omega⟩ (by omega)
theorem aBv{a:List Int}{n:Nat}(hn:a.length<n)(hl:a.length≤1000000):mR n a a=some true:=by
 unfold mR;refine Ev.eq (dI (fun h=>(h rfl).elim) fun _=>?_);refine Ev.loop (fun x:Int=> ∃i:Nat,x=i∧i≤a.length) (fun x=>a.length-x.toNat) ?_ n 0 ⟨0,rfl,by omega⟩ (by omega);rintro again x ⟨i,rfl,hi⟩ hr;refine aH (fun hlt=>?_) fun _=>Ev.some rfl;obtain⟨e,hg⟩: ∃e,a[i]? =some e:=⟨_,cP (show i<a.length by omega)⟩
 refine aA (aS hg) (aA (aS hg) (dI (fun h=>(h rfl).elim) fun _=>?_));rw [aQ (by omega)];exact hr _ ⟨i+1,by omega,by omega⟩ (by omega)
theorem aIk{n:Nat}(hn:5000≤n){a:Affine}(h:BA 1000 a):cX n a a=some true:=by unfold BA at h;unfold cX;refine Ev.eq (Ev.jn (fun z=>z=true) (fun j hj=>aA (aBv (by omega) (by omega)) (b8 (hj _ (decide_eq_true rfl)))) fun z hz=>Ev.some hz)
theorem aAW{n:Nat}(hn:5000≤n){l:List Affine}(h:BAs 1000 l):dW n l l (fun q0 q1=>cX n q0 q1)=some true:=by have:=h.1;unfold dW;exact rA (fun x hx=>aIk hn (h.2 x hx)) (by omega) (by omega)
theorem aIl{n:Nat}(hn:5000≤n){a:Access}(h:BAs 1000 a.subs):kV n a a=some true:=by unfold kV;refine Ev.eq (Ev.jn (fun z=>z=true) (fun j hj=>?_) fun z hz=>Ev.some hz);exact aH (fun _=>aA (aAW hn h) (hj _ rfl)) fun h=>(h rfl).elim
theorem aEK: ∀(L n:Nat) (e:Expr),5000+L≤n→BE 1000 L e→i_exprSame (n+1) e e=some true
 |0,_,_,_,h=>h.elim
 |L+1,n,e,hn,h=>by
  obtain⟨h1,h2,h3,h4⟩:=h;obtain⟨n,rfl⟩: ∃j,n=j+1:=⟨n-1,by omega⟩
  unfold i_exprSame;refine Ev.eq (Ev.jn (fun z=>z=true) (fun j hj=>?_) fun z hz=>Ev.some hz);refine aH (fun _=>aH (fun _=>aA (aIk (by omega) h2) (b8 (aA (aIl (by omega) h3) (b8 (aA (x:=true) ?_ (hj _ rfl)))))) fun h=>(h rfl).elim) fun h=>(h rfl).elim;unfold lY;exact rA (fun x hx=>aEK L n x (by omega) (h4 x hx)) (by omega) (by omega)
theorem aJW{n:Nat}(hn:6000≤n){s:Stmt}(h:BS 1000 s):pE n s s=some true:=by
 obtain⟨n,rfl⟩: ∃j,n=j+1:=⟨n-1,by omega⟩
 unfold pE;refine Ev.eq (Ev.jn (fun z=>z=true) (fun j hj=>?_) fun z hz=>Ev.some hz);exact aA (aIl (by omega) h.1) (b8 (aA (aEK 5 n s.value (by omega) h.2) (hj _ rfl)))
theorem aKr{n:Nat}(hn:5000≤n){nest:List Loop}(h:BN 1000 nest):tK n nest nest=some true:=by
 have:=h.1;unfold tK lX;rw [rA (fun l hl=>?_) (by omega) (by omega)]
 ·rfl
 unfold nO;refine Ev.eq (Ev.jn (fun z=>z=true) (fun j hj=>?_) fun z hz=>Ev.some hz);exact aA (aAW hn (h.2 l hl).1) (b8 (aA (aAW hn (h.2 l hl).2) (hj _ rfl)))
theorem aKm{n:Nat}(hn:6000≤n){x:Part}(h:BPt 1000 x):gI n x x=some true:=by have:=h.2.1;unfold gI;refine Ev.eq (Ev.jn (fun z=>z=true) (fun j hj=>?_) fun z hz=>Ev.some hz);refine aA (aKr (by omega) h.1) (b8 (aA (x:=true) ?_ (hj _ rfl)));unfold lV;exact rA (fun s hs=>aJW hn (h.2.2 s hs)) (by omega) (by omega)
theorem aEk{n:Nat}(hn:6000≤n){p:Prog}(h:BG 1000 p):eH n p p=some true:=by
 obtain⟨⟨h1,h2⟩,h3,h4⟩:=h;unfold eH;refine Ev.eq (Ev.jn (fun z=>z=true) (fun j hj=>?_) fun z hz=>Ev.some hz);refine aA (x:=true) ?_ (b8 (aA (x:=true) ?_ (hj _ rfl)))
 ·unfold kT;refine rA (fun x hx=>?_) (by omega) (by omega);unfold gJ;refine Ev.eq (Ev.jn (fun z=>z=true) (fun j hj=>?_) fun z hz=>Ev.some hz)
  have:=h2 x hx;exact aH (fun _=>aA (aBv (by omega) (by omega)) (hj _ rfl)) fun h=>(h rfl).elim
 unfold lW;exact rA (fun x hx=>aKm hn (h4 x hx)) (by omega) (by omega)
def jN(p:Prog)(part loop:Int):Bool:=bV p&&match ix p.parts part with
 |some x=>decide (0≤loop∧loop<(x.nest.length:Int))
 |none=>false
theorem aKC{α:Type}{l:List α}{i:Int}(h: ¬(0≤i∧i<(l.length:Int))):ix l i=none:=by
 cases hx:ix l i with
 |none=>rfl
 |some x=>
  obtain⟨h1,h2⟩:=tE hx
  have:=(cH.1 h2).1;exact absurd ⟨h1,by omega⟩ h
theorem aOI{α:Type}{l:List α}{i:Int}{x:α}(h:ix l i=some x): ∃k:Nat,i=k∧k<l.length∧l[k]? =some x:=by obtain⟨h1,h2⟩:=tE h;exact⟨i.toNat,by omega,(cH.1 h2).1,h2⟩
theorem w3(n:Nat){p:Prog}(h:p.parts.length≤1000)(part:Int):dD n p part=some (decide (0≤part∧part<(p.parts.length:Int))):=by unfold dD;rw [e9,aQ (by omega)];exact congrArg some (decide_eq_decide.2 (by omega))
theorem aLH{n:Nat}(hn:7000≤n){p:Prog}(hp:BG 1000 p)(part loop:Int)(hl:loop≠ -1):tI n p part loop=some (if jN p part loop=true then(p,true) else(⟨[],[]⟩,false)):=by
 unfold tI;refine Ev.eq (Ev.jn (fun z=>z= !jN p part loop) (fun j hj=>?_) fun z hz=>?_)
 ·refine aA (kY hn hp.sm) (Ev.cond (fun h=>?_) fun h=>?_)
  ·refine hj _ ?_;unfold jN;rw [show bV p=false by simpa using h];rfl
  have hv:bV p=true:=by simpa using h
  refine aA (w3 n hp.2.1 part) ?_;by_cases hi:0≤part∧part<(p.parts.length:Int)
  ·obtain⟨x,hx,hx2⟩:=jK hi.1 hi.2;rw [decide_eq_true hi];refine bZ (dI (fun _=>aA (x:=jN p part loop) ?_ (hj _ rfl)) fun h=>absurd h hl);unfold l4;refine Ev.eq (Ev.jn (fun z=>z=jN p part loop) (fun j hj=>?_) fun z hz=>Ev.some hz);rw [w3 n hp.2.1 part,decide_eq_true hi];refine aA rfl (b8 (aA hx ?_))
   have:=(hp.2.2 x (cN hx2)).1.1;rw [aQ (by omega),e9];refine aA rfl (hj _ ?_);unfold jN;rw [hv,hx];exact decide_eq_decide.2 (by omega)
  rw [decide_eq_false hi];refine b8 (hj _ ?_);unfold jN;rw [aKC hi,vBj];rfl
 subst hz;by_cases hc:jN p part loop=true
 ·rw [hc];have hv:bV p=true:=by unfold jN at hc;rw [vBu] at hc;exact hc.1
  obtain⟨x,hx⟩: ∃x,ix p.parts part=some x:=by
   cases hx:ix p.parts part with
   |some x=>exact⟨x,rfl⟩
   |none=>unfold jN at hc;rw [hx,vBj] at hc;cases hc
  exact bZ (aA (aF3 (by omega) hv) (aA hx (Ev.some rfl)))
 rw [show jN p part loop=false by simpa using hc];exact b8 (Ev.some rfl)
def aAb(q:Prog):Prog×Bool:=if bV q=true then(q,true) else(⟨[],[]⟩,false)
theorem aEJ{n:Nat}(hn:7000≤n){p:Prog}(hp:BG 1000 p):tH n p=some (aAb p):=by
 unfold tH aAb;refine Ev.eq (aA (kY hn hp.sm) (Ev.cond (fun h=>Ev.some ?_) fun h=>?_))
 ·rw [if_neg (by simpa using h)]
 have hv:bV p=true:=by simpa using h
 rw [if_pos hv];exact aA (aF3 (by omega) hv) (Ev.some rfl)
theorem aOM{n:Nat}(hn:7000≤n){p:Prog}(hp:BG 1000 p)(part loop:Int):R0 n p part loop=some (jN p part loop):=by
 unfold R0;refine Ev.eq (Ev.jn (fun z=>z=jN p part loop) (fun j hj=>?_) fun z hz=>Ev.some hz);refine aA (kN hn hp.sm) (Ev.cond (fun hv=>?_) fun hv=>hj _ (by unfold jN;rw [hv];rfl));refine aH (fun h1=>aH (fun h2=>?_) fun h2=>?_) fun h1=>?_
 ·obtain⟨x,hx,hx2⟩:=jK h1 h2;refine aH (fun h3=>aA hx (hj _ ?_)) fun h3=>hj _ ?_
  ·unfold jN;rw [hv,hx];exact decide_eq_decide.2 (by omega)
  unfold jN;rw [hv,hx];exact(decide_eq_false (by omega)).symm
 ·exact hj _ (by unfold jN;rw [aKC (by omega),vBj])
 exact hj _ (by unfold jN;rw [aKC (by omega),vBj])
theorem aL5{n:Nat}(hn:7000≤n){p:Prog}(hp:BG 1000 p){i:Nat}(hi:i<p.parts.length){y:Part}(hy:BPt 1000 y):zY n p (i:Int) 1 [y]=some (aAb ⟨p.arrays,p.parts.set i y⟩):=by
 have hpl:=hp.2.1;have hq:BG 1000 ⟨p.arrays,p.parts.set i y⟩:=⟨hp.1,by dsimp only;rw [vAW];exact hpl,sQ hp.2.2 hy⟩
 unfold zY aAb;refine Ev.eq (aA (vZ (by omega) hp) (aA (U2 (by omega) (by omega) (by omega)) ?_));rw [vAG,show(0:Int).toNat=0 from rfl,List.drop_zero];refine aA (x:=p.parts.take i) (bU (by simp;omega)) (aA (x:=p.parts.take i++[y]) (bU (by simp;omega)) ?_);rw [aQ (by omega)];refine aA (U2 (by omega) (by omega) (by omega)) ?_;rw [vAG,q7,show((i:Int)+1).toNat=i+1 by omega];refine aA (x:=p.parts.set i y) ?_ (aA (kN hn hq.sm) (Ev.cond (fun h=>Ev.some ?_) fun h=>?_))
 ·rw [bU (by simp;omega),List.set_eq_take_append_cons_drop,if_pos hi,vAL];rfl
 ·rw [if_neg (by simpa using h)]
 rw [if_pos (by simpa using h)];exact aA (vZ (by omega) hq) (Ev.some rfl)
def aFq(a:Affine)(k:Int)(b:Affine):Affine:=⟨List.zipWith (fun x y=>x+k*y) a.coefs b.coefs,a.const+k*b.const⟩
def aDW(k:Nat):Affine:=⟨[0,0,0,0].set k 1,0⟩
def bB(m:Int)(a:Affine):Prop:=a.coefs.length=4∧jU m a.const∧ ∀c∈a.coefs,jU m c
theorem bB.mono{m m':Int}{a:Affine}(h:bB m a)(hm:m≤m'):bB m' a:=⟨h.1,⟨by have:=h.2.1.1;omega,by have:=h.2.1.2;omega⟩,fun c hc=>⟨by have:=(h.2.2 c hc).1;omega,by have:=(h.2.2 c hc).2;omega⟩⟩
theorem aKy{l:List Int}(h:l.length=4): ∃a b c d,l=[a,b,c,d]:=by
 match l,h with
 | [a,b,c,d],_=>exact⟨a,b,c,d,rfl⟩
theorem aLL{a:Affine}(h:bO a=true):bB 99 a:=by obtain⟨h1,h2,h3⟩:=hJ h;exact⟨h1,h2,fun c hc=>⟨by have:=(h3 c hc).1;omega,by have:=(h3 c hc).2;omega⟩⟩
theorem aMg{k:Nat}(hk:k<4):bB 6 (aDW k):=by rcases(show k=0∨k=1∨k=2∨k=3 by omega) with rfl|rfl|rfl|rfl<;>(unfold bB jU aDW;simp)
theorem yJ{k b:Int}(hk:jU 1000 k)(hb:jU 1000 b):jU 1000000 (k*b):=aHK (by omega) (by omega) hk hb
theorem wrB{a x:Int}(ha:jU 1000 a)(hx:jU 1000000 x):wr (a+wr x)=a+x:=by unfold jU at ha hx;rw [aQ (n:=x) (by omega),aQ (by omega)]
theorem aOL(m:Nat)(a0 a1 a2 a3 ac k b0 b1 b2 b3 bc:Int):aHX (m+6) ⟨[a0,a1,a2,a3],ac⟩ k ⟨[b0,b1,b2,b3],bc⟩=
  some ⟨[wr (a0+wr (k*b0)),wr (a1+wr (k*b1)),wr (a2+wr (k*b2)),wr (a3+wr (k*b3))],wr (ac+wr (k*bc))⟩:=by kernel_rfl
theorem aKK{n:Nat}(hn:5000≤n){a b:Affine}(ha:bB 1000 a)(hb:bB 1000 b){k:Int}(hk:jU 1000 k):aHX n a k b=some (aFq a k b):=by
 obtain⟨m,rfl⟩: ∃m,n=m+6:=⟨n-6,by omega⟩
 obtain⟨ac,a⟩:=a;obtain⟨bc,b⟩:=b;obtain⟨h1,h2,h3⟩:=ha;obtain⟨g1,g2,g3⟩:=hb;dsimp only at h1 h2 h3 g1 g2 g3;obtain⟨a0,a1,a2,a3,rfl⟩:=aKy h1;obtain⟨b0,b1,b2,b3,rfl⟩:=aKy g1;rw [aOL,wrB (h3 a0 (by simp)) (yJ hk (g3 b0 (by simp))),wrB (h3 a1 (by simp)) (yJ hk (g3 b1 (by simp))),wrB (h3 a2 (by simp)) (yJ hk (g3 b2 (by simp))),wrB (h3 a3 (by simp)) (yJ hk (g3 b3 (by simp))),wrB h2 (yJ hk g2)];rfl
def aNi(a:Affine)(x:Int)(b:Affine)(y:Int):Affine:=⟨List.zipWith (fun p q=>x*p+y*q) a.coefs b.coefs,x*a.const+y*b.const⟩
theorem aOw(m:Nat)(a0 a1 a2 a3 ac x b0 b1 b2 b3 bc y:Int):eG (m+6) ⟨[a0,a1,a2,a3],ac⟩ x ⟨[b0,b1,b2,b3],bc⟩ y=
  some ⟨[wr (wr (x*a0)+wr (y*b0)),wr (wr (x*a1)+wr (y*b1)),wr (wr (x*a2)+wr (y*b2)),wr (wr (x*a3)+wr (y*b3))],wr (wr (x*ac)+wr (y*bc))⟩:=by kernel_rfl
theorem wrC{a x:Int}(ha:jU 1000000 a)(hx:jU 1000000 x):wr (wr a+wr x)=a+x:=by unfold jU at ha hx;rw [aQ (n:=x) (by omega),aQ (n:=a) (by omega),aQ (by omega)]
theorem aEc{n:Nat}(hn:5000≤n){a b:Affine}(ha:bB 1000 a)(hb:bB 1000 b){x y:Int}(hx:jU 1000 x)(hy:jU 1000 y):eG n a x b y=some (aNi a x b y):=by
 obtain⟨m,rfl⟩: ∃m,n=m+6:=⟨n-6,by omega⟩
 obtain⟨ac,a⟩:=a;obtain⟨bc,b⟩:=b;obtain⟨h1,h2,h3⟩:=ha;obtain⟨g1,g2,g3⟩:=hb;dsimp only at h1 h2 h3 g1 g2 g3;obtain⟨a0,a1,a2,a3,rfl⟩:=aKy h1;obtain⟨b0,b1,b2,b3,rfl⟩:=aKy g1;rw [aOw,wrC (yJ hx (h3 a0 (by simp))) (yJ hy (g3 b0 (by simp))),wrC (yJ hx (h3 a1 (by simp))) (yJ hy (g3 b1 (by simp))),wrC (yJ hx (h3 a2 (by simp))) (yJ hy (g3 b2 (by simp))),wrC (yJ hx (h3 a3 (by simp))) (yJ hy (g3 b3 (by simp))),wrC (yJ hx h2) (yJ hy g2)];rfl
theorem aNh(a b:Affine)(k:Int):aNi a 1 b k=aFq a k b:=by unfold aNi aFq;simp only [Int.one_mul]
theorem aO2(a b:Affine)(k:Int)(ha:a.coefs.length=4)(hb:b.coefs.length=4):(aFq a k b).coefs.length=4:=by unfold aFq;rw [vBt];omega
def aIv(a:Affine)(k:Nat)(b:Affine):Affine:=aFq ⟨a.coefs.set k 0,a.const⟩ (a.coefs.getD k 0) b
theorem aHz{a:Affine}(h:bB 1000 a)(k:Nat):bB 1000 ⟨a.coefs.set k 0,a.const⟩:=⟨by dsimp only;rw [vAW];exact h.1,h.2.1,sQ h.2.2 ⟨by omega,by omega⟩⟩
theorem aIb{a:Affine}(h:bB 1000 a){k:Nat}(hk:k<4):a.coefs[k]? =some (a.coefs.getD k 0)∧jU 1000 (a.coefs.getD k 0):=by
 have hl:k<a.coefs.length:=by rw [h.1];exact hk
 have e:=cP hl;have e2:a.coefs.getD k 0=a.coefs[k]:=by rw [M7,e];rfl
 rw [e2];exact⟨e,h.2.2 _ (T5 hl)⟩
theorem aGp{n:Nat}(hn:5000≤n){a b:Affine}(ha:bB 1000 a)(hb:bB 1000 b){k:Nat}(hk:k<4):R7 n a (k:Int) b=some (aIv a k b):=by
 obtain⟨h1,h2⟩:=aIb ha hk;have hl:k<a.coefs.length:=by rw [ha.1];exact hk
 unfold R7;rw [aBJ n (by have:=ha.1;omega)];refine Ev.eq (aA rfl (aA (aS h1) (aA (fC (by omega) _) (aA (aKK hn (aHz ha k) hb h2) (Ev.some rfl)))))
theorem aFR{n:Nat}(hn:5000≤n){a b:Affine}(ha:bB 1000 a)(hb:bB 1000 b){k:Nat}(hk:k<4):wP n a (k:Int) b=some (aIv a k b):=by
 obtain⟨h1,h2⟩:=aIb ha hk;have hl:k<a.coefs.length:=by rw [ha.1];exact hk
 unfold wP;rw [d5 _ (by have:=ha.1;omega)];refine Ev.eq (aA rfl (aA (aS h1) (aA (fC (by omega) _) (aA (aS h1) (aA (aEc hn (aHz ha k) hb ⟨by omega,by omega⟩ h2) (Ev.some ?_))))));rw [aNh];rfl
theorem aJ0(n:Nat){k:Nat}(hk:k<4):mD n (k:Int)=some (aDW k):=by rcases(show k=0∨k=1∨k=2∨k=3 by omega) with rfl|rfl|rfl|rfl<;>rfl
def noP:Prog×Bool:=(⟨[],[]⟩,false)
theorem Z7{p:Prog}{part loop:Int}(h:jN p part loop=true):bV p=true∧ ∃(i k:Nat) (P:Part) (l:Loop),part=i∧loop=k∧p.parts[i]? =some P∧P.nest[k]? =some l∧i<p.parts.length∧k<P.nest.length∧cQ p.arrays P=true∧k<4:=by
 unfold jN at h;rw [vBu] at h;obtain⟨hv,h⟩:=h;refine⟨hv,?_⟩;cases hx:ix p.parts part with
 |none=>rw [hx] at h;cases h
 |some P=>
  rw [hx] at h;obtain⟨i,rfl,hi,hP⟩:=aOI hx;obtain⟨h1,h2⟩:=of_decide_eq_true h;obtain⟨l,hl,hl2⟩:=jK h1 h2;have hok:=(fX hv).2.2.2.1 P (cN hP)
  have:=(nL hok).1;exact⟨i,loop.toNat,P,l,rfl,by omega,hP,hl2,hi,by omega,hok,by omega⟩
theorem aLG{p:Prog}(hp:BG 1000 p)(i:Nat){y:Part}(hy:BPt 4 y):BG 1000 ⟨p.arrays,p.parts.set i y⟩:=⟨hp.1,by dsimp only;rw [vAW];exact hp.2.1,sQ hp.2.2 (hy.mono (by omega))⟩
theorem aED{p:Prog}{part loop:Int}(h:loop<0):jN p part loop=false:=by
 cases hc:jN p part loop with
 |false=>rfl
 |true=>obtain⟨_,i,k,P,l,_,hk,_⟩:=Z7 hc;omega
theorem aJf{n:Nat}(hn:7000≤n){p:Prog}(hp:BG 1000 p)(part:Int):Ev (tI n p part (-1)) (fun r=>r.2=false→r=noP):=by
 unfold tI;refine Ev.jn (fun z=>z=false→bV p=true∧(0≤part∧part<(p.parts.length:Int))) (fun j hj=>?_) fun z hz=>?_
 ·refine aA (kY hn hp.sm) (Ev.cond (fun h=>hj _ fun h=>by cases h) fun h=>?_);refine aA (w3 n hp.2.1 part) (Ev.cond (fun h=>hj _ fun h=>by cases h) fun h2=>dI (fun h=>(h rfl).elim) fun _=>hj _ fun _=>⟨by simpa using h,by simpa using h2⟩)
 refine Ev.cond (fun _=>Ev.some fun _=>rfl) fun h=>?_;obtain⟨hv,h1,h2⟩:=hz h;obtain⟨x,hx,hx2⟩:=jK h1 h2;exact aA (aF3 (by omega) hv) (aA hx (Ev.some fun h=>by cases h))
theorem U5{α:Type}{l:List α}{i:Nat}{x:α}(h:l[i]? =some x):l.set i x=l:=by
 refine List.ext_getElem? fun j=>?_;by_cases hj:i=j
 ·subst hj;rw [vAA (cH.1 h).1,h]
 rw [vAI hj]
theorem aNa{q:Prog}(h:BG 1000 q):BG 1000 (aAb q).1:=by
 unfold aAb;split
 ·exact h
 exact⟨⟨by simp,fun x hx=>by cases hx⟩,by simp,fun x hx=>by cases hx⟩
theorem aKq:BG 1000 noP.1:=⟨⟨by simp [noP],fun x hx=>by cases hx⟩,by simp [noP],fun x hx=>by cases hx⟩
def kA(k:Nat)(s:Int):Affine:=⟨[0,0,0,0].set k s,0⟩
theorem aOO{I S:Option (Prog×Bool)}{REST:Prog×Bool→Prog×Bool→Option Bool}{R:Prog×Bool}(hR:BG 1000 R.1)(h1:I=some R)(h2:S=some R)(hb:R.2=true→Ev (REST R R) fun r=>r=true):
  Ev (Option.bind I fun x4=>Option.bind S fun x5=>jn (fun(x8:Bool)=>
    bif x8 then(
     jn (fun(x11:Bool)=>
      some x11
     ) (fun j9=>
      bif(x4.2==x5.2) then(
       Option.bind (eH N x4.1 x5.1) fun x10=>
       j9 x10
      ) else(
       j9 false
      )
     )
    ) else(
     REST x4 x5
    )
   ) (fun j6=>
    bif !(x4.2==x5.2) then(
     j6 true
    ) else(
     Option.bind (eH N x4.1 x5.1) fun x7=>
     bif !x7 then(
      j6 true
     ) else(
      j6 (!x4.2)
     )
    )
   )) (fun r=>r=true):=by
 have hN:N=100000:=rfl;have hs:=aEk (n:=N) (by omega) hR;have he:(R.2==R.2)=true:=by cases R.2<;>rfl
 refine aA h1 (aA h2 (Ev.jn (fun z=>z= !R.2) (fun j hj=>?_) fun z hz=>?_))
 ·rw [he];exact bZ (aA hs (bZ (hj _ rfl)))
 subst hz;cases hr:R.2 with
 |false=>exact b8 (Ev.jn (fun z=>z=true) (fun j hj=>b8 (aA hs (hj _ rfl))) fun z hz=>Ev.some hz)
 |true=>exact bZ (hb hr)
theorem rO{α β:Type}{f g:α→β}: ∀{l:List α},(∀x∈l,f x=g x)→l.map f=l.map g
 | [],_=>rfl
 |x::l,h=>by rw [vBT,vBT,h x wI,rO fun y hy=>h y (sO _ hy)]
theorem aOR{p q:Prog}(h:aAb p=(q,true)):q=p∧bV p=true:=by
 unfold aAb at h;split at h
 ·rename_i hv;cases h;exact⟨rfl,hv⟩
 cases h
theorem aH4(m:Int): ∀(a b p:List Int),a.length=b.length→uK (List.zipWith (fun x y=>x+m*y) a b) p=uK a p+m*uK b p
 | [],[],p,_=>by simp [uK]
 |x::a,y::b,[],_=>by simp [uK]
 |x::a,y::b,z::p,h=>by simp only [List.zipWith_cons_cons,uK];rw [aH4 m a b p (by simpa using h),Int.add_mul,vBU,Int.mul_assoc];omega
theorem aH5: ∀(cs p:List Int) (k:Nat) (v:Int),k<p.length→uK cs (p.set k v)=uK cs p+cs.getD k 0*(v-p.getD k 0)
 | [],p,k,v,_=>by simp [uK]
 |c::cs,x::p,0,v,_=>by
  simp only [List.set_cons_zero,uK,List.getD_cons_zero];rw [vBV];omega
 |c::cs,x::p,k+1,v,h=>by simp only [List.set_cons_succ,uK,List.getD_cons_succ];rw [aH5 cs p k v (by simpa using h)];omega
def low(k:Nat)(b:Affine):Prop:= ∀j,k≤j→b.coefs.getD j 0=0
theorem aI1{α:Type}{l:List α}{v d:α}:(l++[v]).getD l.length d=v:=by rw [M7,vAp (jQ _),vBx];rfl
theorem aI0{α:Type}{l:List α}{k:Nat}{v d:α}(h:k<l.length):(l++[v]).getD k d=l.getD k d:=by rw [M7,T3 h,M7]
theorem S2{α β:Type}{f g:α→List β}{l:List α}(h: ∀x∈l,f x=g x):l.flatMap f=l.flatMap g:=by rw [List.flatMap_def,List.flatMap_def,rO h]
theorem vG{list:List Arr}{x:Part}(h:cQ list x=true):dM x=pts x.nest []:=(aFx (gE h).1).2.2.2.1
theorem aNJ{f:Affine→Affine}{t q:List Int}: ∀{ss:List Affine} (ds:List Int) (acc:Int),(∀x∈ss,cI (f x) t=cI x q)→l3 (ss.map f) ds t acc=l3 ss ds q acc
 | [],ds,acc,_=>by cases ds<;>rfl
 |s::ss,[],acc,_=>rfl
 |s::ss,d::ds,acc,h=>by
  simp only [List.map_cons,l3];rw [h s wI];split
  ·exact aNJ ds _ fun x hx=>h x (sO _ hx)
  rfl
theorem aGO{f:Affine→Affine}{t q:List Int}{a:Access}(h: ∀x∈a.subs,cI (f x) t=cI x q): ∀(xs:List Arr) (base:Int),cV xs (dZ f a) t base=cV xs a q base
 | [],_=>rfl
 |x::xs,base=>by
  have e1:l3 (dZ f a).subs x.dims t 0=l3 a.subs x.dims q 0:=aNJ _ _ h;have e2:(dZ f a).subs.length=a.subs.length:=by simp [dZ]
  have e3:(dZ f a).array=a.array:=rfl;simp only [cV,e1,e2,e3,aGO h xs]
theorem aHF{d:Int}{f:Affine→Affine}: ∀{L:Nat} {e:Expr},dO L e d=true→b9 L (mQ f L e)=(b9 L e).map (dZ f)
 |0,_,h=>by cases h
 |L+1,e,h=>by
  obtain⟨hk,ho,hs⟩:=gU h;show(if e.kind=3 then [if e.kind=3 then dZ f e.read else⟨[],[]⟩] else [])++(e.kids.map (mQ f L)).flatMap (b9 L)=((if e.kind=3 then [e.read] else [])++e.kids.flatMap (b9 L)).map (dZ f);rw [vAN,List.flatMap_map,vBO];congr 1
  ·by_cases h3:e.kind=3
   ·simp only [if_pos h3];rfl
   simp only [if_neg h3];rfl
  exact S2 fun x hx=>aHF (hs x hx)
theorem aJF{d:Int}{f:Affine→Affine}{t q:List Int}(h: ∀x,bO x=true→cI (f x) t=cI x q)(list:List Arr)(m:List Int): ∀{L:Nat} {e:Expr},dO L e d=true→qK L list m (mQ f L e) t=qK L list m e q
 |0,_,_=>rfl
 |L+1,e,he=>by
  obtain⟨hk,ho,hs⟩:=gU he;have e1:(mQ f (L+1) e).kind=e.kind:=rfl;have e2:(mQ f (L+1) e).num=e.num:=rfl;have e5:(mQ f (L+1) e).kids=e.kids.map (mQ f L):=rfl;unfold qK;rw [e1,e2,e5];by_cases h1:e.kind=1
  ·rw [if_pos h1,if_pos h1]
  rw [if_neg h1,if_neg h1];by_cases h2:e.kind=2
  ·have e3:(mQ f (L+1) e).index=f e.index:=by show(if e.kind=2 then f e.index else _)=_;rw [if_pos h2]
   rw [if_pos h2,if_pos h2,e3,h _ (yF ho h2).1]
  rw [if_neg h2,if_neg h2];by_cases h3:e.kind=3
  ·have e4:(mQ f (L+1) e).read=dZ f e.read:=by show(if e.kind=3 then dZ f e.read else _)=_;rw [if_pos h3]
   rw [if_pos h3,if_pos h3,e4,aGO fun x hx=>h x ((uH (yE ho h3).1).2.2 x hx)]
  rw [if_neg h3,if_neg h3];obtain⟨kind,num,index,read,kids⟩:=e;dsimp only at hs⊢
  match kids,hs with
  | [],_=>rfl
  | [a],_=>rfl
  | [a,c],hs=>
   simp only [List.map_cons,List.map_nil];rw [aJF h list m (hs a (by simp)),aJF h list m (hs c (by simp))]
  |a::c::e::r,_=>rfl
theorem aH6: ∀{cs:List Int},cM cs=0→ ∀p,uK cs p=0
 | [],_,_=>by simp [uK]
 |c::cs,h,[]=>by simp [uK]
 |c::cs,h,x::p=>by
  have h1:c=0:=N9 (l:=c::cs) (i:=0) rfl (by omega);have h2:cM cs=0:=by
   cases hd:cM cs with
   |zero=>rfl
   |succ k=>unfold cM at h;rw [hd] at h;simp at h
  simp only [uK];rw [h1,aH6 h2];simp
theorem aLE{p:Prog}(hv:bV p=true){x:Inst}(hx:eZ p x): ∀{Y:List Inst} {m:List Int},(∀y∈Y,eZ p y)→(∀y∈Y,com p x y)→aAX p.arrays m→m5 p (runI p m x) Y=runI p (m5 p m Y) x
 | [],m,_,_,_=>rfl
 |y::Y,m,h1,h2,hm=>by show m5 p (runI p (runI p m x) y) Y=runI p (m5 p (runI p m y) Y) x;rw [h2 y wI m hm];exact aLE hv hx (fun z hz=>h1 z (sO _ hz)) (fun z hz=>h2 z (sO _ hz)) (aHB hv hm (h1 y wI))
theorem block{p:Prog}(hv:bV p=true): ∀{X Y:List Inst} {m:List Int},(∀x∈X,eZ p x)→(∀y∈Y,eZ p y)→(∀x∈X,∀y∈Y,com p x y)→aAX p.arrays m→m5 p (m5 p m X) Y=m5 p (m5 p m Y) X
 | [],Y,m,_,_,_,_=>rfl
 |x::X,Y,m,h1,h2,h3,hm=>by show m5 p (m5 p (runI p m x) X) Y=m5 p (runI p (m5 p m Y) x) X;rw [block hv (fun z hz=>h1 z (sO _ hz)) h2 (fun z hz=>h3 z (sO _ hz)) (aHB hv hm (h1 x wI)),aLE hv (h1 x wI) h2 (h3 x wI) hm]
def Y0:List Int→List Int→Bool
 |a::as,b::bs=>if a=b then Y0 as bs else decide (a<b)
 | [],_::_=>true
 |_,[]=>false
theorem aJ5{n:Nat}{p q:List Int}(hn:p.length<n)(hp:p.length≤1000)(hq:q.length≤1000):wR n p q=some (Y0 p q):=by
 unfold wR;refine Ev.eq (Ev.loop (fun x:Int=> ∃i:Nat,x=i∧i≤p.length∧i≤q.length∧Y0 (p.drop i) (q.drop i)=Y0 p q) (fun x=>p.length-x.toNat) ?_ n 0 ⟨0,rfl,by omega,by omega,rfl⟩ (by omega));rintro again x ⟨i,rfl,h1,h2,hs⟩ hr;refine Ev.jn (fun z=>z=decide (i<p.length∧i<q.length)) (fun j hj=>aH (fun h=>hj _ ?_) fun h=>hj _ ?_) fun z hz=>?_
 ·rw [Bool.eq_iff_iff];simp only [decide_eq_true_eq];omega
 ·exact(decide_eq_false (by omega)).symm
 subst hz;refine aH (fun h=>?_) fun h=>Ev.some ?_
 ·have ha1:=cP h.1;have hb1:=cP h.2;rw [vBf h.1,vBf h.2] at hs;simp only [Y0] at hs;refine aA (aS ha1) (aA (aS hb1) (dI (fun hne=>Ev.some ?_) fun he=>?_))
  ·rw [if_neg hne] at hs;exact hs
  rw [if_pos he] at hs;rw [aQ (by omega)];exact hr _ ⟨i+1,by omega,by omega,by omega,hs⟩ (by omega)
 rw [←hs];by_cases e:i<p.length
 ·have e2:q.drop i=[]:=List.drop_eq_nil_of_le (by omega);rw [e2,vBf e];simp only [Y0];exact decide_eq_false (by omega)
 have e1:p.drop i=[]:=List.drop_eq_nil_of_le (by omega);rw [e1];by_cases e3:i<q.length
 ·rw [vBf e3];simp only [Y0];exact decide_eq_true (by omega)
 rw [List.drop_eq_nil_of_le (show q.length≤i by omega)];simp only [Y0];exact decide_eq_false (by omega)
def nB(l:List Affine):Bool:=l.all fun a=>decide (cM a.coefs=0)
def kF(l:Loop):Bool:=decide (l.lo.length=1)&&(decide (l.hi.length=1)&&(nB l.lo&&nB l.hi))
def kC(l:List Affine):Int:=(l.headD ⟨[],0⟩).const
theorem Y5{n:Nat}(hn:5000≤n){l:List Affine}(h1:l.length≤2)(h2: ∀x∈l,bO x=true):rV n l=some (nB l):=by
 unfold rV;rw [m8 (p:=fun a=>decide (0<(cM a.coefs:Int))) (fun x hx=>by
  unfold pZ;rw [yP hn (show x.coefs.length≤1000 by have:=(hJ (h2 x hx)).1;omega)];rfl) (by omega) (by omega)]
 show some (!l.any _)=_;congr 1;unfold nB;rw [List.not_any_eq_all_not];congr 1;funext a;by_cases h:cM a.coefs=0
 ·simp [h]
 have:0<(cM a.coefs:Int):=by omega
 simp [h];omega
theorem aKT{n:Nat}(hn:5000≤n){l:Loop}(h:yL l):nQ n l=some (if kF l=true then(kC l.lo,kC l.hi,true) else(0,0,false)):=by
 obtain⟨⟨h1,h2⟩,h3,h4⟩:=h;unfold nQ;refine Ev.eq (Ev.jn (fun z=>z= !kF l) (fun j hj=>?_) fun z hz=>?_)
 ·refine dI (fun h=>hj _ ?_) fun h=>dI (fun h'=>hj _ ?_) fun h'=>aA (Y5 hn h1 h2) (Ev.cond (fun h5=>hj _ ?_) fun h5=>aA (Y5 hn h3 h4) (hj _ ?_))
  ·unfold kF;rw [decide_eq_false (show¬l.lo.length=1 by omega)];rfl
  ·unfold kF;rw [decide_eq_false (show¬l.hi.length=1 by omega),Bool.false_and,vBj];rfl
  ·unfold kF;rw [show nB l.lo=false by simpa using h5];simp
  unfold kF;rw [show nB l.lo=true by simpa using h5,decide_eq_true (show l.lo.length=1 by omega),decide_eq_true (show l.hi.length=1 by omega)];rfl
 subst hz;cases hf:kF l with
 |false=>exact b8 (Ev.some rfl)
 |true=>
  refine bZ ?_;unfold kF at hf;simp only [Bool.and_eq_true,decide_eq_true_eq] at hf;obtain⟨e1,e2,_⟩:=hf;obtain⟨x,hx⟩:=vBl.1 e1;obtain⟨y,hy⟩:=vBl.1 e2;rw [hx,hy];exact aA (x:=x) rfl (aA (x:=y) rfl (Ev.some rfl))
theorem aM8{n:Nat}(hn:5000≤n){l:Loop}(h:yL l):B6 n l=some (nB l.lo&&nB l.hi):=by
 obtain⟨⟨h1,h2⟩,h3,h4⟩:=h;have hd: ∀x,bO x=true→iQ n x=some (cM x.coefs:Int):=fun x hx=>sW hn (show x.coefs.length≤1000 by have:=(hJ hx).1;omega);have hall: ∀(l:List Affine) (i:Nat) (x:Affine),l[i]? =some x→cM x.coefs=0→nB (l.take i)=true→nB (l.take (i+1))=true:=fun l i x hx h0 hf=>by
  unfold nB at hf⊢;rw [xX,hx,List.all_append,hf];simp [h0]
 have hno: ∀(l:List Affine) (i:Nat) (x:Affine),l[i]? =some x→ ¬cM x.coefs=0→nB l=false:=fun l i x hx h0=>by
  unfold nB;rw [vAJ];exact⟨x,cN hx,by simp [h0]⟩
 unfold B6;refine Ev.eq (Ev.loop (fun z:Int=> ∃i:Nat,z=i∧i≤l.lo.length∧nB (l.lo.take i)=true) (fun z=>l.lo.length-z.toNat) ?_ n _ ⟨0,rfl,by omega,rfl⟩ (by omega));rintro again z ⟨i,rfl,hi,hf⟩ hr;refine aH (fun hlt=>?_) fun hge=>?_
 ·have hlt:i<l.lo.length:=by omega
  have hx:=cP hlt;refine aA (aS hx) (aA (hd _ (h2 _ (T5 hlt))) (aH (fun h0=>Ev.some ?_) fun h0=>?_))
  ·rw [hno l.lo i _ hx (by omega)];rfl
  rw [aQ (by omega)];exact hr _ ⟨i+1,by omega,by omega,hall _ _ _ hx (by omega) hf⟩ (by omega)
 have e:i=l.lo.length:=by omega
 subst e;rw [q7] at hf;rw [hf,vAV];refine Ev.loop (fun z:Int=> ∃i:Nat,z=i∧i≤l.hi.length∧nB (l.hi.take i)=true) (fun z=>l.hi.length-z.toNat) ?_ n _ ⟨0,rfl,by omega,rfl⟩ (by omega);rintro again z ⟨i,rfl,hi,hf⟩ hr;refine aH (fun hlt=>?_) fun hge=>Ev.some ?_
 ·have hlt:i<l.hi.length:=by omega
  have hx:=cP hlt;refine aA (aS hx) (aA (hd _ (h4 _ (T5 hlt))) (aH (fun h0=>Ev.some ?_) fun h0=>?_))
  ·exact(hno l.hi i _ hx (by omega)).symm
  rw [aQ (by omega)];exact hr _ ⟨i+1,by omega,by omega,hall _ _ _ hx (by omega) hf⟩ (by omega)
 have e:i=l.hi.length:=by omega
 subst e;rw [q7] at hf;exact hf.symm
theorem aJa{n:Nat}(hn:5000≤n){l:Loop}(h:yL l):wM n l=some (if kF l=true then(kC l.lo,kC l.hi,true) else(0,0,false)):=by
 unfold wM;refine Ev.eq (Ev.jn (fun z=>z= !kF l) (fun j hj=>?_) fun z hz=>?_)
 ·refine dI (fun h5=>hj _ ?_) fun h5=>dI (fun h6=>hj _ ?_) fun h6=>aA (aM8 hn h) (hj _ ?_)
  ·unfold kF;rw [decide_eq_false (show¬l.lo.length=1 by omega)];rfl
  ·unfold kF;rw [decide_eq_false (show¬l.hi.length=1 by omega),Bool.false_and,vBj];rfl
  unfold kF;rw [decide_eq_true (show l.lo.length=1 by omega),decide_eq_true (show l.hi.length=1 by omega)];rfl
 subst hz;cases hf:kF l with
 |false=>exact b8 (Ev.some rfl)
 |true=>
  refine bZ ?_;unfold kF at hf;simp only [Bool.and_eq_true,decide_eq_true_eq] at hf;obtain⟨e1,e2,_⟩:=hf;obtain⟨x,hx⟩:=vBl.1 e1;obtain⟨y,hy⟩:=vBl.1 e2;rw [hx,hy];exact aA (x:=x) rfl (aA (x:=y) rfl (Ev.some rfl))
end Go.Lift
