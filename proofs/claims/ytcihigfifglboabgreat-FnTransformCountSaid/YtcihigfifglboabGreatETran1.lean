/- Two programs that do the same. -/
import Derived.Test.YtcihigfifglboabGreatERun1
import Derived.Test.YtcihigfifglboabGreatEDraw1
import Derived.Test.YtcihigfifglboabGreatEDrawD
set_option maxRecDepth 100000
set_option linter.unusedVariables false
namespace Go.Lift
open Go
theorem vT{α β R:Type}{l:List α}{F:α→(β→Option R)→Option R}{g:α→β}{K:List β→Option R}{Q:R→Prop}{n:Nat}(hF: ∀x∈l,∀k:β→Option R,Ev (k (g x)) Q→Ev (F x k) Q)
  {s:Nat} (hs:s≤l.length) {pre:List β} (hp:pre.length≤1000) (hl:l.length≤1000) (hn:5000≤n) (hK:Ev (K (pre++(l.drop s).map g)) Q):
  Ev (aJ (fun again ((x,i):List β×Int)=>bif decide (i<(l.length:Int)) then(Option.bind (ix l i) fun y=>F y fun z=>Option.bind (app x [z]) fun w=>again (w,wr (i+1))) else K x) n (pre,(s:Int))) Q:=by
 refine Ev.loop (fun z:List β×Int=> ∃i:Nat,z.2=i∧s≤i∧i≤l.length∧z.1=pre++((l.drop s).take (i-s)).map g) (fun z=>l.length-z.2.toNat) ?_ n _ ⟨s,rfl,by omega,by omega,by simp⟩ (by dsimp only;omega);rintro again ⟨x,z⟩ ⟨i,hz,hsi,hi,hx⟩ hr;dsimp only at hz hx⊢;subst hz;refine aG (fun hlt=>?_) fun hge=>?_
 ·have hg:=cP (show i<l.length by omega);have hxl:x.length≤2000:=by rw [hx,pV,o7,rQ,vAU];omega
  refine aA (aI hg) (hF _ (cR hg) _ (aA (bJ (by simp;omega)) ?_));rw [aN (by omega)];refine hr _ ⟨i+1,by dsimp only;omega,by omega,by omega,?_⟩ (by dsimp only;omega);dsimp only;rw [show i+1-s=(i-s)+1 by omega,xT,vAG,show s+(i-s)=i by omega,hg,hx,vAK,vAR];rfl
 have:i=l.length:=by omega
 subst this;rw [hx,vBf (by rw [vAU];omega)];exact hK
theorem tS{α β R:Type}{l:List α}{f:α→Option β}{g:α→β}{K:List β→Option R}{Q:R→Prop}{n:Nat}(hf: ∀x∈l,f x=some (g x))(hl:l.length≤1000)(hn:5000≤n)(hK:Ev (K (l.map g)) Q):
  Ev (aJ (fun again ((x,i):List β×Int)=>bif decide (i<(l.length:Int)) then(Option.bind (ix l i) fun y=>Option.bind (f y) fun z=>Option.bind (app x [z]) fun w=>again (w,wr (i+1))) else K x) n ([],0)) Q:=
 vT (F:=fun y k=>Option.bind (f y) k) (g:=g) (s:=0) (pre:=[]) (fun x hx k hk=>aA (hf x hx) hk) (by omega) (by simp) hl hn (by simpa using hK)
theorem aDh{α R:Type}{l:List α}{F:α→(α→Option R)→Option R}{W:List α→Option R→Option R}{m:List α→Int}{g:α→α}{K:List α→Option R}{Q:R→Prop}{n:Nat}
  (hW: ∀y o,y.length=l.length→Ev o Q→Ev (W y o) Q) (hm: ∀y:List α,y.length=l.length→m y=(l.length:Int))
  {s:Nat} (hs:s≤l.length) (hF: ∀x∈l,∀k:α→Option R,Ev (k (g x)) Q→Ev (F x k) Q) (hl:l.length≤1000) (hn:5000≤n) (hK:Ev (K (l.take s++(l.drop s).map g)) Q):
  Ev (aJ (fun again ((y,i):List α×Int)=>W y (bif decide (i<m y) then(Option.bind (ix y i) fun x=>F x fun z=>Option.bind (cQ y i z) fun w=>again (w,wr (i+1))) else K y)) n (l,(s:Int))) Q:=by
 refine Ev.loop (fun z:List α×Int=> ∃i:Nat,z.2=i∧s≤i∧i≤l.length∧z.1=l.take s++((l.drop s).take (i-s)).map g++l.drop i) (fun z=>l.length-z.2.toNat) ?_ n _ ⟨s,rfl,by omega,by omega,by simp⟩ (by dsimp only;omega);rintro again ⟨x,z⟩ ⟨i,hz,hsi,hi,hx⟩ hr;dsimp only at hz hx⊢;subst hz;have hpl:(l.take s++((l.drop s).take (i-s)).map g).length=i:=by rw [pV,o7,rQ,rQ,vAU];omega
 have hxl:x.length=l.length:=by rw [hx,pV,hpl,vAU];omega
 refine hW _ _ hxl ?_;rw [hm _ hxl];refine aG (fun hlt=>?_) fun hge=>?_
 ·obtain⟨e,hg⟩: ∃e,l[i]? =some e:=⟨_,cP (show i<l.length by omega)⟩
  have hgx:x[i]? =some e:=by
   rw [hx,vAr (by omega),hpl,vBB,vAG];exact hg
  refine aA (aI hgx) (hF _ (cR hg) _ (aA (cS (by omega) _) ?_));rw [aN (by omega)];refine hr _ ⟨i+1,by dsimp only;omega,by omega,by omega,?_⟩ (by dsimp only;omega);dsimp only;rw [hx,A3,vBR _ _ (by omega),hpl,vBB,jA hg,List.set_cons_zero,show i+1-s=(i-s)+1 by omega,xT,vAG,show s+(i-s)=i by omega,hg];simp
 have:i=l.length:=by omega
 subst this;rw [hx,vBf (l:=l.drop s) (by rw [vAU];omega),vBu,vBo];exact hK
def fV(f:Affine→Affine)(a:Access):Access:=⟨a.array,a.subs.map f⟩
def vU(f:Affine→Affine):Nat→Expr→Expr
 |0,e=>e
 |L+1,e=>⟨e.kind,e.num,if e.kind=2 then f e.index else⟨[],0⟩,if e.kind=3 then fV f e.read else⟨[],[]⟩,e.kids.map (vU f L)⟩
def vR(f:Affine→Affine)(s:Stmt):Stmt:=⟨fV f s.write,vU f 5 s.value⟩
def fX(f:Affine→Affine)(l:Loop):Loop:=⟨l.lo.map f,l.hi.map f⟩
theorem yV{e:Expr}{d:Int}(h:gH e d=true)(hk:e.kind=2):bI e.index=true∧nI e.read=true:=by unfold gH bY at h;rw [if_pos hk] at h;simp only [Bool.and_eq_true] at h;exact⟨h.2.2.1,h.2.1⟩
theorem yU{e:Expr}{d:Int}(h:gH e d=true)(hk:e.kind=3):iB e.read d=true∧kC e.index=true:=by unfold gH at h;rw [if_neg (by omega),if_pos hk] at h;simp only [Bool.and_eq_true] at h;exact⟨h.2.2,h.2.1⟩
theorem aGL{e:Expr}{d:Int}(h:gH e d=true)(h2: ¬e.kind=2)(h3: ¬e.kind=3):kC e.index=true∧nI e.read=true:=by unfold gH at h;rw [if_neg h2,if_neg h3] at h;split at h<;>simp only [Bool.and_eq_true] at h<;>exact⟨h.2.1,h.2.2⟩
theorem E6{a:Affine}(h:kC a=true):a=⟨[],0⟩:=by obtain⟨c,k⟩:=a;simp only [kC,Bool.and_eq_true,decide_eq_true_eq] at h;obtain⟨h1,rfl⟩:=h;rw [vAB h1]
theorem E7{a:Access}(h:nI a=true):a=⟨[],[]⟩:=by obtain⟨c,k⟩:=a;simp only [nI,Bool.and_eq_true,decide_eq_true_eq] at h;obtain⟨rfl,h1⟩:=h;rw [vAB h1]
theorem vZ{n:Nat}(hn:5000≤n){a:Access}{d:Int}(ha:iB a d=true){F:Affine→Option Affine}{f:Affine→Affine}(hF: ∀x,bI x=true→F x=some (f x)):iZ n a F=some (fV f a):=by obtain⟨h1,h2,h3⟩:=uQ ha;refine Ev.eq ?_;unfold iZ;exact tS (K:=fun x1=>some (⟨a.array,x1⟩:Access)) (fun x hx=>hF x (h3 x hx)) (by omega) hn (Ev.some rfl)
theorem H0{d:Int}{F:Affine→Option Affine}{f:Affine→Affine}(hF: ∀x,bI x=true→F x=some (f x)): ∀(L n:Nat) (e:Expr),5000+L≤n→dP L e d=true→i_exprMap (n+1) e F=some (vU f L e)
 |0,_,_,_,h=>by cases h
 |L+1,n,e,hn,h=>by
  obtain⟨hk,ho,hs⟩:=iI h;obtain⟨n,rfl⟩: ∃j,n=j+1:=⟨n-1,by omega⟩
  have hkl:e.kids.length≤2:=by have:=m4 e.kind;omega
  unfold i_exprMap;refine Ev.eq (Ev.jn (fun z=>(⟨z.1,z.2.1⟩:Affine)=(if e.kind=2 then f e.index else⟨[],0⟩)∧(⟨z.2.2.1,z.2.2.2⟩:Access)=(if e.kind=3 then fV f e.read else⟨[],[]⟩)) (fun j hj=>?_) fun z hz=>?_)
  ·refine aG (fun h2=>?_) fun h2=>aG (fun h3=>?_) fun h3=>?_
   ·exact aA (hF _ (yV ho h2).1) (hj _ ⟨by rw [if_pos h2],by rw [if_neg (by omega)]⟩)
   ·exact aA (vZ (by omega) (yU ho h3).1 hF) (hj _ ⟨by rw [if_neg h2],by rw [if_pos h3]⟩)
   exact hj _ ⟨by rw [if_neg h2],by rw [if_neg h3]⟩
  obtain⟨x4,x5,x6,x7⟩:=z;obtain⟨z1,z2⟩:=hz;dsimp only at z1 z2⊢;refine tS (K:=fun x8=>some (⟨e.kind,e.num,(⟨x4,x5⟩:Affine),(⟨x6,x7⟩:Access),x8⟩:Expr)) (fun x hx=>H0 hF L n x (by omega) (hs x hx)) (by omega) (by omega) (Ev.some ?_);rw [z1,z2];rfl
theorem G6{n:Nat}(hn:6000≤n){s:Stmt}{d:Int}(hs:fW s d=true){F:Affine→Option Affine}{f:Affine→Affine}(hF: ∀x,bI x=true→F x=some (f x)):jM n s F=some (vR f s):=by
 obtain⟨h1,h2,_⟩:=kO hs;obtain⟨n,rfl⟩: ∃j,n=j+1:=⟨n-1,by omega⟩
 unfold jM;rw [vZ (by omega) h1 hF,H0 hF 5 n s.value (by omega) h2];rfl
theorem aDB{α:Type}{f:α→α}: ∀{l:List α},(∀x∈l,f x=x)→l.map f=l
 | [],_=>rfl
 |x::l,h=>by rw [vBV,h x uW,aDB fun y hy=>h y (tH _ hy)]
theorem aCy{f:Affine→Affine}{a:Access}{d:Int}(ha:iB a d=true)(hf: ∀x,bI x=true→f x=x):fV f a=a:=by obtain⟨h1,h2,h3⟩:=uQ ha;unfold fV;rw [aDB fun x hx=>hf x (h3 x hx)]
theorem aIz{d:Int}{f:Affine→Affine}(hf: ∀x,bI x=true→f x=x): ∀{L:Nat} {e:Expr},dP L e d=true→vU f L e=e
 |0,_,_=>rfl
 |L+1,e,h=>by
  obtain⟨hk,ho,hs⟩:=iI h;obtain⟨kind,num,index,read,kids⟩:=e;unfold vU;dsimp only at hk ho hs⊢;rw [aDB fun x hx=>aIz hf (hs x hx)];by_cases h2:kind=2
  ·have e1:=yV ho h2;dsimp only at e1;rw [if_pos h2,if_neg (by omega),hf _ e1.1,E7 e1.2]
  by_cases h3:kind=3
  ·have e1:=yU ho h3;dsimp only at e1;rw [if_neg h2,if_pos h3,aCy e1.1 hf,E6 e1.2]
  have e1:=aGL ho h2 h3;dsimp only at e1;rw [if_neg h2,if_neg h3,E6 e1.1,E7 e1.2]
theorem aNW{f:Affine→Affine}(hf: ∀x,bI x=true→f x=x){s:Stmt}{d:Int}(hs:fW s d=true):vR f s=s:=by obtain⟨h1,h2,_⟩:=kO hs;unfold vR;rw [aCy h1 hf,aIz hf h2]
def zA(l:Loop):Prop:=(l.lo.length≤2∧ ∀x∈l.lo,bI x=true)∧l.hi.length≤2∧ ∀x∈l.hi,bI x=true
theorem aPL{nest:List Loop}(h:Fit nest): ∀l∈nest,zA l:=fun l hl=>by
 obtain⟨i,hi⟩:=vAJ.1 hl
 have:=h.2 i l hi;exact⟨(uZ this.1).2,(uZ this.2).2⟩
theorem kK{list:List Arr}{x:Part}(h:cL list x=true):x.nest.length≤4∧ ∀l∈x.nest,zA l:=by have:=(aEp (fL h).1).1;exact⟨this.1,aPL this⟩
theorem aOS{a:Affine}(h:bI a=true):BA 4 a:=by have:=(d6 h).1;unfold BA;omega
theorem aEe{l:List Affine}(h1:l.length≤2)(h2: ∀x∈l,bI x=true):BAs 4 l:=⟨by omega,fun a ha=>aOS (h2 a ha)⟩
theorem aOR{d:Int}: ∀{L:Nat} {e:Expr},dP L e d=true→BE 4 L e
 |0,_,h=>by cases h
 |L+1,e,h=>by
  obtain⟨hk,ho,hs⟩:=iI h
  have:=m4 e.kind;refine⟨by omega,?_,?_,fun k hk=>aOR (hs k hk)⟩
  ·by_cases h2:e.kind=2
   ·exact aOS (yV ho h2).1
   by_cases h3:e.kind=3
   ·rw [E6 (yU ho h3).2];unfold BA;simp
   rw [E6 (aGL ho h2 h3).1];unfold BA;simp
  by_cases h3:e.kind=3
  ·have:=uQ (yU ho h3).1;exact aEe this.2.1 this.2.2
  by_cases h2:e.kind=2
  ·rw [E7 (yV ho h2).2];exact⟨by simp,fun x hx=>by cases hx⟩
  rw [E7 (aGL ho h2 h3).2];exact⟨by simp,fun x hx=>by cases hx⟩
theorem aRb{s:Stmt}{d:Int}(hs:fW s d=true):BS 4 s:=by
 obtain⟨h1,h2,_⟩:=kO hs
 have:=uQ h1;exact⟨aEe this.2.1 this.2.2,aOR h2⟩
theorem aMs{list:List Arr}{x:Part}(h:cL list x=true):BPt 4 x:=by obtain⟨h1,h2⟩:=kK h;obtain⟨_,h4,h5,_⟩:=fL h;exact⟨⟨h1,fun l hl=>⟨aEe (h2 l hl).1.1 (h2 l hl).1.2,aEe (h2 l hl).2.1 (h2 l hl).2.2⟩⟩,h4.2,fun s hs=>aRb (h5 s hs)⟩
theorem aRc{l:List Arr}(h1:l.length≤4)(h2:gL l):BR 4 l:=⟨h1,fun x hx=>by have:=h2 x hx;simp only [jT,Bool.and_eq_true,decide_eq_true_eq] at this;omega⟩
theorem X6{B:Nat}{l:List Affine}{f:Affine→Affine}(h:l.length≤B)(hf: ∀x∈l,BA B (f x)):BAs B (l.map f):=⟨by rw [o7];exact h,fun a ha=>by obtain⟨x,hx,rfl⟩:=V3.1 ha;exact hf x hx⟩
theorem aMw{d:Int}{f:Affine→Affine}(hf: ∀x,bI x=true→BA 4 (f x)): ∀{L:Nat} {e:Expr},dP L e d=true→BE 4 L (vU f L e)
 |0,_,h=>by cases h
 |L+1,e,h=>by
  obtain⟨hk,ho,hs⟩:=iI h
  have:=m4 e.kind;unfold vU BE;refine⟨by dsimp only;rw [o7];omega,?_,?_,fun k hk=>?_⟩
  ·dsimp only;by_cases h2:e.kind=2
   ·rw [if_pos h2];exact hf _ (yV ho h2).1
   rw [if_neg h2];unfold BA;simp
  ·dsimp only;by_cases h3:e.kind=3
   ·rw [if_pos h3]
    have:=uQ (yU ho h3).1;exact X6 (by omega) fun x hx=>hf x (this.2.2 x hx)
   rw [if_neg h3];exact⟨by simp,fun x hx=>by cases hx⟩
  obtain⟨x,hx,rfl⟩:=V3.1 hk;exact aMw hf (hs x hx)
theorem aMr{f:Affine→Affine}(hf: ∀x,bI x=true→BA 4 (f x)){s:Stmt}{d:Int}(hs:fW s d=true):BS 4 (vR f s):=by
 obtain⟨h1,h2,_⟩:=kO hs
 have:=uQ h1;exact⟨X6 (by omega) fun x hx=>hf x (this.2.2 x hx),aMw hf h2⟩
theorem aI1{f:Affine→Affine}(hf: ∀x,bI x=true→BA 4 (f x)){l:Loop}(h:zA l):BAs 4 (fX f l).lo∧BAs 4 (fX f l).hi:=
 ⟨X6 (by have:=h.1.1;omega) fun x hx=>hf x (h.1.2 x hx),X6 (by have:=h.2.1;omega) fun x hx=>hf x (h.2.2 x hx)⟩
theorem aCo(n:Nat){a:Affine}(h:a.coefs.length≤1000):dQ n a=some a:=by unfold dQ m_ownClone;rw [if_pos (by omega)];rfl
theorem M5(n:Nat): ∀x,bI x=true→dQ n x=some x:=fun x hx=>aCo n (by have:=(d6 hx).1;omega)
theorem aAj{n:Nat}(hn:5000≤n){l:List Affine}(h1:l.length≤2)(h2: ∀x∈l,bI x=true):gK n l=some l:=by unfold gK;refine Ev.eq (tS (g:=fun x=>x) (K:=fun x1=>some x1) (fun x hx=>M5 n x (h2 x hx)) (by omega) hn (Ev.some ?_));simp
theorem aGM{n:Nat}(hn:5000≤n){nest:List Loop}(h1:nest.length≤4)(h2: ∀l∈nest,zA l):sM n nest=some nest:=by unfold sM;refine Ev.eq ?_;refine vT (β:=Loop) (l:=nest) (n:=n) (F:=fun x5 k=>Option.bind (gK n x5.lo) fun x6=>Option.bind (gK n x5.hi) fun x7=>k (⟨x6,x7⟩:Loop)) (g:=fun x=>x) (s:=0) (pre:=[]) (K:=fun x1=>some x1) ?_ (by omega) (by simp) (by omega) hn (Ev.some (by simp));exact fun x hx k hk=>aA (aAj hn (h2 x hx).1.1 (h2 x hx).1.2) (aA (aAj hn (h2 x hx).2.1 (h2 x hx).2.2) hk)
theorem aGJ{n:Nat}(hn:6000≤n){s:Stmt}{d:Int}(hs:fW s d=true):xJ n s=some s:=by unfold xJ;rw [G6 hn hs (F:=fun q0=>dQ n q0) (f:=fun x=>x) (M5 n),aNW (fun _ _=>rfl) hs];rfl
theorem aGK{n:Nat}(hn:6000≤n){list:List Arr}{x:Part}(h:cL list x=true):o0 n x=some x:=by obtain⟨h1,h2⟩:=kK h;obtain⟨_,h4,h5,_⟩:=fL h;unfold o0;refine Ev.eq (aA (aGM (by omega) h1 h2) (tS (g:=fun x=>x) (K:=fun x2=>some (⟨x.nest,x2⟩:Part)) (fun s hs=>aGJ hn (h5 s hs)) (by omega) (by omega) (Ev.some ?_)));simp
theorem aGI{n:Nat}(hn:6000≤n){p:Prog}(h:bF p=true):iE n p=some p:=by
 obtain⟨h1,h2,h3,h4,_⟩:=gC h;unfold iE;refine Ev.eq (vT (F:=fun x5 k=>Option.bind (m_ownClone x5.dims) fun x6=>k (⟨x5.name,x6⟩:Arr)) (g:=fun x=>x) (s:=0) (pre:=[]) (K:=fun x1=>aJ (fun again11 ((x8,x9):(List Part)×Int)=>
    bif decide (x9<(p.parts.length:Int)) then(
     Option.bind (ix p.parts x9) fun x12=>
     Option.bind (o0 n x12) fun x13=>
     Option.bind (app x8 [x13]) fun x14=>
     again11 (x14,wr (x9+1))
    ) else(
     some (⟨x1,x8⟩:Prog)
    )
   ) n ([],0)) (fun x hx k hk=>aA (x:=x.dims) ?_ hk) (by omega) (by simp) (by omega) (by omega) ?_)
 ·have:=(aRc h1 h2).2 x hx;unfold m_ownClone;rw [if_pos (by omega)]
 refine tS (g:=fun x=>x) (K:=fun x8=>some (⟨_,x8⟩:Prog)) (fun x hx=>aGK hn (h4 x hx)) (by omega) (by omega) (Ev.some ?_);simp
theorem gI{α:Type}{a b:List α}(h:b.length=a.length):jG a b=some ():=by unfold jG;rw [if_pos h]
theorem aBO{n:Nat}(hn:5000≤n){l:Loop}(hl:zA l){F:Affine→Option Affine}{f:Affine→Affine}(hF: ∀x,bI x=true→F x=some (f x)):kF n l F=some (fX f l):=by
 obtain⟨⟨a1,a2⟩,b1,b2⟩:=hl;unfold kF;refine Ev.eq (Ev.loop (fun z:Loop×Int=>(z.2=0∧z.1=l)∨(z.2=1∧z.1=⟨l.lo.map f,l.hi⟩)∨(z.2=2∧z.1=fX f l)) (fun z=>3-z.2.toNat) ?_ n _ (.inl ⟨rfl,rfl⟩) (by dsimp only;omega));rintro again ⟨x,i⟩ hz hr;dsimp only at hz hr⊢;rcases hz with ⟨rfl,rfl⟩|⟨rfl,rfl⟩|⟨rfl,rfl⟩
 ·refine aA (gI rfl) (aA (gI rfl) (aG (fun _=>aG (fun _=>?_) fun h=>(h rfl).elim) fun h=>absurd h (by omega)));refine aDh (F:=fun x k=>Option.bind (F x) k) (W:=fun _ o=>o) (m:=fun _=>(x.lo.length:Int)) (g:=f) (s:=0) (K:=fun y=>again ((⟨y,x.hi⟩:Loop),wr (0+1))) (fun _ _ _ h=>h) (fun _ _=>rfl) (by omega) (fun x hx k hk=>aA (hF x (a2 x hx)) hk) (by omega) hn ?_;rw [aN (by omega)];exact hr _ (.inr (.inl ⟨by dsimp only;omega,by simp⟩)) (by dsimp only;omega)
 ·refine aA (gI (by simp)) (aA (gI rfl) (aG (fun _=>aG (fun h=>absurd h (by omega)) fun _=>aG (fun _=>?_) fun h=>(h rfl).elim) fun h=>absurd h (by omega)));refine aDh (F:=fun x k=>Option.bind (F x) k) (W:=fun _ o=>o) (m:=fun _=>(l.hi.length:Int)) (g:=f) (s:=0) (K:=fun y=>again ((⟨l.lo.map f,y⟩:Loop),wr (1+1))) (fun _ _ _ h=>h) (fun _ _=>rfl) (by omega) (fun x hx k hk=>aA (hF x (b2 x hx)) hk) (by omega) hn ?_;rw [aN (by omega)];exact hr _ (.inr (.inr ⟨by dsimp only;omega,by simp [fX]⟩)) (by dsimp only;omega)
 refine aA (gI (by simp [fX])) (aA (gI (by simp [fX])) (aG (fun h=>absurd h (by omega)) fun _=>Ev.some rfl))
theorem yC{n:Nat}(hn:6000≤n){nest:List Loop}{body:List Stmt}{s:Nat}(hs:s≤nest.length)(h1:nest.length≤4)(h2: ∀l∈nest.drop s,zA l){d:Int}(h3:body.length≤4)(h4: ∀s∈body,fW s d=true){F:Affine→Option Affine}{f:Affine→Affine}(hF: ∀x,bI x=true→F x=some (f x)):
  iF n ⟨nest,body⟩ (s:Int) F=some ⟨nest.take s++(nest.drop s).map (fX f),body.map (vR f)⟩:=by
 have key: ∀(nest2:List Loop),Ev (aJ (fun again2 ((y,j):(List Stmt)×Int)=>
    Option.bind (jG body y) fun x5=>
    bif decide (j<(body.length:Int)) then(
     Option.bind (ix y j) fun x6=>
     Option.bind (jM n x6 F) fun x7=>
     Option.bind (cQ y j x7) fun x8=>
     again2 (x8,wr (j+1))
    ) else(
     some (⟨nest2,y⟩:Part)
    )
   ) n (body,0)) (fun r=>r=⟨nest2,body.map (vR f)⟩):=fun nest2=>
  aDh (F:=fun x k=>Option.bind (jM n x F) k) (W:=fun y o=>Option.bind (jG body y) fun _=>o) (m:=fun _=>(body.length:Int)) (g:=vR f) (s:=0) (K:=fun y=>some (⟨nest2,y⟩:Part)) (fun y o h ho=>aA (gI h) ho) (fun _ _=>rfl) (by omega) (fun x hx k hk=>aA (G6 hn (h4 x hx) hF) hk) (by omega) (by omega) (Ev.some (by simp))
 unfold iF;refine Ev.eq ?_
 -- the loops ahead stay: only those behind are changed
 refine Ev.loop (fun z:List Loop×Int=> ∃i:Nat,z.2=i∧s≤i∧i≤nest.length∧z.1=nest.take s++((nest.drop s).take (i-s)).map (fX f)++nest.drop i) (fun z=>nest.length-z.2.toNat) ?_ n _ ⟨s,rfl,by omega,by omega,by simp⟩ (by dsimp only;omega);rintro again ⟨x,z⟩ ⟨i,hz,hsi,hi,hx⟩ hr;dsimp only at hz hx⊢;subst hz;have hpl:(nest.take s++((nest.drop s).take (i-s)).map (fX f)).length=i:=by rw [pV,o7,rQ,rQ,vAU];omega
 have hxl:x.length=nest.length:=by rw [hx,pV,hpl,vAU];omega
 refine aA (gI hxl) (aG (fun hlt=>?_) fun hge=>?_)
 ·obtain⟨e,hg⟩: ∃e,nest[i]? =some e:=⟨_,cP (show i<nest.length by omega)⟩
  have hgx:x[i]? =some e:=by
   rw [hx,vAr (by omega),hpl,vBB,vAG];exact hg
  have he:e∈nest.drop s:=vAJ.2 ⟨i-s,by rw [vAG,show s+(i-s)=i by omega];exact hg⟩;refine aA (aI hgx) (aA (aBO (by omega) (h2 _ he) hF) (aA (cS (by omega) _) ?_));rw [aN (by omega)];refine hr _ ⟨i+1,by dsimp only;omega,by omega,by omega,?_⟩ (by dsimp only;omega);dsimp only;rw [hx,A3,vBR _ _ (by omega),hpl,vBB,jA hg,List.set_cons_zero,show i+1-s=(i-s)+1 by omega,xT,vAG,show s+(i-s)=i by omega,hg];simp
 have:i=nest.length:=by omega
 subst this;rw [hx,vBf (l:=nest.drop s) (by rw [vAU];omega),vBu,vBo];exact key _
theorem aDm{n:Nat}(hn:5000≤n){l:List Affine}(h1:l.length≤2)(h2: ∀x∈l,bI x=true){way v:Int}{b:Affine}{f:Affine→Affine}(hF: ∀x,bI x=true→iR n x way v b=some (f x)):rZ n l way v b=some (l.map f):=by unfold rZ;exact Ev.eq (tS (K:=fun x1=>some x1) (fun x hx=>hF x (h2 x hx)) (by omega) hn (Ev.some rfl))
theorem aJt{n:Nat}(hn:5000≤n){l:Loop}(hl:zA l){way v:Int}{b:Affine}{f:Affine→Affine}(hF: ∀x,bI x=true→iR n x way v b=some (f x)):u6 n l way v b=some (fX f l):=by unfold u6;rw [aDm hn hl.1.1 hl.1.2 hF,aDm hn hl.2.1 hl.2.2 hF];rfl
theorem Q8{n:Nat}(hn:5000≤n){a:Access}{d:Int}(ha:iB a d=true){way v:Int}{b:Affine}{f:Affine→Affine}(hF: ∀x,bI x=true→iR n x way v b=some (f x)):lT n a way v b=some (fV f a):=by have:=uQ ha;unfold lT;rw [aDm hn this.2.1 this.2.2 hF];rfl
theorem aCD{d way v:Int}{b:Affine}{f:Affine→Affine}(hF: ∀n,5000≤n→ ∀x,bI x=true→iR n x way v b=some (f x)): ∀(L n:Nat) (e:Expr),5000+L≤n→dP L e d=true→s_l8Expr (n+1) e way v b=some (vU f L e)
 |0,_,_,_,h=>by cases h
 |L+1,n,e,hn,h=>by
  obtain⟨hk,ho,hs⟩:=iI h;obtain⟨n,rfl⟩: ∃j,n=j+1:=⟨n-1,by omega⟩
  have hkl:e.kids.length≤2:=by have:=m4 e.kind;omega
  unfold s_l8Expr;refine Ev.eq (Ev.jn (fun z=>(⟨z.1,z.2⟩:Affine)=(if e.kind=2 then f e.index else⟨[],0⟩)) (fun j hj=>?_) fun z hz=>Ev.jn (fun y=>(⟨y.1,y.2⟩:Access)=(if e.kind=3 then fV f e.read else⟨[],[]⟩)) (fun j hj=>?_) fun y hy=>?_)
  ·exact aG (fun h2=>aA (hF _ (by omega) _ (yV ho h2).1) (hj _ (by rw [if_pos h2]))) fun h2=>hj _ (by rw [if_neg h2])
  ·exact aG (fun h3=>aA (Q8 (by omega) (yU ho h3).1 (hF _ (by omega))) (hj _ (by rw [if_pos h3]))) fun h3=>hj _ (by rw [if_neg h3])
  obtain⟨x3,x4⟩:=z;obtain⟨x7,x8⟩:=y;dsimp only at hz hy⊢;refine tS (K:=fun x9=>some (⟨e.kind,e.num,(⟨x3,x4⟩:Affine),(⟨x7,x8⟩:Access),x9⟩:Expr)) (fun x hx=>aCD hF L n x (by omega) (hs x hx)) (by omega) (by omega) (Ev.some ?_);rw [hz,hy];rfl
theorem aJv{n:Nat}(hn:6000≤n){l:List Stmt}{d:Int}(h1:l.length≤4)(h2: ∀s∈l,fW s d=true){way v:Int}{b:Affine}{f:Affine→Affine}(hF: ∀n,5000≤n→ ∀x,bI x=true→iR n x way v b=some (f x)):B8 n l way v b=some (l.map (vR f)):=by
 obtain⟨n,rfl⟩: ∃j,n=j+1:=⟨n-1,by omega⟩
 unfold B8;refine Ev.eq ?_;refine vT (β:=Stmt) (l:=l) (n:=n+1) (F:=fun x5 k=>Option.bind (lT (n+1) x5.write way v b) fun x6=>Option.bind (s_l8Expr (n+1) x5.value way v b) fun x7=>k (⟨x6,x7⟩:Stmt)) (g:=vR f) (s:=0) (pre:=[]) (K:=fun x1=>some x1) (fun x hx k hk=>?_) (by omega) (by simp) (by omega) (by omega) (Ev.some (by simp));obtain⟨h1,h2,_⟩:=kO (h2 x hx);exact aA (Q8 (by omega) h1 (hF _ (by omega))) (aA (aCD hF 5 n x.value (by omega) h2) hk)
theorem aGV{n:Nat}(hn:6000≤n){x:Part}{s:Nat}(hs:s+1≤x.nest.length)(h1:x.nest.length≤4)(h2: ∀l∈x.nest,zA l){d:Int}(h3:x.body.length≤4)(h4: ∀s∈x.body,fW s d=true){way v:Int}{b:Affine}{f:Affine→Affine}(hF: ∀n,5000≤n→ ∀x,bI x=true→iR n x way v b=some (f x)):
  w3 n x (s:Int) way v b=some ⟨x.nest.take (s+1)++(x.nest.drop (s+1)).map (fX f),x.body.map (vR f)⟩:=by unfold w3;rw [aN (by omega)];refine Ev.eq (aA (Z1 (by omega) (by omega) (by omega)) ?_);rw [show((s:Int)+1).toNat=s+1 by omega,show(0:Int).toNat=0 from rfl,List.drop_zero];refine aA (x:=x.nest.take (s+1)) (bJ (by simp;omega)) (aA (aJv hn h3 h4 hF) ?_);exact vT (F:=fun x8 k=>Option.bind (u6 n x8 way v b) k) (g:=fX f) (s:=s+1) (pre:=x.nest.take (s+1)) (K:=fun x4=>some (⟨x4,x.body.map (vR f)⟩:Part)) (fun l hl k hk=>aA (aJt (by omega) (h2 l hl) (hF _ (by omega))) hk) (by omega) (by simp;omega) (by omega) (by omega) (Ev.some rfl)
theorem aCt(n:Nat){a:Affine}(h:BA 1000 a):iT n a=some a:=by unfold iT;rw [eH _ h];rfl
theorem yY{n:Nat}(hn:5000≤n){l:List Affine}(h:BAs 1000 l):dV n l=some l:=by unfold dV;exact Ev.eq (m8 (K:=fun x1=>some x1) (fun x hx=>aCt n (h.2 x hx)) h.1 hn (Ev.some rfl))
theorem aCu{n:Nat}(hn:5000≤n){a:Access}(h:BAs 1000 a.subs):iU n a=some a:=by unfold iU;rw [yY hn h];rfl
theorem aAn: ∀(L n:Nat) (e:Expr),5000+L≤n→BE 1000 L e→s_l16OwnExpr (n+1) e=some e
 |0,_,_,_,h=>h.elim
 |L+1,n,e,hn,h=>by
  obtain⟨h1,h2,h3,h4⟩:=h;obtain⟨n,rfl⟩: ∃j,n=j+1:=⟨n-1,by omega⟩
  unfold s_l16OwnExpr lX;rw [aCt _ h2,aCu (by omega) h3];refine Ev.eq (aA rfl (aA rfl (aA (x:=e.kids) ?_ (Ev.some (by cases e;rfl)))));exact Ev.eq (m8 (f:=s_l16OwnExpr (n+1)) (K:=fun x1=>some x1) (fun x hx=>aAn L n x (by omega) (h4 x hx)) h1 (by omega) (Ev.some rfl))
theorem aGQ{n:Nat}(hn:6000≤n){s:Stmt}(h:BS 1000 s):nO n s=some s:=by
 obtain⟨n,rfl⟩: ∃j,n=j+1:=⟨n-1,by omega⟩
 unfold nO;rw [aCu (by omega) h.1,aAn 5 n s.value (by omega) h.2];rfl
theorem aGR{n:Nat}(hn:6000≤n){x:Part}(h:BPt 1000 x):nP n x=some x:=by
 obtain⟨⟨h1,h2⟩,h3,h4⟩:=h;have e1:jJ n x.nest=some x.nest:=by
  unfold jJ;refine Ev.eq (m8 (K:=fun x1=>some x1) (fun l hl=>?_) h1 (by omega) (Ev.some rfl));unfold tN;rw [yY (by omega) (h2 l hl).1,yY (by omega) (h2 l hl).2];rfl
 have e2:jH n x.body=some x.body:=by
  unfold jH;exact Ev.eq (m8 (K:=fun x1=>some x1) (fun l hl=>aGQ hn (h4 l hl)) h3 (by omega) (Ev.some rfl))
 unfold nP;rw [e1,e2];rfl
theorem yX{n:Nat}(hn:6000≤n){p:Prog}(h:BG 1000 p):kI n p=some p:=by
 obtain⟨⟨h1,h2⟩,h3,h4⟩:=h;have e1:iJ n p.arrays=some p.arrays:=by
  unfold iJ;refine Ev.eq (m8 (K:=fun x1=>some x1) (fun l hl=>?_) h1 (by omega) (Ev.some rfl));unfold q6;rw [eH _ (h2 l hl)];rfl
 have e2:jI n p.parts=some p.parts:=by
  unfold jI;exact Ev.eq (m8 (K:=fun x1=>some x1) (fun l hl=>aGR hn (h4 l hl)) h3 (by omega) (Ev.some rfl))
 unfold kI;rw [e1,e2];rfl
theorem rX{α:Type}{f:α→α→Option Bool}{l:List α}(hf: ∀x∈l,f x x=some true){n:Nat}(hn:l.length<n)(hl:l.length≤1000000):
  (bif !decide ((l.length:Int)=(l.length:Int)) then(some false) else(aJ (fun again2 (x1:Int)=>bif decide (x1<(l.length:Int)) then(Option.bind (ix l x1) fun x3=>Option.bind (ix l x1) fun x4=>Option.bind (f x3 x4) fun x5=>bif !x5 then(some false) else(again2 (wr (x1+1)))) else(some true)) n 0))=some true:=by
 refine Ev.eq (cZ (fun h=>(h rfl).elim) fun _=>?_);refine Ev.loop (fun x:Int=> ∃i:Nat,x=i∧i≤l.length) (fun x=>l.length-x.toNat) ?_ n 0 ⟨0,rfl,by omega⟩ (by omega);rintro again x ⟨i,rfl,hi⟩ hr;refine aG (fun hlt=>?_) fun _=>Ev.some rfl;obtain⟨e,hg⟩: ∃e,l[i]? =some e:=⟨_,cP (show i<l.length by omega)⟩
 refine aA (aI hg) (aA (aI hg) (aA (hf e (cR hg)) (b7 ?_)));rw [aN (by omega)];exact hr _ ⟨i+1,by omega,by omega⟩ (by omega)
theorem aCb{a:List Int}{n:Nat}(hn:a.length<n)(hl:a.length≤1000000):mZ n a a=some true:=by
 unfold mZ;refine Ev.eq (cZ (fun h=>(h rfl).elim) fun _=>?_);refine Ev.loop (fun x:Int=> ∃i:Nat,x=i∧i≤a.length) (fun x=>a.length-x.toNat) ?_ n 0 ⟨0,rfl,by omega⟩ (by omega);rintro again x ⟨i,rfl,hi⟩ hr;refine aG (fun hlt=>?_) fun _=>Ev.some rfl;obtain⟨e,hg⟩: ∃e,a[i]? =some e:=⟨_,cP (show i<a.length by omega)⟩
 refine aA (aI hg) (aA (aI hg) (cZ (fun h=>(h rfl).elim) fun _=>?_));rw [aN (by omega)];exact hr _ ⟨i+1,by omega,by omega⟩ (by omega)
theorem aI3{n:Nat}(hn:5000≤n){a:Affine}(h:BA 1000 a):dF n a a=some true:=by unfold BA at h;unfold dF;refine Ev.eq (Ev.jn (fun z=>z=true) (fun j hj=>aA (aCb (by omega) (by omega)) (bZ (hj _ (decide_eq_true rfl)))) fun z hz=>Ev.some hz)
theorem aBC{n:Nat}(hn:5000≤n){l:List Affine}(h:BAs 1000 l):dW n l l (fun q0 q1=>dF n q0 q1)=some true:=by have:=h.1;unfold dW;exact rX (fun x hx=>aI3 hn (h.2 x hx)) (by omega) (by omega)
theorem aI4{n:Nat}(hn:5000≤n){a:Access}(h:BAs 1000 a.subs):lF n a a=some true:=by unfold lF;refine Ev.eq (Ev.jn (fun z=>z=true) (fun j hj=>?_) fun z hz=>Ev.some hz);exact aG (fun _=>aA (aBC hn h) (hj _ rfl)) fun h=>(h rfl).elim
theorem aFp: ∀(L n:Nat) (e:Expr),5000+L≤n→BE 1000 L e→i_exprSame (n+1) e e=some true
 |0,_,_,_,h=>h.elim
 |L+1,n,e,hn,h=>by
  obtain⟨h1,h2,h3,h4⟩:=h;obtain⟨n,rfl⟩: ∃j,n=j+1:=⟨n-1,by omega⟩
  unfold i_exprSame;refine Ev.eq (Ev.jn (fun z=>z=true) (fun j hj=>?_) fun z hz=>Ev.some hz);refine aG (fun _=>aG (fun _=>aA (aI3 (by omega) h2) (bZ (aA (aI4 (by omega) h3) (bZ (aA (x:=true) ?_ (hj _ rfl)))))) fun h=>(h rfl).elim) fun h=>(h rfl).elim;unfold l7;exact rX (fun x hx=>aFp L n x (by omega) (h4 x hx)) (by omega) (by omega)
theorem aKK{n:Nat}(hn:6000≤n){s:Stmt}(h:BS 1000 s):pL n s s=some true:=by
 obtain⟨n,rfl⟩: ∃j,n=j+1:=⟨n-1,by omega⟩
 unfold pL;refine Ev.eq (Ev.jn (fun z=>z=true) (fun j hj=>?_) fun z hz=>Ev.some hz);exact aA (aI4 (by omega) h.1) (bZ (aA (aFp 5 n s.value (by omega) h.2) (hj _ rfl)))
theorem aLc{n:Nat}(hn:5000≤n){nest:List Loop}(h:BN 1000 nest):tX n nest nest=some true:=by
 have:=h.1;unfold tX l6;rw [rX (fun l hl=>?_) (by omega) (by omega)]
 ·rfl
 unfold nW;refine Ev.eq (Ev.jn (fun z=>z=true) (fun j hj=>?_) fun z hz=>Ev.some hz);exact aA (aBC hn (h.2 l hl).1) (bZ (aA (aBC hn (h.2 l hl).2) (hj _ rfl)))
theorem aK8{n:Nat}(hn:6000≤n){x:Part}(h:BPt 1000 x):gX n x x=some true:=by have:=h.2.1;unfold gX;refine Ev.eq (Ev.jn (fun z=>z=true) (fun j hj=>?_) fun z hz=>Ev.some hz);refine aA (aLc (by omega) h.1) (bZ (aA (x:=true) ?_ (hj _ rfl)));unfold l4;exact rX (fun s hs=>aKK hn (h.2.2 s hs)) (by omega) (by omega)
theorem aK6{n:Nat}(hn:6000≤n){p:Prog}(h:BG 1000 p):mR n p p=some true:=by
 obtain⟨⟨h1,h2⟩,h3,h4⟩:=h;unfold mR;refine Ev.eq (Ev.jn (fun z=>z=true) (fun j hj=>?_) fun z hz=>Ev.some hz);refine aA (x:=true) ?_ (bZ (aA (x:=true) ?_ (hj _ rfl)))
 ·unfold lC;refine rX (fun x hx=>?_) (by omega) (by omega);unfold gY;refine Ev.eq (Ev.jn (fun z=>z=true) (fun j hj=>?_) fun z hz=>Ev.some hz)
  have:=h2 x hx;exact aG (fun _=>aA (aCb (by omega) (by omega)) (hj _ rfl)) fun h=>(h rfl).elim
 unfold l5;exact rX (fun x hx=>aK8 hn (h4 x hx)) (by omega) (by omega)
def gG(p:Prog)(part loop:Int):Bool:=bF p&&match ix p.parts part with
 |some x=>decide (0≤loop∧loop<(x.nest.length:Int))
 |none=>false
theorem aLp{α:Type}{l:List α}{i:Int}(h: ¬(0≤i∧i<(l.length:Int))):ix l i=none:=by
 cases hx:ix l i with
 |none=>rfl
 |some x=>
  obtain⟨h1,h2⟩:=mO hx
  have:=(cX.1 h2).1;exact absurd ⟨h1,by omega⟩ h
theorem aPE{α:Type}{l:List α}{i:Int}{x:α}(h:ix l i=some x): ∃k:Nat,i=k∧k<l.length∧l[k]? =some x:=by obtain⟨h1,h2⟩:=mO h;exact⟨i.toNat,by omega,(cX.1 h2).1,h2⟩
theorem xI(n:Nat){p:Prog}(h:p.parts.length≤1000)(part:Int):dK n p part=some (decide (0≤part∧part<(p.parts.length:Int))):=by unfold dK;rw [fD,aN (by omega)];exact congrArg some (decide_eq_decide.2 (by omega))
theorem aFX{n:Nat}(hn:7000≤n){p:Prog}(hp:BG 1000 p)(part loop:Int)(hl:loop≠ -1):qH n p part loop=some (if gG p part loop=true then(p,true) else(⟨[],[]⟩,false)):=by
 unfold qH;refine Ev.eq (Ev.jn (fun z=>z= !gG p part loop) (fun j hj=>?_) fun z hz=>?_)
 ·refine aA (lI hn hp.sm) (Ev.cond (fun h=>?_) fun h=>?_)
  ·refine hj _ ?_;unfold gG;rw [show bF p=false by simpa using h];rfl
  have hv:bF p=true:=by simpa using h
  refine aA (xI n hp.2.1 part) ?_;by_cases hi:0≤part∧part<(p.parts.length:Int)
  ·obtain⟨x,hx,hx2⟩:=jR hi.1 hi.2;rw [decide_eq_true hi];refine b7 (cZ (fun _=>aA (x:=gG p part loop) ?_ (hj _ rfl)) fun h=>absurd h hl);unfold mA;refine Ev.eq (Ev.jn (fun z=>z=gG p part loop) (fun j hj=>?_) fun z hz=>Ev.some hz);rw [xI n hp.2.1 part,decide_eq_true hi];refine aA rfl (bZ (aA hx ?_))
   have:=(hp.2.2 x (cR hx2)).1.1;rw [aN (by omega),fD];refine aA rfl (hj _ ?_);unfold gG;rw [hv,hx];exact decide_eq_decide.2 (by omega)
  rw [decide_eq_false hi];refine bZ (hj _ ?_);unfold gG;rw [aLp hi,vBm];rfl
 subst hz;by_cases hc:gG p part loop=true
 ·rw [hc];have hv:bF p=true:=by unfold gG at hc;rw [vBt] at hc;exact hc.1
  obtain⟨x,hx⟩: ∃x,ix p.parts part=some x:=by
   cases hx:ix p.parts part with
   |some x=>exact⟨x,rfl⟩
   |none=>unfold gG at hc;rw [hx,vBm] at hc;cases hc
  exact b7 (aA (aGI (by omega) hv) (aA hx (Ev.some rfl)))
 rw [show gG p part loop=false by simpa using hc];exact bZ (Ev.some rfl)
def O4(q:Prog):Prog×Bool:=if bF q=true then(q,true) else(⟨[],[]⟩,false)
theorem Q9{n:Nat}(hn:7000≤n){p:Prog}(hp:BG 1000 p):pI n p=some (O4 p):=by
 unfold pI O4;refine Ev.eq (aA (lI hn hp.sm) (Ev.cond (fun h=>Ev.some ?_) fun h=>?_))
 ·rw [if_neg (by simpa using h)]
 have hv:bF p=true:=by simpa using h
 rw [if_pos hv];exact aA (aGI (by omega) hv) (Ev.some rfl)
theorem aAQ{n:Nat}(hn:7000≤n){p:Prog}(hp:BG 1000 p)(part loop:Int):B5 n p part loop=some (gG p part loop):=by
 unfold B5;refine Ev.eq (Ev.jn (fun z=>z=gG p part loop) (fun j hj=>?_) fun z hz=>Ev.some hz);refine aA (kX hn hp.sm) (Ev.cond (fun hv=>?_) fun hv=>hj _ (by unfold gG;rw [hv];rfl));refine aG (fun h1=>aG (fun h2=>?_) fun h2=>?_) fun h1=>?_
 ·obtain⟨x,hx,hx2⟩:=jR h1 h2;refine aG (fun h3=>aA hx (hj _ ?_)) fun h3=>hj _ ?_
  ·unfold gG;rw [hv,hx];exact decide_eq_decide.2 (by omega)
  unfold gG;rw [hv,hx];exact(decide_eq_false (by omega)).symm
 ·exact hj _ (by unfold gG;rw [aLp (by omega),vBm])
 exact hj _ (by unfold gG;rw [aLp (by omega),vBm])
theorem aMU{n:Nat}(hn:7000≤n){p:Prog}(hp:BG 1000 p){i:Nat}(hi:i<p.parts.length){y:Part}(hy:BPt 1000 y):B3 n p (i:Int) 1 [y]=some (O4 ⟨p.arrays,p.parts.set i y⟩):=by
 have hpl:=hp.2.1;have hq:BG 1000 ⟨p.arrays,p.parts.set i y⟩:=⟨hp.1,by dsimp only;rw [L5];exact hpl,tK hp.2.2 hy⟩
 unfold B3 O4;refine Ev.eq (aA (v8 (by omega) hp) (aA (Z1 (by omega) (by omega) (by omega)) ?_));rw [A3,show(0:Int).toNat=0 from rfl,List.drop_zero];refine aA (x:=p.parts.take i) (bJ (by simp;omega)) (aA (x:=p.parts.take i++[y]) (bJ (by simp;omega)) ?_);rw [aN (by omega)];refine aA (Z1 (by omega) (by omega) (by omega)) ?_;rw [A3,pY,show((i:Int)+1).toNat=i+1 by omega];refine aA (x:=p.parts.set i y) ?_ (aA (kX hn hq.sm) (Ev.cond (fun h=>Ev.some ?_) fun h=>?_))
 ·rw [bJ (by simp;omega),List.set_eq_take_append_cons_drop,if_pos hi,vAR];rfl
 ·rw [if_neg (by simpa using h)]
 rw [if_pos (by simpa using h)];exact aA (v8 (by omega) hq) (Ev.some rfl)
def aMz(a:Affine)(k:Int)(b:Affine):Affine:=⟨List.zipWith (fun x y=>x+k*y) a.coefs b.coefs,a.const+k*b.const⟩
def bB(m:Int)(a:Affine):Prop:=a.coefs.length=4∧nD m a.const∧ ∀c∈a.coefs,nD m c
theorem bB.mono{m m':Int}{a:Affine}(h:bB m a)(hm:m≤m'):bB m' a:=⟨h.1,⟨by have:=h.2.1.1;omega,by have:=h.2.1.2;omega⟩,fun c hc=>⟨by have:=(h.2.2 c hc).1;omega,by have:=(h.2.2 c hc).2;omega⟩⟩
theorem aQW{l:List Int}(h:l.length=4): ∃a b c d,l=[a,b,c,d]:=by
 match l,h with
 | [a,b,c,d],_=>exact⟨a,b,c,d,rfl⟩
theorem aPW{a:Affine}(h:bI a=true):bB 99 a:=by obtain⟨h1,h2,h3⟩:=d6 h;exact⟨h1,h2,fun c hc=>⟨by have:=(h3 c hc).1;omega,by have:=(h3 c hc).2;omega⟩⟩
theorem aLd{k b:Int}(hk:nD 1000 k)(hb:nD 1000 b):nD 1000000 (k*b):=aIv (by omega) (by omega) hk hb
theorem wrB{a x:Int}(ha:nD 1000 a)(hx:nD 1000000 x):wr (a+wr x)=a+x:=by unfold nD at ha hx;rw [aN (n:=x) (by omega),aN (by omega)]
theorem aPI(m:Nat)(a0 a1 a2 a3 ac k b0 b1 b2 b3 bc:Int):aII (m+6) ⟨[a0,a1,a2,a3],ac⟩ k ⟨[b0,b1,b2,b3],bc⟩=
  some ⟨[wr (a0+wr (k*b0)),wr (a1+wr (k*b1)),wr (a2+wr (k*b2)),wr (a3+wr (k*b3))],wr (ac+wr (k*bc))⟩:=by kernel_rfl
theorem aLy{n:Nat}(hn:5000≤n){a b:Affine}(ha:bB 1000 a)(hb:bB 1000 b){k:Int}(hk:nD 1000 k):aII n a k b=some (aMz a k b):=by
 obtain⟨m,rfl⟩: ∃m,n=m+6:=⟨n-6,by omega⟩
 obtain⟨ac,a⟩:=a;obtain⟨bc,b⟩:=b;obtain⟨h1,h2,h3⟩:=ha;obtain⟨g1,g2,g3⟩:=hb;dsimp only at h1 h2 h3 g1 g2 g3;obtain⟨a0,a1,a2,a3,rfl⟩:=aQW h1;obtain⟨b0,b1,b2,b3,rfl⟩:=aQW g1;rw [aPI,wrB (h3 a0 (by simp)) (aLd hk (g3 b0 (by simp))),wrB (h3 a1 (by simp)) (aLd hk (g3 b1 (by simp))),wrB (h3 a2 (by simp)) (aLd hk (g3 b2 (by simp))),wrB (h3 a3 (by simp)) (aLd hk (g3 b3 (by simp))),wrB h2 (aLd hk g2)];rfl
theorem aPX(a b:Affine)(k:Int)(ha:a.coefs.length=4)(hb:b.coefs.length=4):(aMz a k b).coefs.length=4:=by unfold aMz;rw [vBz];omega
def aNv(a:Affine)(k:Nat)(b:Affine):Affine:=aMz ⟨a.coefs.set k 0,a.const⟩ (a.coefs.getD k 0) b
theorem aNA{a:Affine}(h:bB 1000 a)(k:Nat):bB 1000 ⟨a.coefs.set k 0,a.const⟩:=⟨by dsimp only;rw [L5];exact h.1,h.2.1,tK h.2.2 ⟨by omega,by omega⟩⟩
theorem aOe{a:Affine}(h:bB 1000 a){k:Nat}(hk:k<4):a.coefs[k]? =some (a.coefs.getD k 0)∧nD 1000 (a.coefs.getD k 0):=by
 have hl:k<a.coefs.length:=by rw [h.1];exact hk
 have e:=cP hl;have e2:a.coefs.getD k 0=a.coefs[k]:=by rw [wW,e];rfl
 rw [e2];exact⟨e,h.2.2 _ (T0 hl)⟩
theorem aG2{n:Nat}(hn:5000≤n){a b:Affine}(ha:bB 1000 a)(hb:bB 1000 b){k:Nat}(hk:k<4):W8 n a (k:Int) b=some (aNv a k b):=by
 obtain⟨h1,h2⟩:=aOe ha hk;have hl:k<a.coefs.length:=by rw [ha.1];exact hk
 unfold W8;rw [aCo n (by have:=ha.1;omega)];refine Ev.eq (aA rfl (aA (aI h1) (aA (cS (by omega) _) (aA (aLy hn (aNA ha k) hb h2) (Ev.some rfl)))))
def noP:Prog×Bool:=(⟨[],[]⟩,false)
theorem tY{p:Prog}{part loop:Int}(h:gG p part loop=true):bF p=true∧ ∃(i k:Nat) (P:Part) (l:Loop),part=i∧loop=k∧p.parts[i]? =some P∧P.nest[k]? =some l∧i<p.parts.length∧k<P.nest.length∧cL p.arrays P=true∧k<4:=by
 unfold gG at h;rw [vBt] at h;obtain⟨hv,h⟩:=h;refine⟨hv,?_⟩;cases hx:ix p.parts part with
 |none=>rw [hx] at h;cases h
 |some P=>
  rw [hx] at h;obtain⟨i,rfl,hi,hP⟩:=aPE hx;obtain⟨h1,h2⟩:=of_decide_eq_true h;obtain⟨l,hl,hl2⟩:=jR h1 h2;have hok:=(gC hv).2.2.2.1 P (cR hP)
  have:=(kK hok).1;exact⟨i,loop.toNat,P,l,rfl,by omega,hP,hl2,hi,by omega,hok,by omega⟩
theorem aEd{p:Prog}(hp:BG 1000 p)(i:Nat){y:Part}(hy:BPt 4 y):BG 1000 ⟨p.arrays,p.parts.set i y⟩:=⟨hp.1,by dsimp only;rw [L5];exact hp.2.1,tK hp.2.2 (hy.mono (by omega))⟩
theorem H3{p:Prog}{part loop:Int}(h:loop<0):gG p part loop=false:=by
 cases hc:gG p part loop with
 |false=>rfl
 |true=>obtain⟨_,i,k,P,l,_,hk,_⟩:=tY hc;omega
theorem aC2{n:Nat}(hn:7000≤n){p:Prog}(hp:BG 1000 p)(part:Int):Ev (qH n p part (-1)) (fun r=>r.2=false→r=noP):=by
 unfold qH;refine Ev.jn (fun z=>z=false→bF p=true∧(0≤part∧part<(p.parts.length:Int))) (fun j hj=>?_) fun z hz=>?_
 ·refine aA (lI hn hp.sm) (Ev.cond (fun h=>hj _ fun h=>by cases h) fun h=>?_);refine aA (xI n hp.2.1 part) (Ev.cond (fun h=>hj _ fun h=>by cases h) fun h2=>cZ (fun h=>(h rfl).elim) fun _=>hj _ fun _=>⟨by simpa using h,by simpa using h2⟩)
 refine Ev.cond (fun _=>Ev.some fun _=>rfl) fun h=>?_;obtain⟨hv,h1,h2⟩:=hz h;obtain⟨x,hx,hx2⟩:=jR h1 h2;exact aA (aGI (by omega) hv) (aA hx (Ev.some fun h=>by cases h))
theorem aKO{α:Type}{l:List α}{i:Nat}{x:α}(h:l[i]? =some x):l.set i x=l:=by
 refine List.ext_getElem? fun j=>?_;by_cases hj:i=j
 ·subst hj;rw [L4 (cX.1 h).1,h]
 rw [vAA hj]
theorem aN8{q:Prog}(h:BG 1000 q):BG 1000 (O4 q).1:=by
 unfold O4;split
 ·exact h
 exact⟨⟨by simp,fun x hx=>by cases hx⟩,by simp,fun x hx=>by cases hx⟩
theorem N2:BG 1000 noP.1:=⟨⟨by simp [noP],fun x hx=>by cases hx⟩,by simp [noP],fun x hx=>by cases hx⟩
def kA(k:Nat)(s:Int):Affine:=⟨[0,0,0,0].set k s,0⟩
theorem oW{α β:Type}{f g:α→β}: ∀{l:List α},(∀x∈l,f x=g x)→l.map f=l.map g
 | [],_=>rfl
 |x::l,h=>by rw [vBV,vBV,h x uW,oW fun y hy=>h y (tH _ hy)]
theorem aLK{p q:Prog}(h:O4 p=(q,true)):q=p∧bF p=true:=by
 unfold O4 at h;split at h
 ·rename_i hv;cases h;exact⟨rfl,hv⟩
 cases h
theorem aIP(m:Int): ∀(a b p:List Int),a.length=b.length→nJ (List.zipWith (fun x y=>x+m*y) a b) p=nJ a p+m*nJ b p
 | [],[],p,_=>by simp [nJ]
 |x::a,y::b,[],_=>by simp [nJ]
 |x::a,y::b,z::p,h=>by simp only [List.zipWith_cons_cons,nJ];rw [aIP m a b p (by simpa using h),Int.add_mul,vBW,Int.mul_assoc];omega
theorem aIQ: ∀(cs p:List Int) (k:Nat) (v:Int),k<p.length→nJ cs (p.set k v)=nJ cs p+cs.getD k 0*(v-p.getD k 0)
 | [],p,k,v,_=>by simp [nJ]
 |c::cs,x::p,0,v,_=>by
  simp only [List.set_cons_zero,nJ,List.getD_cons_zero];rw [vBX];omega
 |c::cs,x::p,k+1,v,h=>by simp only [List.set_cons_succ,nJ,List.getD_cons_succ];rw [aIQ cs p k v (by simpa using h)];omega
theorem aFw: ∀(cs p:List Int) (v:Int),cs.getD p.length 0=0→nJ cs (p++[v])=nJ cs p
 | [],p,v,_=>by simp [nJ]
 |c::cs,[],v,h=>by
  simp only [List.length_nil,List.getD_cons_zero] at h;subst h;cases cs<;>simp [nJ]
 |c::cs,x::p,v,h=>by simp only [List.cons_append,nJ];rw [aFw cs p v (by simpa using h)]
def low(k:Nat)(b:Affine):Prop:= ∀j,k≤j→b.coefs.getD j 0=0
theorem aJJ{α:Type}{l:List α}{v d:α}:(l++[v]).getD l.length d=v:=by rw [wW,vAr (kH _),vBB];rfl
theorem N9{α:Type}{l:List α}{k:Nat}{v d:α}(h:k<l.length):(l++[v]).getD k d=l.getD k d:=by rw [wW,V1 h,wW]
theorem xM{α β:Type}{f g:α→List β}{l:List α}(h: ∀x∈l,f x=g x):l.flatMap f=l.flatMap g:=by rw [List.flatMap_def,List.flatMap_def,oW h]
theorem qE{list:List Arr}{x:Part}(h:cL list x=true):dE x=pts x.nest []:=(aEp (fL h).1).2.2.2.1
theorem aOL{f:Affine→Affine}{t q:List Int}: ∀{ss:List Affine} (ds:List Int) (acc:Int),(∀x∈ss,cC (f x) t=cC x q)→l9 (ss.map f) ds t acc=l9 ss ds q acc
 | [],ds,acc,_=>by cases ds<;>rfl
 |s::ss,[],acc,_=>rfl
 |s::ss,d::ds,acc,h=>by
  simp only [List.map_cons,l9];rw [h s uW];split
  ·exact aOL ds _ fun x hx=>h x (tH _ hx)
  rfl
theorem aHw{f:Affine→Affine}{t q:List Int}{a:Access}(h: ∀x∈a.subs,cC (f x) t=cC x q): ∀(xs:List Arr) (base:Int),dD xs (fV f a) t base=dD xs a q base
 | [],_=>rfl
 |x::xs,base=>by
  have e1:l9 (fV f a).subs x.dims t 0=l9 a.subs x.dims q 0:=aOL _ _ h;have e2:(fV f a).subs.length=a.subs.length:=by simp [fV]
  have e3:(fV f a).array=a.array:=rfl;simp only [dD,e1,e2,e3,aHw h xs]
theorem aIq{d:Int}{f:Affine→Affine}: ∀{L:Nat} {e:Expr},dP L e d=true→b8 L (vU f L e)=(b8 L e).map (fV f)
 |0,_,h=>by cases h
 |L+1,e,h=>by
  obtain⟨hk,ho,hs⟩:=iI h;show(if e.kind=3 then [if e.kind=3 then fV f e.read else⟨[],[]⟩] else [])++(e.kids.map (vU f L)).flatMap (b8 L)=((if e.kind=3 then [e.read] else [])++e.kids.flatMap (b8 L)).map (fV f);rw [vAK,List.flatMap_map,vBv];congr 1
  ·by_cases h3:e.kind=3
   ·simp only [if_pos h3];rfl
   simp only [if_neg h3];rfl
  exact xM fun x hx=>aIq (hs x hx)
theorem aKq{d:Int}{f:Affine→Affine}{t q:List Int}(h: ∀x,bI x=true→cC (f x) t=cC x q)(list:List Arr)(m:List Int): ∀{L:Nat} {e:Expr},dP L e d=true→qZ L list m (vU f L e) t=qZ L list m e q
 |0,_,_=>rfl
 |L+1,e,he=>by
  obtain⟨hk,ho,hs⟩:=iI he;have e1:(vU f (L+1) e).kind=e.kind:=rfl;have e2:(vU f (L+1) e).num=e.num:=rfl;have e5:(vU f (L+1) e).kids=e.kids.map (vU f L):=rfl;unfold qZ;rw [e1,e2,e5];by_cases h1:e.kind=1
  ·rw [if_pos h1,if_pos h1]
  rw [if_neg h1,if_neg h1];by_cases h2:e.kind=2
  ·have e3:(vU f (L+1) e).index=f e.index:=by show(if e.kind=2 then f e.index else _)=_;rw [if_pos h2]
   rw [if_pos h2,if_pos h2,e3,h _ (yV ho h2).1]
  rw [if_neg h2,if_neg h2];by_cases h3:e.kind=3
  ·have e4:(vU f (L+1) e).read=fV f e.read:=by show(if e.kind=3 then fV f e.read else _)=_;rw [if_pos h3]
   rw [if_pos h3,if_pos h3,e4,aHw fun x hx=>h x ((uQ (yU ho h3).1).2.2 x hx)]
  rw [if_neg h3,if_neg h3];obtain⟨kind,num,index,read,kids⟩:=e;dsimp only at hs⊢
  match kids,hs with
  | [],_=>rfl
  | [a],_=>rfl
  | [a,c],hs=>
   simp only [List.map_cons,List.map_nil];rw [aKq h list m (hs a (by simp)),aKq h list m (hs c (by simp))]
  |a::c::e::r,_=>rfl
theorem aIR: ∀{cs:List Int},dC cs=0→ ∀p,nJ cs p=0
 | [],_,_=>by simp [nJ]
 |c::cs,h,[]=>by simp [nJ]
 |c::cs,h,x::p=>by
  have h1:c=0:=v7 (l:=c::cs) (i:=0) rfl (by omega);have h2:dC cs=0:=by
   cases hd:dC cs with
   |zero=>rfl
   |succ k=>unfold dC at h;rw [hd] at h;simp at h
  simp only [nJ];rw [h1,aIR h2];simp
theorem aMu{p:Prog}(hv:bF p=true){x:Inst}(hx:eA p x): ∀{Y:List Inst} {m:List Int},(∀y∈Y,eA p y)→(∀y∈Y,com p x y)→aBD p.arrays m→nC p (runI p m x) Y=runI p (nC p m Y) x
 | [],m,_,_,_=>rfl
 |y::Y,m,h1,h2,hm=>by show nC p (runI p (runI p m x) y) Y=runI p (nC p (runI p m y) Y) x;rw [h2 y uW m hm];exact aMu hv hx (fun z hz=>h1 z (tH _ hz)) (fun z hz=>h2 z (tH _ hz)) (aIn hv hm (h1 y uW))
theorem block{p:Prog}(hv:bF p=true): ∀{X Y:List Inst} {m:List Int},(∀x∈X,eA p x)→(∀y∈Y,eA p y)→(∀x∈X,∀y∈Y,com p x y)→aBD p.arrays m→nC p (nC p m X) Y=nC p (nC p m Y) X
 | [],Y,m,_,_,_,_=>rfl
 |x::X,Y,m,h1,h2,h3,hm=>by show nC p (nC p (runI p m x) X) Y=nC p (runI p (nC p m Y) x) X;rw [block hv (fun z hz=>h1 z (tH _ hz)) h2 (fun z hz=>h3 z (tH _ hz)) (aIn hv hm (h1 x uW)),aMu hv (h1 x uW) h2 (h3 x uW) hm]
def aAx:List Int→List Int→Bool
 |a::as,b::bs=>if a=b then aAx as bs else decide (a<b)
 | [],_::_=>true
 |_,[]=>false
theorem aKT{n:Nat}{p q:List Int}(hn:p.length<n)(hp:p.length≤1000)(hq:q.length≤1000):w7 n p q=some (aAx p q):=by
 unfold w7;refine Ev.eq (Ev.loop (fun x:Int=> ∃i:Nat,x=i∧i≤p.length∧i≤q.length∧aAx (p.drop i) (q.drop i)=aAx p q) (fun x=>p.length-x.toNat) ?_ n 0 ⟨0,rfl,by omega,by omega,rfl⟩ (by omega));rintro again x ⟨i,rfl,h1,h2,hs⟩ hr;refine Ev.jn (fun z=>z=decide (i<p.length∧i<q.length)) (fun j hj=>aG (fun h=>hj _ ?_) fun h=>hj _ ?_) fun z hz=>?_
 ·rw [vBT];simp only [decide_eq_true_eq];omega
 ·exact(decide_eq_false (by omega)).symm
 subst hz;refine aG (fun h=>?_) fun h=>Ev.some ?_
 ·have ha1:=cP h.1;have hb1:=cP h.2;rw [vBh h.1,vBh h.2] at hs;simp only [aAx] at hs;refine aA (aI ha1) (aA (aI hb1) (cZ (fun hne=>Ev.some ?_) fun he=>?_))
  ·rw [if_neg hne] at hs;exact hs
  rw [if_pos he] at hs;rw [aN (by omega)];exact hr _ ⟨i+1,by omega,by omega,by omega,hs⟩ (by omega)
 rw [←hs];by_cases e:i<p.length
 ·have e2:q.drop i=[]:=List.drop_eq_nil_of_le (by omega);rw [e2,vBh e];simp only [aAx];exact decide_eq_false (by omega)
 have e1:p.drop i=[]:=List.drop_eq_nil_of_le (by omega);rw [e1];by_cases e3:i<q.length
 ·rw [vBh e3];simp only [aAx];exact decide_eq_true (by omega)
 rw [List.drop_eq_nil_of_le (show q.length≤i by omega)];simp only [aAx];exact decide_eq_false (by omega)
def aAS(l:List Affine):Bool:=l.all fun a=>decide (dC a.coefs=0)
def H5(l:Loop):Bool:=decide (l.lo.length=1)&&(decide (l.hi.length=1)&&(aAS l.lo&&aAS l.hi))
def rA(l:List Affine):Int:=(l.headD ⟨[],0⟩).const
theorem aAD{n:Nat}(hn:5000≤n){l:List Affine}(h1:l.length≤2)(h2: ∀x∈l,bI x=true):sN n l=some (aAS l):=by
 unfold sN;rw [hJ (p:=fun a=>decide (0<(dC a.coefs:Int))) (fun x hx=>by
  unfold qG;rw [zD hn (show x.coefs.length≤1000 by have:=(d6 (h2 x hx)).1;omega)];rfl) (by omega) (by omega)]
 show some (!l.any _)=_;congr 1;unfold aAS;rw [List.not_any_eq_all_not];congr 1;funext a;by_cases h:dC a.coefs=0
 ·simp [h]
 have:0<(dC a.coefs:Int):=by omega
 simp [h];omega
theorem aLI{n:Nat}(hn:5000≤n){l:Loop}(h:zA l):nY n l=some (if H5 l=true then(rA l.lo,rA l.hi,true) else(0,0,false)):=by
 obtain⟨⟨h1,h2⟩,h3,h4⟩:=h;unfold nY;refine Ev.eq (Ev.jn (fun z=>z= !H5 l) (fun j hj=>?_) fun z hz=>?_)
 ·refine cZ (fun h=>hj _ ?_) fun h=>cZ (fun h'=>hj _ ?_) fun h'=>aA (aAD hn h1 h2) (Ev.cond (fun h5=>hj _ ?_) fun h5=>aA (aAD hn h3 h4) (hj _ ?_))
  ·unfold H5;rw [decide_eq_false (show¬l.lo.length=1 by omega)];rfl
  ·unfold H5;rw [decide_eq_false (show¬l.hi.length=1 by omega),Bool.false_and,vBm];rfl
  ·unfold H5;rw [show aAS l.lo=false by simpa using h5];simp
  unfold H5;rw [show aAS l.lo=true by simpa using h5,decide_eq_true (show l.lo.length=1 by omega),decide_eq_true (show l.hi.length=1 by omega)];rfl
 subst hz;cases hf:H5 l with
 |false=>exact bZ (Ev.some rfl)
 |true=>
  refine b7 ?_;unfold H5 at hf;simp only [Bool.and_eq_true,decide_eq_true_eq] at hf;obtain⟨e1,e2,_⟩:=hf;obtain⟨x,hx⟩:=vBP.1 e1;obtain⟨y,hy⟩:=vBP.1 e2;rw [hx,hy];exact aA (x:=x) rfl (aA (x:=y) rfl (Ev.some rfl))
end Go.Lift
