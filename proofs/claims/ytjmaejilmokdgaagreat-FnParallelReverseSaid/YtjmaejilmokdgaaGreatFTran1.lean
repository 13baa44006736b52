/- Two programs that do the same. -/
import Derived.Test.YtjmaejilmokdgaaGreatFRun1
import Derived.Test.YtjmaejilmokdgaaGreatFDraw1
import Derived.Test.YtjmaejilmokdgaaGreatFDrawD
set_option maxRecDepth 100000
set_option linter.unusedVariables false
namespace Go.Lift
open Go
theorem T1{α β R:Type}{l:List α}{F:α→(β→Option R)→Option R}{g:α→β}{K:List β→Option R}{Q:R→Prop}{n:Nat}(hF: ∀x∈l,∀k:β→Option R,Ev (k (g x)) Q→Ev (F x k) Q)
  {s:Nat} (hs:s≤l.length) {pre:List β} (hp:pre.length≤1000) (hl:l.length≤1000) (hn:5000≤n) (hK:Ev (K (pre++(l.drop s).map g)) Q):
  Ev (aM (fun again ((x,i):List β×Int)=>bif decide (i<(l.length:Int)) then(Option.bind (ix l i) fun y=>F y fun z=>Option.bind (app x [z]) fun w=>again (w,wr (i+1))) else K x) n (pre,(s:Int))) Q:=by
 refine Ev.loop (fun z:List β×Int=> ∃i:Nat,z.2=i∧s≤i∧i≤l.length∧z.1=pre++((l.drop s).take (i-s)).map g) (fun z=>l.length-z.2.toNat) ?_ n _ ⟨s,rfl,by omega,by omega,by simp⟩ (by dsimp only;omega);rintro again ⟨x,z⟩ ⟨i,hz,hsi,hi,hx⟩ hr;dsimp only at hz hx⊢;subst hz;refine aH (fun hlt=>?_) fun hge=>?_
 ·have hg:=cD (show i<l.length by omega);have hxl:x.length≤2000:=by rw [hx,nY,mU,pS,vAU];omega
  refine aA (aN hg) (hF _ (cK hg) _ (aA (bU (by simp;omega)) ?_));rw [aK (by omega)];refine hr _ ⟨i+1,by dsimp only;omega,by omega,by omega,?_⟩ (by dsimp only;omega);dsimp only;rw [show i+1-s=(i-s)+1 by omega,v7,vAE,show s+(i-s)=i by omega,hg,hx,vAI,vAO];rfl
 have:i=l.length:=by omega
 subst this;rw [hx,vBg (by rw [vAU];omega)];exact hK
theorem zI{α β R:Type}{l:List α}{f:α→Option β}{g:α→β}{K:List β→Option R}{Q:R→Prop}{n:Nat}(hf: ∀x∈l,f x=some (g x))(hl:l.length≤1000)(hn:5000≤n)(hK:Ev (K (l.map g)) Q):
  Ev (aM (fun again ((x,i):List β×Int)=>bif decide (i<(l.length:Int)) then(Option.bind (ix l i) fun y=>Option.bind (f y) fun z=>Option.bind (app x [z]) fun w=>again (w,wr (i+1))) else K x) n ([],0)) Q:=
 T1 (F:=fun y k=>Option.bind (f y) k) (g:=g) (s:=0) (pre:=[]) (fun x hx k hk=>aA (hf x hx) hk) (by omega) (by simp) hl hn (by simpa using hK)
theorem aBT{α R:Type}{l:List α}{F:α→(α→Option R)→Option R}{W:List α→Option R→Option R}{m:List α→Int}{g:α→α}{K:List α→Option R}{Q:R→Prop}{n:Nat}
  (hW: ∀y o,y.length=l.length→Ev o Q→Ev (W y o) Q) (hm: ∀y:List α,y.length=l.length→m y=(l.length:Int))
  {s:Nat} (hs:s≤l.length) (hF: ∀x∈l,∀k:α→Option R,Ev (k (g x)) Q→Ev (F x k) Q) (hl:l.length≤1000) (hn:5000≤n) (hK:Ev (K (l.take s++(l.drop s).map g)) Q):
  Ev (aM (fun again ((y,i):List α×Int)=>W y (bif decide (i<m y) then(Option.bind (ix y i) fun x=>F x fun z=>Option.bind (dY y i z) fun w=>again (w,wr (i+1))) else K y)) n (l,(s:Int))) Q:=by
 refine Ev.loop (fun z:List α×Int=> ∃i:Nat,z.2=i∧s≤i∧i≤l.length∧z.1=l.take s++((l.drop s).take (i-s)).map g++l.drop i) (fun z=>l.length-z.2.toNat) ?_ n _ ⟨s,rfl,by omega,by omega,by simp⟩ (by dsimp only;omega);rintro again ⟨x,z⟩ ⟨i,hz,hsi,hi,hx⟩ hr;dsimp only at hz hx⊢;subst hz;have hpl:(l.take s++((l.drop s).take (i-s)).map g).length=i:=by rw [nY,mU,pS,pS,vAU];omega
 have hxl:x.length=l.length:=by rw [hx,nY,hpl,vAU];omega
 refine hW _ _ hxl ?_;rw [hm _ hxl];refine aH (fun hlt=>?_) fun hge=>?_
 ·obtain⟨e,hg⟩: ∃e,l[i]? =some e:=⟨_,cD (show i<l.length by omega)⟩
  have hgx:x[i]? =some e:=by
   rw [hx,vAr (by omega),hpl,vBC,vAE];exact hg
  refine aA (aN hgx) (hF _ (cK hg) _ (aA (d4 (by omega) _) ?_));rw [aK (by omega)];refine hr _ ⟨i+1,by dsimp only;omega,by omega,by omega,?_⟩ (by dsimp only;omega);dsimp only;rw [hx,sZ,vBU _ _ (by omega),hpl,vBC,kI hg,List.set_cons_zero,show i+1-s=(i-s)+1 by omega,v7,vAE,show s+(i-s)=i by omega,hg];simp
 have:i=l.length:=by omega
 subst this;rw [hx,vBg (l:=l.drop s) (by rw [vAU];omega),vBw,vBm];exact hK
def fR(f:Affine→Affine)(a:Access):Access:=⟨a.array,a.subs.map f⟩
def wB(f:Affine→Affine):Nat→Expr→Expr
 |0,e=>e
 |L+1,e=>⟨e.kind,e.num,if e.kind=2 then f e.index else⟨[],0⟩,if e.kind=3 then fR f e.read else⟨[],[]⟩,e.kids.map (wB f L)⟩
def T0(f:Affine→Affine)(s:Stmt):Stmt:=⟨fR f s.write,wB f 5 s.value⟩
def kP(f:Affine→Affine)(l:Loop):Loop:=⟨l.lo.map f,l.hi.map f⟩
theorem D8{e:Expr}{d:Int}(h:fN e d=true)(hk:e.kind=2):b8 e.index=true∧l9 e.read=true:=by unfold fN b6 at h;rw [if_pos hk] at h;simp only [Bool.and_eq_true] at h;exact⟨h.2.2.1,h.2.1⟩
theorem D7{e:Expr}{d:Int}(h:fN e d=true)(hk:e.kind=3):gN e.read d=true∧iX e.index=true:=by unfold fN at h;rw [if_neg (by omega),if_pos hk] at h;simp only [Bool.and_eq_true] at h;exact⟨h.2.2,h.2.1⟩
theorem aFd{e:Expr}{d:Int}(h:fN e d=true)(h2: ¬e.kind=2)(h3: ¬e.kind=3):iX e.index=true∧l9 e.read=true:=by unfold fN at h;rw [if_neg h2,if_neg h3] at h;split at h<;>simp only [Bool.and_eq_true] at h<;>exact⟨h.2.1,h.2.2⟩
theorem zC{a:Affine}(h:iX a=true):a=⟨[],0⟩:=by obtain⟨c,k⟩:=a;simp only [iX,Bool.and_eq_true,decide_eq_true_eq] at h;obtain⟨h1,rfl⟩:=h;rw [vAC h1]
theorem zD{a:Access}(h:l9 a=true):a=⟨[],[]⟩:=by obtain⟨c,k⟩:=a;simp only [l9,Bool.and_eq_true,decide_eq_true_eq] at h;obtain⟨rfl,h1⟩:=h;rw [vAC h1]
theorem uF{n:Nat}(hn:5000≤n){a:Access}{d:Int}(ha:gN a d=true){F:Affine→Option Affine}{f:Affine→Affine}(hF: ∀x,b8 x=true→F x=some (f x)):jP n a F=some (fR f a):=by obtain⟨h1,h2,h3⟩:=uS ha;refine Ev.eq ?_;unfold jP;exact zI (K:=fun x1=>some (⟨a.array,x1⟩:Access)) (fun x hx=>hF x (h3 x hx)) (by omega) hn (Ev.some rfl)
theorem zS{d:Int}{F:Affine→Option Affine}{f:Affine→Affine}(hF: ∀x,b8 x=true→F x=some (f x)): ∀(L n:Nat) (e:Expr),5000+L≤n→dI L e d=true→i_exprMap (n+1) e F=some (wB f L e)
 |0,_,_,_,h=>by cases h
 |L+1,n,e,hn,h=>by
  obtain⟨hk,ho,hs⟩:=iB h;obtain⟨n,rfl⟩: ∃j,n=j+1:=⟨n-1,by omega⟩
  have hkl:e.kids.length≤2:=by have:=nJ e.kind;omega
  unfold i_exprMap;refine Ev.eq (Ev.jn (fun z=>(⟨z.1,z.2.1⟩:Affine)=(if e.kind=2 then f e.index else⟨[],0⟩)∧(⟨z.2.2.1,z.2.2.2⟩:Access)=(if e.kind=3 then fR f e.read else⟨[],[]⟩)) (fun j hj=>?_) fun z hz=>?_)
  ·refine aH (fun h2=>?_) fun h2=>aH (fun h3=>?_) fun h3=>?_
   ·exact aA (hF _ (D8 ho h2).1) (hj _ ⟨by rw [if_pos h2],by rw [if_neg (by omega)]⟩)
   ·exact aA (uF (by omega) (D7 ho h3).1 hF) (hj _ ⟨by rw [if_neg h2],by rw [if_pos h3]⟩)
   exact hj _ ⟨by rw [if_neg h2],by rw [if_neg h3]⟩
  obtain⟨x4,x5,x6,x7⟩:=z;obtain⟨z1,z2⟩:=hz;dsimp only at z1 z2⊢;refine zI (K:=fun x8=>some (⟨e.kind,e.num,(⟨x4,x5⟩:Affine),(⟨x6,x7⟩:Access),x8⟩:Expr)) (fun x hx=>zS hF L n x (by omega) (hs x hx)) (by omega) (by omega) (Ev.some ?_);rw [z1,z2];rfl
theorem zQ{n:Nat}(hn:6000≤n){s:Stmt}{d:Int}(hs:fM s d=true){F:Affine→Option Affine}{f:Affine→Affine}(hF: ∀x,b8 x=true→F x=some (f x)):jO n s F=some (T0 f s):=by
 obtain⟨h1,h2,_⟩:=jT hs;obtain⟨n,rfl⟩: ∃j,n=j+1:=⟨n-1,by omega⟩
 unfold jO;rw [uF (by omega) h1 hF,zS hF 5 n s.value (by omega) h2];rfl
theorem aB9{α:Type}{f:α→α}: ∀{l:List α},(∀x∈l,f x=x)→l.map f=l
 | [],_=>rfl
 |x::l,h=>by rw [vBY,h x uV,aB9 fun y hy=>h y (q8 _ hy)]
theorem aBe{f:Affine→Affine}{a:Access}{d:Int}(ha:gN a d=true)(hf: ∀x,b8 x=true→f x=x):fR f a=a:=by obtain⟨h1,h2,h3⟩:=uS ha;unfold fR;rw [aB9 fun x hx=>hf x (h3 x hx)]
theorem aGQ{d:Int}{f:Affine→Affine}(hf: ∀x,b8 x=true→f x=x): ∀{L:Nat} {e:Expr},dI L e d=true→wB f L e=e
 |0,_,_=>rfl
 |L+1,e,h=>by
  obtain⟨hk,ho,hs⟩:=iB h;obtain⟨kind,num,index,read,kids⟩:=e;unfold wB;dsimp only at hk ho hs⊢;rw [aB9 fun x hx=>aGQ hf (hs x hx)];by_cases h2:kind=2
  ·have e1:=D8 ho h2;dsimp only at e1;rw [if_pos h2,if_neg (by omega),hf _ e1.1,zD e1.2]
  by_cases h3:kind=3
  ·have e1:=D7 ho h3;dsimp only at e1;rw [if_neg h2,if_pos h3,aBe e1.1 hf,zC e1.2]
  have e1:=aFd ho h2 h3;dsimp only at e1;rw [if_neg h2,if_neg h3,zC e1.1,zD e1.2]
theorem aLM{f:Affine→Affine}(hf: ∀x,b8 x=true→f x=x){s:Stmt}{d:Int}(hs:fM s d=true):T0 f s=s:=by obtain⟨h1,h2,_⟩:=jT hs;unfold T0;rw [aBe h1 hf,aGQ hf h2]
def aAp(l:Loop):Prop:=(l.lo.length≤2∧ ∀x∈l.lo,b8 x=true)∧l.hi.length≤2∧ ∀x∈l.hi,b8 x=true
theorem aNE{nest:List Loop}(h:Fit nest): ∀l∈nest,aAp l:=fun l hl=>by
 obtain⟨i,hi⟩:=vAG.1 hl
 have:=h.2 i l hi;exact⟨(tM this.1).2,(tM this.2).2⟩
theorem jZ{list:List Arr}{x:Part}(h:cP list x=true):x.nest.length≤4∧ ∀l∈x.nest,aAp l:=by have:=(aEF (iW h).1).1;exact⟨this.1,aNE this⟩
theorem aME{a:Affine}(h:b8 a=true):BA 4 a:=by have:=(jG h).1;unfold BA;omega
theorem aCJ{l:List Affine}(h1:l.length≤2)(h2: ∀x∈l,b8 x=true):BAs 4 l:=⟨by omega,fun a ha=>aME (h2 a ha)⟩
theorem aMD{d:Int}: ∀{L:Nat} {e:Expr},dI L e d=true→BE 4 L e
 |0,_,h=>by cases h
 |L+1,e,h=>by
  obtain⟨hk,ho,hs⟩:=iB h
  have:=nJ e.kind;refine⟨by omega,?_,?_,fun k hk=>aMD (hs k hk)⟩
  ·by_cases h2:e.kind=2
   ·exact aME (D8 ho h2).1
   by_cases h3:e.kind=3
   ·rw [zC (D7 ho h3).2];unfold BA;simp
   rw [zC (aFd ho h2 h3).1];unfold BA;simp
  by_cases h3:e.kind=3
  ·have:=uS (D7 ho h3).1;exact aCJ this.2.1 this.2.2
  by_cases h2:e.kind=2
  ·rw [zD (D8 ho h2).2];exact⟨by simp,fun x hx=>by cases hx⟩
  rw [zD (aFd ho h2 h3).2];exact⟨by simp,fun x hx=>by cases hx⟩
theorem aOY{s:Stmt}{d:Int}(hs:fM s d=true):BS 4 s:=by
 obtain⟨h1,h2,_⟩:=jT hs
 have:=uS h1;exact⟨aCJ this.2.1 this.2.2,aMD h2⟩
theorem aNP{list:List Arr}{x:Part}(h:cP list x=true):BPt 4 x:=by obtain⟨h1,h2⟩:=jZ h;obtain⟨_,h4,h5,_⟩:=iW h;exact⟨⟨h1,fun l hl=>⟨aCJ (h2 l hl).1.1 (h2 l hl).1.2,aCJ (h2 l hl).2.1 (h2 l hl).2.2⟩⟩,h4.2,fun s hs=>aOY (h5 s hs)⟩
theorem aOZ{l:List Arr}(h1:l.length≤4)(h2:jE l):BR 4 l:=⟨h1,fun x hx=>by have:=h2 x hx;simp only [iQ,Bool.and_eq_true,decide_eq_true_eq] at this;omega⟩
theorem O0{B:Nat}{l:List Affine}{f:Affine→Affine}(h:l.length≤B)(hf: ∀x∈l,BA B (f x)):BAs B (l.map f):=⟨by rw [mU];exact h,fun a ha=>by obtain⟨x,hx,rfl⟩:=C8.1 ha;exact hf x hx⟩
theorem aKt{d:Int}{f:Affine→Affine}(hf: ∀x,b8 x=true→BA 4 (f x)): ∀{L:Nat} {e:Expr},dI L e d=true→BE 4 L (wB f L e)
 |0,_,h=>by cases h
 |L+1,e,h=>by
  obtain⟨hk,ho,hs⟩:=iB h
  have:=nJ e.kind;unfold wB BE;refine⟨by dsimp only;rw [mU];omega,?_,?_,fun k hk=>?_⟩
  ·dsimp only;by_cases h2:e.kind=2
   ·rw [if_pos h2];exact hf _ (D8 ho h2).1
   rw [if_neg h2];unfold BA;simp
  ·dsimp only;by_cases h3:e.kind=3
   ·rw [if_pos h3]
    have:=uS (D7 ho h3).1;exact O0 (by omega) fun x hx=>hf x (this.2.2 x hx)
   rw [if_neg h3];exact⟨by simp,fun x hx=>by cases hx⟩
  obtain⟨x,hx,rfl⟩:=C8.1 hk;exact aKt hf (hs x hx)
theorem aNO{f:Affine→Affine}(hf: ∀x,b8 x=true→BA 4 (f x)){s:Stmt}{d:Int}(hs:fM s d=true):BS 4 (T0 f s):=by
 obtain⟨h1,h2,_⟩:=jT hs
 have:=uS h1;exact⟨O0 (by omega) fun x hx=>hf x (this.2.2 x hx),aKt hf h2⟩
theorem aMd{f:Affine→Affine}(hf: ∀x,b8 x=true→BA 4 (f x)){l:Loop}(h:aAp l):BAs 4 (kP f l).lo∧BAs 4 (kP f l).hi:=
 ⟨O0 (by have:=h.1.1;omega) fun x hx=>hf x (h.1.2 x hx),O0 (by have:=h.2.1;omega) fun x hx=>hf x (h.2.2 x hx)⟩
theorem aA6(n:Nat){a:Affine}(h:a.coefs.length≤1000):dR n a=some a:=by unfold dR m_ownClone;rw [if_pos (by omega)];rfl
theorem aA5(n:Nat): ∀x,b8 x=true→dR n x=some x:=fun x hx=>aA6 n (by have:=(jG hx).1;omega)
theorem R6{n:Nat}(hn:5000≤n){l:List Affine}(h1:l.length≤2)(h2: ∀x∈l,b8 x=true):fT n l=some l:=by unfold fT;refine Ev.eq (zI (g:=fun x=>x) (K:=fun x1=>some x1) (fun x hx=>aA5 n x (h2 x hx)) (by omega) hn (Ev.some ?_));simp
theorem aFe{n:Nat}(hn:5000≤n){nest:List Loop}(h1:nest.length≤4)(h2: ∀l∈nest,aAp l):qJ n nest=some nest:=by unfold qJ;refine Ev.eq ?_;refine T1 (β:=Loop) (l:=nest) (n:=n) (F:=fun x5 k=>Option.bind (fT n x5.lo) fun x6=>Option.bind (fT n x5.hi) fun x7=>k (⟨x6,x7⟩:Loop)) (g:=fun x=>x) (s:=0) (pre:=[]) (K:=fun x1=>some x1) ?_ (by omega) (by simp) (by omega) hn (Ev.some (by simp));exact fun x hx k hk=>aA (R6 hn (h2 x hx).1.1 (h2 x hx).1.2) (aA (R6 hn (h2 x hx).2.1 (h2 x hx).2.2) hk)
theorem aFb{n:Nat}(hn:6000≤n){s:Stmt}{d:Int}(hs:fM s d=true):vQ n s=some s:=by unfold vQ;rw [zQ hn hs (F:=fun q0=>dR n q0) (f:=fun x=>x) (aA5 n),aLM (fun _ _=>rfl) hs];rfl
theorem aFc{n:Nat}(hn:6000≤n){list:List Arr}{x:Part}(h:cP list x=true):m5 n x=some x:=by obtain⟨h1,h2⟩:=jZ h;obtain⟨_,h4,h5,_⟩:=iW h;unfold m5;refine Ev.eq (aA (aFe (by omega) h1 h2) (zI (g:=fun x=>x) (K:=fun x2=>some (⟨x.nest,x2⟩:Part)) (fun s hs=>aFb hn (h5 s hs)) (by omega) (by omega) (Ev.some ?_)));simp
theorem aFa{n:Nat}(hn:6000≤n){p:Prog}(h:bO p=true):gH n p=some p:=by
 obtain⟨h1,h2,h3,h4,_⟩:=eN h;unfold gH;refine Ev.eq (T1 (F:=fun x5 k=>Option.bind (m_ownClone x5.dims) fun x6=>k (⟨x5.name,x6⟩:Arr)) (g:=fun x=>x) (s:=0) (pre:=[]) (K:=fun x1=>aM (fun again11 ((x8,x9):(List Part)×Int)=>
    bif decide (x9<(p.parts.length:Int)) then(
     Option.bind (ix p.parts x9) fun x12=>
     Option.bind (m5 n x12) fun x13=>
     Option.bind (app x8 [x13]) fun x14=>
     again11 (x14,wr (x9+1))
    ) else(
     some (⟨x1,x8⟩:Prog)
    )
   ) n ([],0)) (fun x hx k hk=>aA (x:=x.dims) ?_ hk) (by omega) (by simp) (by omega) (by omega) ?_)
 ·have:=(aOZ h1 h2).2 x hx;unfold m_ownClone;rw [if_pos (by omega)]
 refine zI (g:=fun x=>x) (K:=fun x8=>some (⟨_,x8⟩:Prog)) (fun x hx=>aFc hn (h4 x hx)) (by omega) (by omega) (Ev.some ?_);simp
theorem fP{α:Type}{a b:List α}(h:b.length=a.length):iC a b=some ():=by unfold iC;rw [if_pos h]
theorem aAq{n:Nat}(hn:5000≤n){l:Loop}(hl:aAp l){F:Affine→Option Affine}{f:Affine→Affine}(hF: ∀x,b8 x=true→F x=some (f x)):lL n l F=some (kP f l):=by
 obtain⟨⟨a1,a2⟩,b1,b2⟩:=hl;unfold lL;refine Ev.eq (Ev.loop (fun z:Loop×Int=>(z.2=0∧z.1=l)∨(z.2=1∧z.1=⟨l.lo.map f,l.hi⟩)∨(z.2=2∧z.1=kP f l)) (fun z=>3-z.2.toNat) ?_ n _ (.inl ⟨rfl,rfl⟩) (by dsimp only;omega));rintro again ⟨x,i⟩ hz hr;dsimp only at hz hr⊢;rcases hz with ⟨rfl,rfl⟩|⟨rfl,rfl⟩|⟨rfl,rfl⟩
 ·refine aA (fP rfl) (aA (fP rfl) (aH (fun _=>aH (fun _=>?_) fun h=>(h rfl).elim) fun h=>absurd h (by omega)));refine aBT (F:=fun x k=>Option.bind (F x) k) (W:=fun _ o=>o) (m:=fun _=>(x.lo.length:Int)) (g:=f) (s:=0) (K:=fun y=>again ((⟨y,x.hi⟩:Loop),wr (0+1))) (fun _ _ _ h=>h) (fun _ _=>rfl) (by omega) (fun x hx k hk=>aA (hF x (a2 x hx)) hk) (by omega) hn ?_;rw [aK (by omega)];exact hr _ (.inr (.inl ⟨by dsimp only;omega,by simp⟩)) (by dsimp only;omega)
 ·refine aA (fP (by simp)) (aA (fP rfl) (aH (fun _=>aH (fun h=>absurd h (by omega)) fun _=>aH (fun _=>?_) fun h=>(h rfl).elim) fun h=>absurd h (by omega)));refine aBT (F:=fun x k=>Option.bind (F x) k) (W:=fun _ o=>o) (m:=fun _=>(l.hi.length:Int)) (g:=f) (s:=0) (K:=fun y=>again ((⟨l.lo.map f,y⟩:Loop),wr (1+1))) (fun _ _ _ h=>h) (fun _ _=>rfl) (by omega) (fun x hx k hk=>aA (hF x (b2 x hx)) hk) (by omega) hn ?_;rw [aK (by omega)];exact hr _ (.inr (.inr ⟨by dsimp only;omega,by simp [kP]⟩)) (by dsimp only;omega)
 refine aA (fP (by simp [kP])) (aA (fP (by simp [kP])) (aH (fun h=>absurd h (by omega)) fun _=>Ev.some rfl))
theorem aAn{n:Nat}(hn:6000≤n){nest:List Loop}{body:List Stmt}{s:Nat}(hs:s≤nest.length)(h1:nest.length≤4)(h2: ∀l∈nest.drop s,aAp l){d:Int}(h3:body.length≤4)(h4: ∀s∈body,fM s d=true){F:Affine→Option Affine}{f:Affine→Affine}(hF: ∀x,b8 x=true→F x=some (f x)):
  lK n ⟨nest,body⟩ (s:Int) F=some ⟨nest.take s++(nest.drop s).map (kP f),body.map (T0 f)⟩:=by
 have key: ∀(nest2:List Loop),Ev (aM (fun again2 ((y,j):(List Stmt)×Int)=>
    Option.bind (iC body y) fun x5=>
    bif decide (j<(body.length:Int)) then(
     Option.bind (ix y j) fun x6=>
     Option.bind (jO n x6 F) fun x7=>
     Option.bind (dY y j x7) fun x8=>
     again2 (x8,wr (j+1))
    ) else(
     some (⟨nest2,y⟩:Part)
    )
   ) n (body,0)) (fun r=>r=⟨nest2,body.map (T0 f)⟩):=fun nest2=>
  aBT (F:=fun x k=>Option.bind (jO n x F) k) (W:=fun y o=>Option.bind (iC body y) fun _=>o) (m:=fun _=>(body.length:Int)) (g:=T0 f) (s:=0) (K:=fun y=>some (⟨nest2,y⟩:Part)) (fun y o h ho=>aA (fP h) ho) (fun _ _=>rfl) (by omega) (fun x hx k hk=>aA (zQ hn (h4 x hx) hF) hk) (by omega) (by omega) (Ev.some (by simp))
 unfold lK;refine Ev.eq ?_
 -- the loops ahead stay: only those behind are changed
 refine Ev.loop (fun z:List Loop×Int=> ∃i:Nat,z.2=i∧s≤i∧i≤nest.length∧z.1=nest.take s++((nest.drop s).take (i-s)).map (kP f)++nest.drop i) (fun z=>nest.length-z.2.toNat) ?_ n _ ⟨s,rfl,by omega,by omega,by simp⟩ (by dsimp only;omega);rintro again ⟨x,z⟩ ⟨i,hz,hsi,hi,hx⟩ hr;dsimp only at hz hx⊢;subst hz;have hpl:(nest.take s++((nest.drop s).take (i-s)).map (kP f)).length=i:=by rw [nY,mU,pS,pS,vAU];omega
 have hxl:x.length=nest.length:=by rw [hx,nY,hpl,vAU];omega
 refine aA (fP hxl) (aH (fun hlt=>?_) fun hge=>?_)
 ·obtain⟨e,hg⟩: ∃e,nest[i]? =some e:=⟨_,cD (show i<nest.length by omega)⟩
  have hgx:x[i]? =some e:=by
   rw [hx,vAr (by omega),hpl,vBC,vAE];exact hg
  have he:e∈nest.drop s:=vAG.2 ⟨i-s,by rw [vAE,show s+(i-s)=i by omega];exact hg⟩;refine aA (aN hgx) (aA (aAq (by omega) (h2 _ he) hF) (aA (d4 (by omega) _) ?_));rw [aK (by omega)];refine hr _ ⟨i+1,by dsimp only;omega,by omega,by omega,?_⟩ (by dsimp only;omega);dsimp only;rw [hx,sZ,vBU _ _ (by omega),hpl,vBC,kI hg,List.set_cons_zero,show i+1-s=(i-s)+1 by omega,v7,vAE,show s+(i-s)=i by omega,hg];simp
 have:i=nest.length:=by omega
 subst this;rw [hx,vBg (l:=nest.drop s) (by rw [vAU];omega),vBw,vBm];exact key _
def eO(p:Prog)(part loop:Int):Bool:=bO p&&match ix p.parts part with
 |some x=>decide (0≤loop∧loop<(x.nest.length:Int))
 |none=>false
theorem aGW{α:Type}{l:List α}{i:Int}(h: ¬(0≤i∧i<(l.length:Int))):ix l i=none:=by
 cases hx:ix l i with
 |none=>rfl
 |some x=>
  obtain⟨h1,h2⟩:=rO hx
  have:=(cI.1 h2).1;exact absurd ⟨h1,by omega⟩ h
theorem aNx{α:Type}{l:List α}{i:Int}{x:α}(h:ix l i=some x): ∃k:Nat,i=k∧k<l.length∧l[k]? =some x:=by obtain⟨h1,h2⟩:=rO h;exact⟨i.toNat,by omega,(cI.1 h2).1,h2⟩
theorem qF(n:Nat){p:Prog}(h:p.parts.length≤1000)(part:Int):cC n p part=some (decide (0≤part∧part<(p.parts.length:Int))):=by unfold cC;rw [d8,aK (by omega)];exact congrArg some (decide_eq_decide.2 (by omega))
theorem aKs{n:Nat}(hn:7000≤n){p:Prog}(hp:BG 1000 p)(part loop:Int)(hl:loop≠ -1):rV n p part loop=some (if eO p part loop=true then(p,true) else(⟨[],[]⟩,false)):=by
 unfold rV;refine Ev.eq (Ev.jn (fun z=>z= !eO p part loop) (fun j hj=>?_) fun z hz=>?_)
 ·refine aA (kH hn hp.sm) (Ev.cond (fun h=>?_) fun h=>?_)
  ·refine hj _ ?_;unfold eO;rw [show bO p=false by simpa using h];rfl
  have hv:bO p=true:=by simpa using h
  refine aA (qF n hp.2.1 part) ?_;by_cases hi:0≤part∧part<(p.parts.length:Int)
  ·obtain⟨x,hx,hx2⟩:=iM hi.1 hi.2;rw [decide_eq_true hi];refine bV (dH (fun _=>aA (x:=eO p part loop) ?_ (hj _ rfl)) fun h=>absurd h hl);unfold dN;refine Ev.eq (Ev.jn (fun z=>z=eO p part loop) (fun j hj=>?_) fun z hz=>Ev.some hz);rw [qF n hp.2.1 part,decide_eq_true hi];refine aA rfl (cE (aA hx ?_))
   have:=(hp.2.2 x (cK hx2)).1.1;rw [aK (by omega),d8];refine aA rfl (hj _ ?_);unfold eO;rw [hv,hx];exact decide_eq_decide.2 (by omega)
  rw [decide_eq_false hi];refine cE (hj _ ?_);unfold eO;rw [aGW hi,vBp];rfl
 subst hz;by_cases hc:eO p part loop=true
 ·rw [hc];have hv:bO p=true:=by unfold eO at hc;rw [vBA] at hc;exact hc.1
  obtain⟨x,hx⟩: ∃x,ix p.parts part=some x:=by
   cases hx:ix p.parts part with
   |some x=>exact⟨x,rfl⟩
   |none=>unfold eO at hc;rw [hx,vBp] at hc;cases hc
  exact bV (aA (aFa (by omega) hv) (aA hx (Ev.some rfl)))
 rw [show eO p part loop=false by simpa using hc];exact cE (Ev.some rfl)
def aDV(q:Prog):Prog×Bool:=if bO q=true then(q,true) else(⟨[],[]⟩,false)
theorem aDU{n:Nat}(hn:7000≤n){p:Prog}(hp:BG 1000 p):rU n p=some (aDV p):=by
 unfold rU aDV;refine Ev.eq (aA (kH hn hp.sm) (Ev.cond (fun h=>Ev.some ?_) fun h=>?_))
 ·rw [if_neg (by simpa using h)]
 have hv:bO p=true:=by simpa using h
 rw [if_pos hv];exact aA (aFa (by omega) hv) (Ev.some rfl)
theorem aNB{n:Nat}(hn:7000≤n){p:Prog}(hp:BG 1000 p)(part loop:Int):M3 n p part loop=some (eO p part loop):=by
 unfold M3;refine Ev.eq (Ev.jn (fun z=>z=eO p part loop) (fun j hj=>?_) fun z hz=>Ev.some hz);refine aA (jV hn hp.sm) (Ev.cond (fun hv=>?_) fun hv=>hj _ (by unfold eO;rw [hv];rfl));refine aH (fun h1=>aH (fun h2=>?_) fun h2=>?_) fun h1=>?_
 ·obtain⟨x,hx,hx2⟩:=iM h1 h2;refine aH (fun h3=>aA hx (hj _ ?_)) fun h3=>hj _ ?_
  ·unfold eO;rw [hv,hx];exact decide_eq_decide.2 (by omega)
  unfold eO;rw [hv,hx];exact(decide_eq_false (by omega)).symm
 ·exact hj _ (by unfold eO;rw [aGW (by omega),vBp])
 exact hj _ (by unfold eO;rw [aGW (by omega),vBp])
def aKw(a:Affine)(k:Int)(b:Affine):Affine:=⟨List.zipWith (fun x y=>x+k*y) a.coefs b.coefs,a.const+k*b.const⟩
def bB(m:Int)(a:Affine):Prop:=a.coefs.length=4∧lV m a.const∧ ∀c∈a.coefs,lV m c
theorem bB.mono{m m':Int}{a:Affine}(h:bB m a)(hm:m≤m'):bB m' a:=⟨h.1,⟨by have:=h.2.1.1;omega,by have:=h.2.1.2;omega⟩,fun c hc=>⟨by have:=(h.2.2 c hc).1;omega,by have:=(h.2.2 c hc).2;omega⟩⟩
theorem aOK{l:List Int}(h:l.length=4): ∃a b c d,l=[a,b,c,d]:=by
 match l,h with
 | [a,b,c,d],_=>exact⟨a,b,c,d,rfl⟩
theorem aNR{a:Affine}(h:b8 a=true):bB 99 a:=by obtain⟨h1,h2,h3⟩:=jG h;exact⟨h1,h2,fun c hc=>⟨by have:=(h3 c hc).1;omega,by have:=(h3 c hc).2;omega⟩⟩
theorem aJh{k b:Int}(hk:lV 1000 k)(hb:lV 1000 b):lV 1000000 (k*b):=aGM (by omega) (by omega) hk hb
theorem wrB{a x:Int}(ha:lV 1000 a)(hx:lV 1000000 x):wr (a+wr x)=a+x:=by unfold lV at ha hx;rw [aK (n:=x) (by omega),aK (by omega)]
theorem aNA(m:Nat)(a0 a1 a2 a3 ac k b0 b1 b2 b3 bc:Int):aGZ (m+6) ⟨[a0,a1,a2,a3],ac⟩ k ⟨[b0,b1,b2,b3],bc⟩=
  some ⟨[wr (a0+wr (k*b0)),wr (a1+wr (k*b1)),wr (a2+wr (k*b2)),wr (a3+wr (k*b3))],wr (ac+wr (k*bc))⟩:=by kernel_rfl
theorem aJw{n:Nat}(hn:5000≤n){a b:Affine}(ha:bB 1000 a)(hb:bB 1000 b){k:Int}(hk:lV 1000 k):aGZ n a k b=some (aKw a k b):=by
 obtain⟨m,rfl⟩: ∃m,n=m+6:=⟨n-6,by omega⟩
 obtain⟨ac,a⟩:=a;obtain⟨bc,b⟩:=b;obtain⟨h1,h2,h3⟩:=ha;obtain⟨g1,g2,g3⟩:=hb;dsimp only at h1 h2 h3 g1 g2 g3;obtain⟨a0,a1,a2,a3,rfl⟩:=aOK h1;obtain⟨b0,b1,b2,b3,rfl⟩:=aOK g1;rw [aNA,wrB (h3 a0 (by simp)) (aJh hk (g3 b0 (by simp))),wrB (h3 a1 (by simp)) (aJh hk (g3 b1 (by simp))),wrB (h3 a2 (by simp)) (aJh hk (g3 b2 (by simp))),wrB (h3 a3 (by simp)) (aJh hk (g3 b3 (by simp))),wrB h2 (aJh hk g2)];rfl
theorem aNS(a b:Affine)(k:Int)(ha:a.coefs.length=4)(hb:b.coefs.length=4):(aKw a k b).coefs.length=4:=by unfold aKw;rw [vBk];omega
def aLm(a:Affine)(k:Nat)(b:Affine):Affine:=aKw ⟨a.coefs.set k 0,a.const⟩ (a.coefs.getD k 0) b
theorem aLr{a:Affine}(h:bB 1000 a)(k:Nat):bB 1000 ⟨a.coefs.set k 0,a.const⟩:=⟨by dsimp only;rw [vAW];exact h.1,h.2.1,uY h.2.2 ⟨by omega,by omega⟩⟩
theorem aL2{a:Affine}(h:bB 1000 a){k:Nat}(hk:k<4):a.coefs[k]? =some (a.coefs.getD k 0)∧lV 1000 (a.coefs.getD k 0):=by
 have hl:k<a.coefs.length:=by rw [h.1];exact hk
 have e:=cD hl;have e2:a.coefs.getD k 0=a.coefs[k]:=by rw [s8,e];rfl
 rw [e2];exact⟨e,h.2.2 _ (C6 hl)⟩
theorem aFs{n:Nat}(hn:5000≤n){a b:Affine}(ha:bB 1000 a)(hb:bB 1000 b){k:Nat}(hk:k<4):N2 n a (k:Int) b=some (aLm a k b):=by
 obtain⟨h1,h2⟩:=aL2 ha hk;have hl:k<a.coefs.length:=by rw [ha.1];exact hk
 unfold N2;rw [aA6 n (by have:=ha.1;omega)];refine Ev.eq (aA rfl (aA (aN h1) (aA (d4 (by omega) _) (aA (aJw hn (aLr ha k) hb h2) (Ev.some rfl)))))
def noP:Prog×Bool:=(⟨[],[]⟩,false)
theorem xA{p:Prog}{part loop:Int}(h:eO p part loop=true):bO p=true∧ ∃(i k:Nat) (P:Part) (l:Loop),part=i∧loop=k∧p.parts[i]? =some P∧P.nest[k]? =some l∧i<p.parts.length∧k<P.nest.length∧cP p.arrays P=true∧k<4:=by
 unfold eO at h;rw [vBA] at h;obtain⟨hv,h⟩:=h;refine⟨hv,?_⟩;cases hx:ix p.parts part with
 |none=>rw [hx] at h;cases h
 |some P=>
  rw [hx] at h;obtain⟨i,rfl,hi,hP⟩:=aNx hx;obtain⟨h1,h2⟩:=of_decide_eq_true h;obtain⟨l,hl,hl2⟩:=iM h1 h2;have hok:=(eN hv).2.2.2.1 P (cK hP)
  have:=(jZ hok).1;exact⟨i,loop.toNat,P,l,rfl,by omega,hP,hl2,hi,by omega,hok,by omega⟩
theorem aKr{p:Prog}(hp:BG 1000 p)(i:Nat){y:Part}(hy:BPt 4 y):BG 1000 ⟨p.arrays,p.parts.set i y⟩:=⟨hp.1,by dsimp only;rw [vAW];exact hp.2.1,uY hp.2.2 (hy.mono (by omega))⟩
theorem aDM{p:Prog}{part loop:Int}(h:loop<0):eO p part loop=false:=by
 cases hc:eO p part loop with
 |false=>rfl
 |true=>obtain⟨_,i,k,P,l,_,hk,_⟩:=xA hc;omega
theorem aH9{n:Nat}(hn:7000≤n){p:Prog}(hp:BG 1000 p)(part:Int):Ev (rV n p part (-1)) (fun r=>r.2=false→r=noP):=by
 unfold rV;refine Ev.jn (fun z=>z=false→bO p=true∧(0≤part∧part<(p.parts.length:Int))) (fun j hj=>?_) fun z hz=>?_
 ·refine aA (kH hn hp.sm) (Ev.cond (fun h=>hj _ fun h=>by cases h) fun h=>?_);refine aA (qF n hp.2.1 part) (Ev.cond (fun h=>hj _ fun h=>by cases h) fun h2=>dH (fun h=>(h rfl).elim) fun _=>hj _ fun _=>⟨by simpa using h,by simpa using h2⟩)
 refine Ev.cond (fun _=>Ev.some fun _=>rfl) fun h=>?_;obtain⟨hv,h1,h2⟩:=hz h;obtain⟨x,hx,hx2⟩:=iM h1 h2;exact aA (aFa (by omega) hv) (aA hx (Ev.some fun h=>by cases h))
theorem aIU{α:Type}{l:List α}{i:Nat}{x:α}(h:l[i]? =some x):l.set i x=l:=by
 refine List.ext_getElem? fun j=>?_;by_cases hj:i=j
 ·subst hj;rw [vAy (cI.1 h).1,h]
 rw [vAF hj]
theorem aLX{q:Prog}(h:BG 1000 q):BG 1000 (aDV q).1:=by
 unfold aDV;split
 ·exact h
 exact⟨⟨by simp,fun x hx=>by cases hx⟩,by simp,fun x hx=>by cases hx⟩
theorem aJg:BG 1000 noP.1:=⟨⟨by simp [noP],fun x hx=>by cases hx⟩,by simp [noP],fun x hx=>by cases hx⟩
def kA(k:Nat)(s:Int):Affine:=⟨[0,0,0,0].set k s,0⟩
theorem qE{α β:Type}{f g:α→β}: ∀{l:List α},(∀x∈l,f x=g x)→l.map f=l.map g
 | [],_=>rfl
 |x::l,h=>by rw [vBY,vBY,h x uV,qE fun y hy=>h y (q8 _ hy)]
theorem aNF{p q:Prog}(h:aDV p=(q,true)):q=p∧bO p=true:=by
 unfold aDV at h;split at h
 ·rename_i hv;cases h;exact⟨rfl,hv⟩
 cases h
theorem aG7(m:Int): ∀(a b p:List Int),a.length=b.length→tC (List.zipWith (fun x y=>x+m*y) a b) p=tC a p+m*tC b p
 | [],[],p,_=>by simp [tC]
 |x::a,y::b,[],_=>by simp [tC]
 |x::a,y::b,z::p,h=>by simp only [List.zipWith_cons_cons,tC];rw [aG7 m a b p (by simpa using h),Int.add_mul,vBZ,Int.mul_assoc];omega
theorem aG8: ∀(cs p:List Int) (k:Nat) (v:Int),k<p.length→tC cs (p.set k v)=tC cs p+cs.getD k 0*(v-p.getD k 0)
 | [],p,k,v,_=>by simp [tC]
 |c::cs,x::p,0,v,_=>by
  simp only [List.set_cons_zero,tC,List.getD_cons_zero];rw [vCa];omega
 |c::cs,x::p,k+1,v,h=>by simp only [List.set_cons_succ,tC,List.getD_cons_succ];rw [aG8 cs p k v (by simpa using h)];omega
def low(k:Nat)(b:Affine):Prop:= ∀j,k≤j→b.coefs.getD j 0=0
theorem aHW{α:Type}{l:List α}{v d:α}:(l++[v]).getD l.length d=v:=by rw [s8,vAr (iR _),vBC];rfl
theorem aHV{α:Type}{l:List α}{k:Nat}{v d:α}(h:k<l.length):(l++[v]).getD k d=l.getD k d:=by rw [s8,O7 h,s8]
theorem N6{α β:Type}{f g:α→List β}{l:List α}(h: ∀x∈l,f x=g x):l.flatMap f=l.flatMap g:=by rw [List.flatMap_def,List.flatMap_def,qE h]
theorem t6{list:List Arr}{x:Part}(h:cP list x=true):dA x=pts x.nest []:=(aEF (iW h).1).2.2.2.1
theorem aMy{f:Affine→Affine}{t q:List Int}: ∀{ss:List Affine} (ds:List Int) (acc:Int),(∀x∈ss,cH (f x) t=cH x q)→kZ (ss.map f) ds t acc=kZ ss ds q acc
 | [],ds,acc,_=>by cases ds<;>rfl
 |s::ss,[],acc,_=>rfl
 |s::ss,d::ds,acc,h=>by
  simp only [List.map_cons,kZ];rw [h s uV];split
  ·exact aMy ds _ fun x hx=>h x (q8 _ hx)
  rfl
theorem aFS{f:Affine→Affine}{t q:List Int}{a:Access}(h: ∀x∈a.subs,cH (f x) t=cH x q): ∀(xs:List Arr) (base:Int),cT xs (fR f a) t base=cT xs a q base
 | [],_=>rfl
 |x::xs,base=>by
  have e1:kZ (fR f a).subs x.dims t 0=kZ a.subs x.dims q 0:=aMy _ _ h;have e2:(fR f a).subs.length=a.subs.length:=by simp [fR]
  have e3:(fR f a).array=a.array:=rfl;simp only [cT,e1,e2,e3,aFS h xs]
theorem aGH{d:Int}{f:Affine→Affine}: ∀{L:Nat} {e:Expr},dI L e d=true→b9 L (wB f L e)=(b9 L e).map (fR f)
 |0,_,h=>by cases h
 |L+1,e,h=>by
  obtain⟨hk,ho,hs⟩:=iB h;show(if e.kind=3 then [if e.kind=3 then fR f e.read else⟨[],[]⟩] else [])++(e.kids.map (wB f L)).flatMap (b9 L)=((if e.kind=3 then [e.read] else [])++e.kids.flatMap (b9 L)).map (fR f);rw [vAI,List.flatMap_map,vBP];congr 1
  ·by_cases h3:e.kind=3
   ·simp only [if_pos h3];rfl
   simp only [if_neg h3];rfl
  exact N6 fun x hx=>aGH (hs x hx)
theorem aIB{d:Int}{f:Affine→Affine}{t q:List Int}(h: ∀x,b8 x=true→cH (f x) t=cH x q)(list:List Arr)(m:List Int): ∀{L:Nat} {e:Expr},dI L e d=true→pE L list m (wB f L e) t=pE L list m e q
 |0,_,_=>rfl
 |L+1,e,he=>by
  obtain⟨hk,ho,hs⟩:=iB he;have e1:(wB f (L+1) e).kind=e.kind:=rfl;have e2:(wB f (L+1) e).num=e.num:=rfl;have e5:(wB f (L+1) e).kids=e.kids.map (wB f L):=rfl;unfold pE;rw [e1,e2,e5];by_cases h1:e.kind=1
  ·rw [if_pos h1,if_pos h1]
  rw [if_neg h1,if_neg h1];by_cases h2:e.kind=2
  ·have e3:(wB f (L+1) e).index=f e.index:=by show(if e.kind=2 then f e.index else _)=_;rw [if_pos h2]
   rw [if_pos h2,if_pos h2,e3,h _ (D8 ho h2).1]
  rw [if_neg h2,if_neg h2];by_cases h3:e.kind=3
  ·have e4:(wB f (L+1) e).read=fR f e.read:=by show(if e.kind=3 then fR f e.read else _)=_;rw [if_pos h3]
   rw [if_pos h3,if_pos h3,e4,aFS fun x hx=>h x ((uS (D7 ho h3).1).2.2 x hx)]
  rw [if_neg h3,if_neg h3];obtain⟨kind,num,index,read,kids⟩:=e;dsimp only at hs⊢
  match kids,hs with
  | [],_=>rfl
  | [a],_=>rfl
  | [a,c],hs=>
   simp only [List.map_cons,List.map_nil];rw [aIB h list m (hs a (by simp)),aIB h list m (hs c (by simp))]
  |a::c::e::r,_=>rfl
theorem aG9: ∀{cs:List Int},cS cs=0→ ∀p,tC cs p=0
 | [],_,_=>by simp [tC]
 |c::cs,h,[]=>by simp [tC]
 |c::cs,h,x::p=>by
  have h1:c=0:=J2 (l:=c::cs) (i:=0) rfl (by omega);have h2:cS cs=0:=by
   cases hd:cS cs with
   |zero=>rfl
   |succ k=>unfold cS at h;rw [hd] at h;simp at h
  simp only [tC];rw [h1,aG9 h2];simp
theorem aKp{p:Prog}(hv:bO p=true){x:Inst}(hx:eI p x): ∀{Y:List Inst} {m:List Int},(∀y∈Y,eI p y)→(∀y∈Y,com p x y)→aAd p.arrays m→l5 p (runI p m x) Y=runI p (l5 p m Y) x
 | [],m,_,_,_=>rfl
 |y::Y,m,h1,h2,hm=>by show l5 p (runI p (runI p m x) y) Y=runI p (l5 p (runI p m y) Y) x;rw [h2 y uV m hm];exact aKp hv hx (fun z hz=>h1 z (q8 _ hz)) (fun z hz=>h2 z (q8 _ hz)) (aGE hv hm (h1 y uV))
theorem block{p:Prog}(hv:bO p=true): ∀{X Y:List Inst} {m:List Int},(∀x∈X,eI p x)→(∀y∈Y,eI p y)→(∀x∈X,∀y∈Y,com p x y)→aAd p.arrays m→l5 p (l5 p m X) Y=l5 p (l5 p m Y) X
 | [],Y,m,_,_,_,_=>rfl
 |x::X,Y,m,h1,h2,h3,hm=>by show l5 p (l5 p (runI p m x) X) Y=l5 p (runI p (l5 p m Y) x) X;rw [block hv (fun z hz=>h1 z (q8 _ hz)) h2 (fun z hz=>h3 z (q8 _ hz)) (aGE hv hm (h1 x uV)),aKp hv (h1 x uV) h2 (h3 x uV) hm]
def T2:List Int→List Int→Bool
 |a::as,b::bs=>if a=b then T2 as bs else decide (a<b)
 | [],_::_=>true
 |_,[]=>false
theorem aIY{n:Nat}{p q:List Int}(hn:p.length<n)(hp:p.length≤1000)(hq:q.length≤1000):vA n p q=some (T2 p q):=by
 unfold vA;refine Ev.eq (Ev.loop (fun x:Int=> ∃i:Nat,x=i∧i≤p.length∧i≤q.length∧T2 (p.drop i) (q.drop i)=T2 p q) (fun x=>p.length-x.toNat) ?_ n 0 ⟨0,rfl,by omega,by omega,rfl⟩ (by omega));rintro again x ⟨i,rfl,h1,h2,hs⟩ hr;refine Ev.jn (fun z=>z=decide (i<p.length∧i<q.length)) (fun j hj=>aH (fun h=>hj _ ?_) fun h=>hj _ ?_) fun z hz=>?_
 ·rw [Bool.eq_iff_iff];simp only [decide_eq_true_eq];omega
 ·exact(decide_eq_false (by omega)).symm
 subst hz;refine aH (fun h=>?_) fun h=>Ev.some ?_
 ·have ha1:=cD h.1;have hb1:=cD h.2;rw [vBi h.1,vBi h.2] at hs;simp only [T2] at hs;refine aA (aN ha1) (aA (aN hb1) (dH (fun hne=>Ev.some ?_) fun he=>?_))
  ·rw [if_neg hne] at hs;exact hs
  rw [if_pos he] at hs;rw [aK (by omega)];exact hr _ ⟨i+1,by omega,by omega,by omega,hs⟩ (by omega)
 rw [←hs];by_cases e:i<p.length
 ·have e2:q.drop i=[]:=vBR (by omega);rw [e2,vBi e];simp only [T2];exact decide_eq_false (by omega)
 have e1:p.drop i=[]:=vBR (by omega);rw [e1];by_cases e3:i<q.length
 ·rw [vBi e3];simp only [T2];exact decide_eq_true (by omega)
 rw [vBR (show q.length≤i by omega)];simp only [T2];exact decide_eq_false (by omega)
def V6(l:List Affine):Bool:=l.all fun a=>decide (cS a.coefs=0)
def zV(l:Loop):Bool:=decide (l.lo.length=1)&&(decide (l.hi.length=1)&&(V6 l.lo&&V6 l.hi))
def pL(l:List Affine):Int:=(l.headD ⟨[],0⟩).const
theorem T8{n:Nat}(hn:5000≤n){l:List Affine}(h1:l.length≤2)(h2: ∀x∈l,b8 x=true):qK n l=some (V6 l):=by
 unfold qK;rw [l7 (p:=fun a=>decide (0<(cS a.coefs:Int))) (fun x hx=>by
  unfold o0;rw [w8 hn (show x.coefs.length≤1000 by have:=(jG (h2 x hx)).1;omega)];rfl) (by omega) (by omega)]
 show some (!l.any _)=_;congr 1;unfold V6;rw [List.not_any_eq_all_not];congr 1;funext a;by_cases h:cS a.coefs=0
 ·simp [h]
 have:0<(cS a.coefs:Int):=by omega
 simp [h];omega
theorem aJG{n:Nat}(hn:5000≤n){l:Loop}(h:aAp l):mK n l=some (if zV l=true then(pL l.lo,pL l.hi,true) else(0,0,false)):=by
 obtain⟨⟨h1,h2⟩,h3,h4⟩:=h;unfold mK;refine Ev.eq (Ev.jn (fun z=>z= !zV l) (fun j hj=>?_) fun z hz=>?_)
 ·refine dH (fun h=>hj _ ?_) fun h=>dH (fun h'=>hj _ ?_) fun h'=>aA (T8 hn h1 h2) (Ev.cond (fun h5=>hj _ ?_) fun h5=>aA (T8 hn h3 h4) (hj _ ?_))
  ·unfold zV;rw [decide_eq_false (show¬l.lo.length=1 by omega)];rfl
  ·unfold zV;rw [decide_eq_false (show¬l.hi.length=1 by omega),Bool.false_and,vBp];rfl
  ·unfold zV;rw [show V6 l.lo=false by simpa using h5];simp
  unfold zV;rw [show V6 l.lo=true by simpa using h5,decide_eq_true (show l.lo.length=1 by omega),decide_eq_true (show l.hi.length=1 by omega)];rfl
 subst hz;cases hf:zV l with
 |false=>exact cE (Ev.some rfl)
 |true=>
  refine bV ?_;unfold zV at hf;simp only [Bool.and_eq_true,decide_eq_true_eq] at hf;obtain⟨e1,e2,_⟩:=hf;obtain⟨x,hx⟩:=vBS.1 e1;obtain⟨y,hy⟩:=vBS.1 e2;rw [hx,hy];exact aA (x:=x) rfl (aA (x:=y) rfl (Ev.some rfl))
end Go.Lift
