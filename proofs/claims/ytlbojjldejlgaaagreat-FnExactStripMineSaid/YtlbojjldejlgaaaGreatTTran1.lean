/- Two programs that do the same. -/
import Derived.Test.YtlbojjldejlgaaaGreatTRun1
import Derived.Test.YtlbojjldejlgaaaGreatTDraw1
import Derived.Test.YtlbojjldejlgaaaGreatTDrawD
set_option maxRecDepth 110000000
set_option linter.unusedVariables false
namespace Go.Lift
open Go
theorem s8{α β R:Type}{l:List α}{F:α→(β→Option R)→Option R}{g:α→β}{K:List β→Option R}{Q:R→Prop}{n:Nat}(hF: ∀x∈l,∀k:β→Option R,Ev (k (g x)) Q→Ev (F x k) Q)
  {s:Nat} (hs:s≤l.length) {pre:List β} (hp:pre.length≤1100000) (hl:l.length≤1100000) (hn:5500000≤n) (hK:Ev (K (pre++(l.drop s).map g)) Q):
  Ev (aL (fun again ((x,i):List β×Int)=>bif decide (i<(l.length:Int)) then(Option.bind (ix l i) fun y=>F y fun z=>Option.bind (app x [z]) fun w=>again (w,wr (i+1))) else K x) n (pre,(s:Int))) Q:=by
 refine Ev.loop (fun z:List β×Int=> ∃i:Nat,z.2=i∧s≤i∧i≤l.length∧z.1=pre++((l.drop s).take (i-s)).map g) (fun z=>l.length-z.2.toNat) ?_ n _ ⟨s,rfl,by omega,by omega,by simp⟩ (by dsimp only;omega);rintro again ⟨x,z⟩ ⟨i,hz,hsi,hi,hx⟩ hr;dsimp only at hz hx⊢;subst hz;refine aK (fun hlt=>?_) fun hge=>?_
 ·have hg:=dH (show i<l.length by omega);have hxl:x.length≤2200000:=by rw [hx,nF,I2,mH,X4];omega
  refine aB (aS hg) (hF _ (dD hg) _ (aB (dO (by simp;omega)) ?_));rw [aM (by omega)];refine hr _ ⟨i+1,by dsimp only;omega,by omega,by omega,?_⟩ (by dsimp only;omega);dsimp only;rw [show i+1-s=(i-s)+1 by omega,R5,D9,show s+(i-s)=i by omega,hg,hx,vAP,vAO];rfl
 have:i=l.length:=by omega
 subst this;rw [hx,vAQ (by rw [X4];omega)];exact hK
theorem qV{α β R:Type}{l:List α}{f:α→Option β}{g:α→β}{K:List β→Option R}{Q:R→Prop}{n:Nat}(hf: ∀x∈l,f x=some (g x))(hl:l.length≤1100000)(hn:5500000≤n)(hK:Ev (K (l.map g)) Q):
  Ev (aL (fun again ((x,i):List β×Int)=>bif decide (i<(l.length:Int)) then(Option.bind (ix l i) fun y=>Option.bind (f y) fun z=>Option.bind (app x [z]) fun w=>again (w,wr (i+1))) else K x) n ([],0)) Q:=
 s8 (F:=fun y k=>Option.bind (f y) k) (g:=g) (s:=0) (pre:=[]) (fun x hx k hk=>aB (hf x hx) hk) (by omega) (by simp) hl hn (by simpa using hK)
theorem aAK{α R:Type}{l:List α}{F:α→(α→Option R)→Option R}{W:List α→Option R→Option R}{m:List α→Int}{g:α→α}{K:List α→Option R}{Q:R→Prop}{n:Nat}
  (hW: ∀y o,y.length=l.length→Ev o Q→Ev (W y o) Q) (hm: ∀y:List α,y.length=l.length→m y=(l.length:Int))
  {s:Nat} (hs:s≤l.length) (hF: ∀x∈l,∀k:α→Option R,Ev (k (g x)) Q→Ev (F x k) Q) (hl:l.length≤1100000) (hn:5500000≤n) (hK:Ev (K (l.take s++(l.drop s).map g)) Q):
  Ev (aL (fun again ((y,i):List α×Int)=>W y (bif decide (i<m y) then(Option.bind (ix y i) fun x=>F x fun z=>Option.bind (dM y i z) fun w=>again (w,wr (i+1))) else K y)) n (l,(s:Int))) Q:=by
 refine Ev.loop (fun z:List α×Int=> ∃i:Nat,z.2=i∧s≤i∧i≤l.length∧z.1=l.take s++((l.drop s).take (i-s)).map g++l.drop i) (fun z=>l.length-z.2.toNat) ?_ n _ ⟨s,rfl,by omega,by omega,by simp⟩ (by dsimp only;omega);rintro again ⟨x,z⟩ ⟨i,hz,hsi,hi,hx⟩ hr;dsimp only at hz hx⊢;subst hz;have hpl:(l.take s++((l.drop s).take (i-s)).map g).length=i:=by rw [nF,I2,mH,mH,X4];omega
 have hxl:x.length=l.length:=by rw [hx,nF,hpl,X4];omega
 refine hW _ _ hxl ?_;rw [hm _ hxl];refine aK (fun hlt=>?_) fun hge=>?_
 ·obtain⟨e,hg⟩: ∃e,l[i]? =some e:=⟨_,dH (show i<l.length by omega)⟩
  have hgx:x[i]? =some e:=by
   rw [hx,I1 (by omega),hpl,vBk,D9];exact hg
  refine aB (aS hgx) (hF _ (dD hg) _ (aB (iC (by omega) _) ?_));rw [aM (by omega)];refine hr _ ⟨i+1,by dsimp only;omega,by omega,by omega,?_⟩ (by dsimp only;omega);dsimp only;rw [hx,vAD,vBm _ _ (by omega),hpl,vBk,iR hg,vBB,show i+1-s=(i-s)+1 by omega,R5,D9,show s+(i-s)=i by omega,hg];simp
 have:i=l.length:=by omega
 subst this;rw [hx,vAQ (l:=l.drop s) (by rw [X4];omega),vBy,vBt];exact hK
def s9(f:Affine→Affine)(a:Access):Access:=⟨a.array,a.subs.map f⟩
def aCf(f:Affine→Affine):Nat→Expr→Expr
 |0,e=>e
 |L+1,e=>⟨e.kind,e.num,if e.kind=2 then f e.index else⟨[],0⟩,if e.kind=3 then s9 f e.read else⟨[],[]⟩,e.kids.map (aCf f L)⟩
def E4(f:Affine→Affine)(s:Stmt):Stmt:=⟨s9 f s.write,aCf f 5 s.value⟩
def gR(f:Affine→Affine)(l:Loop):Loop:=⟨l.lo.map f,l.hi.map f⟩
theorem s4{e:Expr}{d:Int}(h:fK e d=true)(hk:e.kind=2):bO e.index=true∧mF e.read=true:=by unfold fK bR at h;rw [if_pos hk] at h;simp only [Bool.and_eq_true] at h;exact⟨h.2.2.1,h.2.1⟩
theorem sZ{e:Expr}{d:Int}(h:fK e d=true)(hk:e.kind=3):fO e.read d=true∧iO e.index=true:=by unfold fK at h;rw [if_neg (by omega),if_pos hk] at h;simp only [Bool.and_eq_true] at h;exact⟨h.2.2,h.2.1⟩
theorem K3{e:Expr}{d:Int}(h:fK e d=true)(h2: ¬e.kind=2)(h3: ¬e.kind=3):iO e.index=true∧mF e.read=true:=by unfold fK at h;rw [if_neg h2,if_neg h3] at h;split at h<;>simp only [Bool.and_eq_true] at h<;>exact⟨h.2.1,h.2.2⟩
theorem pE{a:Affine}(h:iO a=true):a=⟨[],0⟩:=by obtain⟨c,k⟩:=a;simp only [iO,Bool.and_eq_true,decide_eq_true_eq] at h;obtain⟨h1,rfl⟩:=h;rw [vAv h1]
theorem pF{a:Access}(h:mF a=true):a=⟨[],[]⟩:=by obtain⟨c,k⟩:=a;simp only [mF,Bool.and_eq_true,decide_eq_true_eq] at h;obtain⟨rfl,h1⟩:=h;rw [vAv h1]
theorem tE{n:Nat}(hn:5500000≤n){a:Access}{d:Int}(ha:fO a d=true){F:Affine→Option Affine}{f:Affine→Affine}(hF: ∀x,bO x=true→F x=some (f x)):gU n a F=some (s9 f a):=by obtain⟨h1,h2,h3⟩:=rS ha;refine Ev.eq ?_;unfold gU;exact qV (K:=fun x1=>some (⟨a.array,x1⟩:Access)) (fun x hx=>hF x (h3 x hx)) (by omega) hn (Ev.some rfl)
theorem xQ{d:Int}{F:Affine→Option Affine}{f:Affine→Affine}(hF: ∀x,bO x=true→F x=some (f x)): ∀(L n:Nat) (e:Expr),5500000+L≤n→cZ L e d=true→i_exprMap (n+1) e F=some (aCf f L e)
 |0,_,_,_,h=>by cases h
 |L+1,n,e,hn,h=>by
  obtain⟨hk,ho,hs⟩:=iT h;obtain⟨n,rfl⟩: ∃j,n=j+1:=⟨n-1,by omega⟩
  have hkl:e.kids.length≤2:=by have:=jV e.kind;omega
  unfold i_exprMap;refine Ev.eq (Ev.jn (fun z=>(⟨z.1,z.2.1⟩:Affine)=(if e.kind=2 then f e.index else⟨[],0⟩)∧(⟨z.2.2.1,z.2.2.2⟩:Access)=(if e.kind=3 then s9 f e.read else⟨[],[]⟩)) (fun j hj=>?_) fun z hz=>?_)
  ·refine aK (fun h2=>?_) fun h2=>aK (fun h3=>?_) fun h3=>?_
   ·exact aB (hF _ (s4 ho h2).1) (hj _ ⟨by rw [if_pos h2],by rw [if_neg (by omega)]⟩)
   ·exact aB (tE (by omega) (sZ ho h3).1 hF) (hj _ ⟨by rw [if_neg h2],by rw [if_pos h3]⟩)
   exact hj _ ⟨by rw [if_neg h2],by rw [if_neg h3]⟩
  obtain⟨x4,x5,x6,x7⟩:=z;obtain⟨z1,z2⟩:=hz;dsimp only at z1 z2⊢;refine qV (K:=fun x8=>some (⟨e.kind,e.num,(⟨x4,x5⟩:Affine),(⟨x6,x7⟩:Access),x8⟩:Expr)) (fun x hx=>xQ hF L n x (by omega) (hs x hx)) (by omega) (by omega) (Ev.some ?_);rw [z1,z2];rfl
theorem xO{n:Nat}(hn:6600000≤n){s:Stmt}{d:Int}(hs:fB s d=true){F:Affine→Option Affine}{f:Affine→Affine}(hF: ∀x,bO x=true→F x=some (f x)):iG n s F=some (E4 f s):=by
 obtain⟨h1,h2,_⟩:=qJ hs;obtain⟨n,rfl⟩: ∃j,n=j+1:=⟨n-1,by omega⟩
 unfold iG;rw [tE (by omega) h1 hF,xQ hF 5 n s.value (by omega) h2];rfl
theorem aDY{α:Type}{f:α→α}: ∀{l:List α},(∀x∈l,f x=x)→l.map f=l
 | [],_=>rfl
 |x::l,h=>by rw [List.map_cons,h x uX,aDY fun y hy=>h y (r9 _ hy)]
theorem Z3{f:Affine→Affine}{a:Access}{d:Int}(ha:fO a d=true)(hf: ∀x,bO x=true→f x=x):s9 f a=a:=by obtain⟨h1,h2,h3⟩:=rS ha;unfold s9;rw [aDY fun x hx=>hf x (h3 x hx)]
theorem aFo{d:Int}{f:Affine→Affine}(hf: ∀x,bO x=true→f x=x): ∀{L:Nat} {e:Expr},cZ L e d=true→aCf f L e=e
 |0,_,_=>rfl
 |L+1,e,h=>by
  obtain⟨hk,ho,hs⟩:=iT h;obtain⟨kind,num,index,read,kids⟩:=e;unfold aCf;dsimp only at hk ho hs⊢;rw [aDY fun x hx=>aFo hf (hs x hx)];by_cases h2:kind=2
  ·have e1:=s4 ho h2;dsimp only at e1;rw [if_pos h2,if_neg (by omega),hf _ e1.1,pF e1.2]
  by_cases h3:kind=3
  ·have e1:=sZ ho h3;dsimp only at e1;rw [if_neg h2,if_pos h3,Z3 e1.1 hf,pE e1.2]
  have e1:=K3 ho h2 h3;dsimp only at e1;rw [if_neg h2,if_neg h3,pE e1.1,pF e1.2]
theorem aJ5{f:Affine→Affine}(hf: ∀x,bO x=true→f x=x){s:Stmt}{d:Int}(hs:fB s d=true):E4 f s=s:=by obtain⟨h1,h2,_⟩:=qJ hs;unfold E4;rw [Z3 h1 hf,aFo hf h2]
def E5(l:Loop):Prop:=(l.lo.length≤2∧ ∀x∈l.lo,bO x=true)∧l.hi.length≤2∧ ∀x∈l.hi,bO x=true
theorem aLT{nest:List Loop}(h:Fit nest): ∀l∈nest,E5 l:=fun l hl=>by
 obtain⟨i,hi⟩:=vAG.1 hl
 have:=h.2 i l hi;exact⟨(sJ this.1).2,(sJ this.2).2⟩
theorem qQ{list:List Arr}{x:Part}(h:cK list x=true):x.nest.length≤4∧ ∀l∈x.nest,E5 l:=by have:=(aIY (jR h).1).1;exact⟨this.1,aLT this⟩
theorem aKT{a:Affine}(h:bO a=true):BA 4 a:=by have:=(fT h).1;unfold BA;omega
theorem aBv{l:List Affine}(h1:l.length≤2)(h2: ∀x∈l,bO x=true):BAs 4 l:=⟨by omega,fun a ha=>aKT (h2 a ha)⟩
theorem aKS{d:Int}: ∀{L:Nat} {e:Expr},cZ L e d=true→BE 4 L e
 |0,_,h=>by cases h
 |L+1,e,h=>by
  obtain⟨hk,ho,hs⟩:=iT h
  have:=jV e.kind;refine⟨by omega,?_,?_,fun k hk=>aKS (hs k hk)⟩
  ·by_cases h2:e.kind=2
   ·exact aKT (s4 ho h2).1
   by_cases h3:e.kind=3
   ·rw [pE (sZ ho h3).2];unfold BA;simp
   rw [pE (K3 ho h2 h3).1];unfold BA;simp
  by_cases h3:e.kind=3
  ·have:=rS (sZ ho h3).1;exact aBv this.2.1 this.2.2
  by_cases h2:e.kind=2
  ·rw [pF (s4 ho h2).2];exact⟨by simp,fun x hx=>by cases hx⟩
  rw [pF (K3 ho h2 h3).2];exact⟨by simp,fun x hx=>by cases hx⟩
theorem aNk{s:Stmt}{d:Int}(hs:fB s d=true):BS 4 s:=by
 obtain⟨h1,h2,_⟩:=qJ hs
 have:=rS h1;exact⟨aBv this.2.1 this.2.2,aKS h2⟩
theorem aIL{list:List Arr}{x:Part}(h:cK list x=true):BPt 4 x:=by obtain⟨h1,h2⟩:=qQ h;obtain⟨_,h4,h5,_⟩:=jR h;exact⟨⟨h1,fun l hl=>⟨aBv (h2 l hl).1.1 (h2 l hl).1.2,aBv (h2 l hl).2.1 (h2 l hl).2.2⟩⟩,h4.2,fun s hs=>aNk (h5 s hs)⟩
theorem aKQ{l:List Arr}(h1:l.length≤4)(h2:oJ l):BR 4 l:=⟨h1,fun x hx=>by have:=h2 x hx;simp only [iK,Bool.and_eq_true,decide_eq_true_eq] at this;omega⟩
theorem aKR{p:Prog}(h:eY p=true):BG 4 p:=by obtain⟨h1,h2,h3,h4,_⟩:=K1 h;exact⟨aKQ h1 h2,h3,fun x hx=>aIL (h4 x hx)⟩
theorem H1{B:Nat}{l:List Affine}{f:Affine→Affine}(h:l.length≤B)(hf: ∀x∈l,BA B (f x)):BAs B (l.map f):=⟨by rw [I2];exact h,fun a ha=>by obtain⟨x,hx,rfl⟩:=vAT.1 ha;exact hf x hx⟩
theorem aIQ{d:Int}{f:Affine→Affine}(hf: ∀x,bO x=true→BA 4 (f x)): ∀{L:Nat} {e:Expr},cZ L e d=true→BE 4 L (aCf f L e)
 |0,_,h=>by cases h
 |L+1,e,h=>by
  obtain⟨hk,ho,hs⟩:=iT h
  have:=jV e.kind;unfold aCf BE;refine⟨by dsimp only;rw [I2];omega,?_,?_,fun k hk=>?_⟩
  ·dsimp only;by_cases h2:e.kind=2
   ·rw [if_pos h2];exact hf _ (s4 ho h2).1
   rw [if_neg h2];unfold BA;simp
  ·dsimp only;by_cases h3:e.kind=3
   ·rw [if_pos h3]
    have:=rS (sZ ho h3).1;exact H1 (by omega) fun x hx=>hf x (this.2.2 x hx)
   rw [if_neg h3];exact⟨by simp,fun x hx=>by cases hx⟩
  obtain⟨x,hx,rfl⟩:=vAT.1 hk;exact aIQ hf (hs x hx)
theorem aL1{f:Affine→Affine}(hf: ∀x,bO x=true→BA 4 (f x)){s:Stmt}{d:Int}(hs:fB s d=true):BS 4 (E4 f s):=by
 obtain⟨h1,h2,_⟩:=qJ hs
 have:=rS h1;exact⟨H1 (by omega) fun x hx=>hf x (this.2.2 x hx),aIQ hf h2⟩
theorem aKr{f:Affine→Affine}(hf: ∀x,bO x=true→BA 4 (f x)){l:Loop}(h:E5 l):BAs 4 (gR f l).lo∧BAs 4 (gR f l).hi:=
 ⟨H1 (by have:=h.1.1;omega) fun x hx=>hf x (h.1.2 x hx),H1 (by have:=h.2.1;omega) fun x hx=>hf x (h.2.2 x hx)⟩
theorem aFZ(n:Nat){a:Affine}(h:a.coefs.length≤1100000):dE n a=some a:=by unfold dE m_ownClone;rw [if_pos (by omega)];rfl
theorem zO(n:Nat): ∀x,bO x=true→dE n x=some x:=fun x hx=>aFZ n (by have:=(fT hx).1;omega)
theorem K4{n:Nat}(hn:5500000≤n){l:List Affine}(h1:l.length≤2)(h2: ∀x∈l,bO x=true):eL n l=some l:=by unfold eL;refine Ev.eq (qV (g:=fun x=>x) (K:=fun x1=>some x1) (fun x hx=>zO n x (h2 x hx)) (by omega) hn (Ev.some ?_));simp
theorem aDL{n:Nat}(hn:5500000≤n){nest:List Loop}(h1:nest.length≤4)(h2: ∀l∈nest,E5 l):pK n nest=some nest:=by unfold pK;refine Ev.eq ?_;refine s8 (β:=Loop) (l:=nest) (n:=n) (F:=fun x5 k=>Option.bind (eL n x5.lo) fun x6=>Option.bind (eL n x5.hi) fun x7=>k (⟨x6,x7⟩:Loop)) (g:=fun x=>x) (s:=0) (pre:=[]) (K:=fun x1=>some x1) ?_ (by omega) (by simp) (by omega) hn (Ev.some (by simp));exact fun x hx k hk=>aB (K4 hn (h2 x hx).1.1 (h2 x hx).1.2) (aB (K4 hn (h2 x hx).2.1 (h2 x hx).2.2) hk)
theorem aDJ{n:Nat}(hn:6600000≤n){s:Stmt}{d:Int}(hs:fB s d=true):pJ n s=some s:=by unfold pJ;rw [xO hn hs (F:=fun q0=>dE n q0) (f:=fun x=>x) (zO n),aJ5 (fun _ _=>rfl) hs];rfl
theorem aDK{n:Nat}(hn:6600000≤n){list:List Arr}{x:Part}(h:cK list x=true):m6 n x=some x:=by obtain⟨h1,h2⟩:=qQ h;obtain⟨_,h4,h5,_⟩:=jR h;unfold m6;refine Ev.eq (aB (aDL (by omega) h1 h2) (qV (g:=fun x=>x) (K:=fun x2=>some (⟨x.nest,x2⟩:Part)) (fun s hs=>aDJ hn (h5 s hs)) (by omega) (by omega) (Ev.some ?_)));simp
theorem aDI{n:Nat}(hn:6600000≤n){p:Prog}(h:eY p=true):gE n p=some p:=by
 obtain⟨h1,h2,h3,h4,_⟩:=K1 h;unfold gE;refine Ev.eq (s8 (F:=fun x5 k=>Option.bind (m_ownClone x5.dims) fun x6=>k (⟨x5.name,x6⟩:Arr)) (g:=fun x=>x) (s:=0) (pre:=[]) (K:=fun x1=>aL (fun again11 ((x8,x9):(List Part)×Int)=>
    bif decide (x9<(p.parts.length:Int)) then(
     Option.bind (ix p.parts x9) fun x12=>
     Option.bind (m6 n x12) fun x13=>
     Option.bind (app x8 [x13]) fun x14=>
     again11 (x14,wr (x9+1))
    ) else(
     some (⟨x1,x8⟩:Prog)
    )
   ) n ([],0)) (fun x hx k hk=>aB (x:=x.dims) ?_ hk) (by omega) (by simp) (by omega) (by omega) ?_)
 ·have:=(aKQ h1 h2).2 x hx;unfold m_ownClone;rw [if_pos (by omega)]
 refine qV (g:=fun x=>x) (K:=fun x8=>some (⟨_,x8⟩:Prog)) (fun x hx=>aDK hn (h4 x hx)) (by omega) (by omega) (Ev.some ?_);simp
theorem bK{α:Type}{a b:List α}(h:b.length=a.length):bT a b=some ():=by unfold bT;rw [if_pos h]
theorem S8{n:Nat}(hn:5500000≤n){l:Loop}(hl:E5 l){F:Affine→Option Affine}{f:Affine→Affine}(hF: ∀x,bO x=true→F x=some (f x)):lK n l F=some (gR f l):=by
 obtain⟨⟨a1,a2⟩,b1,b2⟩:=hl;unfold lK;refine Ev.eq (Ev.loop (fun z:Loop×Int=>(z.2=0∧z.1=l)∨(z.2=1∧z.1=⟨l.lo.map f,l.hi⟩)∨(z.2=2∧z.1=gR f l)) (fun z=>3-z.2.toNat) ?_ n _ (.inl ⟨rfl,rfl⟩) (by dsimp only;omega));rintro again ⟨x,i⟩ hz hr;dsimp only at hz hr⊢;rcases hz with ⟨rfl,rfl⟩|⟨rfl,rfl⟩|⟨rfl,rfl⟩
 ·refine aB (bK rfl) (aB (bK rfl) (aK (fun _=>aK (fun _=>?_) fun h=>(h rfl).elim) fun h=>absurd h (by omega)));refine aAK (F:=fun x k=>Option.bind (F x) k) (W:=fun _ o=>o) (m:=fun _=>(x.lo.length:Int)) (g:=f) (s:=0) (K:=fun y=>again ((⟨y,x.hi⟩:Loop),wr (0+1))) (fun _ _ _ h=>h) (fun _ _=>rfl) (by omega) (fun x hx k hk=>aB (hF x (a2 x hx)) hk) (by omega) hn ?_;rw [aM (by omega)];exact hr _ (.inr (.inl ⟨by dsimp only;omega,by simp⟩)) (by dsimp only;omega)
 ·refine aB (bK (by simp)) (aB (bK rfl) (aK (fun _=>aK (fun h=>absurd h (by omega)) fun _=>aK (fun _=>?_) fun h=>(h rfl).elim) fun h=>absurd h (by omega)));refine aAK (F:=fun x k=>Option.bind (F x) k) (W:=fun _ o=>o) (m:=fun _=>(l.hi.length:Int)) (g:=f) (s:=0) (K:=fun y=>again ((⟨l.lo.map f,y⟩:Loop),wr (1+1))) (fun _ _ _ h=>h) (fun _ _=>rfl) (by omega) (fun x hx k hk=>aB (hF x (b2 x hx)) hk) (by omega) hn ?_;rw [aM (by omega)];exact hr _ (.inr (.inr ⟨by dsimp only;omega,by simp [gR]⟩)) (by dsimp only;omega)
 refine aB (bK (by simp [gR])) (aB (bK (by simp [gR])) (aK (fun h=>absurd h (by omega)) fun _=>Ev.some rfl))
theorem S6{n:Nat}(hn:6600000≤n){nest:List Loop}{body:List Stmt}{s:Nat}(hs:s≤nest.length)(h1:nest.length≤4)(h2: ∀l∈nest.drop s,E5 l){d:Int}(h3:body.length≤4)(h4: ∀s∈body,fB s d=true){F:Affine→Option Affine}{f:Affine→Affine}(hF: ∀x,bO x=true→F x=some (f x)):
  lJ n ⟨nest,body⟩ (s:Int) F=some ⟨nest.take s++(nest.drop s).map (gR f),body.map (E4 f)⟩:=by
 have key: ∀(nest2:List Loop),Ev (aL (fun again2 ((y,j):(List Stmt)×Int)=>
    Option.bind (bT body y) fun x5=>
    bif decide (j<(body.length:Int)) then(
     Option.bind (ix y j) fun x6=>
     Option.bind (iG n x6 F) fun x7=>
     Option.bind (dM y j x7) fun x8=>
     again2 (x8,wr (j+1))
    ) else(
     some (⟨nest2,y⟩:Part)
    )
   ) n (body,0)) (fun r=>r=⟨nest2,body.map (E4 f)⟩):=fun nest2=>
  aAK (F:=fun x k=>Option.bind (iG n x F) k) (W:=fun y o=>Option.bind (bT body y) fun _=>o) (m:=fun _=>(body.length:Int)) (g:=E4 f) (s:=0) (K:=fun y=>some (⟨nest2,y⟩:Part)) (fun y o h ho=>aB (bK h) ho) (fun _ _=>rfl) (by omega) (fun x hx k hk=>aB (xO hn (h4 x hx) hF) hk) (by omega) (by omega) (Ev.some (by simp))
 unfold lJ;refine Ev.eq ?_
 -- the loops ahead stay: only those behind are changed
 refine Ev.loop (fun z:List Loop×Int=> ∃i:Nat,z.2=i∧s≤i∧i≤nest.length∧z.1=nest.take s++((nest.drop s).take (i-s)).map (gR f)++nest.drop i) (fun z=>nest.length-z.2.toNat) ?_ n _ ⟨s,rfl,by omega,by omega,by simp⟩ (by dsimp only;omega);rintro again ⟨x,z⟩ ⟨i,hz,hsi,hi,hx⟩ hr;dsimp only at hz hx⊢;subst hz;have hpl:(nest.take s++((nest.drop s).take (i-s)).map (gR f)).length=i:=by rw [nF,I2,mH,mH,X4];omega
 have hxl:x.length=nest.length:=by rw [hx,nF,hpl,X4];omega
 refine aB (bK hxl) (aK (fun hlt=>?_) fun hge=>?_)
 ·obtain⟨e,hg⟩: ∃e,nest[i]? =some e:=⟨_,dH (show i<nest.length by omega)⟩
  have hgx:x[i]? =some e:=by
   rw [hx,I1 (by omega),hpl,vBk,D9];exact hg
  have he:e∈nest.drop s:=vAG.2 ⟨i-s,by rw [D9,show s+(i-s)=i by omega];exact hg⟩;refine aB (aS hgx) (aB (S8 (by omega) (h2 _ he) hF) (aB (iC (by omega) _) ?_));rw [aM (by omega)];refine hr _ ⟨i+1,by dsimp only;omega,by omega,by omega,?_⟩ (by dsimp only;omega);dsimp only;rw [hx,vAD,vBm _ _ (by omega),hpl,vBk,iR hg,vBB,show i+1-s=(i-s)+1 by omega,R5,D9,show s+(i-s)=i by omega,hg];simp
 have:i=nest.length:=by omega
 subst this;rw [hx,vAQ (l:=nest.drop s) (by rw [X4];omega),vBy,vBt];exact key _
theorem aAO{n:Nat}(hn:5500000≤n){l:List Affine}(h1:l.length≤2)(h2: ∀x∈l,bO x=true){way v:Int}{b:Affine}{f:Affine→Affine}(hF: ∀x,bO x=true→gO n x way v b=some (f x)):o8 n l way v b=some (l.map f):=by unfold o8;exact Ev.eq (qV (K:=fun x1=>some x1) (fun x hx=>hF x (h2 x hx)) (by omega) hn (Ev.some rfl))
theorem aF5{n:Nat}(hn:5500000≤n){l:Loop}(hl:E5 l){way v:Int}{b:Affine}{f:Affine→Affine}(hF: ∀x,bO x=true→gO n x way v b=some (f x)):sN n l way v b=some (gR f l):=by unfold sN;rw [aAO hn hl.1.1 hl.1.2 hF,aAO hn hl.2.1 hl.2.2 hF];rfl
theorem C5{n:Nat}(hn:5500000≤n){a:Access}{d:Int}(ha:fO a d=true){way v:Int}{b:Affine}{f:Affine→Affine}(hF: ∀x,bO x=true→gO n x way v b=some (f x)):kN n a way v b=some (s9 f a):=by have:=rS ha;unfold kN;rw [aAO hn this.2.1 this.2.2 hF];rfl
theorem Z7{d way v:Int}{b:Affine}{f:Affine→Affine}(hF: ∀n,5500000≤n→ ∀x,bO x=true→gO n x way v b=some (f x)): ∀(L n:Nat) (e:Expr),5500000+L≤n→cZ L e d=true→s_l8Expr (n+1) e way v b=some (aCf f L e)
 |0,_,_,_,h=>by cases h
 |L+1,n,e,hn,h=>by
  obtain⟨hk,ho,hs⟩:=iT h;obtain⟨n,rfl⟩: ∃j,n=j+1:=⟨n-1,by omega⟩
  have hkl:e.kids.length≤2:=by have:=jV e.kind;omega
  unfold s_l8Expr;refine Ev.eq (Ev.jn (fun z=>(⟨z.1,z.2⟩:Affine)=(if e.kind=2 then f e.index else⟨[],0⟩)) (fun j hj=>?_) fun z hz=>Ev.jn (fun y=>(⟨y.1,y.2⟩:Access)=(if e.kind=3 then s9 f e.read else⟨[],[]⟩)) (fun j hj=>?_) fun y hy=>?_)
  ·exact aK (fun h2=>aB (hF _ (by omega) _ (s4 ho h2).1) (hj _ (by rw [if_pos h2]))) fun h2=>hj _ (by rw [if_neg h2])
  ·exact aK (fun h3=>aB (C5 (by omega) (sZ ho h3).1 (hF _ (by omega))) (hj _ (by rw [if_pos h3]))) fun h3=>hj _ (by rw [if_neg h3])
  obtain⟨x3,x4⟩:=z;obtain⟨x7,x8⟩:=y;dsimp only at hz hy⊢;refine qV (K:=fun x9=>some (⟨e.kind,e.num,(⟨x3,x4⟩:Affine),(⟨x7,x8⟩:Access),x9⟩:Expr)) (fun x hx=>Z7 hF L n x (by omega) (hs x hx)) (by omega) (by omega) (Ev.some ?_);rw [hz,hy];rfl
theorem aF6{n:Nat}(hn:6600000≤n){l:List Stmt}{d:Int}(h1:l.length≤4)(h2: ∀s∈l,fB s d=true){way v:Int}{b:Affine}{f:Affine→Affine}(hF: ∀n,5500000≤n→ ∀x,bO x=true→gO n x way v b=some (f x)):w6 n l way v b=some (l.map (E4 f)):=by
 obtain⟨n,rfl⟩: ∃j,n=j+1:=⟨n-1,by omega⟩
 unfold w6;refine Ev.eq ?_;refine s8 (β:=Stmt) (l:=l) (n:=n+1) (F:=fun x5 k=>Option.bind (kN (n+1) x5.write way v b) fun x6=>Option.bind (s_l8Expr (n+1) x5.value way v b) fun x7=>k (⟨x6,x7⟩:Stmt)) (g:=E4 f) (s:=0) (pre:=[]) (K:=fun x1=>some x1) (fun x hx k hk=>?_) (by omega) (by simp) (by omega) (by omega) (Ev.some (by simp));obtain⟨h1,h2,_⟩:=qJ (h2 x hx);exact aB (C5 (by omega) h1 (hF _ (by omega))) (aB (Z7 hF 5 n x.value (by omega) h2) hk)
theorem aDZ{n:Nat}(hn:6600000≤n){x:Part}{s:Nat}(hs:s+1≤x.nest.length)(h1:x.nest.length≤4)(h2: ∀l∈x.nest,E5 l){d:Int}(h3:x.body.length≤4)(h4: ∀s∈x.body,fB s d=true){way v:Int}{b:Affine}{f:Affine→Affine}(hF: ∀n,5500000≤n→ ∀x,bO x=true→gO n x way v b=some (f x)):
  t0 n x (s:Int) way v b=some ⟨x.nest.take (s+1)++(x.nest.drop (s+1)).map (gR f),x.body.map (E4 f)⟩:=by unfold t0;rw [aM (by omega)];refine Ev.eq (aB (I8 (by omega) (by omega) (by omega)) ?_);rw [show((s:Int)+1).toNat=s+1 by omega,show(0:Int).toNat=0 from rfl,List.drop_zero];refine aB (x:=x.nest.take (s+1)) (dO (by simp;omega)) (aB (aF6 hn h3 h4 hF) ?_);exact s8 (F:=fun x8 k=>Option.bind (sN n x8 way v b) k) (g:=gR f) (s:=s+1) (pre:=x.nest.take (s+1)) (K:=fun x4=>some (⟨x4,x.body.map (E4 f)⟩:Part)) (fun l hl k hk=>aB (aF5 (by omega) (h2 l hl) (hF _ (by omega))) hk) (by omega) (by simp;omega) (by omega) (by omega) (Ev.some rfl)
theorem Y9(n:Nat){a:Affine}(h:BA 1100000 a):gP n a=some a:=by unfold gP;rw [dS _ h];rfl
theorem qS{n:Nat}(hn:5500000≤n){l:List Affine}(h:BAs 1100000 l):cE n l=some l:=by unfold cE;exact Ev.eq (fZ (K:=fun x1=>some x1) (fun x hx=>Y9 n (h.2 x hx)) h.1 hn (Ev.some rfl))
theorem Z0{n:Nat}(hn:5500000≤n){a:Access}(h:BAs 1100000 a.subs):d6 n a=some a:=by unfold d6;rw [qS hn h];rfl
theorem v2: ∀(L n:Nat) (e:Expr),5500000+L≤n→BE 1100000 L e→s_l16OwnExpr (n+1) e=some e
 |0,_,_,_,h=>h.elim
 |L+1,n,e,hn,h=>by
  obtain⟨h1,h2,h3,h4⟩:=h;obtain⟨n,rfl⟩: ∃j,n=j+1:=⟨n-1,by omega⟩
  unfold s_l16OwnExpr kT;rw [Y9 _ h2,Z0 (by omega) h3];refine Ev.eq (aB rfl (aB rfl (aB (x:=e.kids) ?_ (Ev.some (by cases e;rfl)))));exact Ev.eq (fZ (f:=s_l16OwnExpr (n+1)) (K:=fun x1=>some x1) (fun x hx=>v2 L n x (by omega) (h4 x hx)) h1 (by omega) (Ev.some rfl))
theorem aDQ{n:Nat}(hn:6600000≤n){s:Stmt}(h:BS 1100000 s):jM n s=some s:=by
 obtain⟨n,rfl⟩: ∃j,n=j+1:=⟨n-1,by omega⟩
 unfold jM;rw [Z0 (by omega) h.1,v2 5 n s.value (by omega) h.2];rfl
theorem aDS{n:Nat}(hn:6600000≤n){x:Part}(h:BPt 1100000 x):jN n x=some x:=by
 obtain⟨⟨h1,h2⟩,h3,h4⟩:=h;have e1:dY n x.nest=some x.nest:=by
  unfold dY;refine Ev.eq (fZ (K:=fun x1=>some x1) (fun l hl=>?_) h1 (by omega) (Ev.some rfl));unfold mK;rw [qS (by omega) (h2 l hl).1,qS (by omega) (h2 l hl).2];rfl
 have e2:dW n x.body=some x.body:=by
  unfold dW;exact Ev.eq (fZ (K:=fun x1=>some x1) (fun l hl=>aDQ hn (h4 l hl)) h3 (by omega) (Ev.some rfl))
 unfold jN;rw [e1,e2];rfl
theorem aDR{n:Nat}(hn:6600000≤n){p:Prog}(h:BG 1100000 p):eG n p=some p:=by
 obtain⟨⟨h1,h2⟩,h3,h4⟩:=h;have e1:dF n p.arrays=some p.arrays:=by
  unfold dF;refine Ev.eq (fZ (K:=fun x1=>some x1) (fun l hl=>?_) h1 (by omega) (Ev.some rfl));unfold lI;rw [dS _ (h2 l hl)];rfl
 have e2:dX n p.parts=some p.parts:=by
  unfold dX;exact Ev.eq (fZ (K:=fun x1=>some x1) (fun l hl=>aDS hn (h4 l hl)) h3 (by omega) (Ev.some rfl))
 unfold eG;rw [e1,e2];rfl
def kH(p:Prog)(part loop:Int):Bool:=eY p&&match ix p.parts part with
 |some x=>decide (0≤loop∧loop<(x.nest.length:Int))
 |none=>false
theorem aHN{α:Type}{l:List α}{i:Int}(h: ¬(0≤i∧i<(l.length:Int))):ix l i=none:=by
 cases hx:ix l i with
 |none=>rfl
 |some x=>
  obtain⟨h1,h2⟩:=qX hx
  have:=(cC.1 h2).1;exact absurd ⟨h1,by omega⟩ h
theorem aLH{α:Type}{l:List α}{i:Int}{x:α}(h:ix l i=some x): ∃k:Nat,i=k∧k<l.length∧l[k]? =some x:=by obtain⟨h1,h2⟩:=qX h;exact⟨i.toNat,by omega,(cC.1 h2).1,h2⟩
theorem zY(n:Nat){p:Prog}(h:p.parts.length≤1100000)(part:Int):fI n p part=some (decide (0≤part∧part<(p.parts.length:Int))):=by unfold fI;rw [dV,aM (by omega)];exact congrArg some (decide_eq_decide.2 (by omega))
theorem aIP{n:Nat}(hn:7700000≤n){p:Prog}(hp:BG 1100000 p)(part loop:Int)(hl:loop≠ -1):mQ n p part loop=some (if kH p part loop=true then(p,true) else(⟨[],[]⟩,false)):=by
 unfold mQ;refine Ev.eq (Ev.jn (fun z=>z= !kH p part loop) (fun j hj=>?_) fun z hz=>?_)
 ·refine aB (gJ hn hp.sm) (Ev.cond (fun h=>?_) fun h=>?_)
  ·refine hj _ ?_;unfold kH;rw [show eY p=false by simpa using h];rfl
  have hv:eY p=true:=by simpa using h
  refine aB (zY n hp.2.1 part) ?_;by_cases hi:0≤part∧part<(p.parts.length:Int)
  ·obtain⟨x,hx,hx2⟩:=aAb hi.1 hi.2;rw [decide_eq_true hi];refine bH (bQ (fun _=>aB (x:=kH p part loop) ?_ (hj _ rfl)) fun h=>absurd h hl);unfold lA;refine Ev.eq (Ev.jn (fun z=>z=kH p part loop) (fun j hj=>?_) fun z hz=>Ev.some hz);rw [zY n hp.2.1 part,decide_eq_true hi];refine aB rfl (bV (aB hx ?_))
   have:=(hp.2.2 x (dD hx2)).1.1;rw [aM (by omega),dV];refine aB rfl (hj _ ?_);unfold kH;rw [hv,hx];exact decide_eq_decide.2 (by omega)
  rw [decide_eq_false hi];refine bV (hj _ ?_);unfold kH;rw [aHN hi,vAW];rfl
 subst hz;by_cases hc:kH p part loop=true
 ·rw [hc];have hv:eY p=true:=by unfold kH at hc;rw [vBx] at hc;exact hc.1
  obtain⟨x,hx⟩: ∃x,ix p.parts part=some x:=by
   cases hx:ix p.parts part with
   |some x=>exact⟨x,rfl⟩
   |none=>unfold kH at hc;rw [hx,vAW] at hc;cases hc
  exact bH (aB (aDI (by omega) hv) (aB hx (Ev.some rfl)))
 rw [show kH p part loop=false by simpa using hc];exact bV (Ev.some rfl)
def aCu(q:Prog):Prog×Bool:=if eY q=true then(q,true) else(⟨[],[]⟩,false)
theorem aCt{n:Nat}(hn:7700000≤n){p:Prog}(hp:BG 1100000 p):q6 n p=some (aCu p):=by
 unfold q6 aCu;refine Ev.eq (aB (gJ hn hp.sm) (Ev.cond (fun h=>Ev.some ?_) fun h=>?_))
 ·rw [if_neg (by simpa using h)]
 have hv:eY p=true:=by simpa using h
 rw [if_pos hv];exact aB (aDI (by omega) hv) (Ev.some rfl)
theorem aHW{n:Nat}(hn:7700000≤n){p:Prog}(hp:BG 1100000 p)(part loop:Int):t6 n p part loop=some (kH p part loop):=by
 unfold t6;refine Ev.eq (Ev.jn (fun z=>z=kH p part loop) (fun j hj=>?_) fun z hz=>Ev.some hz);refine aB (jO hn hp.sm) (Ev.cond (fun hv=>?_) fun hv=>hj _ (by unfold kH;rw [hv];rfl));refine aK (fun h1=>aK (fun h2=>?_) fun h2=>?_) fun h1=>?_
 ·obtain⟨x,hx,hx2⟩:=aAb h1 h2;refine aK (fun h3=>aB hx (hj _ ?_)) fun h3=>hj _ ?_
  ·unfold kH;rw [hv,hx];exact decide_eq_decide.2 (by omega)
  unfold kH;rw [hv,hx];exact(decide_eq_false (by omega)).symm
 ·exact hj _ (by unfold kH;rw [aHN (by omega),vAW])
 exact hj _ (by unfold kH;rw [aHN (by omega),vAW])
theorem aJd{n:Nat}(hn:7700000≤n){p:Prog}(hp:BG 1100000 p){i:Nat}(hi:i<p.parts.length){y:Part}(hy:BPt 1100000 y):w5 n p (i:Int) 1 [y]=some (aCu ⟨p.arrays,p.parts.set i y⟩):=by
 have hpl:=hp.2.1;have hq:BG 1100000 ⟨p.arrays,p.parts.set i y⟩:=⟨hp.1,by dsimp only;rw [List.length_set];exact hpl,aAP hp.2.2 hy⟩
 unfold w5 aCu;refine Ev.eq (aB (D0 (by omega) hp) (aB (I8 (by omega) (by omega) (by omega)) ?_));rw [vAD,show(0:Int).toNat=0 from rfl,List.drop_zero];refine aB (x:=p.parts.take i) (dO (by simp;omega)) (aB (x:=p.parts.take i++[y]) (dO (by simp;omega)) ?_);rw [aM (by omega)];refine aB (I8 (by omega) (by omega) (by omega)) ?_;rw [vAD,wQ,show((i:Int)+1).toNat=i+1 by omega];refine aB (x:=p.parts.set i y) ?_ (aB (jO hn hq.sm) (Ev.cond (fun h=>Ev.some ?_) fun h=>?_))
 ·rw [dO (by simp;omega),List.set_eq_take_append_cons_drop,if_pos hi,vAO];rfl
 ·rw [if_neg (by simpa using h)]
 rw [if_pos (by simpa using h)];exact aB (D0 (by omega) hq) (Ev.some rfl)
def aBU(k:Nat):Affine:=⟨[0,0,0,0].set k 1,0⟩
def bB(m:Int)(a:Affine):Prop:=a.coefs.length=4∧nU m a.const∧ ∀c∈a.coefs,nU m c
theorem bB.mono{m m':Int}{a:Affine}(h:bB m a)(hm:m≤m'):bB m' a:=⟨h.1,⟨by have:=h.2.1.1;omega,by have:=h.2.1.2;omega⟩,fun c hc=>⟨by have:=(h.2.2 c hc).1;omega,by have:=(h.2.2 c hc).2;omega⟩⟩
theorem aHJ{l:List Int}(h:l.length=4): ∃a b c d,l=[a,b,c,d]:=by
 match l,h with
 | [a,b,c,d],_=>exact⟨a,b,c,d,rfl⟩
theorem aJm{k:Nat}(hk:k<4):bB 6 (aBU k):=by rcases(show k=0∨k=1∨k=2∨k=3 by omega) with rfl|rfl|rfl|rfl<;>(unfold bB nU aBU;simp)
theorem S7{k b:Int}(hk:nU 1000 k)(hb:nU 1000 b):nU 1000000 (k*b):=aFj (by omega) (by omega) hk hb
def aIH(a:Affine)(x:Int)(b:Affine)(y:Int):Affine:=⟨List.zipWith (fun p q=>x*p+y*q) a.coefs b.coefs,x*a.const+y*b.const⟩
theorem aLy(m:Nat)(a0 a1 a2 a3 ac x b0 b1 b2 b3 bc y:Int):jG (m+6) ⟨[a0,a1,a2,a3],ac⟩ x ⟨[b0,b1,b2,b3],bc⟩ y=
  some ⟨[wr (wr (x*a0)+wr (y*b0)),wr (wr (x*a1)+wr (y*b1)),wr (wr (x*a2)+wr (y*b2)),wr (wr (x*a3)+wr (y*b3))],wr (wr (x*ac)+wr (y*bc))⟩:=by kernel_rfl
theorem wrC{a x:Int}(ha:nU 1000000 a)(hx:nU 1000000 x):wr (wr a+wr x)=a+x:=by unfold nU at ha hx;rw [aM (n:=x) (by omega),aM (n:=a) (by omega),aM (by omega)]
theorem aB5{n:Nat}(hn:5500000≤n){a b:Affine}(ha:bB 1000 a)(hb:bB 1000 b){x y:Int}(hx:nU 1000 x)(hy:nU 1000 y):jG n a x b y=some (aIH a x b y):=by
 obtain⟨m,rfl⟩: ∃m,n=m+6:=⟨n-6,by omega⟩
 obtain⟨ac,a⟩:=a;obtain⟨bc,b⟩:=b;obtain⟨h1,h2,h3⟩:=ha;obtain⟨g1,g2,g3⟩:=hb;dsimp only at h1 h2 h3 g1 g2 g3;obtain⟨a0,a1,a2,a3,rfl⟩:=aHJ h1;obtain⟨b0,b1,b2,b3,rfl⟩:=aHJ g1;rw [aLy,wrC (S7 hx (h3 a0 (by simp))) (S7 hy (g3 b0 (by simp))),wrC (S7 hx (h3 a1 (by simp))) (S7 hy (g3 b1 (by simp))),wrC (S7 hx (h3 a2 (by simp))) (S7 hy (g3 b2 (by simp))),wrC (S7 hx (h3 a3 (by simp))) (S7 hy (g3 b3 (by simp))),wrC (S7 hx h2) (S7 hy g2)];rfl
theorem aHn(n:Nat){k:Nat}(hk:k<4):aAS n (k:Int)=some (aBU k):=by rcases(show k=0∨k=1∨k=2∨k=3 by omega) with rfl|rfl|rfl|rfl<;>rfl
def noP:Prog×Bool:=(⟨[],[]⟩,false)
theorem aD5{p:Prog}{part loop:Int}(h:kH p part loop=true):eY p=true∧ ∃(i k:Nat) (P:Part) (l:Loop),part=i∧loop=k∧p.parts[i]? =some P∧P.nest[k]? =some l∧i<p.parts.length∧k<P.nest.length∧cK p.arrays P=true∧k<4:=by
 unfold kH at h;rw [vBx] at h;obtain⟨hv,h⟩:=h;refine⟨hv,?_⟩;cases hx:ix p.parts part with
 |none=>rw [hx] at h;cases h
 |some P=>
  rw [hx] at h;obtain⟨i,rfl,hi,hP⟩:=aLH hx;obtain⟨h1,h2⟩:=of_decide_eq_true h;obtain⟨l,hl,hl2⟩:=aAb h1 h2;have hok:=(K1 hv).2.2.2.1 P (dD hP)
  have:=(qQ hok).1;exact⟨i,loop.toNat,P,l,rfl,by omega,hP,hl2,hi,by omega,hok,by omega⟩
theorem aL2{p:Prog}(hp:BG 1100000 p)(i:Nat){y:Part}(hy:BPt 4 y):BG 1100000 ⟨p.arrays,p.parts.set i y⟩:=⟨hp.1,by dsimp only;rw [List.length_set];exact hp.2.1,aAP hp.2.2 (hy.mono (by omega))⟩
def sA(s:Int):Affine:=⟨[0,0,0,0],s⟩
theorem aHX{p:Prog}{part loop:Int}(h:loop<0):kH p part loop=false:=by
 cases hc:kH p part loop with
 |false=>rfl
 |true=>obtain⟨_,i,k,P,l,_,hk,_⟩:=aD5 hc;omega
def kA(k:Nat)(s:Int):Affine:=⟨[0,0,0,0].set k s,0⟩
def low(k:Nat)(b:Affine):Prop:= ∀j,k≤j→b.coefs.getD j 0=0
def isP(p:Prog)(a:Int):Bool:=decide (0≤a∧a<(p.parts.length:Int))
theorem aDT{b:Bool}(h:(!b)=true):b=false:=by cases b with
 |false=>rfl
 |true=>cases h
theorem aDU{b:Bool}(h:(!b)=false):b=true:=by cases b with
 |false=>cases h
 |true=>rfl
theorem aIN{p:Prog}(hv:eY p=true){x:Inst}(hx:B4 p x): ∀{Y:List Inst} {m:List Int},(∀y∈Y,B4 p y)→(∀y∈Y,com p x y)→R4 p.arrays m→l6 p (vU p m x) Y=vU p (l6 p m Y) x
 | [],m,_,_,_=>rfl
 |y::Y,m,h1,h2,hm=>by show l6 p (vU p (vU p m x) y) Y=vU p (l6 p (vU p m y) Y) x;rw [h2 y uX m hm];exact aIN hv hx (fun z hz=>h1 z (r9 _ hz)) (fun z hz=>h2 z (r9 _ hz)) (aFc hv hm (h1 y uX))
theorem block{p:Prog}(hv:eY p=true): ∀{X Y:List Inst} {m:List Int},(∀x∈X,B4 p x)→(∀y∈Y,B4 p y)→(∀x∈X,∀y∈Y,com p x y)→R4 p.arrays m→l6 p (l6 p m X) Y=l6 p (l6 p m Y) X
 | [],Y,m,_,_,_,_=>rfl
 |x::X,Y,m,h1,h2,h3,hm=>by show l6 p (l6 p (vU p m x) X) Y=l6 p (vU p (l6 p m Y) x) X;rw [block hv (fun z hz=>h1 z (r9 _ hz)) h2 (fun z hz=>h3 z (r9 _ hz)) (aFc hv hm (h1 x uX)),aIN hv (h1 x uX) h2 (h3 x uX) hm]
theorem aGt{n:Nat}(hn:7700000≤n){p:Prog}(hp:BG 1100000 p)(part:Int):mQ n p part (-1)=some (if eY p=true∧isP p part=true then(p,true) else noP):=by
 unfold mQ;refine Ev.eq (Ev.jn (fun z=>z= !(eY p&&isP p part)) (fun j hj=>?_) fun z hz=>?_)
 ·refine aB (gJ hn hp.sm) (Ev.cond (fun h=>hj _ (by rw [aDT h];rfl)) fun h=>?_);have hv:=aDU h;refine aB (zY n hp.2.1 part) (Ev.cond (fun h2=>hj _ ?_) fun h2=>bQ (fun h=>(h rfl).elim) fun _=>hj _ ?_)
  ·rw [hv,show isP p part=false from aDT h2];rfl
  rw [hv,show isP p part=true from aDU h2];rfl
 subst hz;refine Ev.cond (fun h=>Ev.some ?_) fun h=>?_
 ·have:=aDT h;rw [if_neg fun hc=>by rw [hc.1,hc.2] at this;cases this];rfl
 have:=aDU h;simp only [Bool.and_eq_true] at this;obtain⟨hv,hi⟩:=this;rw [if_pos ⟨hv,hi⟩];have hi':0≤part∧part<(p.parts.length:Int):=of_decide_eq_true hi;obtain⟨x,hx,_⟩:=aAb hi'.1 hi'.2;exact aB (aDI (by omega) hv) (aB hx (Ev.some rfl))
def uU(k:Nat)(x:Affine):Affine:=⟨(x.coefs.take k++0::x.coefs.drop k).take 4,x.const⟩
def zA(c:Int):Affine:=⟨[0,0,0,0],c⟩
def vA(k:Nat)(s c:Int):Affine:=⟨[0,0,0,0].set k s,c⟩
theorem aFt(k:Nat): ∀x,bO x=true→BA 4 (uU k x):=fun x hx=>by unfold BA uU;rw [mH];omega
theorem aFV{n:Nat}(hn:5500000≤n){k:Nat}(hk:k<3): ∀x,bO x=true→gD n x (k:Int)=some (uU k x):=fun x hx=>by obtain⟨h1,_,_⟩:=fT hx;obtain⟨a,b,c,d,e⟩:=aHJ h1;unfold gD;rw [zO n x hx];obtain⟨cs,k0⟩:=x;dsimp only at e;subst e;rcases(show k=0∨k=1∨k=2 by omega) with rfl|rfl|rfl<;>rfl
theorem aMY(m:Nat)(a b c d k0:Int)(B:Affine){k:Nat}(hk:k<3):gO (m+6) ⟨[a,b,c,d],k0⟩ 2 (k:Int) B=some (uU k ⟨[a,b,c,d],k0⟩):=by rcases(show k=0∨k=1∨k=2 by omega) with rfl|rfl|rfl<;>rfl
theorem aHI{k:Nat}(hk:k<3)(B:Affine): ∀n,5500000≤n→ ∀x,bO x=true→gO n x 2 (k:Int) B=some (uU k x):=fun n hn x hx=>by
 obtain⟨m,rfl⟩: ∃m,n=m+6:=⟨n-6,by omega⟩
 obtain⟨h1,_,_⟩:=fT hx;obtain⟨a,b,c,d,e⟩:=aHJ h1;obtain⟨cs,k0⟩:=x;dsimp only at e;subst e;exact aMY m a b c d k0 B hk
def lW(l:List Affine):Bool:=l.all fun a=>decide (cQ a.coefs=0)
def oY(l:Loop):Bool:=decide (l.lo.length=1)&&(decide (l.hi.length=1)&&(lW l.lo&&lW l.hi))
def l9(l:List Affine):Int:=(l.headD ⟨[],0⟩).const
theorem L9{n:Nat}(hn:5500000≤n){l:List Affine}(h1:l.length≤2)(h2: ∀x∈l,bO x=true):pL n l=some (lW l):=by
 unfold pL;rw [mC (p:=fun a=>decide (0<(cQ a.coefs:Int))) (fun x hx=>by
  unfold oD;rw [wA hn (show x.coefs.length≤1100000 by have:=(fT (h2 x hx)).1;omega)];rfl) (by omega) (by omega)]
 show some (!l.any _)=_;congr 1;unfold lW;rw [List.not_any_eq_all_not];congr 1;funext a;by_cases h:cQ a.coefs=0
 ·simp [h]
 have:0<(cQ a.coefs:Int):=by omega
 simp [h];omega
theorem aH3{n:Nat}(hn:5500000≤n){l:Loop}(h:E5 l):mS n l=some (if oY l=true then(l9 l.lo,l9 l.hi,true) else(0,0,false)):=by
 obtain⟨⟨h1,h2⟩,h3,h4⟩:=h;unfold mS;refine Ev.eq (Ev.jn (fun z=>z= !oY l) (fun j hj=>?_) fun z hz=>?_)
 ·refine bQ (fun h=>hj _ ?_) fun h=>bQ (fun h'=>hj _ ?_) fun h'=>aB (L9 hn h1 h2) (Ev.cond (fun h5=>hj _ ?_) fun h5=>aB (L9 hn h3 h4) (hj _ ?_))
  ·unfold oY;rw [decide_eq_false (show¬l.lo.length=1 by omega)];rfl
  ·unfold oY;rw [decide_eq_false (show¬l.hi.length=1 by omega),Bool.false_and,vAW];rfl
  ·unfold oY;rw [show lW l.lo=false by simpa using h5];simp
  unfold oY;rw [show lW l.lo=true by simpa using h5,decide_eq_true (show l.lo.length=1 by omega),decide_eq_true (show l.hi.length=1 by omega)];rfl
 subst hz;cases hf:oY l with
 |false=>exact bV (Ev.some rfl)
 |true=>
  refine bH ?_;unfold oY at hf;simp only [Bool.and_eq_true,decide_eq_true_eq] at hf;obtain⟨e1,e2,_⟩:=hf;obtain⟨x,hx⟩:=vBi.1 e1;obtain⟨y,hy⟩:=vBi.1 e2;rw [hx,hy];exact aB (x:=x) rfl (aB (x:=y) rfl (Ev.some rfl))
theorem aKf{n:Nat}(hn:5500000≤n){l:Loop}(h:E5 l):xC n l=some (lW l.lo&&lW l.hi):=by
 obtain⟨⟨h1,h2⟩,h3,h4⟩:=h;have hd: ∀x,bO x=true→iD n x=some (cQ x.coefs:Int):=fun x hx=>qM hn (show x.coefs.length≤1100000 by have:=(fT hx).1;omega);have hall: ∀(l:List Affine) (i:Nat) (x:Affine),l[i]? =some x→cQ x.coefs=0→lW (l.take i)=true→lW (l.take (i+1))=true:=fun l i x hx h0 hf=>by
  unfold lW at hf⊢;rw [R5,hx,List.all_append,hf];simp [h0]
 have hno: ∀(l:List Affine) (i:Nat) (x:Affine),l[i]? =some x→ ¬cQ x.coefs=0→lW l=false:=fun l i x hx h0=>by
  unfold lW;rw [vAJ];exact⟨x,dD hx,by simp [h0]⟩
 unfold xC;refine Ev.eq (Ev.loop (fun z:Int=> ∃i:Nat,z=i∧i≤l.lo.length∧lW (l.lo.take i)=true) (fun z=>l.lo.length-z.toNat) ?_ n _ ⟨0,rfl,by omega,rfl⟩ (by omega));rintro again z ⟨i,rfl,hi,hf⟩ hr;refine aK (fun hlt=>?_) fun hge=>?_
 ·have hlt:i<l.lo.length:=by omega
  have hx:=dH hlt;refine aB (aS hx) (aB (hd _ (h2 _ (vBo hlt))) (aK (fun h0=>Ev.some ?_) fun h0=>?_))
  ·rw [hno l.lo i _ hx (by omega)];rfl
  rw [aM (by omega)];exact hr _ ⟨i+1,by omega,by omega,hall _ _ _ hx (by omega) hf⟩ (by omega)
 have e:i=l.lo.length:=by omega
 subst e;rw [wQ] at hf;rw [hf,vAS];refine Ev.loop (fun z:Int=> ∃i:Nat,z=i∧i≤l.hi.length∧lW (l.hi.take i)=true) (fun z=>l.hi.length-z.toNat) ?_ n _ ⟨0,rfl,by omega,rfl⟩ (by omega);rintro again z ⟨i,rfl,hi,hf⟩ hr;refine aK (fun hlt=>?_) fun hge=>Ev.some ?_
 ·have hlt:i<l.hi.length:=by omega
  have hx:=dH hlt;refine aB (aS hx) (aB (hd _ (h4 _ (vBo hlt))) (aK (fun h0=>Ev.some ?_) fun h0=>?_))
  ·exact(hno l.hi i _ hx (by omega)).symm
  rw [aM (by omega)];exact hr _ ⟨i+1,by omega,by omega,hall _ _ _ hx (by omega) hf⟩ (by omega)
 have e:i=l.hi.length:=by omega
 subst e;rw [wQ] at hf;exact hf.symm
theorem aGn{n:Nat}(hn:5500000≤n){l:Loop}(h:E5 l):t8 n l=some (if oY l=true then(l9 l.lo,l9 l.hi,true) else(0,0,false)):=by
 unfold t8;refine Ev.eq (Ev.jn (fun z=>z= !oY l) (fun j hj=>?_) fun z hz=>?_)
 ·refine bQ (fun h5=>hj _ ?_) fun h5=>bQ (fun h6=>hj _ ?_) fun h6=>aB (aKf hn h) (hj _ ?_)
  ·unfold oY;rw [decide_eq_false (show¬l.lo.length=1 by omega)];rfl
  ·unfold oY;rw [decide_eq_false (show¬l.hi.length=1 by omega),Bool.false_and,vAW];rfl
  unfold oY;rw [decide_eq_true (show l.lo.length=1 by omega),decide_eq_true (show l.hi.length=1 by omega)];rfl
 subst hz;cases hf:oY l with
 |false=>exact bV (Ev.some rfl)
 |true=>
  refine bH ?_;unfold oY at hf;simp only [Bool.and_eq_true,decide_eq_true_eq] at hf;obtain⟨e1,e2,_⟩:=hf;obtain⟨x,hx⟩:=vBi.1 e1;obtain⟨y,hy⟩:=vBi.1 e2;rw [hx,hy];exact aB (x:=x) rfl (aB (x:=y) rfl (Ev.some rfl))
def aCF(lo hi s:Int):Int:=Int.tdiv (max 0 (hi-lo)+s-1) s
def J0(k:Nat)(s:Int)(P:Part)(l:Loop):Part:=
 ⟨P.nest.take k++(⟨[zA 0],[zA (aCF (l9 l.lo) (l9 l.hi) s)]⟩:Loop)::(⟨[zA (l9 l.lo),vA k s (l9 l.lo)],[zA (l9 l.hi),vA k s (l9 l.lo+s)]⟩:Loop)::(P.nest.drop (k+1)).map (gR (uU k)),P.body.map (E4 (uU k))⟩
def sB(p:Prog)(part loop s:Int):Prog×Bool:=
 match ix p.parts part with
 |some P=>match ix P.nest loop with
  |some l=>if kH p part loop=true∧P.nest.length<4∧(1≤s∧s≤6)∧oY l=true then aCu ⟨p.arrays,p.parts.set part.toNat (J0 loop.toNat s P l)⟩ else noP
  |none=>noP
 |none=>noP
theorem zJ{p:Prog}{part loop s:Int}(h:kH p part loop≠true):sB p part loop s=noP:=by
 unfold sB;split
 ·split
  ·rw [if_neg fun hc=>h hc.1]
  rfl
 rfl
theorem X6{p:Prog}{i k:Nat}{P:Part}{l:Loop}(hP:p.parts[i]? =some P)(hl:P.nest[k]? =some l)(s:Int):
  sB p (i:Int) (k:Int) s=if kH p (i:Int) (k:Int)=true∧P.nest.length<4∧(1≤s∧s≤6)∧oY l=true then aCu ⟨p.arrays,p.parts.set i (J0 k s P l)⟩ else noP:=by unfold sB;rw [aS hP];dsimp only;rw [aS hl];rfl
theorem aCr{l:Loop}(h:E5 l)(hf:oY l=true): ∃a b,l=⟨[a],[b]⟩∧a=zA (l9 l.lo)∧b=zA (l9 l.hi)∧nU 99 (l9 l.lo)∧nU 99 (l9 l.hi):=by
 obtain⟨⟨h1,h2⟩,h3,h4⟩:=h;unfold oY at hf;simp only [Bool.and_eq_true,decide_eq_true_eq] at hf;obtain⟨e1,e2,f1,f2⟩:=hf;obtain⟨lo,hi⟩:=l;dsimp only at*;obtain⟨x,hx⟩:=vBi.1 e1;obtain⟨y,hy⟩:=vBi.1 e2;subst hx;subst hy;have key: ∀z:Affine,bO z=true→lW [z]=true→z=zA z.const:=fun z hz hf=>by
  obtain⟨g1,_,_⟩:=fT hz;obtain⟨a,b,c,d,e⟩:=aHJ g1;obtain⟨cs,k0⟩:=z;dsimp only at e;subst e;unfold lW at hf;simp only [List.all_cons,List.all_nil,Bool.and_true,decide_eq_true_eq] at hf;have h0:=lX (l:=[a,b,c,d]) (i:=0) rfl (by omega);have h1:=lX (l:=[a,b,c,d]) (i:=1) rfl (by omega);have h2:=lX (l:=[a,b,c,d]) (i:=2) rfl (by omega);have h3:=lX (l:=[a,b,c,d]) (i:=3) rfl (by omega);rw [h0,h1,h2,h3];rfl
 exact⟨x,y,rfl,key x (h2 x (by simp)) f1,key y (h4 y (by simp)) f2,(fT (h2 x (by simp))).2.1,(fT (h4 y (by simp))).2.1⟩
theorem aKP{lo hi s:Int}(h1:nU 99 lo)(h2:nU 99 hi)(hs:1≤s∧s≤6):0≤aCF lo hi s∧aCF lo hi s≤198:=by
 unfold nU at h1 h2;unfold aCF;rw [Int.tdiv_eq_ediv_of_nonneg (by omega)];refine⟨Int.ediv_nonneg (by omega) (by omega),?_⟩;refine Int.le_trans (Int.ediv_le_ediv (a:=max 0 (hi-lo)+s-1) (b:=198*s) (by omega) ?_) (by rw [Int.mul_ediv_cancel _ (by omega)];omega)
 have:0≤(198-max 0 (hi-lo))*(s-1):=vBj (by omega) (by omega);have e:(198-max 0 (hi-lo))*(s-1)=198*s-198-max 0 (hi-lo)*(s-1):=by
  rw [Int.sub_mul,Int.mul_sub];omega
 have e2:max 0 (hi-lo)*(s-1)≥0:=vBj (by omega) (by omega);rcases(show s=1∨s=2∨s=3∨s=4∨s=5∨s=6 by omega) with rfl|rfl|rfl|rfl|rfl|rfl<;>omega
theorem aBX{list:List Arr}{P:Part}(hP:cK list P=true){k:Nat}{l:Loop}(h4:P.nest.length<4)(hk:k<P.nest.length)(s:Int):BPt 4 (J0 k s P l):=by
 obtain⟨h1,h2⟩:=qQ hP;obtain⟨_,h5,h6,_⟩:=jR hP;refine⟨⟨by simp only [J0,List.length_append,List.length_cons,List.length_map,List.length_take,List.length_drop];omega,fun y hy=>?_⟩,by simp only [J0,List.length_map];exact h5.2,fun s hs=>?_⟩
 ·have hz: ∀c,BA 4 (zA c):=fun c=>by unfold BA zA;simp
  have hv: ∀s c,BA 4 (vA k s c):=fun s c=>by unfold BA vA;simp
  rcases B6.1 hy with hy|hy
  ·exact((aIL hP).1.2 y (vAw hy))
  rcases qE.1 hy with rfl|hy
  ·exact⟨⟨by simp,fun a ha=>by simp at ha;subst ha;exact hz _⟩,by simp,fun a ha=>by simp at ha;subst ha;exact hz _⟩
  rcases qE.1 hy with rfl|hy
  ·exact⟨⟨by simp,fun a ha=>by simp at ha;rcases ha with rfl|rfl;exact hz _;exact hv _ _⟩,by simp,fun a ha=>by simp at ha;rcases ha with rfl|rfl;exact hz _;exact hv _ _⟩
  obtain⟨z,hz,rfl⟩:=vAT.1 hy;exact aKr (aFt k) (h2 z (vAB hz))
 obtain⟨z,hz,rfl⟩:=vAT.1 hs;exact aL1 (aFt k) (h6 z hz)
theorem aAg(n:Nat){k:Nat}(hk:k<4)(s:Int):q5 n (k:Int) s=some (vA k s 0):=by rcases(show k=0∨k=1∨k=2∨k=3 by omega) with rfl|rfl|rfl|rfl<;>rfl
theorem uO(n:Nat)(c:Int):jB n c=some (zA c):=rfl
theorem aII{lo hi s:Int}(h1:nU 99 lo)(h2:nU 99 hi)(hs:1≤s∧s≤6):wr (Int.tdiv (wr ((wr ((max 0 (wr (hi-lo)))+s))-1)) s)=aCF lo hi s:=by obtain⟨c1,c2⟩:=aKP h1 h2 hs;unfold nU at h1 h2;rw [aM (n:=hi-lo) (by omega),aM (n:=max 0 (hi-lo)+s) (by omega),aM (n:=max 0 (hi-lo)+s-1) (by omega)];exact aM (by unfold aCF at c1 c2;omega)
theorem aLM{n:Nat}{l:List Loop}{k:Nat}(hk:k≤l.length)(hl:l.length≤1100000)(v:Loop):gC n l (k:Int) [v]=some (l.take k++[v]++l.drop k):=by unfold gC;rw [decide_eq_true (show(0:Int)≤(k:Int) by omega),decide_eq_true (show(k:Int)≤(l.length:Int) by omega)];rw [vAD];exact dO (by simp;omega)
theorem aD4{n:Nat}(hn:7700000≤n){p:Prog}(hp:BG 1100000 p)(part loop s:Int):fM n p part loop s=some (sB p part loop s):=by
 unfold fM;by_cases hneg:loop= -1
 ·subst hneg;rw [zJ (by rw [aHX (by omega)];simp)];refine Ev.eq (aB (aGt hn hp part) ?_);by_cases hc:eY p=true∧isP p part=true
  ·rw [if_pos hc];have hi:=hc.2;unfold isP at hi;simp only [decide_eq_true_eq] at hi;obtain⟨x,hx,_⟩:=aAb hi.1 hi.2;exact bV (aB hx (Ev.jn (fun z=>z=true) (fun j hj=>aK (fun _=>hj _ rfl) fun h=>absurd (show(-1:Int)<0 by omega) h) fun z hz=>by rw [hz];exact bV (Ev.some rfl)))
  rw [if_neg hc];exact bH (Ev.some rfl)
 refine Ev.eq (aB (aIP hn hp part loop hneg) ?_);by_cases hb:kH p part loop=true
 ·rw [if_pos hb];obtain⟨hv,i,k,P,l,rfl,rfl,hP,hl,hi,hkl,hok,hk⟩:=aD5 hb;obtain⟨h1,h2⟩:=qQ hok;obtain⟨_,h4,h5,_⟩:=jR hok;have hlp:=h2 l (dD hl);rw [X6 hP hl];refine bV (aB (aS hP) (Ev.jn (fun z=>z= !(decide (P.nest.length<4)&&decide (1≤s∧s≤6))) (fun j hj=>?_) fun z hz=>?_))
  ·refine aK (fun h=>absurd h (by omega)) fun _=>aK (fun h=>hj _ ?_) fun h=>aB (dV n s 1 6) (hj _ ?_)
   ·rw [decide_eq_false (show¬P.nest.length<4 by omega)];rfl
   rw [decide_eq_true (show P.nest.length<4 by omega)];rfl
  subst hz;by_cases h4n:P.nest.length<4
  ·by_cases hs:1≤s∧s≤6
   ·rw [decide_eq_true h4n,decide_eq_true hs];refine bH (aB (aS hl) (aB (aH3 (by omega) hlp) ?_));by_cases hf:oY l=true
    ·rw [if_pos hf,if_pos ⟨hb,h4n,hs,hf⟩];obtain⟨a,b,_,_,_,b1,b2⟩:=aCr hlp hf;have hch:=S6 (n:=n) (by omega) (nest:=P.nest) (body:=P.body) (s:=k) (by omega) h1 (fun y hy=>h2 y (vAB hy)) h4.2 h5 (F:=fun q0=>gD n q0 (k:Int)) (aFV (by omega) (by omega));have hx8:(P.nest.take k++(P.nest.drop k).map (gR (uU k)))[k]? =some (gR (uU k) l):=by
      rw [iR hl,I1 (by rw [mH];omega),mH,vBI (by omega),vBk];rfl
     refine bV (aB hch (aB (iC (by dsimp only;omega) _) (aB (x:=()) (by unfold nzc;rw [if_neg (by omega)]) (aB (aAg n hk s) (aB (aAg n hk s) (aB (uO n _) (aB (uO n _) (aB (aS hx8) (aB (iC (by simp;omega) _) (aB (uO n 0) (aB (uO n _) (aB (aLM (by simp;omega) (by simp;omega) _) (aB (iC (by simp;omega) _) ?_)))))))))))));dsimp only;unfold nU at b1 b2;rw [vAD,vAD,List.set_set,aM (n:=l9 l.lo+s) (by omega),aII ⟨by omega,by omega⟩ ⟨by omega,by omega⟩ hs];have hd:P.nest.drop k=l::P.nest.drop (k+1):=iR hl;have hlen:(P.nest.take k).length=k:=by rw [mH];omega
     have hm: ∀R S:Loop,(((P.nest.take k++(P.nest.drop k).map (gR (uU k))).set k R).take k++[S]++((P.nest.take k++(P.nest.drop k).map (gR (uU k))).set k R).drop k)=P.nest.take k++S::R::(P.nest.drop (k+1)).map (gR (uU k)):=fun R S=>by
      rw [hd,List.map_cons,vBm _ _ (by omega),hlen,vBk,vBB,vBd (by omega),vAQ (by omega),vBw (by omega),List.drop_of_length_le (by omega)];simp
     rw [hm];exact aB (aCt hn (aL2 hp i (aBX hok h4n hkl s))) (Ev.some rfl)
    rw [if_neg hf,if_neg fun h=>hf h.2.2.2];exact bH (Ev.some rfl)
   rw [if_neg fun h=>hs h.2.2.1,decide_eq_false hs,vAW];exact bV (Ev.some rfl)
  rw [if_neg fun h=>h4n h.2.1,decide_eq_false h4n];exact bV (Ev.some rfl)
 rw [if_neg hb,zJ hb];exact bH (Ev.some rfl)
theorem aNV{k:Nat}(hk:k<4)(s c:Int):aIH (aBU k) s (zA c) 1=vA k s c:=by rcases(show k=0∨k=1∨k=2∨k=3 by omega) with rfl|rfl|rfl|rfl<;>simp [aIH,aBU,zA,vA]
theorem aNh{k:Nat}(hk:k<4)(s c e:Int):aIH (vA k s c) 1 (zA e) 1=vA k s (c+e):=by rcases(show k=0∨k=1∨k=2∨k=3 by omega) with rfl|rfl|rfl|rfl<;>simp [aIH,zA,vA]
theorem aMn{c:Int}(h:nU 1000 c):bB 1000 (zA c):=⟨rfl,h,fun x hx=>by simp [zA] at hx;subst hx;exact⟨by omega,by omega⟩⟩
theorem aNG{k:Nat}{s c:Int}(hs:nU 1000 s)(h:nU 1000 c):bB 1000 (vA k s c):=by refine⟨by simp [vA],h,aAP (fun c hc=>?_) hs⟩;simp at hc;subst hc;exact⟨by omega,by omega⟩
theorem aDA{n:Nat}(hn:7700000≤n){p:Prog}(hp:BG 1100000 p)(part loop s:Int):jH n p part loop s=some (sB p part loop s):=by
 unfold jH;refine Ev.eq (aB (aDR (by omega) hp) ?_);by_cases hb:kH p part loop=true
 ·obtain⟨hv,i,k,P,l,rfl,rfl,hP,hl,hi,hkl,hok,hk⟩:=aD5 hb;obtain⟨h1,h2⟩:=qQ hok;obtain⟨_,h4,h5,_⟩:=jR hok;have hlp:=h2 l (dD hl);rw [X6 hP hl];refine Ev.jn (fun z=>z= !(decide (P.nest.length<4)&&decide (1≤s∧s≤6))) (fun j hj=>?_) fun z hz=>?_
  ·refine aB (x:=true) (by rw [aHW hn hp _ _,hb]) ?_;refine bH (aB (aS hP) (aK (fun h=>hj _ ?_) fun h=>aK (fun h'=>hj _ ?_) fun h'=>hj _ ?_))
   ·rw [decide_eq_false (show¬P.nest.length<4 by omega)];rfl
   ·rw [decide_eq_false (show¬(1≤s∧s≤6) by omega),vAW];rfl
   rw [decide_eq_true (show P.nest.length<4 by omega),vAS];by_cases h6:(6:Int)<s
   ·rw [decide_eq_true h6,decide_eq_false (show¬(1≤s∧s≤6) by omega)];rfl
   rw [decide_eq_false h6,decide_eq_true (show(1≤s∧s≤6) by omega)];rfl
  subst hz;by_cases h4n:P.nest.length<4
  ·by_cases hs:1≤s∧s≤6
   ·rw [decide_eq_true h4n,decide_eq_true hs];refine bH (aB (aS hP) (aB (aS hl) (aB (aGn (by omega) hlp) ?_)));by_cases hf:oY l=true
    ·rw [if_pos hf,if_pos ⟨hb,h4n,hs,hf⟩];obtain⟨a,b,_,_,_,b1,b2⟩:=aCr hlp hf;obtain⟨c1,c2⟩:=aKP b1 b2 hs;unfold nU at b1 b2;refine bH (Ev.jn (fun z=>z=aCF (l9 l.lo) (l9 l.hi) s) (fun j hj=>aK (fun h=>aB (x:=()) (by unfold nzc;rw [if_neg (by omega)]) (hj _ ?_)) fun h=>hj _ ?_) fun z hz=>?_)
     ·dsimp only at h⊢;rw [←aII ⟨by omega,by omega⟩ ⟨by omega,by omega⟩ hs,aM (n:=l9 l.hi-l9 l.lo) (by omega),show max 0 (l9 l.hi-l9 l.lo)=l9 l.hi-l9 l.lo by omega]
     ·dsimp only at h⊢;unfold aCF;rw [show max 0 (l9 l.hi-l9 l.lo)=0 by omega,Int.tdiv_eq_ediv_of_nonneg (by omega)];exact(Int.ediv_eq_zero_of_lt (by omega) (by omega)).symm
     subst hz;have hlen:(P.nest.take k).length=k:=by rw [mH];omega
     refine aB (aDZ (by omega) (by omega) h1 h2 h4.2 h5 (aHI (by omega) _)) (aB (aHn n hk) (aB (tF n _) (aB (aB5 (by omega) ((aJm hk).mono (by omega)) (aMn ⟨by dsimp only;omega,by dsimp only;omega⟩) ⟨by omega,by omega⟩ ⟨by omega,by omega⟩) ?_)));dsimp only;rw [aNV hk];refine aB (tF n _) (aB (tF n _) (aB (tF n _) (aB (aB5 (by omega) (aNG ⟨by omega,by omega⟩ ⟨by omega,by omega⟩) (aMn ⟨by omega,by omega⟩) ⟨by omega,by omega⟩ ⟨by omega,by omega⟩) ?_)));rw [aNh hk];refine aB (I8 (by omega) (by omega) (by simp;omega)) (aB (dO (by simp;omega)) (aB (show sU n=some (zA 0) from rfl) (aB (tF n _) (aB (dO (by simp;omega)) ?_))));rw [aM (by omega)];refine aB (I8 (by omega) (by simp;omega) (by simp)) (aB (dO (by simp;omega)) ?_);have hm: ∀R S:Loop,([]++((P.nest.take (k+1)++(P.nest.drop (k+1)).map (gR (uU k))).take (k:Int).toNat).drop (0:Int).toNat++[S,R]++((P.nest.take (k+1)++(P.nest.drop (k+1)).map (gR (uU k))).take ((P.nest.take (k+1)++(P.nest.drop (k+1)).map (gR (uU k))).length:Int).toNat).drop ((k:Int)+1).toNat)=P.nest.take k++S::R::(P.nest.drop (k+1)).map (gR (uU k)):=fun R S=>by
      have e1:(P.nest.take (k+1)).length=k+1:=by rw [mH];omega
      rw [vAD,vAD,show((k:Int)+1).toNat=k+1 by omega,show(0:Int).toNat=0 from rfl,List.drop_zero,wQ,vBd (by omega),List.take_take,vBI (by omega),vBw (by omega),List.drop_of_length_le (by omega)];simp
     rw [hm];exact aB (aJd hn hp hi ((aBX hok h4n hkl s).mono (by omega))) (Ev.some rfl)
    rw [if_neg hf,if_neg fun h=>hf h.2.2.2];exact bV (Ev.some rfl)
   rw [if_neg fun h=>hs h.2.2.1,decide_eq_false hs,vAW];exact bV (Ev.some rfl)
  rw [if_neg fun h=>h4n h.2.1,decide_eq_false h4n];exact bV (Ev.some rfl)
 rw [zJ hb];refine Ev.jn (fun z=>z=true) (fun j hj=>aB (aHW hn hp _ _) ?_) fun z hz=>by rw [hz];exact bV (Ev.some rfl)
 rw [show kH p part loop=false by simpa using hb];exact bV (hj _ rfl)
end Go.Lift
