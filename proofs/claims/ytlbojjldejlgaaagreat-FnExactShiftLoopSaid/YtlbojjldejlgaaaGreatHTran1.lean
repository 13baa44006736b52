/- Maps over programs: the program's own changes and the reference's. -/
import Derived.Test.YtlbojjldejlgaaaGreatHDraw1
set_option maxRecDepth 110000000
set_option linter.unusedVariables false
namespace Go.Lift
open Go
theorem r7{α β R:Type}{l:List α}{F:α→(β→Option R)→Option R}{g:α→β}{K:List β→Option R}{Q:R→Prop}{n:Nat}(hF: ∀x∈l,∀k:β→Option R,Ev (k (g x)) Q→Ev (F x k) Q)
  {s:Nat} (hs:s≤l.length) {pre:List β} (hp:pre.length≤1100000) (hl:l.length≤1100000) (hn:5500000≤n) (hK:Ev (K (pre++(l.drop s).map g)) Q):
  Ev (aM (fun again ((x,i):List β×Int)=>bif decide (i<(l.length:Int)) then(Option.bind (ix l i) fun y=>F y fun z=>Option.bind (app x [z]) fun w=>again (w,wr (i+1))) else K x) n (pre,(s:Int))) Q:=by
 refine Ev.loop (fun z:List β×Int=> ∃i:Nat,z.2=i∧s≤i∧i≤l.length∧z.1=pre++((l.drop s).take (i-s)).map g) (fun z=>l.length-z.2.toNat) ?_ n _ ⟨s,rfl,by omega,by omega,by simp⟩ (by dsimp only;omega);rintro again ⟨x,z⟩ ⟨i,hz,hsi,hi,hx⟩ hr;dsimp only at hz hx⊢;subst hz;refine aK (fun hlt=>?_) fun hge=>?_
 ·have hg:=dM (show i<l.length by omega);have hxl:x.length≤2200000:=by rw [hx,oK,S7,vP,vAO];omega
  refine aB (aS hg) (hF _ (dF hg) _ (aB (fH (by simp;omega)) ?_));rw [aN (by omega)];refine hr _ ⟨i+1,by dsimp only;omega,by omega,by omega,?_⟩ (by dsimp only;omega);dsimp only;rw [show i+1-s=(i-s)+1 by omega,E1,N7,show s+(i-s)=i by omega,hg,hx,vAT,vAN];rfl
 have:i=l.length:=by omega
 subst this;rw [hx,vBe (by rw [vAO];omega)];exact hK
theorem l7{α β R:Type}{l:List α}{f:α→Option β}{g:α→β}{K:List β→Option R}{Q:R→Prop}{n:Nat}(hf: ∀x∈l,f x=some (g x))(hl:l.length≤1100000)(hn:5500000≤n)(hK:Ev (K (l.map g)) Q):
  Ev (aM (fun again ((x,i):List β×Int)=>bif decide (i<(l.length:Int)) then(Option.bind (ix l i) fun y=>Option.bind (f y) fun z=>Option.bind (app x [z]) fun w=>again (w,wr (i+1))) else K x) n ([],0)) Q:=
 r7 (F:=fun y k=>Option.bind (f y) k) (g:=g) (s:=0) (pre:=[]) (fun x hx k hk=>aB (hf x hx) hk) (by omega) (by simp) hl hn (by simpa using hK)
theorem Y6{α R:Type}{l:List α}{F:α→(α→Option R)→Option R}{W:List α→Option R→Option R}{m:List α→Int}{g:α→α}{K:List α→Option R}{Q:R→Prop}{n:Nat}
  (hW: ∀y o,y.length=l.length→Ev o Q→Ev (W y o) Q) (hm: ∀y:List α,y.length=l.length→m y=(l.length:Int))
  {s:Nat} (hs:s≤l.length) (hF: ∀x∈l,∀k:α→Option R,Ev (k (g x)) Q→Ev (F x k) Q) (hl:l.length≤1100000) (hn:5500000≤n) (hK:Ev (K (l.take s++(l.drop s).map g)) Q):
  Ev (aM (fun again ((y,i):List α×Int)=>W y (bif decide (i<m y) then(Option.bind (ix y i) fun x=>F x fun z=>Option.bind (cX y i z) fun w=>again (w,wr (i+1))) else K y)) n (l,(s:Int))) Q:=by
 refine Ev.loop (fun z:List α×Int=> ∃i:Nat,z.2=i∧s≤i∧i≤l.length∧z.1=l.take s++((l.drop s).take (i-s)).map g++l.drop i) (fun z=>l.length-z.2.toNat) ?_ n _ ⟨s,rfl,by omega,by omega,by simp⟩ (by dsimp only;omega);rintro again ⟨x,z⟩ ⟨i,hz,hsi,hi,hx⟩ hr;dsimp only at hz hx⊢;subst hz;have hpl:(l.take s++((l.drop s).take (i-s)).map g).length=i:=by rw [oK,S7,vP,vP,vAO];omega
 have hxl:x.length=l.length:=by rw [hx,oK,hpl,vAO];omega
 refine hW _ _ hxl ?_;rw [hm _ hxl];refine aK (fun hlt=>?_) fun hge=>?_
 ·obtain⟨e,hg⟩: ∃e,l[i]? =some e:=⟨_,dM (show i<l.length by omega)⟩
  have hgx:x[i]? =some e:=by
   rw [hx,N8 (by omega),hpl,vBi,N7];exact hg
  refine aB (aS hgx) (hF _ (dF hg) _ (aB (eU (by omega) _) ?_));rw [aN (by omega)];refine hr _ ⟨i+1,by dsimp only;omega,by omega,by omega,?_⟩ (by dsimp only;omega);dsimp only;rw [hx,vAG,vBg _ _ (by omega),hpl,vBi,lM hg,List.set_cons_zero,show i+1-s=(i-s)+1 by omega,E1,N7,show s+(i-s)=i by omega,hg];simp
 have:i=l.length:=by omega
 subst this;rw [hx,vBe (l:=l.drop s) (by rw [vAO];omega),vBu,vBp];exact hK
def r8(f:Affine→Affine)(a:Access):Access:=⟨a.array,a.subs.map f⟩
def aBq(f:Affine→Affine):Nat→Expr→Expr
 |0,e=>e
 |L+1,e=>⟨e.kind,e.num,if e.kind=2 then f e.index else⟨[],0⟩,if e.kind=3 then r8 f e.read else⟨[],[]⟩,e.kids.map (aBq f L)⟩
def uT(f:Affine→Affine)(s:Stmt):Stmt:=⟨r8 f s.write,aBq f 5 s.value⟩
def gD(f:Affine→Affine)(l:Loop):Loop:=⟨l.lo.map f,l.hi.map f⟩
theorem rY{e:Expr}{d:Int}(h:fS e d=true)(hk:e.kind=2):bM e.index=true∧lV e.read=true:=by unfold fS bP at h;rw [if_pos hk] at h;simp only [Bool.and_eq_true] at h;exact⟨h.2.2.1,h.2.1⟩
theorem rX{e:Expr}{d:Int}(h:fS e d=true)(hk:e.kind=3):fK e.read d=true∧iM e.index=true:=by unfold fS at h;rw [if_neg (by omega),if_pos hk] at h;simp only [Bool.and_eq_true] at h;exact⟨h.2.2,h.2.1⟩
theorem G6{e:Expr}{d:Int}(h:fS e d=true)(h2: ¬e.kind=2)(h3: ¬e.kind=3):iM e.index=true∧lV e.read=true:=by unfold fS at h;rw [if_neg h2,if_neg h3] at h;split at h<;>simp only [Bool.and_eq_true] at h<;>exact⟨h.2.1,h.2.2⟩
theorem o0{a:Affine}(h:iM a=true):a=⟨[],0⟩:=by obtain⟨c,k⟩:=a;simp only [iM,Bool.and_eq_true,decide_eq_true_eq] at h;obtain⟨h1,rfl⟩:=h;rw [vAw h1]
theorem o1{a:Access}(h:lV a=true):a=⟨[],[]⟩:=by obtain⟨c,k⟩:=a;simp only [lV,Bool.and_eq_true,decide_eq_true_eq] at h;obtain⟨rfl,h1⟩:=h;rw [vAw h1]
theorem sD{n:Nat}(hn:5500000≤n){a:Access}{d:Int}(ha:fK a d=true){F:Affine→Option Affine}{f:Affine→Affine}(hF: ∀x,bM x=true→F x=some (f x)):gQ n a F=some (r8 f a):=by obtain⟨h1,h2,h3⟩:=q5 ha;refine Ev.eq ?_;unfold gQ;exact l7 (K:=fun x1=>some (⟨a.array,x1⟩:Access)) (fun x hx=>hF x (h3 x hx)) (by omega) hn (Ev.some rfl)
theorem wV{d:Int}{F:Affine→Option Affine}{f:Affine→Affine}(hF: ∀x,bM x=true→F x=some (f x)): ∀(L n:Nat) (e:Expr),5500000+L≤n→dC L e d=true→i_exprMap (n+1) e F=some (aBq f L e)
 |0,_,_,_,h=>by cases h
 |L+1,n,e,hn,h=>by
  obtain⟨hk,ho,hs⟩:=jG h;obtain⟨n,rfl⟩: ∃j,n=j+1:=⟨n-1,by omega⟩
  have hkl:e.kids.length≤2:=by have:=jP e.kind;omega
  unfold i_exprMap;refine Ev.eq (Ev.jn (fun z=>(⟨z.1,z.2.1⟩:Affine)=(if e.kind=2 then f e.index else⟨[],0⟩)∧(⟨z.2.2.1,z.2.2.2⟩:Access)=(if e.kind=3 then r8 f e.read else⟨[],[]⟩)) (fun j hj=>?_) fun z hz=>?_)
  ·refine aK (fun h2=>?_) fun h2=>aK (fun h3=>?_) fun h3=>?_
   ·exact aB (hF _ (rY ho h2).1) (hj _ ⟨by rw [if_pos h2],by rw [if_neg (by omega)]⟩)
   ·exact aB (sD (by omega) (rX ho h3).1 hF) (hj _ ⟨by rw [if_neg h2],by rw [if_pos h3]⟩)
   exact hj _ ⟨by rw [if_neg h2],by rw [if_neg h3]⟩
  obtain⟨x4,x5,x6,x7⟩:=z;obtain⟨z1,z2⟩:=hz;dsimp only at z1 z2⊢;refine l7 (K:=fun x8=>some (⟨e.kind,e.num,(⟨x4,x5⟩:Affine),(⟨x6,x7⟩:Access),x8⟩:Expr)) (fun x hx=>wV hF L n x (by omega) (hs x hx)) (by omega) (by omega) (Ev.some ?_);rw [z1,z2];rfl
theorem wS{n:Nat}(hn:6600000≤n){s:Stmt}{d:Int}(hs:fI s d=true){F:Affine→Option Affine}{f:Affine→Affine}(hF: ∀x,bM x=true→F x=some (f x)):iC n s F=some (uT f s):=by
 obtain⟨h1,h2,_⟩:=rG hs;obtain⟨n,rfl⟩: ∃j,n=j+1:=⟨n-1,by omega⟩
 unfold iC;rw [sD (by omega) h1 hF,wV hF 5 n s.value (by omega) h2];rfl
theorem aDb{α:Type}{f:α→α}: ∀{l:List α},(∀x∈l,f x=x)→l.map f=l
 | [],_=>rfl
 |x::l,h=>by rw [List.map_cons,h x yF,aDb fun y hy=>h y (uF _ hy)]
theorem U7{f:Affine→Affine}{a:Access}{d:Int}(ha:fK a d=true)(hf: ∀x,bM x=true→f x=x):r8 f a=a:=by obtain⟨h1,h2,h3⟩:=q5 ha;unfold r8;rw [aDb fun x hx=>hf x (h3 x hx)]
theorem aEE{d:Int}{f:Affine→Affine}(hf: ∀x,bM x=true→f x=x): ∀{L:Nat} {e:Expr},dC L e d=true→aBq f L e=e
 |0,_,_=>rfl
 |L+1,e,h=>by
  obtain⟨hk,ho,hs⟩:=jG h;obtain⟨kind,num,index,read,kids⟩:=e;unfold aBq;dsimp only at hk ho hs⊢;rw [aDb fun x hx=>aEE hf (hs x hx)];by_cases h2:kind=2
  ·have e1:=rY ho h2;dsimp only at e1;rw [if_pos h2,if_neg (by omega),hf _ e1.1,o1 e1.2]
  by_cases h3:kind=3
  ·have e1:=rX ho h3;dsimp only at e1;rw [if_neg h2,if_pos h3,U7 e1.1 hf,o0 e1.2]
  have e1:=G6 ho h2 h3;dsimp only at e1;rw [if_neg h2,if_neg h3,o0 e1.1,o1 e1.2]
theorem aJj{f:Affine→Affine}(hf: ∀x,bM x=true→f x=x){s:Stmt}{d:Int}(hs:fI s d=true):uT f s=s:=by obtain⟨h1,h2,_⟩:=rG hs;unfold uT;rw [U7 h1 hf,aEE hf h2]
def aBr(l:Loop):Prop:=(l.lo.length≤2∧ ∀x∈l.lo,bM x=true)∧l.hi.length≤2∧ ∀x∈l.hi,bM x=true
theorem aK3{nest:List Loop}(h:Fit nest): ∀l∈nest,aBr l:=fun l hl=>by
 obtain⟨i,hi⟩:=vAE.1 hl
 have:=h.2 i l hi;exact⟨(rK this.1).2,(rK this.2).2⟩
theorem pW{list:List Arr}{x:Part}(h:cC list x=true):x.nest.length≤4∧ ∀l∈x.nest,aBr l:=by have:=(aJH (lK h).1).1;exact⟨this.1,aK3 this⟩
theorem aJ6{a:Affine}(h:bM a=true):BA 4 a:=by have:=(jT h).1;unfold BA;omega
theorem aAN{l:List Affine}(h1:l.length≤2)(h2: ∀x∈l,bM x=true):BAs 4 l:=⟨by omega,fun a ha=>aJ6 (h2 a ha)⟩
theorem aJ5{d:Int}: ∀{L:Nat} {e:Expr},dC L e d=true→BE 4 L e
 |0,_,h=>by cases h
 |L+1,e,h=>by
  obtain⟨hk,ho,hs⟩:=jG h
  have:=jP e.kind;refine⟨by omega,?_,?_,fun k hk=>aJ5 (hs k hk)⟩
  ·by_cases h2:e.kind=2
   ·exact aJ6 (rY ho h2).1
   by_cases h3:e.kind=3
   ·rw [o0 (rX ho h3).2];unfold BA;simp
   rw [o0 (G6 ho h2 h3).1];unfold BA;simp
  by_cases h3:e.kind=3
  ·have:=q5 (rX ho h3).1;exact aAN this.2.1 this.2.2
  by_cases h2:e.kind=2
  ·rw [o1 (rY ho h2).2];exact⟨by simp,fun x hx=>by cases hx⟩
  rw [o1 (G6 ho h2 h3).2];exact⟨by simp,fun x hx=>by cases hx⟩
theorem aMp{s:Stmt}{d:Int}(hs:fI s d=true):BS 4 s:=by
 obtain⟨h1,h2,_⟩:=rG hs
 have:=q5 h1;exact⟨aAN this.2.1 this.2.2,aJ5 h2⟩
theorem aH1{list:List Arr}{x:Part}(h:cC list x=true):BPt 4 x:=by obtain⟨h1,h2⟩:=pW h;obtain⟨_,h4,h5,_⟩:=lK h;exact⟨⟨h1,fun l hl=>⟨aAN (h2 l hl).1.1 (h2 l hl).1.2,aAN (h2 l hl).2.1 (h2 l hl).2.2⟩⟩,h4.2,fun s hs=>aMp (h5 s hs)⟩
theorem aJ3{l:List Arr}(h1:l.length≤4)(h2:nZ l):BR 4 l:=⟨h1,fun x hx=>by have:=h2 x hx;simp only [iI,Bool.and_eq_true,decide_eq_true_eq] at this;omega⟩
theorem aJ4{p:Prog}(h:iH p=true):BG 4 p:=by obtain⟨h1,h2,h3,h4,_⟩:=Z8 h;exact⟨aJ3 h1 h2,h3,fun x hx=>aH1 (h4 x hx)⟩
theorem D2{B:Nat}{l:List Affine}{f:Affine→Affine}(h:l.length≤B)(hf: ∀x∈l,BA B (f x)):BAs B (l.map f):=⟨by rw [S7];exact h,fun a ha=>by obtain⟨x,hx,rfl⟩:=vAQ.1 ha;exact hf x hx⟩
theorem aH5{d:Int}{f:Affine→Affine}(hf: ∀x,bM x=true→BA 4 (f x)): ∀{L:Nat} {e:Expr},dC L e d=true→BE 4 L (aBq f L e)
 |0,_,h=>by cases h
 |L+1,e,h=>by
  obtain⟨hk,ho,hs⟩:=jG h
  have:=jP e.kind;unfold aBq BE;refine⟨by dsimp only;rw [S7];omega,?_,?_,fun k hk=>?_⟩
  ·dsimp only;by_cases h2:e.kind=2
   ·rw [if_pos h2];exact hf _ (rY ho h2).1
   rw [if_neg h2];unfold BA;simp
  ·dsimp only;by_cases h3:e.kind=3
   ·rw [if_pos h3]
    have:=q5 (rX ho h3).1;exact D2 (by omega) fun x hx=>hf x (this.2.2 x hx)
   rw [if_neg h3];exact⟨by simp,fun x hx=>by cases hx⟩
  obtain⟨x,hx,rfl⟩:=vAQ.1 hk;exact aH5 hf (hs x hx)
theorem aLc{f:Affine→Affine}(hf: ∀x,bM x=true→BA 4 (f x)){s:Stmt}{d:Int}(hs:fI s d=true):BS 4 (uT f s):=by
 obtain⟨h1,h2,_⟩:=rG hs
 have:=q5 h1;exact⟨D2 (by omega) fun x hx=>hf x (this.2.2 x hx),aH5 hf h2⟩
theorem aEY{f:Affine→Affine}(hf: ∀x,bM x=true→BA 4 (f x)){l:Loop}(h:aBr l):BAs 4 (gD f l).lo∧BAs 4 (gD f l).hi:=
 ⟨D2 (by have:=h.1.1;omega) fun x hx=>hf x (h.1.2 x hx),D2 (by have:=h.2.1;omega) fun x hx=>hf x (h.2.2 x hx)⟩
theorem T7(n:Nat){a:Affine}(h:a.coefs.length≤1100000):cQ n a=some a:=by unfold cQ m_ownClone;rw [if_pos (by omega)];rfl
theorem T6(n:Nat): ∀x,bM x=true→cQ n x=some x:=fun x hx=>T7 n (by have:=(jT hx).1;omega)
theorem G7{n:Nat}(hn:5500000≤n){l:List Affine}(h1:l.length≤2)(h2: ∀x∈l,bM x=true):eI n l=some l:=by unfold eI;refine Ev.eq (l7 (g:=fun x=>x) (K:=fun x1=>some x1) (fun x hx=>T6 n x (h2 x hx)) (by omega) hn (Ev.some ?_));simp
theorem aC0{n:Nat}(hn:5500000≤n){nest:List Loop}(h1:nest.length≤4)(h2: ∀l∈nest,aBr l):o6 n nest=some nest:=by unfold o6;refine Ev.eq ?_;refine r7 (β:=Loop) (l:=nest) (n:=n) (F:=fun x5 k=>Option.bind (eI n x5.lo) fun x6=>Option.bind (eI n x5.hi) fun x7=>k (⟨x6,x7⟩:Loop)) (g:=fun x=>x) (s:=0) (pre:=[]) (K:=fun x1=>some x1) ?_ (by omega) (by simp) (by omega) hn (Ev.some (by simp));exact fun x hx k hk=>aB (G7 hn (h2 x hx).1.1 (h2 x hx).1.2) (aB (G7 hn (h2 x hx).2.1 (h2 x hx).2.2) hk)
theorem aCY{n:Nat}(hn:6600000≤n){s:Stmt}{d:Int}(hs:fI s d=true):o5 n s=some s:=by unfold o5;rw [wS hn hs (F:=fun q0=>cQ n q0) (f:=fun x=>x) (T6 n),aJj (fun _ _=>rfl) hs];rfl
theorem aCZ{n:Nat}(hn:6600000≤n){list:List Arr}{x:Part}(h:cC list x=true):mO n x=some x:=by obtain⟨h1,h2⟩:=pW h;obtain⟨_,h4,h5,_⟩:=lK h;unfold mO;refine Ev.eq (aB (aC0 (by omega) h1 h2) (l7 (g:=fun x=>x) (K:=fun x2=>some (⟨x.nest,x2⟩:Part)) (fun s hs=>aCY hn (h5 s hs)) (by omega) (by omega) (Ev.some ?_)));simp
theorem aCX{n:Nat}(hn:6600000≤n){p:Prog}(h:iH p=true):f9 n p=some p:=by
 obtain⟨h1,h2,h3,h4,_⟩:=Z8 h;unfold f9;refine Ev.eq (r7 (F:=fun x5 k=>Option.bind (m_ownClone x5.dims) fun x6=>k (⟨x5.name,x6⟩:Arr)) (g:=fun x=>x) (s:=0) (pre:=[]) (K:=fun x1=>aM (fun again11 ((x8,x9):(List Part)×Int)=>
    bif decide (x9<(p.parts.length:Int)) then(
     Option.bind (ix p.parts x9) fun x12=>
     Option.bind (mO n x12) fun x13=>
     Option.bind (app x8 [x13]) fun x14=>
     again11 (x14,wr (x9+1))
    ) else(
     some (⟨x1,x8⟩:Prog)
    )
   ) n ([],0)) (fun x hx k hk=>aB (x:=x.dims) ?_ hk) (by omega) (by simp) (by omega) (by omega) ?_)
 ·have:=(aJ3 h1 h2).2 x hx;unfold m_ownClone;rw [if_pos (by omega)]
 refine l7 (g:=fun x=>x) (K:=fun x8=>some (⟨_,x8⟩:Prog)) (fun x hx=>aCZ hn (h4 x hx)) (by omega) (by omega) (Ev.some ?_);simp
theorem bJ{α:Type}{a b:List α}(h:b.length=a.length):bQ a b=some ():=by unfold bQ;rw [if_pos h]
theorem tX{n:Nat}(hn:5500000≤n){l:Loop}(hl:aBr l){F:Affine→Option Affine}{f:Affine→Affine}(hF: ∀x,bM x=true→F x=some (f x)):gA n l F=some (gD f l):=by
 obtain⟨⟨a1,a2⟩,b1,b2⟩:=hl;unfold gA;refine Ev.eq (Ev.loop (fun z:Loop×Int=>(z.2=0∧z.1=l)∨(z.2=1∧z.1=⟨l.lo.map f,l.hi⟩)∨(z.2=2∧z.1=gD f l)) (fun z=>3-z.2.toNat) ?_ n _ (.inl ⟨rfl,rfl⟩) (by dsimp only;omega));rintro again ⟨x,i⟩ hz hr;dsimp only at hz hr⊢;rcases hz with ⟨rfl,rfl⟩|⟨rfl,rfl⟩|⟨rfl,rfl⟩
 ·refine aB (bJ rfl) (aB (bJ rfl) (aK (fun _=>aK (fun _=>?_) fun h=>(h rfl).elim) fun h=>absurd h (by omega)));refine Y6 (F:=fun x k=>Option.bind (F x) k) (W:=fun _ o=>o) (m:=fun _=>(x.lo.length:Int)) (g:=f) (s:=0) (K:=fun y=>again ((⟨y,x.hi⟩:Loop),wr (0+1))) (fun _ _ _ h=>h) (fun _ _=>rfl) (by omega) (fun x hx k hk=>aB (hF x (a2 x hx)) hk) (by omega) hn ?_;rw [aN (by omega)];exact hr _ (.inr (.inl ⟨by dsimp only;omega,by simp⟩)) (by dsimp only;omega)
 ·refine aB (bJ (by simp)) (aB (bJ rfl) (aK (fun _=>aK (fun h=>absurd h (by omega)) fun _=>aK (fun _=>?_) fun h=>(h rfl).elim) fun h=>absurd h (by omega)));refine Y6 (F:=fun x k=>Option.bind (F x) k) (W:=fun _ o=>o) (m:=fun _=>(l.hi.length:Int)) (g:=f) (s:=0) (K:=fun y=>again ((⟨l.lo.map f,y⟩:Loop),wr (1+1))) (fun _ _ _ h=>h) (fun _ _=>rfl) (by omega) (fun x hx k hk=>aB (hF x (b2 x hx)) hk) (by omega) hn ?_;rw [aN (by omega)];exact hr _ (.inr (.inr ⟨by dsimp only;omega,by simp [gD]⟩)) (by dsimp only;omega)
 refine aB (bJ (by simp [gD])) (aB (bJ (by simp [gD])) (aK (fun h=>absurd h (by omega)) fun _=>Ev.some rfl))
def H5(k:Nat)(g f:Affine→Affine)(x:Part)(l:Loop):Part:=⟨x.nest.take k++gD g l::(x.nest.drop (k+1)).map (gD f),x.body.map (uT f)⟩
theorem O8{n:Nat}(hn:6600000≤n){nest:List Loop}{body:List Stmt}{s:Nat}(hs:s≤nest.length)(h1:nest.length≤4)(h2: ∀l∈nest.drop s,aBr l){d:Int}(h3:body.length≤4)(h4: ∀s∈body,fI s d=true){F:Affine→Option Affine}{f:Affine→Affine}(hF: ∀x,bM x=true→F x=some (f x)):
  kX n ⟨nest,body⟩ (s:Int) F=some ⟨nest.take s++(nest.drop s).map (gD f),body.map (uT f)⟩:=by
 have key: ∀(nest2:List Loop),Ev (aM (fun again2 ((y,j):(List Stmt)×Int)=>
    Option.bind (bQ body y) fun x5=>
    bif decide (j<(body.length:Int)) then(
     Option.bind (ix y j) fun x6=>
     Option.bind (iC n x6 F) fun x7=>
     Option.bind (cX y j x7) fun x8=>
     again2 (x8,wr (j+1))
    ) else(
     some (⟨nest2,y⟩:Part)
    )
   ) n (body,0)) (fun r=>r=⟨nest2,body.map (uT f)⟩):=fun nest2=>
  Y6 (F:=fun x k=>Option.bind (iC n x F) k) (W:=fun y o=>Option.bind (bQ body y) fun _=>o) (m:=fun _=>(body.length:Int)) (g:=uT f) (s:=0) (K:=fun y=>some (⟨nest2,y⟩:Part)) (fun y o h ho=>aB (bJ h) ho) (fun _ _=>rfl) (by omega) (fun x hx k hk=>aB (wS hn (h4 x hx) hF) hk) (by omega) (by omega) (Ev.some (by simp))
 unfold kX;refine Ev.eq ?_
 -- the loops ahead stay: only those behind are changed
 refine Ev.loop (fun z:List Loop×Int=> ∃i:Nat,z.2=i∧s≤i∧i≤nest.length∧z.1=nest.take s++((nest.drop s).take (i-s)).map (gD f)++nest.drop i) (fun z=>nest.length-z.2.toNat) ?_ n _ ⟨s,rfl,by omega,by omega,by simp⟩ (by dsimp only;omega);rintro again ⟨x,z⟩ ⟨i,hz,hsi,hi,hx⟩ hr;dsimp only at hz hx⊢;subst hz;have hpl:(nest.take s++((nest.drop s).take (i-s)).map (gD f)).length=i:=by rw [oK,S7,vP,vP,vAO];omega
 have hxl:x.length=nest.length:=by rw [hx,oK,hpl,vAO];omega
 refine aB (bJ hxl) (aK (fun hlt=>?_) fun hge=>?_)
 ·obtain⟨e,hg⟩: ∃e,nest[i]? =some e:=⟨_,dM (show i<nest.length by omega)⟩
  have hgx:x[i]? =some e:=by
   rw [hx,N8 (by omega),hpl,vBi,N7];exact hg
  have he:e∈nest.drop s:=vAE.2 ⟨i-s,by rw [N7,show s+(i-s)=i by omega];exact hg⟩;refine aB (aS hgx) (aB (tX (by omega) (h2 _ he) hF) (aB (eU (by omega) _) ?_));rw [aN (by omega)];refine hr _ ⟨i+1,by dsimp only;omega,by omega,by omega,?_⟩ (by dsimp only;omega);dsimp only;rw [hx,vAG,vBg _ _ (by omega),hpl,vBi,lM hg,List.set_cons_zero,show i+1-s=(i-s)+1 by omega,E1,N7,show s+(i-s)=i by omega,hg];simp
 have:i=nest.length:=by omega
 subst this;rw [hx,vBe (l:=nest.drop s) (by rw [vAO];omega),vBu,vBp];exact key _
theorem Z1{n:Nat}(hn:5500000≤n){l:List Affine}(h1:l.length≤2)(h2: ∀x∈l,bM x=true){way v:Int}{b:Affine}{f:Affine→Affine}(hF: ∀x,bM x=true→gK n x way v b=some (f x)):oP n l way v b=some (l.map f):=by unfold oP;exact Ev.eq (l7 (K:=fun x1=>some x1) (fun x hx=>hF x (h2 x hx)) (by omega) hn (Ev.some rfl))
theorem aFn{n:Nat}(hn:5500000≤n){l:Loop}(hl:aBr l){way v:Int}{b:Affine}{f:Affine→Affine}(hF: ∀x,bM x=true→gK n x way v b=some (f x)):rN n l way v b=some (gD f l):=by unfold rN;rw [Z1 hn hl.1.1 hl.1.2 hF,Z1 hn hl.2.1 hl.2.2 hF];rfl
theorem zV{n:Nat}(hn:5500000≤n){a:Access}{d:Int}(ha:fK a d=true){way v:Int}{b:Affine}{f:Affine→Affine}(hF: ∀x,bM x=true→gK n x way v b=some (f x)):jZ n a way v b=some (r8 f a):=by have:=q5 ha;unfold jZ;rw [Z1 hn this.2.1 this.2.2 hF];rfl
theorem V1{d way v:Int}{b:Affine}{f:Affine→Affine}(hF: ∀n,5500000≤n→ ∀x,bM x=true→gK n x way v b=some (f x)): ∀(L n:Nat) (e:Expr),5500000+L≤n→dC L e d=true→s_l8Expr (n+1) e way v b=some (aBq f L e)
 |0,_,_,_,h=>by cases h
 |L+1,n,e,hn,h=>by
  obtain⟨hk,ho,hs⟩:=jG h;obtain⟨n,rfl⟩: ∃j,n=j+1:=⟨n-1,by omega⟩
  have hkl:e.kids.length≤2:=by have:=jP e.kind;omega
  unfold s_l8Expr;refine Ev.eq (Ev.jn (fun z=>(⟨z.1,z.2⟩:Affine)=(if e.kind=2 then f e.index else⟨[],0⟩)) (fun j hj=>?_) fun z hz=>Ev.jn (fun y=>(⟨y.1,y.2⟩:Access)=(if e.kind=3 then r8 f e.read else⟨[],[]⟩)) (fun j hj=>?_) fun y hy=>?_)
  ·exact aK (fun h2=>aB (hF _ (by omega) _ (rY ho h2).1) (hj _ (by rw [if_pos h2]))) fun h2=>hj _ (by rw [if_neg h2])
  ·exact aK (fun h3=>aB (zV (by omega) (rX ho h3).1 (hF _ (by omega))) (hj _ (by rw [if_pos h3]))) fun h3=>hj _ (by rw [if_neg h3])
  obtain⟨x3,x4⟩:=z;obtain⟨x7,x8⟩:=y;dsimp only at hz hy⊢;refine l7 (K:=fun x9=>some (⟨e.kind,e.num,(⟨x3,x4⟩:Affine),(⟨x7,x8⟩:Access),x9⟩:Expr)) (fun x hx=>V1 hF L n x (by omega) (hs x hx)) (by omega) (by omega) (Ev.some ?_);rw [hz,hy];rfl
theorem aFo{n:Nat}(hn:6600000≤n){l:List Stmt}{d:Int}(h1:l.length≤4)(h2: ∀s∈l,fI s d=true){way v:Int}{b:Affine}{f:Affine→Affine}(hF: ∀n,5500000≤n→ ∀x,bM x=true→gK n x way v b=some (f x)):wA n l way v b=some (l.map (uT f)):=by
 obtain⟨n,rfl⟩: ∃j,n=j+1:=⟨n-1,by omega⟩
 unfold wA;refine Ev.eq ?_;refine r7 (β:=Stmt) (l:=l) (n:=n+1) (F:=fun x5 k=>Option.bind (jZ (n+1) x5.write way v b) fun x6=>Option.bind (s_l8Expr (n+1) x5.value way v b) fun x7=>k (⟨x6,x7⟩:Stmt)) (g:=uT f) (s:=0) (pre:=[]) (K:=fun x1=>some x1) (fun x hx k hk=>?_) (by omega) (by simp) (by omega) (by omega) (Ev.some (by simp));obtain⟨h1,h2,_⟩:=rG (h2 x hx);exact aB (zV (by omega) h1 (hF _ (by omega))) (aB (V1 hF 5 n x.value (by omega) h2) hk)
theorem aDc{n:Nat}(hn:6600000≤n){x:Part}{s:Nat}(hs:s+1≤x.nest.length)(h1:x.nest.length≤4)(h2: ∀l∈x.nest,aBr l){d:Int}(h3:x.body.length≤4)(h4: ∀s∈x.body,fI s d=true){way v:Int}{b:Affine}{f:Affine→Affine}(hF: ∀n,5500000≤n→ ∀x,bM x=true→gK n x way v b=some (f x)):
  s7 n x (s:Int) way v b=some ⟨x.nest.take (s+1)++(x.nest.drop (s+1)).map (gD f),x.body.map (uT f)⟩:=by unfold s7;rw [aN (by omega)];refine Ev.eq (aB (aCK (by omega) (by omega) (by omega)) ?_);rw [show((s:Int)+1).toNat=s+1 by omega,show(0:Int).toNat=0 from rfl,List.drop_zero];refine aB (x:=x.nest.take (s+1)) (fH (by simp;omega)) (aB (aFo hn h3 h4 hF) ?_);exact r7 (F:=fun x8 k=>Option.bind (rN n x8 way v b) k) (g:=gD f) (s:=s+1) (pre:=x.nest.take (s+1)) (K:=fun x4=>some (⟨x4,x.body.map (uT f)⟩:Part)) (fun l hl k hk=>aB (aFn (by omega) (h2 l hl) (hF _ (by omega))) hk) (by omega) (by simp;omega) (by omega) (by omega) (Ev.some rfl)
theorem U2(n:Nat){a:Affine}(h:BA 1100000 a):gL n a=some a:=by unfold gL;rw [dE _ h];rfl
theorem pY{n:Nat}(hn:5500000≤n){l:List Affine}(h:BAs 1100000 l):cB n l=some l:=by unfold cB;exact Ev.eq (fW (K:=fun x1=>some x1) (fun x hx=>U2 n (h.2 x hx)) h.1 hn (Ev.some rfl))
theorem U3{n:Nat}(hn:5500000≤n){a:Access}(h:BAs 1100000 a.subs):dX n a=some a:=by unfold dX;rw [pY hn h];rfl
theorem uO: ∀(L n:Nat) (e:Expr),5500000+L≤n→BE 1100000 L e→s_l16OwnExpr (n+1) e=some e
 |0,_,_,_,h=>h.elim
 |L+1,n,e,hn,h=>by
  obtain⟨h1,h2,h3,h4⟩:=h;obtain⟨n,rfl⟩: ∃j,n=j+1:=⟨n-1,by omega⟩
  unfold s_l16OwnExpr kD;rw [U2 _ h2,U3 (by omega) h3];refine Ev.eq (aB rfl (aB rfl (aB (x:=e.kids) ?_ (Ev.some (by cases e;rfl)))));exact Ev.eq (fW (f:=s_l16OwnExpr (n+1)) (K:=fun x1=>some x1) (fun x hx=>uO L n x (by omega) (h4 x hx)) h1 (by omega) (Ev.some rfl))
theorem aC5{n:Nat}(hn:6600000≤n){s:Stmt}(h:BS 1100000 s):jH n s=some s:=by
 obtain⟨n,rfl⟩: ∃j,n=j+1:=⟨n-1,by omega⟩
 unfold jH;rw [U3 (by omega) h.1,uO 5 n s.value (by omega) h.2];rfl
theorem aC7{n:Nat}(hn:6600000≤n){x:Part}(h:BPt 1100000 x):jI n x=some x:=by
 obtain⟨⟨h1,h2⟩,h3,h4⟩:=h;have e1:dT n x.nest=some x.nest:=by
  unfold dT;refine Ev.eq (fW (K:=fun x1=>some x1) (fun l hl=>?_) h1 (by omega) (Ev.some rfl));unfold l3;rw [pY (by omega) (h2 l hl).1,pY (by omega) (h2 l hl).2];rfl
 have e2:dR n x.body=some x.body:=by
  unfold dR;exact Ev.eq (fW (K:=fun x1=>some x1) (fun l hl=>aC5 hn (h4 l hl)) h3 (by omega) (Ev.some rfl))
 unfold jI;rw [e1,e2];rfl
theorem aC6{n:Nat}(hn:6600000≤n){p:Prog}(h:BG 1100000 p):eB n p=some p:=by
 obtain⟨⟨h1,h2⟩,h3,h4⟩:=h;have e1:dG n p.arrays=some p.arrays:=by
  unfold dG;refine Ev.eq (fW (K:=fun x1=>some x1) (fun l hl=>?_) h1 (by omega) (Ev.some rfl));unfold kW;rw [dE _ (h2 l hl)];rfl
 have e2:dS n p.parts=some p.parts:=by
  unfold dS;exact Ev.eq (fW (K:=fun x1=>some x1) (fun l hl=>aC7 hn (h4 l hl)) h3 (by omega) (Ev.some rfl))
 unfold eB;rw [e1,e2];rfl
def jF(p:Prog)(part loop:Int):Bool:=iH p&&match ix p.parts part with
 |some x=>decide (0≤loop∧loop<(x.nest.length:Int))
 |none=>false
theorem aG7{α:Type}{l:List α}{i:Int}(h: ¬(0≤i∧i<(l.length:Int))):ix l i=none:=by
 cases hx:ix l i with
 |none=>rfl
 |some x=>
  obtain⟨h1,h2⟩:=qC hx
  have:=(b7.1 h2).1;exact absurd ⟨h1,by omega⟩ h
theorem aKS{α:Type}{l:List α}{i:Int}{x:α}(h:ix l i=some x): ∃k:Nat,i=k∧k<l.length∧l[k]? =some x:=by obtain⟨h1,h2⟩:=qC h;exact⟨i.toNat,by omega,(b7.1 h2).1,h2⟩
theorem yX(n:Nat){p:Prog}(h:p.parts.length≤1100000)(part:Int):fD n p part=some (decide (0≤part∧part<(p.parts.length:Int))):=by unfold fD;rw [dQ,aN (by omega)];exact congrArg some (decide_eq_decide.2 (by omega))
theorem aH4{n:Nat}(hn:7700000≤n){p:Prog}(hp:BG 1100000 p)(part loop:Int)(hl:loop≠ -1):l9 n p part loop=some (if jF p part loop=true then(p,true) else(⟨[],[]⟩,false)):=by
 unfold l9;refine Ev.eq (Ev.jn (fun z=>z= !jF p part loop) (fun j hj=>?_) fun z hz=>?_)
 ·refine aB (gE hn hp.sm) (Ev.cond (fun h=>?_) fun h=>?_)
  ·refine hj _ ?_;unfold jF;rw [show iH p=false by simpa using h];rfl
  have hv:iH p=true:=by simpa using h
  refine aB (yX n hp.2.1 part) ?_;by_cases hi:0≤part∧part<(p.parts.length:Int)
  ·obtain⟨x,hx,hx2⟩:=aBu hi.1 hi.2;rw [decide_eq_true hi];refine bI (bV (fun _=>aB (x:=jF p part loop) ?_ (hj _ rfl)) fun h=>absurd h hl);unfold kK;refine Ev.eq (Ev.jn (fun z=>z=jF p part loop) (fun j hj=>?_) fun z hz=>Ev.some hz);rw [yX n hp.2.1 part,decide_eq_true hi];refine aB rfl (b8 (aB hx ?_))
   have:=(hp.2.2 x (dF hx2)).1.1;rw [aN (by omega),dQ];refine aB rfl (hj _ ?_);unfold jF;rw [hv,hx];exact decide_eq_decide.2 (by omega)
  rw [decide_eq_false hi];refine b8 (hj _ ?_);unfold jF;rw [aG7 hi,vBj];rfl
 subst hz;by_cases hc:jF p part loop=true
 ·rw [hc];have hv:iH p=true:=by unfold jF at hc;rw [vBt] at hc;exact hc.1
  obtain⟨x,hx⟩: ∃x,ix p.parts part=some x:=by
   cases hx:ix p.parts part with
   |some x=>exact⟨x,rfl⟩
   |none=>unfold jF at hc;rw [hx,vBj] at hc;cases hc
  exact bI (aB (aCX (by omega) hv) (aB hx (Ev.some rfl)))
 rw [show jF p part loop=false by simpa using hc];exact b8 (Ev.some rfl)
def aBI(q:Prog):Prog×Bool:=if iH q=true then(q,true) else(⟨[],[]⟩,false)
theorem aBH{n:Nat}(hn:7700000≤n){p:Prog}(hp:BG 1100000 p):qF n p=some (aBI p):=by
 unfold qF aBI;refine Ev.eq (aB (gE hn hp.sm) (Ev.cond (fun h=>Ev.some ?_) fun h=>?_))
 ·rw [if_neg (by simpa using h)]
 have hv:iH p=true:=by simpa using h
 rw [if_pos hv];exact aB (aCX (by omega) hv) (Ev.some rfl)
theorem aKY{n:Nat}(hn:7700000≤n){p:Prog}(hp:BG 1100000 p)(part loop:Int):s8 n p part loop=some (jF p part loop):=by
 unfold s8;refine Ev.eq (Ev.jn (fun z=>z=jF p part loop) (fun j hj=>?_) fun z hz=>Ev.some hz);refine aB (jJ hn hp.sm) (Ev.cond (fun hv=>?_) fun hv=>hj _ (by unfold jF;rw [hv];rfl));refine aK (fun h1=>aK (fun h2=>?_) fun h2=>?_) fun h1=>?_
 ·obtain⟨x,hx,hx2⟩:=aBu h1 h2;refine aK (fun h3=>aB hx (hj _ ?_)) fun h3=>hj _ ?_
  ·unfold jF;rw [hv,hx];exact decide_eq_decide.2 (by omega)
  unfold jF;rw [hv,hx];exact(decide_eq_false (by omega)).symm
 ·exact hj _ (by unfold jF;rw [aG7 (by omega),vBj])
 exact hj _ (by unfold jF;rw [aG7 (by omega),vBj])
theorem aIr{n:Nat}(hn:7700000≤n){p:Prog}(hp:BG 1100000 p){i:Nat}(hi:i<p.parts.length){y:Part}(hy:BPt 1100000 y):v7 n p (i:Int) 1 [y]=some (aBI ⟨p.arrays,p.parts.set i y⟩):=by
 have hpl:=hp.2.1;have hq:BG 1100000 ⟨p.arrays,p.parts.set i y⟩:=⟨hp.1,by dsimp only;rw [List.length_set];exact hpl,Z2 hp.2.2 hy⟩
 unfold v7 aBI;refine Ev.eq (aB (z6 (by omega) hp) (aB (aCK (by omega) (by omega) (by omega)) ?_));rw [vAG,show(0:Int).toNat=0 from rfl,List.drop_zero];refine aB (x:=p.parts.take i) (fH (by simp;omega)) (aB (x:=p.parts.take i++[y]) (fH (by simp;omega)) ?_);rw [aN (by omega)];refine aB (aCK (by omega) (by omega) (by omega)) ?_;rw [vAG,yD,show((i:Int)+1).toNat=i+1 by omega];refine aB (x:=p.parts.set i y) ?_ (aB (jJ hn hq.sm) (Ev.cond (fun h=>Ev.some ?_) fun h=>?_))
 ·rw [fH (by simp;omega),List.set_eq_take_append_cons_drop,if_pos hi,vAN];rfl
 ·rw [if_neg (by simpa using h)]
 rw [if_pos (by simpa using h)];exact aB (z6 (by omega) hq) (Ev.some rfl)
def nE(a:Affine)(k:Int)(b:Affine):Affine:=⟨List.zipWith (fun x y=>x+k*y) a.coefs b.coefs,a.const+k*b.const⟩
def qT(k:Nat):Affine:=⟨[0,0,0,0].set k 1,0⟩
def fB(k:Nat)(b x:Affine):Affine:=nE x (-(x.coefs.getD k 0)) b
def bB(m:Int)(a:Affine):Prop:=a.coefs.length=4∧oH m a.const∧ ∀c∈a.coefs,oH m c
theorem bB.mono{m m':Int}{a:Affine}(h:bB m a)(hm:m≤m'):bB m' a:=⟨h.1,⟨by have:=h.2.1.1;omega,by have:=h.2.1.2;omega⟩,fun c hc=>⟨by have:=(h.2.2 c hc).1;omega,by have:=(h.2.2 c hc).2;omega⟩⟩
theorem aBs{l:List Int}(h:l.length=4): ∃a b c d,l=[a,b,c,d]:=by
 match l,h with
 | [a,b,c,d],_=>exact⟨a,b,c,d,rfl⟩
theorem zJ{a:Affine}(h:bM a=true):bB 99 a:=by obtain⟨h1,h2,h3⟩:=jT h;exact⟨h1,h2,fun c hc=>⟨by have:=(h3 c hc).1;omega,by have:=(h3 c hc).2;omega⟩⟩
theorem aIz{k:Nat}(hk:k<4):bB 6 (qT k):=by rcases(show k=0∨k=1∨k=2∨k=3 by omega) with rfl|rfl|rfl|rfl<;>(unfold bB oH qT;simp)
theorem uQ{k b:Int}(hk:oH 1000 k)(hb:oH 1000 b):oH 1000000 (k*b):=aEy (by omega) (by omega) hk hb
theorem wrB{a x:Int}(ha:oH 1000 a)(hx:oH 1000000 x):wr (a+wr x)=a+x:=by unfold oH at ha hx;rw [aN (n:=x) (by omega),aN (by omega)]
theorem aKX(m:Nat)(a0 a1 a2 a3 ac k b0 b1 b2 b3 bc:Int):aBz (m+6) ⟨[a0,a1,a2,a3],ac⟩ k ⟨[b0,b1,b2,b3],bc⟩=
  some ⟨[wr (a0+wr (k*b0)),wr (a1+wr (k*b1)),wr (a2+wr (k*b2)),wr (a3+wr (k*b3))],wr (ac+wr (k*bc))⟩:=by kernel_rfl
theorem aBx{n:Nat}(hn:5500000≤n){a b:Affine}(ha:bB 1000 a)(hb:bB 1000 b){k:Int}(hk:oH 1000 k):aBz n a k b=some (nE a k b):=by
 obtain⟨m,rfl⟩: ∃m,n=m+6:=⟨n-6,by omega⟩
 obtain⟨ac,a⟩:=a;obtain⟨bc,b⟩:=b;obtain⟨h1,h2,h3⟩:=ha;obtain⟨g1,g2,g3⟩:=hb;dsimp only at h1 h2 h3 g1 g2 g3;obtain⟨a0,a1,a2,a3,rfl⟩:=aBs h1;obtain⟨b0,b1,b2,b3,rfl⟩:=aBs g1;rw [aKX,wrB (h3 a0 (by simp)) (uQ hk (g3 b0 (by simp))),wrB (h3 a1 (by simp)) (uQ hk (g3 b1 (by simp))),wrB (h3 a2 (by simp)) (uQ hk (g3 b2 (by simp))),wrB (h3 a3 (by simp)) (uQ hk (g3 b3 (by simp))),wrB h2 (uQ hk g2)];rfl
def aLa(a:Affine)(x:Int)(b:Affine)(y:Int):Affine:=⟨List.zipWith (fun p q=>x*p+y*q) a.coefs b.coefs,x*a.const+y*b.const⟩
theorem aKJ(m:Nat)(a0 a1 a2 a3 ac x b0 b1 b2 b3 bc y:Int):dD (m+6) ⟨[a0,a1,a2,a3],ac⟩ x ⟨[b0,b1,b2,b3],bc⟩ y=
  some ⟨[wr (wr (x*a0)+wr (y*b0)),wr (wr (x*a1)+wr (y*b1)),wr (wr (x*a2)+wr (y*b2)),wr (wr (x*a3)+wr (y*b3))],wr (wr (x*ac)+wr (y*bc))⟩:=by kernel_rfl
theorem wrC{a x:Int}(ha:oH 1000000 a)(hx:oH 1000000 x):wr (wr a+wr x)=a+x:=by unfold oH at ha hx;rw [aN (n:=x) (by omega),aN (n:=a) (by omega),aN (by omega)]
theorem F8{n:Nat}(hn:5500000≤n){a b:Affine}(ha:bB 1000 a)(hb:bB 1000 b){x y:Int}(hx:oH 1000 x)(hy:oH 1000 y):dD n a x b y=some (aLa a x b y):=by
 obtain⟨m,rfl⟩: ∃m,n=m+6:=⟨n-6,by omega⟩
 obtain⟨ac,a⟩:=a;obtain⟨bc,b⟩:=b;obtain⟨h1,h2,h3⟩:=ha;obtain⟨g1,g2,g3⟩:=hb;dsimp only at h1 h2 h3 g1 g2 g3;obtain⟨a0,a1,a2,a3,rfl⟩:=aBs h1;obtain⟨b0,b1,b2,b3,rfl⟩:=aBs g1;rw [aKJ,wrC (uQ hx (h3 a0 (by simp))) (uQ hy (g3 b0 (by simp))),wrC (uQ hx (h3 a1 (by simp))) (uQ hy (g3 b1 (by simp))),wrC (uQ hx (h3 a2 (by simp))) (uQ hy (g3 b2 (by simp))),wrC (uQ hx (h3 a3 (by simp))) (uQ hy (g3 b3 (by simp))),wrC (uQ hx h2) (uQ hy g2)];rfl
theorem aAz(a b:Affine)(k:Int):aLa a 1 b k=nE a k b:=by unfold aLa nE;simp only [Int.one_mul]
theorem aLf(a b:Affine)(k:Int)(ha:a.coefs.length=4)(hb:b.coefs.length=4):(nE a k b).coefs.length=4:=by unfold nE;rw [List.length_zipWith];omega
def aI1(a:Affine)(k:Nat)(b:Affine):Affine:=nE ⟨a.coefs.set k 0,a.const⟩ (a.coefs.getD k 0) b
theorem aEp{a:Affine}(h:bB 1000 a)(k:Nat):bB 1000 ⟨a.coefs.set k 0,a.const⟩:=⟨by dsimp only;rw [List.length_set];exact h.1,h.2.1,Z2 h.2.2 ⟨by omega,by omega⟩⟩
theorem aET{a:Affine}(h:bB 1000 a){k:Nat}(hk:k<4):a.coefs[k]? =some (a.coefs.getD k 0)∧oH 1000 (a.coefs.getD k 0):=by
 have hl:k<a.coefs.length:=by rw [h.1];exact hk
 have e:=dM hl;have e2:a.coefs.getD k 0=a.coefs[k]:=by rw [vBd,e];rfl
 rw [e2];exact⟨e,h.2.2 _ (vBB hl)⟩
theorem aDi{n:Nat}(hn:5500000≤n){a b:Affine}(ha:bB 1000 a)(hb:bB 1000 b){k:Nat}(hk:k<4):C7 n a (k:Int) b=some (aI1 a k b):=by
 obtain⟨h1,h2⟩:=aET ha hk;have hl:k<a.coefs.length:=by rw [ha.1];exact hk
 unfold C7;rw [T7 n (by have:=ha.1;omega)];refine Ev.eq (aB rfl (aB (aS h1) (aB (eU (by omega) _) (aB (aBx hn (aEp ha k) hb h2) (Ev.some rfl)))))
theorem aCN{n:Nat}(hn:5500000≤n){a b:Affine}(ha:bB 1000 a)(hb:bB 1000 b){k:Nat}(hk:k<4):tC n a (k:Int) b=some (aI1 a k b):=by
 obtain⟨h1,h2⟩:=aET ha hk;have hl:k<a.coefs.length:=by rw [ha.1];exact hk
 unfold tC;rw [dE _ (by have:=ha.1;omega)];refine Ev.eq (aB rfl (aB (aS h1) (aB (eU (by omega) _) (aB (aS h1) (aB (F8 hn (aEp ha k) hb ⟨by omega,by omega⟩ h2) (Ev.some ?_))))));rw [aAz];rfl
theorem aHd(n:Nat){k:Nat}(hk:k<4):uV n (k:Int) 1=some (qT k):=by rcases(show k=0∨k=1∨k=2∨k=3 by omega) with rfl|rfl|rfl|rfl<;>rfl
theorem aGL(n:Nat){k:Nat}(hk:k<4):Z5 n (k:Int)=some (qT k):=by rcases(show k=0∨k=1∨k=2∨k=3 by omega) with rfl|rfl|rfl|rfl<;>rfl
def toB(k:Nat)(b:Affine):Affine:=nE (qT k) (-1) b
theorem aGJ{a b:Affine}(ha:a.coefs.length=4)(hb:b.coefs.length=4){k:Nat}(hk:k<4)(h0:b.coefs.getD k 0=0):aI1 a k (toB k b)=fB k b a:=by
 obtain⟨a,ac⟩:=a;obtain⟨b,bc⟩:=b;dsimp only at ha hb h0;obtain⟨a0,a1,a2,a3,rfl⟩:=aBs ha;obtain⟨b0,b1,b2,b3,rfl⟩:=aBs hb;rcases(show k=0∨k=1∨k=2∨k=3 by omega) with rfl|rfl|rfl|rfl<;>
  (simp only [List.getD_cons_zero,List.getD_cons_succ] at h0;subst h0;simp [aI1,toB,fB,nE,qT,Int.mul_neg,Int.neg_mul])
def noP:Prog×Bool:=(⟨[],[]⟩,false)
def aAe(p:Prog)(part loop:Int)(g f:Affine→Affine):Prog×Bool:=
 match ix p.parts part with
 |some P=>match ix P.nest loop with
  |some l=>aBI ⟨p.arrays,p.parts.set part.toNat (H5 loop.toNat g f P l)⟩
  |none=>noP
 |none=>noP
theorem aDk{p:Prog}{part loop:Int}(h:jF p part loop=true):iH p=true∧ ∃(i k:Nat) (P:Part) (l:Loop),part=i∧loop=k∧p.parts[i]? =some P∧P.nest[k]? =some l∧i<p.parts.length∧k<P.nest.length∧cC p.arrays P=true∧k<4:=by
 unfold jF at h;rw [vBt] at h;obtain⟨hv,h⟩:=h;refine⟨hv,?_⟩;cases hx:ix p.parts part with
 |none=>rw [hx] at h;cases h
 |some P=>
  rw [hx] at h;obtain⟨i,rfl,hi,hP⟩:=aKS hx;obtain⟨h1,h2⟩:=of_decide_eq_true h;obtain⟨l,hl,hl2⟩:=aBu h1 h2;have hok:=(Z8 hv).2.2.2.1 P (dF hP)
  have:=(pW hok).1;exact⟨i,loop.toNat,P,l,rfl,by omega,hP,hl2,hi,by omega,hok,by omega⟩
theorem aEA{list:List Arr}{P:Part}(hP:cC list P=true){k:Nat}{l:Loop}(hl:P.nest[k]? =some l){g f:Affine→Affine}(hg: ∀x,bM x=true→BA 4 (g x))(hf: ∀x,bM x=true→BA 4 (f x)):BPt 4 (H5 k g f P l):=by
 obtain⟨h1,h2⟩:=pW hP;obtain⟨_,h4,h5,_⟩:=lK hP;have hk:=(b7.1 hl).1;refine⟨⟨by simp only [H5,List.length_append,List.length_cons,List.length_map,List.length_take,List.length_drop];omega,fun y hy=>?_⟩,by simp only [H5,List.length_map];exact h4.2,fun s hs=>?_⟩
 ·rcases E2.1 hy with hy|hy
  ·exact((aH1 hP).1.2 y (vAz hy))
  rcases pP.1 hy with rfl|hy
  ·exact aEY hg (h2 l (dF hl))
  obtain⟨z,hz,rfl⟩:=vAQ.1 hy;exact aEY hf (h2 z (vAL hz))
 obtain⟨z,hz,rfl⟩:=vAQ.1 hs;exact aLc hf (h5 z hz)
theorem aLd{p:Prog}(hp:BG 1100000 p)(i:Nat){y:Part}(hy:BPt 4 y):BG 1100000 ⟨p.arrays,p.parts.set i y⟩:=⟨hp.1,by dsimp only;rw [List.length_set];exact hp.2.1,Z2 hp.2.2 (hy.mono (by omega))⟩
theorem aAO{k:Int}{b:Affine}(hb:b.coefs.length=4): ∀x,bM x=true→BA 4 (nE x k b):=fun x hx=>by have:=aLf x b k (jT hx).1 hb;unfold BA;omega
theorem aJZ{k:Nat}{b:Affine}(hb:b.coefs.length=4): ∀x,bM x=true→BA 4 (fB k b x):=fun x hx=>aAO hb x hx
theorem aGD{k:Nat}(hk:k<4){b:Affine}(hb:bB 6 b):bB 1000 (toB k b):=by
 obtain⟨b,bc⟩:=b;obtain⟨h1,h2,h3⟩:=hb;dsimp only at h1 h2 h3;obtain⟨b0,b1,b2,b3,rfl⟩:=aBs h1;have c0:=h3 b0 (by simp);have c1:=h3 b1 (by simp);have c2:=h3 b2 (by simp);have c3:=h3 b3 (by simp);unfold oH at h2 c0 c1 c2 c3;rcases(show k=0∨k=1∨k=2∨k=3 by omega) with rfl|rfl|rfl|rfl<;>
  (refine⟨rfl,?_,fun c hc=>?_⟩<;>unfold oH<;>simp [toB,qT,nE] at* <;>omega)
theorem aJk{k:Nat}(hk:k<4){b:Affine}(hb:bB 6 b)(h0:b.coefs.getD k 0=0): ∀n,5500000≤n→ ∀x,bM x=true→gK n x 1 (k:Int) (toB k b)=some (fB k b x):=fun n hn x hx=>by unfold gK;rw [aCN hn ((zJ hx).mono (by omega)) (aGD hk hb) hk,aGJ (zJ hx).1 hb.1 hk h0];rfl
theorem aGE{α:Type}{l r:List α}{k:Nat}{x y:α}(h:l[k]? =some x):(l.take (k+1)++r).set k y=l.take k++y::r:=by have hk:=(b7.1 h).1;rw [E1,h,vAN,vBg _ _ (by simp;omega),vP,Nat.min_eq_left (by omega),vBi];rfl
theorem aJe{n:Nat}(hn:6600000≤n){list:List Arr}{P:Part}(hP:cC list P=true){k:Nat}{l:Loop}(hl:P.nest[k]? =some l)(hk:k<4){b:Affine}(hb:bB 6 b)(h0:b.coefs.getD k 0=0):
  v8 n P (k:Int) b=some (H5 k (fun x=>nE x 1 b) (fB k b) P l):=by
 obtain⟨h1,h2⟩:=pW hP;obtain⟨_,h4,h5,_⟩:=lK hP;have hkl:=(b7.1 hl).1;have hlp:=h2 l (dF hl);have hc: ∀x,bM x=true→dD n x 1 b 1=some (nE x 1 b):=fun x hx=>by
  rw [F8 (by omega) ((zJ hx).mono (by omega)) (hb.mono (by omega)) ⟨by omega,by omega⟩ ⟨by omega,by omega⟩,aAz]
 unfold v8;simp only [aS hl,Option.bind_some];refine Ev.eq (aB (aGL n hk) (aB (F8 (by omega) ((aIz hk).mono (by omega)) (hb.mono (by omega)) ⟨by omega,by omega⟩ ⟨by omega,by omega⟩) ?_));rw [aAz];refine aB (aDc hn (by omega) h1 h2 h4.2 h5 (aJk hk hb h0)) ?_;refine l7 (n:=n) (l:=l.lo) (f:=fun x=>dD n x 1 b 1) (K:=fun x4=>aM (fun again15 ((x12,x13):(List Affine)×Int)=>
    bif decide (x13<(l.hi.length:Int)) then(
     Option.bind (ix l.hi x13) fun x16=>
     Option.bind (dD n x16 1 b 1) fun x17=>
     Option.bind (app x12 [x17]) fun x18=>
     again15 (x18,wr (x13+1))
    ) else(
     Option.bind (ix (P.nest.take (k+1)++(P.nest.drop (k+1)).map (gD (fB k b))) (k:Int)) fun x19=>
     Option.bind (cX (P.nest.take (k+1)++(P.nest.drop (k+1)).map (gD (fB k b))) (k:Int) (⟨x4,x12⟩:Loop)) fun x20=>
     some (⟨x20,P.body.map (uT (fB k b))⟩:Part)
    )
   ) n ([],0)) (fun x hx=>hc x (hlp.1.2 x hx)) (by have:=hlp.1.1;omega) (by omega) ?_
 refine l7 (n:=n) (l:=l.hi) (f:=fun x=>dD n x 1 b 1) (g:=fun x=>nE x 1 b) (K:=fun x12=>Option.bind (ix (P.nest.take (k+1)++(P.nest.drop (k+1)).map (gD (fB k b))) (k:Int)) fun x19=>Option.bind (cX (P.nest.take (k+1)++(P.nest.drop (k+1)).map (gD (fB k b))) (k:Int) (⟨l.lo.map fun x=>nE x 1 b,x12⟩:Loop)) fun x20=>some (⟨x20,P.body.map (uT (fB k b))⟩:Part)) (fun x hx=>hc x (hlp.2.2 x hx)) (by have:=hlp.2.1;omega) (by omega) ?_;have hx:(P.nest.take (k+1)++(P.nest.drop (k+1)).map (gD (fB k b)))[k]? =some l:=by
  rw [B8 (by simp;omega),N6,if_pos (by omega)];exact hl
 refine aB (aS hx) (aB (eU (by simp;omega) _) (Ev.some ?_));rw [vAG,aGE hl];rfl
def sA(s:Int):Affine:=⟨[0,0,0,0],s⟩
theorem aEq{s:Int}(h: -6≤s∧s≤6):bB 6 (sA s):=by unfold sA bB oH;simp;omega
theorem aLW(s:Int){k:Nat}(hk:k<4):(sA s).coefs.getD k 0=0:=by rcases(show k=0∨k=1∨k=2∨k=3 by omega) with rfl|rfl|rfl|rfl<;>rfl
def yI(p:Prog)(part loop by_:Int):Prog×Bool:=
 if jF p part loop=true∧(-6≤by_∧by_≤6) then aAe p part loop (fun x=>nE x 1 (sA by_)) (fB loop.toNat (sA by_)) else noP
theorem aFs(n:Nat)(s:Int):wT n s=some (decide (-6≤s∧s≤6)):=by unfold wT;rw [dQ];rfl
theorem aBB{p:Prog}{part loop:Int}(h:loop<0):jF p part loop=false:=by
 cases hc:jF p part loop with
 |false=>rfl
 |true=>obtain⟨_,i,k,P,l,_,hk,_⟩:=aDk hc;omega
theorem U5{p:Prog}{i k:Nat}{P:Part}{l:Loop}(hP:p.parts[i]? =some P)(hl:P.nest[k]? =some l)(g f:Affine→Affine):aAe p (i:Int) (k:Int) g f=aBI ⟨p.arrays,p.parts.set i (H5 k g f P l)⟩:=by unfold aAe;rw [aS hP];dsimp only;rw [aS hl];rfl
theorem aCP{n:Nat}(hn:7700000≤n){p:Prog}(hp:BG 1100000 p)(part loop by_:Int):jC n p part loop by_=some (yI p part loop by_):=by
 unfold jC yI;refine Ev.eq (aB (aC6 (by omega) hp) (Ev.jn (fun z=>z= !(jF p part loop&&decide (-6≤by_∧by_≤6))) (fun j hj=>?_) fun z hz=>?_))
 ·refine aB (aKY hn hp part loop) (Ev.cond (fun h=>hj _ ?_) fun h=>aB (nO n by_ 6 (by omega)) (hj _ ?_))
  ·rw [show jF p part loop=false by simpa using h];rfl
  rw [show jF p part loop=true by simpa using h];rfl
 subst hz;by_cases hc:jF p part loop=true∧(-6≤by_∧by_≤6)
 ·rw [if_pos hc,hc.1,decide_eq_true hc.2];refine bI ?_;obtain⟨hv,i,k,P,l,rfl,rfl,hP,hl,hi,hkl,hok,hk⟩:=aDk hc.1;refine aB (aS hP) (aB (aHY n by_) (aB (aJe (by omega) hok hl hk (aEq hc.2) (aLW _ hk)) (aB (aIr hn hp hi ((aEA hok hl (aAO (aEq hc.2).1) (aJZ (aEq hc.2).1)).mono (by omega))) (Ev.some ?_))));rw [U5 hP hl];rfl
 rw [if_neg hc,show(jF p part loop&&decide (-6≤by_∧by_≤6))=false by
  cases h1:jF p part loop with
  |false=>rfl
  |true=>exact decide_eq_false fun h2=>hc ⟨h1,h2⟩]
 exact b8 (Ev.some rfl)
theorem aFe{n:Nat}(hn:5500000≤n){s:Int}(hs: -6≤s∧s≤6): ∀x,bM x=true→iP n x s=some (nE x 1 (sA s)):=fun x hx=>by unfold iP;have hc:qG n 1=some ⟨[0,0,0,0],1⟩:=rfl;rw [hc];refine Ev.eq (aB rfl (aB (aBx hn ((zJ hx).mono (by omega)) (b:=⟨[0,0,0,0],1⟩) (by unfold bB oH;simp) ⟨by omega,by omega⟩) (Ev.some ?_)));unfold nE sA;obtain⟨a0,a1,a2,a3,e⟩:=aBs (jT hx).1;rw [e];simp
theorem aFd{n:Nat}(hn:5500000≤n){k:Nat}(hk:k<4){s:Int}(hs: -6≤s∧s≤6): ∀x,bM x=true→f8 n x (k:Int) (⟨(qT k).coefs,wr (0-s)⟩:Affine)=some (fB k (sA s) x):=fun x hx=>by
 have e:(⟨(qT k).coefs,wr (0-s)⟩:Affine)=toB k (sA s):=by
  rw [aN (by omega)];rcases(show k=0∨k=1∨k=2∨k=3 by omega) with rfl|rfl|rfl|rfl<;>(unfold qT toB sA nE qT;simp)
 unfold f8;rw [e,aDi hn ((zJ hx).mono (by omega)) (aGD hk (aEq hs)) hk,aGJ (zJ hx).1 rfl hk (aLW _ hk)];rfl
theorem aFL{n:Nat}(hn:7700000≤n){p:Prog}(hp:BG 1100000 p)(part:Int):Ev (l9 n p part (-1)) (fun r=>r.2=false→r=noP):=by
 unfold l9;refine Ev.jn (fun z=>z=false→iH p=true∧(0≤part∧part<(p.parts.length:Int))) (fun j hj=>?_) fun z hz=>?_
 ·refine aB (gE hn hp.sm) (Ev.cond (fun h=>hj _ fun h=>by cases h) fun h=>?_);refine aB (yX n hp.2.1 part) (Ev.cond (fun h=>hj _ fun h=>by cases h) fun h2=>bV (fun h=>(h rfl).elim) fun _=>hj _ fun _=>⟨by simpa using h,by simpa using h2⟩)
 refine Ev.cond (fun _=>Ev.some fun _=>rfl) fun h=>?_;obtain⟨hv,h1,h2⟩:=hz h;obtain⟨x,hx,hx2⟩:=aBu h1 h2;exact aB (aCX (by omega) hv) (aB hx (Ev.some fun h=>by cases h))
theorem aDj{n:Nat}(hn:7700000≤n){p:Prog}(hp:BG 1100000 p)(part loop by_:Int):fJ n p part loop by_=some (yI p part loop by_):=by
 unfold fJ yI;by_cases hneg:loop= -1
 ·subst hneg;rw [if_neg fun h=>by rw [aBB (by omega)] at h;cases h.1];refine Ev.eq (iQ (aFL hn hp part) fun x1 h1=>Ev.cond (fun _=>Ev.jn (fun z=>z=true) (fun j hj=>aK (fun _=>hj _ rfl) fun h=>absurd (show(-1:Int)<0 by omega) h) fun z hz=>by rw [hz];exact b8 (Ev.some rfl)) fun _=>Ev.some rfl)
 refine Ev.eq (aB (aH4 hn hp part loop hneg) ?_);by_cases hb:jF p part loop=true
 ·rw [if_pos hb];refine b8 (Ev.jn (fun z=>z= !decide (-6≤by_∧by_≤6)) (fun j hj=>?_) fun z hz=>?_)
  ·refine aK (fun h=>?_) fun _=>aB (aFs n by_) (hj _ rfl);rw [aBB h] at hb;cases hb
  subst hz;by_cases hs: -6≤by_∧by_≤6
  ·rw [if_pos ⟨hb,hs⟩,decide_eq_true hs];refine bI ?_;obtain⟨hv,i,k,P,l,rfl,rfl,hP,hl,hi,hkl,hok,hk⟩:=aDk hb;obtain⟨h1,h2⟩:=pW hok;obtain⟨_,h4,h5,_⟩:=lK hok;refine aB (aS hP) (aB (aS hl) (aB (tX (by omega) (h2 l (dF hl)) (aFe (by omega) hs)) (aB (eU (by omega) _) (aB (eU (by dsimp only;omega) _) (aB (aHd n hk) ?_)))));rw [aN (n:=(k:Int)+1) (by omega)];have hch:=O8 (n:=n) (by omega) (nest:=P.nest.set k (gD (fun x=>nE x 1 (sA by_)) l)) (body:=P.body) (s:=k+1) (by simp;omega) (by simp;omega) (fun y hy=>by
    rw [List.drop_set_of_lt (by omega)] at hy;exact h2 y (vAL hy)) h4.2 h5 (F:=fun q0=>f8 n q0 (k:Int) (⟨(qT k).coefs,wr (0-by_)⟩:Affine)) (aFd (by omega) hk hs)
   rw [vAG,vAG];refine aB hch (aB (eU (by simp;omega) _) ?_);rw [vAG,List.set_set];have hm:(⟨(P.nest.set k (gD (fun x=>nE x 1 (sA by_)) l)).take (k+1)++((P.nest.set k (gD (fun x=>nE x 1 (sA by_)) l)).drop (k+1)).map (gD (fB k (sA by_))),P.body.map (uT (fB k (sA by_)))⟩:Part)=H5 k (fun x=>nE x 1 (sA by_)) (fB k (sA by_)) P l:=by
    rw [List.drop_set_of_lt (by omega),E1,S5 (by omega),List.take_set_of_le (lI k),vAN];rfl
   rw [hm];refine aB (aBH hn (aLd hp i (aEA hok hl (aAO rfl) (aJZ rfl)))) (Ev.some ?_);rw [U5 hP hl]
  rw [if_neg fun h=>hs h.2,decide_eq_false hs];exact b8 (Ev.some rfl)
 rw [if_neg hb,if_neg fun h=>hb h.1];exact bI (Ev.some rfl)
end Go.Lift
