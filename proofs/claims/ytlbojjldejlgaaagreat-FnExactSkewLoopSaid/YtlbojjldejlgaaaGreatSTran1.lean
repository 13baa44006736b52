/- Maps over programs: the program's own changes and the reference's. -/
import Derived.Test.YtlbojjldejlgaaaGreatSDraw1
import Derived.Test.YtlbojjldejlgaaaGreatSDrawD
set_option maxRecDepth 110000000
set_option linter.unusedVariables false
namespace Go.Lift
open Go
theorem sB{α β R:Type}{l:List α}{F:α→(β→Option R)→Option R}{g:α→β}{K:List β→Option R}{Q:R→Prop}{n:Nat}(hF: ∀x∈l,∀k:β→Option R,Ev (k (g x)) Q→Ev (F x k) Q)
  {s:Nat} (hs:s≤l.length) {pre:List β} (hp:pre.length≤1100000) (hl:l.length≤1100000) (hn:5500000≤n) (hK:Ev (K (pre++(l.drop s).map g)) Q):
  Ev (aM (fun again ((x,i):List β×Int)=>bif decide (i<(l.length:Int)) then(Option.bind (ix l i) fun y=>F y fun z=>Option.bind (app x [z]) fun w=>again (w,wr (i+1))) else K x) n (pre,(s:Int))) Q:=by
 refine Ev.loop (fun z:List β×Int=> ∃i:Nat,z.2=i∧s≤i∧i≤l.length∧z.1=pre++((l.drop s).take (i-s)).map g) (fun z=>l.length-z.2.toNat) ?_ n _ ⟨s,rfl,by omega,by omega,by simp⟩ (by dsimp only;omega);rintro again ⟨x,z⟩ ⟨i,hz,hsi,hi,hx⟩ hr;dsimp only at hz hx⊢;subst hz;refine aK (fun hlt=>?_) fun hge=>?_
 ·have hg:=dK (show i<l.length by omega);have hxl:x.length≤2200000:=by rw [hx,oO,T0,vO,vAO];omega
  refine aB (aS hg) (hF _ (dF hg) _ (aB (fG (by simp;omega)) ?_));rw [aN (by omega)];refine hr _ ⟨i+1,by dsimp only;omega,by omega,by omega,?_⟩ (by dsimp only;omega);dsimp only;rw [show i+1-s=(i-s)+1 by omega,D9,O0,show s+(i-s)=i by omega,hg,hx,vAT,vAN];rfl
 have:i=l.length:=by omega
 subst this;rw [hx,vBe (by rw [vAO];omega)];exact hK
theorem l8{α β R:Type}{l:List α}{f:α→Option β}{g:α→β}{K:List β→Option R}{Q:R→Prop}{n:Nat}(hf: ∀x∈l,f x=some (g x))(hl:l.length≤1100000)(hn:5500000≤n)(hK:Ev (K (l.map g)) Q):
  Ev (aM (fun again ((x,i):List β×Int)=>bif decide (i<(l.length:Int)) then(Option.bind (ix l i) fun y=>Option.bind (f y) fun z=>Option.bind (app x [z]) fun w=>again (w,wr (i+1))) else K x) n ([],0)) Q:=
 sB (F:=fun y k=>Option.bind (f y) k) (g:=g) (s:=0) (pre:=[]) (fun x hx k hk=>aB (hf x hx) hk) (by omega) (by simp) hl hn (by simpa using hK)
theorem Z1{α R:Type}{l:List α}{F:α→(α→Option R)→Option R}{W:List α→Option R→Option R}{m:List α→Int}{g:α→α}{K:List α→Option R}{Q:R→Prop}{n:Nat}
  (hW: ∀y o,y.length=l.length→Ev o Q→Ev (W y o) Q) (hm: ∀y:List α,y.length=l.length→m y=(l.length:Int))
  {s:Nat} (hs:s≤l.length) (hF: ∀x∈l,∀k:α→Option R,Ev (k (g x)) Q→Ev (F x k) Q) (hl:l.length≤1100000) (hn:5500000≤n) (hK:Ev (K (l.take s++(l.drop s).map g)) Q):
  Ev (aM (fun again ((y,i):List α×Int)=>W y (bif decide (i<m y) then(Option.bind (ix y i) fun x=>F x fun z=>Option.bind (dC y i z) fun w=>again (w,wr (i+1))) else K y)) n (l,(s:Int))) Q:=by
 refine Ev.loop (fun z:List α×Int=> ∃i:Nat,z.2=i∧s≤i∧i≤l.length∧z.1=l.take s++((l.drop s).take (i-s)).map g++l.drop i) (fun z=>l.length-z.2.toNat) ?_ n _ ⟨s,rfl,by omega,by omega,by simp⟩ (by dsimp only;omega);rintro again ⟨x,z⟩ ⟨i,hz,hsi,hi,hx⟩ hr;dsimp only at hz hx⊢;subst hz;have hpl:(l.take s++((l.drop s).take (i-s)).map g).length=i:=by rw [oO,T0,vO,vO,vAO];omega
 have hxl:x.length=l.length:=by rw [hx,oO,hpl,vAO];omega
 refine hW _ _ hxl ?_;rw [hm _ hxl];refine aK (fun hlt=>?_) fun hge=>?_
 ·obtain⟨e,hg⟩: ∃e,l[i]? =some e:=⟨_,dK (show i<l.length by omega)⟩
  have hgx:x[i]? =some e:=by
   rw [hx,O1 (by omega),hpl,vBj,O0];exact hg
  refine aB (aS hgx) (hF _ (dF hg) _ (aB (eS (by omega) _) ?_));rw [aN (by omega)];refine hr _ ⟨i+1,by dsimp only;omega,by omega,by omega,?_⟩ (by dsimp only;omega);dsimp only;rw [hx,vAG,vBh _ _ (by omega),hpl,vBj,lM hg,List.set_cons_zero,show i+1-s=(i-s)+1 by omega,D9,O0,show s+(i-s)=i by omega,hg];simp
 have:i=l.length:=by omega
 subst this;rw [hx,vBe (l:=l.drop s) (by rw [vAO];omega),vBu,vBp];exact hK
def sC(f:Affine→Affine)(a:Access):Access:=⟨a.array,a.subs.map f⟩
def aBz(f:Affine→Affine):Nat→Expr→Expr
 |0,e=>e
 |L+1,e=>⟨e.kind,e.num,if e.kind=2 then f e.index else⟨[],0⟩,if e.kind=3 then sC f e.read else⟨[],[]⟩,e.kids.map (aBz f L)⟩
def uU(f:Affine→Affine)(s:Stmt):Stmt:=⟨sC f s.write,aBz f 5 s.value⟩
def gB(f:Affine→Affine)(l:Loop):Loop:=⟨l.lo.map f,l.hi.map f⟩
theorem r6{e:Expr}{d:Int}(h:fS e d=true)(hk:e.kind=2):bM e.index=true∧lW e.read=true:=by unfold fS bP at h;rw [if_pos hk] at h;simp only [Bool.and_eq_true] at h;exact⟨h.2.2.1,h.2.1⟩
theorem r5{e:Expr}{d:Int}(h:fS e d=true)(hk:e.kind=3):fI e.read d=true∧iL e.index=true:=by unfold fS at h;rw [if_neg (by omega),if_pos hk] at h;simp only [Bool.and_eq_true] at h;exact⟨h.2.2,h.2.1⟩
theorem G1{e:Expr}{d:Int}(h:fS e d=true)(h2: ¬e.kind=2)(h3: ¬e.kind=3):iL e.index=true∧lW e.read=true:=by unfold fS at h;rw [if_neg h2,if_neg h3] at h;split at h<;>simp only [Bool.and_eq_true] at h<;>exact⟨h.2.1,h.2.2⟩
theorem o2{a:Affine}(h:iL a=true):a=⟨[],0⟩:=by obtain⟨c,k⟩:=a;simp only [iL,Bool.and_eq_true,decide_eq_true_eq] at h;obtain⟨h1,rfl⟩:=h;rw [vAw h1]
theorem o4{a:Access}(h:lW a=true):a=⟨[],[]⟩:=by obtain⟨c,k⟩:=a;simp only [lW,Bool.and_eq_true,decide_eq_true_eq] at h;obtain⟨rfl,h1⟩:=h;rw [vAw h1]
theorem sJ{n:Nat}(hn:5500000≤n){a:Access}{d:Int}(ha:fI a d=true){F:Affine→Option Affine}{f:Affine→Affine}(hF: ∀x,bM x=true→F x=some (f x)):gN n a F=some (sC f a):=by obtain⟨h1,h2,h3⟩:=q8 ha;refine Ev.eq ?_;unfold gN;exact l8 (K:=fun x1=>some (⟨a.array,x1⟩:Access)) (fun x hx=>hF x (h3 x hx)) (by omega) hn (Ev.some rfl)
theorem wW{d:Int}{F:Affine→Option Affine}{f:Affine→Affine}(hF: ∀x,bM x=true→F x=some (f x)): ∀(L n:Nat) (e:Expr),5500000+L≤n→dB L e d=true→i_exprMap (n+1) e F=some (aBz f L e)
 |0,_,_,_,h=>by cases h
 |L+1,n,e,hn,h=>by
  obtain⟨hk,ho,hs⟩:=jF h;obtain⟨n,rfl⟩: ∃j,n=j+1:=⟨n-1,by omega⟩
  have hkl:e.kids.length≤2:=by have:=jO e.kind;omega
  unfold i_exprMap;refine Ev.eq (Ev.jn (fun z=>(⟨z.1,z.2.1⟩:Affine)=(if e.kind=2 then f e.index else⟨[],0⟩)∧(⟨z.2.2.1,z.2.2.2⟩:Access)=(if e.kind=3 then sC f e.read else⟨[],[]⟩)) (fun j hj=>?_) fun z hz=>?_)
  ·refine aK (fun h2=>?_) fun h2=>aK (fun h3=>?_) fun h3=>?_
   ·exact aB (hF _ (r6 ho h2).1) (hj _ ⟨by rw [if_pos h2],by rw [if_neg (by omega)]⟩)
   ·exact aB (sJ (by omega) (r5 ho h3).1 hF) (hj _ ⟨by rw [if_neg h2],by rw [if_pos h3]⟩)
   exact hj _ ⟨by rw [if_neg h2],by rw [if_neg h3]⟩
  obtain⟨x4,x5,x6,x7⟩:=z;obtain⟨z1,z2⟩:=hz;dsimp only at z1 z2⊢;refine l8 (K:=fun x8=>some (⟨e.kind,e.num,(⟨x4,x5⟩:Affine),(⟨x6,x7⟩:Access),x8⟩:Expr)) (fun x hx=>wW hF L n x (by omega) (hs x hx)) (by omega) (by omega) (Ev.some ?_);rw [z1,z2];rfl
theorem wT{n:Nat}(hn:6600000≤n){s:Stmt}{d:Int}(hs:fH s d=true){F:Affine→Option Affine}{f:Affine→Affine}(hF: ∀x,bM x=true→F x=some (f x)):gZ n s F=some (uU f s):=by
 obtain⟨h1,h2,_⟩:=rJ hs;obtain⟨n,rfl⟩: ∃j,n=j+1:=⟨n-1,by omega⟩
 unfold gZ;rw [sJ (by omega) h1 hF,wW hF 5 n s.value (by omega) h2];rfl
theorem aDb{α:Type}{f:α→α}: ∀{l:List α},(∀x∈l,f x=x)→l.map f=l
 | [],_=>rfl
 |x::l,h=>by rw [List.map_cons,h x yG,aDb fun y hy=>h y (uG _ hy)]
theorem V1{f:Affine→Affine}{a:Access}{d:Int}(ha:fI a d=true)(hf: ∀x,bM x=true→f x=x):sC f a=a:=by obtain⟨h1,h2,h3⟩:=q8 ha;unfold sC;rw [aDb fun x hx=>hf x (h3 x hx)]
theorem aEA{d:Int}{f:Affine→Affine}(hf: ∀x,bM x=true→f x=x): ∀{L:Nat} {e:Expr},dB L e d=true→aBz f L e=e
 |0,_,_=>rfl
 |L+1,e,h=>by
  obtain⟨hk,ho,hs⟩:=jF h;obtain⟨kind,num,index,read,kids⟩:=e;unfold aBz;dsimp only at hk ho hs⊢;rw [aDb fun x hx=>aEA hf (hs x hx)];by_cases h2:kind=2
  ·have e1:=r6 ho h2;dsimp only at e1;rw [if_pos h2,if_neg (by omega),hf _ e1.1,o4 e1.2]
  by_cases h3:kind=3
  ·have e1:=r5 ho h3;dsimp only at e1;rw [if_neg h2,if_pos h3,V1 e1.1 hf,o2 e1.2]
  have e1:=G1 ho h2 h3;dsimp only at e1;rw [if_neg h2,if_neg h3,o2 e1.1,o4 e1.2]
theorem aJi{f:Affine→Affine}(hf: ∀x,bM x=true→f x=x){s:Stmt}{d:Int}(hs:fH s d=true):uU f s=s:=by obtain⟨h1,h2,_⟩:=rJ hs;unfold uU;rw [V1 h1 hf,aEA hf h2]
def aBA(l:Loop):Prop:=(l.lo.length≤2∧ ∀x∈l.lo,bM x=true)∧l.hi.length≤2∧ ∀x∈l.hi,bM x=true
theorem aK1{nest:List Loop}(h:Fit nest): ∀l∈nest,aBA l:=fun l hl=>by
 obtain⟨i,hi⟩:=vAE.1 hl
 have:=h.2 i l hi;exact⟨(rO this.1).2,(rO this.2).2⟩
theorem qB{list:List Arr}{x:Part}(h:cC list x=true):x.nest.length≤4∧ ∀l∈x.nest,aBA l:=by have:=(aJG (lK h).1).1;exact⟨this.1,aK1 this⟩
theorem aJ6{a:Affine}(h:bM a=true):BA 4 a:=by have:=(jT h).1;unfold BA;omega
theorem aAT{l:List Affine}(h1:l.length≤2)(h2: ∀x∈l,bM x=true):BAs 4 l:=⟨by omega,fun a ha=>aJ6 (h2 a ha)⟩
theorem aJ5{d:Int}: ∀{L:Nat} {e:Expr},dB L e d=true→BE 4 L e
 |0,_,h=>by cases h
 |L+1,e,h=>by
  obtain⟨hk,ho,hs⟩:=jF h
  have:=jO e.kind;refine⟨by omega,?_,?_,fun k hk=>aJ5 (hs k hk)⟩
  ·by_cases h2:e.kind=2
   ·exact aJ6 (r6 ho h2).1
   by_cases h3:e.kind=3
   ·rw [o2 (r5 ho h3).2];unfold BA;simp
   rw [o2 (G1 ho h2 h3).1];unfold BA;simp
  by_cases h3:e.kind=3
  ·have:=q8 (r5 ho h3).1;exact aAT this.2.1 this.2.2
  by_cases h2:e.kind=2
  ·rw [o4 (r6 ho h2).2];exact⟨by simp,fun x hx=>by cases hx⟩
  rw [o4 (G1 ho h2 h3).2];exact⟨by simp,fun x hx=>by cases hx⟩
theorem aMp{s:Stmt}{d:Int}(hs:fH s d=true):BS 4 s:=by
 obtain⟨h1,h2,_⟩:=rJ hs
 have:=q8 h1;exact⟨aAT this.2.1 this.2.2,aJ5 h2⟩
theorem aH0{list:List Arr}{x:Part}(h:cC list x=true):BPt 4 x:=by obtain⟨h1,h2⟩:=qB h;obtain⟨_,h4,h5,_⟩:=lK h;exact⟨⟨h1,fun l hl=>⟨aAT (h2 l hl).1.1 (h2 l hl).1.2,aAT (h2 l hl).2.1 (h2 l hl).2.2⟩⟩,h4.2,fun s hs=>aMp (h5 s hs)⟩
theorem aJ3{l:List Arr}(h1:l.length≤4)(h2:n4 l):BR 4 l:=⟨h1,fun x hx=>by have:=h2 x hx;simp only [iF,Bool.and_eq_true,decide_eq_true_eq] at this;omega⟩
theorem aJ4{p:Prog}(h:iE p=true):BG 4 p:=by obtain⟨h1,h2,h3,h4,_⟩:=aAb h;exact⟨aJ3 h1 h2,h3,fun x hx=>aH0 (h4 x hx)⟩
theorem D0{B:Nat}{l:List Affine}{f:Affine→Affine}(h:l.length≤B)(hf: ∀x∈l,BA B (f x)):BAs B (l.map f):=⟨by rw [T0];exact h,fun a ha=>by obtain⟨x,hx,rfl⟩:=vAQ.1 ha;exact hf x hx⟩
theorem aH4{d:Int}{f:Affine→Affine}(hf: ∀x,bM x=true→BA 4 (f x)): ∀{L:Nat} {e:Expr},dB L e d=true→BE 4 L (aBz f L e)
 |0,_,h=>by cases h
 |L+1,e,h=>by
  obtain⟨hk,ho,hs⟩:=jF h
  have:=jO e.kind;unfold aBz BE;refine⟨by dsimp only;rw [T0];omega,?_,?_,fun k hk=>?_⟩
  ·dsimp only;by_cases h2:e.kind=2
   ·rw [if_pos h2];exact hf _ (r6 ho h2).1
   rw [if_neg h2];unfold BA;simp
  ·dsimp only;by_cases h3:e.kind=3
   ·rw [if_pos h3]
    have:=q8 (r5 ho h3).1;exact D0 (by omega) fun x hx=>hf x (this.2.2 x hx)
   rw [if_neg h3];exact⟨by simp,fun x hx=>by cases hx⟩
  obtain⟨x,hx,rfl⟩:=vAQ.1 hk;exact aH4 hf (hs x hx)
theorem aLa{f:Affine→Affine}(hf: ∀x,bM x=true→BA 4 (f x)){s:Stmt}{d:Int}(hs:fH s d=true):BS 4 (uU f s):=by
 obtain⟨h1,h2,_⟩:=rJ hs
 have:=q8 h1;exact⟨D0 (by omega) fun x hx=>hf x (this.2.2 x hx),aH4 hf h2⟩
theorem aET{f:Affine→Affine}(hf: ∀x,bM x=true→BA 4 (f x)){l:Loop}(h:aBA l):BAs 4 (gB f l).lo∧BAs 4 (gB f l).hi:=
 ⟨D0 (by have:=h.1.1;omega) fun x hx=>hf x (h.1.2 x hx),D0 (by have:=h.2.1;omega) fun x hx=>hf x (h.2.2 x hx)⟩
theorem U1(n:Nat){a:Affine}(h:a.coefs.length≤1100000):cR n a=some a:=by unfold cR m_ownClone;rw [if_pos (by omega)];rfl
theorem U0(n:Nat): ∀x,bM x=true→cR n x=some x:=fun x hx=>U1 n (by have:=(jT hx).1;omega)
theorem G2{n:Nat}(hn:5500000≤n){l:List Affine}(h1:l.length≤2)(h2: ∀x∈l,bM x=true):eH n l=some l:=by unfold eH;refine Ev.eq (l8 (g:=fun x=>x) (K:=fun x1=>some x1) (fun x hx=>U0 n x (h2 x hx)) (by omega) hn (Ev.some ?_));simp
theorem aC0{n:Nat}(hn:5500000≤n){nest:List Loop}(h1:nest.length≤4)(h2: ∀l∈nest,aBA l):o9 n nest=some nest:=by unfold o9;refine Ev.eq ?_;refine sB (β:=Loop) (l:=nest) (n:=n) (F:=fun x5 k=>Option.bind (eH n x5.lo) fun x6=>Option.bind (eH n x5.hi) fun x7=>k (⟨x6,x7⟩:Loop)) (g:=fun x=>x) (s:=0) (pre:=[]) (K:=fun x1=>some x1) ?_ (by omega) (by simp) (by omega) hn (Ev.some (by simp));exact fun x hx k hk=>aB (G2 hn (h2 x hx).1.1 (h2 x hx).1.2) (aB (G2 hn (h2 x hx).2.1 (h2 x hx).2.2) hk)
theorem aCY{n:Nat}(hn:6600000≤n){s:Stmt}{d:Int}(hs:fH s d=true):o8 n s=some s:=by unfold o8;rw [wT hn hs (F:=fun q0=>cR n q0) (f:=fun x=>x) (U0 n),aJi (fun _ _=>rfl) hs];rfl
theorem aCZ{n:Nat}(hn:6600000≤n){list:List Arr}{x:Part}(h:cC list x=true):mP n x=some x:=by obtain⟨h1,h2⟩:=qB h;obtain⟨_,h4,h5,_⟩:=lK h;unfold mP;refine Ev.eq (aB (aC0 (by omega) h1 h2) (l8 (g:=fun x=>x) (K:=fun x2=>some (⟨x.nest,x2⟩:Part)) (fun s hs=>aCY hn (h5 s hs)) (by omega) (by omega) (Ev.some ?_)));simp
theorem aCX{n:Nat}(hn:6600000≤n){p:Prog}(h:iE p=true):f8 n p=some p:=by
 obtain⟨h1,h2,h3,h4,_⟩:=aAb h;unfold f8;refine Ev.eq (sB (F:=fun x5 k=>Option.bind (m_ownClone x5.dims) fun x6=>k (⟨x5.name,x6⟩:Arr)) (g:=fun x=>x) (s:=0) (pre:=[]) (K:=fun x1=>aM (fun again11 ((x8,x9):(List Part)×Int)=>
    bif decide (x9<(p.parts.length:Int)) then(
     Option.bind (ix p.parts x9) fun x12=>
     Option.bind (mP n x12) fun x13=>
     Option.bind (app x8 [x13]) fun x14=>
     again11 (x14,wr (x9+1))
    ) else(
     some (⟨x1,x8⟩:Prog)
    )
   ) n ([],0)) (fun x hx k hk=>aB (x:=x.dims) ?_ hk) (by omega) (by simp) (by omega) (by omega) ?_)
 ·have:=(aJ3 h1 h2).2 x hx;unfold m_ownClone;rw [if_pos (by omega)]
 refine l8 (g:=fun x=>x) (K:=fun x8=>some (⟨_,x8⟩:Prog)) (fun x hx=>aCZ hn (h4 x hx)) (by omega) (by omega) (Ev.some ?_);simp
theorem bK{α:Type}{a b:List α}(h:b.length=a.length):bQ a b=some ():=by unfold bQ;rw [if_pos h]
theorem tY{n:Nat}(hn:5500000≤n){l:Loop}(hl:aBA l){F:Affine→Option Affine}{f:Affine→Affine}(hF: ∀x,bM x=true→F x=some (f x)):iO n l F=some (gB f l):=by
 obtain⟨⟨a1,a2⟩,b1,b2⟩:=hl;unfold iO;refine Ev.eq (Ev.loop (fun z:Loop×Int=>(z.2=0∧z.1=l)∨(z.2=1∧z.1=⟨l.lo.map f,l.hi⟩)∨(z.2=2∧z.1=gB f l)) (fun z=>3-z.2.toNat) ?_ n _ (.inl ⟨rfl,rfl⟩) (by dsimp only;omega));rintro again ⟨x,i⟩ hz hr;dsimp only at hz hr⊢;rcases hz with ⟨rfl,rfl⟩|⟨rfl,rfl⟩|⟨rfl,rfl⟩
 ·refine aB (bK rfl) (aB (bK rfl) (aK (fun _=>aK (fun _=>?_) fun h=>(h rfl).elim) fun h=>absurd h (by omega)));refine Z1 (F:=fun x k=>Option.bind (F x) k) (W:=fun _ o=>o) (m:=fun _=>(x.lo.length:Int)) (g:=f) (s:=0) (K:=fun y=>again ((⟨y,x.hi⟩:Loop),wr (0+1))) (fun _ _ _ h=>h) (fun _ _=>rfl) (by omega) (fun x hx k hk=>aB (hF x (a2 x hx)) hk) (by omega) hn ?_;rw [aN (by omega)];exact hr _ (.inr (.inl ⟨by dsimp only;omega,by simp⟩)) (by dsimp only;omega)
 ·refine aB (bK (by simp)) (aB (bK rfl) (aK (fun _=>aK (fun h=>absurd h (by omega)) fun _=>aK (fun _=>?_) fun h=>(h rfl).elim) fun h=>absurd h (by omega)));refine Z1 (F:=fun x k=>Option.bind (F x) k) (W:=fun _ o=>o) (m:=fun _=>(l.hi.length:Int)) (g:=f) (s:=0) (K:=fun y=>again ((⟨l.lo.map f,y⟩:Loop),wr (1+1))) (fun _ _ _ h=>h) (fun _ _=>rfl) (by omega) (fun x hx k hk=>aB (hF x (b2 x hx)) hk) (by omega) hn ?_;rw [aN (by omega)];exact hr _ (.inr (.inr ⟨by dsimp only;omega,by simp [gB]⟩)) (by dsimp only;omega)
 refine aB (bK (by simp [gB])) (aB (bK (by simp [gB])) (aK (fun h=>absurd h (by omega)) fun _=>Ev.some rfl))
def H0(k:Nat)(g f:Affine→Affine)(x:Part)(l:Loop):Part:=⟨x.nest.take k++gB g l::(x.nest.drop (k+1)).map (gB f),x.body.map (uU f)⟩
theorem P2{n:Nat}(hn:6600000≤n){nest:List Loop}{body:List Stmt}{s:Nat}(hs:s≤nest.length)(h1:nest.length≤4)(h2: ∀l∈nest.drop s,aBA l){d:Int}(h3:body.length≤4)(h4: ∀s∈body,fH s d=true){F:Affine→Option Affine}{f:Affine→Affine}(hF: ∀x,bM x=true→F x=some (f x)):
  kY n ⟨nest,body⟩ (s:Int) F=some ⟨nest.take s++(nest.drop s).map (gB f),body.map (uU f)⟩:=by
 have key: ∀(nest2:List Loop),Ev (aM (fun again2 ((y,j):(List Stmt)×Int)=>
    Option.bind (bQ body y) fun x5=>
    bif decide (j<(body.length:Int)) then(
     Option.bind (ix y j) fun x6=>
     Option.bind (gZ n x6 F) fun x7=>
     Option.bind (dC y j x7) fun x8=>
     again2 (x8,wr (j+1))
    ) else(
     some (⟨nest2,y⟩:Part)
    )
   ) n (body,0)) (fun r=>r=⟨nest2,body.map (uU f)⟩):=fun nest2=>
  Z1 (F:=fun x k=>Option.bind (gZ n x F) k) (W:=fun y o=>Option.bind (bQ body y) fun _=>o) (m:=fun _=>(body.length:Int)) (g:=uU f) (s:=0) (K:=fun y=>some (⟨nest2,y⟩:Part)) (fun y o h ho=>aB (bK h) ho) (fun _ _=>rfl) (by omega) (fun x hx k hk=>aB (wT hn (h4 x hx) hF) hk) (by omega) (by omega) (Ev.some (by simp))
 unfold kY;refine Ev.eq ?_
 -- the loops ahead stay: only those behind are changed
 refine Ev.loop (fun z:List Loop×Int=> ∃i:Nat,z.2=i∧s≤i∧i≤nest.length∧z.1=nest.take s++((nest.drop s).take (i-s)).map (gB f)++nest.drop i) (fun z=>nest.length-z.2.toNat) ?_ n _ ⟨s,rfl,by omega,by omega,by simp⟩ (by dsimp only;omega);rintro again ⟨x,z⟩ ⟨i,hz,hsi,hi,hx⟩ hr;dsimp only at hz hx⊢;subst hz;have hpl:(nest.take s++((nest.drop s).take (i-s)).map (gB f)).length=i:=by rw [oO,T0,vO,vO,vAO];omega
 have hxl:x.length=nest.length:=by rw [hx,oO,hpl,vAO];omega
 refine aB (bK hxl) (aK (fun hlt=>?_) fun hge=>?_)
 ·obtain⟨e,hg⟩: ∃e,nest[i]? =some e:=⟨_,dK (show i<nest.length by omega)⟩
  have hgx:x[i]? =some e:=by
   rw [hx,O1 (by omega),hpl,vBj,O0];exact hg
  have he:e∈nest.drop s:=vAE.2 ⟨i-s,by rw [O0,show s+(i-s)=i by omega];exact hg⟩;refine aB (aS hgx) (aB (tY (by omega) (h2 _ he) hF) (aB (eS (by omega) _) ?_));rw [aN (by omega)];refine hr _ ⟨i+1,by dsimp only;omega,by omega,by omega,?_⟩ (by dsimp only;omega);dsimp only;rw [hx,vAG,vBh _ _ (by omega),hpl,vBj,lM hg,List.set_cons_zero,show i+1-s=(i-s)+1 by omega,D9,O0,show s+(i-s)=i by omega,hg];simp
 have:i=nest.length:=by omega
 subst this;rw [hx,vBe (l:=nest.drop s) (by rw [vAO];omega),vBu,vBp];exact key _
theorem Z6{n:Nat}(hn:5500000≤n){l:List Affine}(h1:l.length≤2)(h2: ∀x∈l,bM x=true){way v:Int}{b:Affine}{f:Affine→Affine}(hF: ∀x,bM x=true→gI n x way v b=some (f x)):oW n l way v b=some (l.map f):=by unfold oW;exact Ev.eq (l8 (K:=fun x1=>some x1) (fun x hx=>hF x (h2 x hx)) (by omega) hn (Ev.some rfl))
theorem aFi{n:Nat}(hn:5500000≤n){l:Loop}(hl:aBA l){way v:Int}{b:Affine}{f:Affine→Affine}(hF: ∀x,bM x=true→gI n x way v b=some (f x)):rQ n l way v b=some (gB f l):=by unfold rQ;rw [Z6 hn hl.1.1 hl.1.2 hF,Z6 hn hl.2.1 hl.2.2 hF];rfl
theorem zU{n:Nat}(hn:5500000≤n){a:Access}{d:Int}(ha:fI a d=true){way v:Int}{b:Affine}{f:Affine→Affine}(hF: ∀x,bM x=true→gI n x way v b=some (f x)):jY n a way v b=some (sC f a):=by have:=q8 ha;unfold jY;rw [Z6 hn this.2.1 this.2.2 hF];rfl
theorem V5{d way v:Int}{b:Affine}{f:Affine→Affine}(hF: ∀n,5500000≤n→ ∀x,bM x=true→gI n x way v b=some (f x)): ∀(L n:Nat) (e:Expr),5500000+L≤n→dB L e d=true→s_l8Expr (n+1) e way v b=some (aBz f L e)
 |0,_,_,_,h=>by cases h
 |L+1,n,e,hn,h=>by
  obtain⟨hk,ho,hs⟩:=jF h;obtain⟨n,rfl⟩: ∃j,n=j+1:=⟨n-1,by omega⟩
  have hkl:e.kids.length≤2:=by have:=jO e.kind;omega
  unfold s_l8Expr;refine Ev.eq (Ev.jn (fun z=>(⟨z.1,z.2⟩:Affine)=(if e.kind=2 then f e.index else⟨[],0⟩)) (fun j hj=>?_) fun z hz=>Ev.jn (fun y=>(⟨y.1,y.2⟩:Access)=(if e.kind=3 then sC f e.read else⟨[],[]⟩)) (fun j hj=>?_) fun y hy=>?_)
  ·exact aK (fun h2=>aB (hF _ (by omega) _ (r6 ho h2).1) (hj _ (by rw [if_pos h2]))) fun h2=>hj _ (by rw [if_neg h2])
  ·exact aK (fun h3=>aB (zU (by omega) (r5 ho h3).1 (hF _ (by omega))) (hj _ (by rw [if_pos h3]))) fun h3=>hj _ (by rw [if_neg h3])
  obtain⟨x3,x4⟩:=z;obtain⟨x7,x8⟩:=y;dsimp only at hz hy⊢;refine l8 (K:=fun x9=>some (⟨e.kind,e.num,(⟨x3,x4⟩:Affine),(⟨x7,x8⟩:Access),x9⟩:Expr)) (fun x hx=>V5 hF L n x (by omega) (hs x hx)) (by omega) (by omega) (Ev.some ?_);rw [hz,hy];rfl
theorem aFj{n:Nat}(hn:6600000≤n){l:List Stmt}{d:Int}(h1:l.length≤4)(h2: ∀s∈l,fH s d=true){way v:Int}{b:Affine}{f:Affine→Affine}(hF: ∀n,5500000≤n→ ∀x,bM x=true→gI n x way v b=some (f x)):wA n l way v b=some (l.map (uU f)):=by
 obtain⟨n,rfl⟩: ∃j,n=j+1:=⟨n-1,by omega⟩
 unfold wA;refine Ev.eq ?_;refine sB (β:=Stmt) (l:=l) (n:=n+1) (F:=fun x5 k=>Option.bind (jY (n+1) x5.write way v b) fun x6=>Option.bind (s_l8Expr (n+1) x5.value way v b) fun x7=>k (⟨x6,x7⟩:Stmt)) (g:=uU f) (s:=0) (pre:=[]) (K:=fun x1=>some x1) (fun x hx k hk=>?_) (by omega) (by simp) (by omega) (by omega) (Ev.some (by simp));obtain⟨h1,h2,_⟩:=rJ (h2 x hx);exact aB (zU (by omega) h1 (hF _ (by omega))) (aB (V5 hF 5 n x.value (by omega) h2) hk)
theorem aDc{n:Nat}(hn:6600000≤n){x:Part}{s:Nat}(hs:s+1≤x.nest.length)(h1:x.nest.length≤4)(h2: ∀l∈x.nest,aBA l){d:Int}(h3:x.body.length≤4)(h4: ∀s∈x.body,fH s d=true){way v:Int}{b:Affine}{f:Affine→Affine}(hF: ∀n,5500000≤n→ ∀x,bM x=true→gI n x way v b=some (f x)):
  s8 n x (s:Int) way v b=some ⟨x.nest.take (s+1)++(x.nest.drop (s+1)).map (gB f),x.body.map (uU f)⟩:=by unfold s8;rw [aN (by omega)];refine Ev.eq (aB (aCN (by omega) (by omega) (by omega)) ?_);rw [show((s:Int)+1).toNat=s+1 by omega,show(0:Int).toNat=0 from rfl,List.drop_zero];refine aB (x:=x.nest.take (s+1)) (fG (by simp;omega)) (aB (aFj hn h3 h4 hF) ?_);exact sB (F:=fun x8 k=>Option.bind (rQ n x8 way v b) k) (g:=gB f) (s:=s+1) (pre:=x.nest.take (s+1)) (K:=fun x4=>some (⟨x4,x.body.map (uU f)⟩:Part)) (fun l hl k hk=>aB (aFi (by omega) (h2 l hl) (hF _ (by omega))) hk) (by omega) (by simp;omega) (by omega) (by omega) (Ev.some rfl)
theorem U6(n:Nat){a:Affine}(h:BA 1100000 a):gJ n a=some a:=by unfold gJ;rw [dD _ h];rfl
theorem qD{n:Nat}(hn:5500000≤n){l:List Affine}(h:BAs 1100000 l):cB n l=some l:=by unfold cB;exact Ev.eq (fW (K:=fun x1=>some x1) (fun x hx=>U6 n (h.2 x hx)) h.1 hn (Ev.some rfl))
theorem U7{n:Nat}(hn:5500000≤n){a:Access}(h:BAs 1100000 a.subs):dX n a=some a:=by unfold dX;rw [qD hn h];rfl
theorem uP: ∀(L n:Nat) (e:Expr),5500000+L≤n→BE 1100000 L e→s_l16OwnExpr (n+1) e=some e
 |0,_,_,_,h=>h.elim
 |L+1,n,e,hn,h=>by
  obtain⟨h1,h2,h3,h4⟩:=h;obtain⟨n,rfl⟩: ∃j,n=j+1:=⟨n-1,by omega⟩
  unfold s_l16OwnExpr jZ;rw [U6 _ h2,U7 (by omega) h3];refine Ev.eq (aB rfl (aB rfl (aB (x:=e.kids) ?_ (Ev.some (by cases e;rfl)))));exact Ev.eq (fW (f:=s_l16OwnExpr (n+1)) (K:=fun x1=>some x1) (fun x hx=>uP L n x (by omega) (h4 x hx)) h1 (by omega) (Ev.some rfl))
theorem aC5{n:Nat}(hn:6600000≤n){s:Stmt}(h:BS 1100000 s):jG n s=some s:=by
 obtain⟨n,rfl⟩: ∃j,n=j+1:=⟨n-1,by omega⟩
 unfold jG;rw [U7 (by omega) h.1,uP 5 n s.value (by omega) h.2];rfl
theorem aC7{n:Nat}(hn:6600000≤n){x:Part}(h:BPt 1100000 x):jH n x=some x:=by
 obtain⟨⟨h1,h2⟩,h3,h4⟩:=h;have e1:dT n x.nest=some x.nest:=by
  unfold dT;refine Ev.eq (fW (K:=fun x1=>some x1) (fun l hl=>?_) h1 (by omega) (Ev.some rfl));unfold l4;rw [qD (by omega) (h2 l hl).1,qD (by omega) (h2 l hl).2];rfl
 have e2:dR n x.body=some x.body:=by
  unfold dR;exact Ev.eq (fW (K:=fun x1=>some x1) (fun l hl=>aC5 hn (h4 l hl)) h3 (by omega) (Ev.some rfl))
 unfold jH;rw [e1,e2];rfl
theorem aC6{n:Nat}(hn:6600000≤n){p:Prog}(h:BG 1100000 p):eA n p=some p:=by
 obtain⟨⟨h1,h2⟩,h3,h4⟩:=h;have e1:dG n p.arrays=some p.arrays:=by
  unfold dG;refine Ev.eq (fW (K:=fun x1=>some x1) (fun l hl=>?_) h1 (by omega) (Ev.some rfl));unfold kW;rw [dD _ (h2 l hl)];rfl
 have e2:dS n p.parts=some p.parts:=by
  unfold dS;exact Ev.eq (fW (K:=fun x1=>some x1) (fun l hl=>aC7 hn (h4 l hl)) h3 (by omega) (Ev.some rfl))
 unfold eA;rw [e1,e2];rfl
def fK(p:Prog)(part loop:Int):Bool:=iE p&&match ix p.parts part with
 |some x=>decide (0≤loop∧loop<(x.nest.length:Int))
 |none=>false
theorem aG4{α:Type}{l:List α}{i:Int}(h: ¬(0≤i∧i<(l.length:Int))):ix l i=none:=by
 cases hx:ix l i with
 |none=>rfl
 |some x=>
  obtain⟨h1,h2⟩:=qH hx
  have:=(b7.1 h2).1;exact absurd ⟨h1,by omega⟩ h
theorem aKR{α:Type}{l:List α}{i:Int}{x:α}(h:ix l i=some x): ∃k:Nat,i=k∧k<l.length∧l[k]? =some x:=by obtain⟨h1,h2⟩:=qH h;exact⟨i.toNat,by omega,(b7.1 h2).1,h2⟩
theorem yW(n:Nat){p:Prog}(h:p.parts.length≤1100000)(part:Int):e9 n p part=some (decide (0≤part∧part<(p.parts.length:Int))):=by unfold e9;rw [dQ,aN (by omega)];exact congrArg some (decide_eq_decide.2 (by omega))
theorem aH3{n:Nat}(hn:7700000≤n){p:Prog}(hp:BG 1100000 p)(part loop:Int)(hl:loop≠ -1):mA n p part loop=some (if fK p part loop=true then(p,true) else(⟨[],[]⟩,false)):=by
 unfold mA;refine Ev.eq (Ev.jn (fun z=>z= !fK p part loop) (fun j hj=>?_) fun z hz=>?_)
 ·refine aB (gC hn hp.sm) (Ev.cond (fun h=>?_) fun h=>?_)
  ·refine hj _ ?_;unfold fK;rw [show iE p=false by simpa using h];rfl
  have hv:iE p=true:=by simpa using h
  refine aB (yW n hp.2.1 part) ?_;by_cases hi:0≤part∧part<(p.parts.length:Int)
  ·obtain⟨x,hx,hx2⟩:=aBD hi.1 hi.2;rw [decide_eq_true hi];refine bJ (bV (fun _=>aB (x:=fK p part loop) ?_ (hj _ rfl)) fun h=>absurd h hl);unfold kK;refine Ev.eq (Ev.jn (fun z=>z=fK p part loop) (fun j hj=>?_) fun z hz=>Ev.some hz);rw [yW n hp.2.1 part,decide_eq_true hi];refine aB rfl (b8 (aB hx ?_))
   have:=(hp.2.2 x (dF hx2)).1.1;rw [aN (by omega),dQ];refine aB rfl (hj _ ?_);unfold fK;rw [hv,hx];exact decide_eq_decide.2 (by omega)
  rw [decide_eq_false hi];refine b8 (hj _ ?_);unfold fK;rw [aG4 hi,vBg];rfl
 subst hz;by_cases hc:fK p part loop=true
 ·rw [hc];have hv:iE p=true:=by unfold fK at hc;rw [vBt] at hc;exact hc.1
  obtain⟨x,hx⟩: ∃x,ix p.parts part=some x:=by
   cases hx:ix p.parts part with
   |some x=>exact⟨x,rfl⟩
   |none=>unfold fK at hc;rw [hx,vBg] at hc;cases hc
  exact bJ (aB (aCX (by omega) hv) (aB hx (Ev.some rfl)))
 rw [show fK p part loop=false by simpa using hc];exact b8 (Ev.some rfl)
def aAp(q:Prog):Prog×Bool:=if iE q=true then(q,true) else(⟨[],[]⟩,false)
theorem aBM{n:Nat}(hn:7700000≤n){p:Prog}(hp:BG 1100000 p):qK n p=some (aAp p):=by
 unfold qK aAp;refine Ev.eq (aB (gC hn hp.sm) (Ev.cond (fun h=>Ev.some ?_) fun h=>?_))
 ·rw [if_neg (by simpa using h)]
 have hv:iE p=true:=by simpa using h
 rw [if_pos hv];exact aB (aCX (by omega) hv) (Ev.some rfl)
theorem aHd{n:Nat}(hn:7700000≤n){p:Prog}(hp:BG 1100000 p)(part loop:Int):pW n p part loop=some (fK p part loop):=by
 unfold pW;refine Ev.eq (Ev.jn (fun z=>z=fK p part loop) (fun j hj=>?_) fun z hz=>Ev.some hz);refine aB (jI hn hp.sm) (Ev.cond (fun hv=>?_) fun hv=>hj _ (by unfold fK;rw [hv];rfl));refine aK (fun h1=>aK (fun h2=>?_) fun h2=>?_) fun h1=>?_
 ·obtain⟨x,hx,hx2⟩:=aBD h1 h2;refine aK (fun h3=>aB hx (hj _ ?_)) fun h3=>hj _ ?_
  ·unfold fK;rw [hv,hx];exact decide_eq_decide.2 (by omega)
  unfold fK;rw [hv,hx];exact(decide_eq_false (by omega)).symm
 ·exact hj _ (by unfold fK;rw [aG4 (by omega),vBg])
 exact hj _ (by unfold fK;rw [aG4 (by omega),vBg])
theorem aIr{n:Nat}(hn:7700000≤n){p:Prog}(hp:BG 1100000 p){i:Nat}(hi:i<p.parts.length){y:Part}(hy:BPt 1100000 y):v7 n p (i:Int) 1 [y]=some (aAp ⟨p.arrays,p.parts.set i y⟩):=by
 have hpl:=hp.2.1;have hq:BG 1100000 ⟨p.arrays,p.parts.set i y⟩:=⟨hp.1,by dsimp only;rw [List.length_set];exact hpl,B6 hp.2.2 hy⟩
 unfold v7 aAp;refine Ev.eq (aB (zZ (by omega) hp) (aB (aCN (by omega) (by omega) (by omega)) ?_));rw [vAG,show(0:Int).toNat=0 from rfl,List.drop_zero];refine aB (x:=p.parts.take i) (fG (by simp;omega)) (aB (x:=p.parts.take i++[y]) (fG (by simp;omega)) ?_);rw [aN (by omega)];refine aB (aCN (by omega) (by omega) (by omega)) ?_;rw [vAG,yE,show((i:Int)+1).toNat=i+1 by omega];refine aB (x:=p.parts.set i y) ?_ (aB (jI hn hq.sm) (Ev.cond (fun h=>Ev.some ?_) fun h=>?_))
 ·rw [fG (by simp;omega),List.set_eq_take_append_cons_drop,if_pos hi,vAN];rfl
 ·rw [if_neg (by simpa using h)]
 rw [if_pos (by simpa using h)];exact aB (zZ (by omega) hq) (Ev.some rfl)
def lP(a:Affine)(k:Int)(b:Affine):Affine:=⟨List.zipWith (fun x y=>x+k*y) a.coefs b.coefs,a.const+k*b.const⟩
def nO(k:Nat):Affine:=⟨[0,0,0,0].set k 1,0⟩
def fB(k:Nat)(b x:Affine):Affine:=lP x (-(x.coefs.getD k 0)) b
def bB(m:Int)(a:Affine):Prop:=a.coefs.length=4∧o7 m a.const∧ ∀c∈a.coefs,o7 m c
theorem bB.mono{m m':Int}{a:Affine}(h:bB m a)(hm:m≤m'):bB m' a:=⟨h.1,⟨by have:=h.2.1.1;omega,by have:=h.2.1.2;omega⟩,fun c hc=>⟨by have:=(h.2.2 c hc).1;omega,by have:=(h.2.2 c hc).2;omega⟩⟩
theorem aBB{l:List Int}(h:l.length=4): ∃a b c d,l=[a,b,c,d]:=by
 match l,h with
 | [a,b,c,d],_=>exact⟨a,b,c,d,rfl⟩
theorem zI{a:Affine}(h:bM a=true):bB 99 a:=by obtain⟨h1,h2,h3⟩:=jT h;exact⟨h1,h2,fun c hc=>⟨by have:=(h3 c hc).1;omega,by have:=(h3 c hc).2;omega⟩⟩
theorem vY{k:Nat}(hk:k<4):bB 6 (nO k):=by rcases(show k=0∨k=1∨k=2∨k=3 by omega) with rfl|rfl|rfl|rfl<;>(unfold bB o7 nO;simp)
theorem uR{k b:Int}(hk:o7 1000 k)(hb:o7 1000 b):o7 1000000 (k*b):=aEu (by omega) (by omega) hk hb
theorem wrB{a x:Int}(ha:o7 1000 a)(hx:o7 1000000 x):wr (a+wr x)=a+x:=by unfold o7 at ha hx;rw [aN (n:=x) (by omega),aN (by omega)]
theorem aKW(m:Nat)(a0 a1 a2 a3 ac k b0 b1 b2 b3 bc:Int):W3 (m+6) ⟨[a0,a1,a2,a3],ac⟩ k ⟨[b0,b1,b2,b3],bc⟩=
  some ⟨[wr (a0+wr (k*b0)),wr (a1+wr (k*b1)),wr (a2+wr (k*b2)),wr (a3+wr (k*b3))],wr (ac+wr (k*bc))⟩:=by kernel_rfl
theorem I3{n:Nat}(hn:5500000≤n){a b:Affine}(ha:bB 1000 a)(hb:bB 1000 b){k:Int}(hk:o7 1000 k):W3 n a k b=some (lP a k b):=by
 obtain⟨m,rfl⟩: ∃m,n=m+6:=⟨n-6,by omega⟩
 obtain⟨ac,a⟩:=a;obtain⟨bc,b⟩:=b;obtain⟨h1,h2,h3⟩:=ha;obtain⟨g1,g2,g3⟩:=hb;dsimp only at h1 h2 h3 g1 g2 g3;obtain⟨a0,a1,a2,a3,rfl⟩:=aBB h1;obtain⟨b0,b1,b2,b3,rfl⟩:=aBB g1;rw [aKW,wrB (h3 a0 (by simp)) (uR hk (g3 b0 (by simp))),wrB (h3 a1 (by simp)) (uR hk (g3 b1 (by simp))),wrB (h3 a2 (by simp)) (uR hk (g3 b2 (by simp))),wrB (h3 a3 (by simp)) (uR hk (g3 b3 (by simp))),wrB h2 (uR hk g2)];rfl
def aHX(a:Affine)(x:Int)(b:Affine)(y:Int):Affine:=⟨List.zipWith (fun p q=>x*p+y*q) a.coefs b.coefs,x*a.const+y*b.const⟩
theorem aKI(m:Nat)(a0 a1 a2 a3 ac x b0 b1 b2 b3 bc y:Int):cQ (m+6) ⟨[a0,a1,a2,a3],ac⟩ x ⟨[b0,b1,b2,b3],bc⟩ y=
  some ⟨[wr (wr (x*a0)+wr (y*b0)),wr (wr (x*a1)+wr (y*b1)),wr (wr (x*a2)+wr (y*b2)),wr (wr (x*a3)+wr (y*b3))],wr (wr (x*ac)+wr (y*bc))⟩:=by kernel_rfl
theorem wrC{a x:Int}(ha:o7 1000000 a)(hx:o7 1000000 x):wr (wr a+wr x)=a+x:=by unfold o7 at ha hx;rw [aN (n:=x) (by omega),aN (n:=a) (by omega),aN (by omega)]
theorem wG{n:Nat}(hn:5500000≤n){a b:Affine}(ha:bB 1000 a)(hb:bB 1000 b){x y:Int}(hx:o7 1000 x)(hy:o7 1000 y):cQ n a x b y=some (aHX a x b y):=by
 obtain⟨m,rfl⟩: ∃m,n=m+6:=⟨n-6,by omega⟩
 obtain⟨ac,a⟩:=a;obtain⟨bc,b⟩:=b;obtain⟨h1,h2,h3⟩:=ha;obtain⟨g1,g2,g3⟩:=hb;dsimp only at h1 h2 h3 g1 g2 g3;obtain⟨a0,a1,a2,a3,rfl⟩:=aBB h1;obtain⟨b0,b1,b2,b3,rfl⟩:=aBB g1;rw [aKI,wrC (uR hx (h3 a0 (by simp))) (uR hy (g3 b0 (by simp))),wrC (uR hx (h3 a1 (by simp))) (uR hy (g3 b1 (by simp))),wrC (uR hx (h3 a2 (by simp))) (uR hy (g3 b2 (by simp))),wrC (uR hx (h3 a3 (by simp))) (uR hy (g3 b3 (by simp))),wrC (uR hx h2) (uR hy g2)];rfl
theorem aAD(a b:Affine)(k:Int):aHX a 1 b k=lP a k b:=by unfold aHX lP;simp only [Int.one_mul]
theorem aLe(a b:Affine)(k:Int)(ha:a.coefs.length=4)(hb:b.coefs.length=4):(lP a k b).coefs.length=4:=by unfold lP;rw [List.length_zipWith];omega
def aI0(a:Affine)(k:Nat)(b:Affine):Affine:=lP ⟨a.coefs.set k 0,a.const⟩ (a.coefs.getD k 0) b
theorem aEm{a:Affine}(h:bB 1000 a)(k:Nat):bB 1000 ⟨a.coefs.set k 0,a.const⟩:=⟨by dsimp only;rw [List.length_set];exact h.1,h.2.1,B6 h.2.2 ⟨by omega,by omega⟩⟩
theorem aEP{a:Affine}(h:bB 1000 a){k:Nat}(hk:k<4):a.coefs[k]? =some (a.coefs.getD k 0)∧o7 1000 (a.coefs.getD k 0):=by
 have hl:k<a.coefs.length:=by rw [h.1];exact hk
 have e:=dK hl;have e2:a.coefs.getD k 0=a.coefs[k]:=by rw [vBd,e];rfl
 rw [e2];exact⟨e,h.2.2 _ (vBB hl)⟩
theorem aDh{n:Nat}(hn:5500000≤n){a b:Affine}(ha:bB 1000 a)(hb:bB 1000 b){k:Nat}(hk:k<4):C5 n a (k:Int) b=some (aI0 a k b):=by
 obtain⟨h1,h2⟩:=aEP ha hk;have hl:k<a.coefs.length:=by rw [ha.1];exact hk
 unfold C5;rw [U1 n (by have:=ha.1;omega)];refine Ev.eq (aB rfl (aB (aS h1) (aB (eS (by omega) _) (aB (I3 hn (aEm ha k) hb h2) (Ev.some rfl)))))
theorem aCO{n:Nat}(hn:5500000≤n){a b:Affine}(ha:bB 1000 a)(hb:bB 1000 b){k:Nat}(hk:k<4):tC n a (k:Int) b=some (aI0 a k b):=by
 obtain⟨h1,h2⟩:=aEP ha hk;have hl:k<a.coefs.length:=by rw [ha.1];exact hk
 unfold tC;rw [dD _ (by have:=ha.1;omega)];refine Ev.eq (aB rfl (aB (aS h1) (aB (eS (by omega) _) (aB (aS h1) (aB (wG hn (aEm ha k) hb ⟨by omega,by omega⟩ h2) (Ev.some ?_))))));rw [aAD];rfl
theorem I2(n:Nat){k:Nat}(hk:k<4):m5 n (k:Int) 1=some (nO k):=by rcases(show k=0∨k=1∨k=2∨k=3 by omega) with rfl|rfl|rfl|rfl<;>rfl
theorem aBl(n:Nat){k:Nat}(hk:k<4):B8 n (k:Int)=some (nO k):=by rcases(show k=0∨k=1∨k=2∨k=3 by omega) with rfl|rfl|rfl|rfl<;>rfl
def toB(k:Nat)(b:Affine):Affine:=lP (nO k) (-1) b
theorem aGE{a b:Affine}(ha:a.coefs.length=4)(hb:b.coefs.length=4){k:Nat}(hk:k<4)(h0:b.coefs.getD k 0=0):aI0 a k (toB k b)=fB k b a:=by
 obtain⟨a,ac⟩:=a;obtain⟨b,bc⟩:=b;dsimp only at ha hb h0;obtain⟨a0,a1,a2,a3,rfl⟩:=aBB ha;obtain⟨b0,b1,b2,b3,rfl⟩:=aBB hb;rcases(show k=0∨k=1∨k=2∨k=3 by omega) with rfl|rfl|rfl|rfl<;>
  (simp only [List.getD_cons_zero,List.getD_cons_succ] at h0;subst h0;simp [aI0,toB,fB,lP,nO,Int.mul_neg,Int.neg_mul])
def noP:Prog×Bool:=(⟨[],[]⟩,false)
def aAh(p:Prog)(part loop:Int)(g f:Affine→Affine):Prog×Bool:=
 match ix p.parts part with
 |some P=>match ix P.nest loop with
  |some l=>aAp ⟨p.arrays,p.parts.set part.toNat (H0 loop.toNat g f P l)⟩
  |none=>noP
 |none=>noP
theorem J2{p:Prog}{part loop:Int}(h:fK p part loop=true):iE p=true∧ ∃(i k:Nat) (P:Part) (l:Loop),part=i∧loop=k∧p.parts[i]? =some P∧P.nest[k]? =some l∧i<p.parts.length∧k<P.nest.length∧cC p.arrays P=true∧k<4:=by
 unfold fK at h;rw [vBt] at h;obtain⟨hv,h⟩:=h;refine⟨hv,?_⟩;cases hx:ix p.parts part with
 |none=>rw [hx] at h;cases h
 |some P=>
  rw [hx] at h;obtain⟨i,rfl,hi,hP⟩:=aKR hx;obtain⟨h1,h2⟩:=of_decide_eq_true h;obtain⟨l,hl,hl2⟩:=aBD h1 h2;have hok:=(aAb hv).2.2.2.1 P (dF hP)
  have:=(qB hok).1;exact⟨i,loop.toNat,P,l,rfl,by omega,hP,hl2,hi,by omega,hok,by omega⟩
theorem aEw{list:List Arr}{P:Part}(hP:cC list P=true){k:Nat}{l:Loop}(hl:P.nest[k]? =some l){g f:Affine→Affine}(hg: ∀x,bM x=true→BA 4 (g x))(hf: ∀x,bM x=true→BA 4 (f x)):BPt 4 (H0 k g f P l):=by
 obtain⟨h1,h2⟩:=qB hP;obtain⟨_,h4,h5,_⟩:=lK hP;have hk:=(b7.1 hl).1;refine⟨⟨by simp only [H0,List.length_append,List.length_cons,List.length_map,List.length_take,List.length_drop];omega,fun y hy=>?_⟩,by simp only [H0,List.length_map];exact h4.2,fun s hs=>?_⟩
 ·rcases E0.1 hy with hy|hy
  ·exact((aH0 hP).1.2 y (vAz hy))
  rcases pT.1 hy with rfl|hy
  ·exact aET hg (h2 l (dF hl))
  obtain⟨z,hz,rfl⟩:=vAQ.1 hy;exact aET hf (h2 z (vAL hz))
 obtain⟨z,hz,rfl⟩:=vAQ.1 hs;exact aLa hf (h5 z hz)
theorem aLb{p:Prog}(hp:BG 1100000 p)(i:Nat){y:Part}(hy:BPt 4 y):BG 1100000 ⟨p.arrays,p.parts.set i y⟩:=⟨hp.1,by dsimp only;rw [List.length_set];exact hp.2.1,B6 hp.2.2 (hy.mono (by omega))⟩
theorem aAU{k:Int}{b:Affine}(hb:b.coefs.length=4): ∀x,bM x=true→BA 4 (lP x k b):=fun x hx=>by have:=aLe x b k (jT hx).1 hb;unfold BA;omega
theorem aJZ{k:Nat}{b:Affine}(hb:b.coefs.length=4): ∀x,bM x=true→BA 4 (fB k b x):=fun x hx=>aAU hb x hx
theorem aGy{k:Nat}(hk:k<4){b:Affine}(hb:bB 6 b):bB 1000 (toB k b):=by
 obtain⟨b,bc⟩:=b;obtain⟨h1,h2,h3⟩:=hb;dsimp only at h1 h2 h3;obtain⟨b0,b1,b2,b3,rfl⟩:=aBB h1;have c0:=h3 b0 (by simp);have c1:=h3 b1 (by simp);have c2:=h3 b2 (by simp);have c3:=h3 b3 (by simp);unfold o7 at h2 c0 c1 c2 c3;rcases(show k=0∨k=1∨k=2∨k=3 by omega) with rfl|rfl|rfl|rfl<;>
  (refine⟨rfl,?_,fun c hc=>?_⟩<;>unfold o7<;>simp [toB,nO,lP] at* <;>omega)
theorem aJj{k:Nat}(hk:k<4){b:Affine}(hb:bB 6 b)(h0:b.coefs.getD k 0=0): ∀n,5500000≤n→ ∀x,bM x=true→gI n x 1 (k:Int) (toB k b)=some (fB k b x):=fun n hn x hx=>by unfold gI;rw [aCO hn ((zI hx).mono (by omega)) (aGy hk hb) hk,aGE (zI hx).1 hb.1 hk h0];rfl
theorem aGz{α:Type}{l r:List α}{k:Nat}{x y:α}(h:l[k]? =some x):(l.take (k+1)++r).set k y=l.take k++y::r:=by have hk:=(b7.1 h).1;rw [D9,h,vAN,vBh _ _ (by simp;omega),vO,Nat.min_eq_left (by omega),vBj];rfl
theorem aJd{n:Nat}(hn:6600000≤n){list:List Arr}{P:Part}(hP:cC list P=true){k:Nat}{l:Loop}(hl:P.nest[k]? =some l)(hk:k<4){b:Affine}(hb:bB 6 b)(h0:b.coefs.getD k 0=0):
  v8 n P (k:Int) b=some (H0 k (fun x=>lP x 1 b) (fB k b) P l):=by
 obtain⟨h1,h2⟩:=qB hP;obtain⟨_,h4,h5,_⟩:=lK hP;have hkl:=(b7.1 hl).1;have hlp:=h2 l (dF hl);have hc: ∀x,bM x=true→cQ n x 1 b 1=some (lP x 1 b):=fun x hx=>by
  rw [wG (by omega) ((zI hx).mono (by omega)) (hb.mono (by omega)) ⟨by omega,by omega⟩ ⟨by omega,by omega⟩,aAD]
 unfold v8;simp only [aS hl,Option.bind_some];refine Ev.eq (aB (aBl n hk) (aB (wG (by omega) ((vY hk).mono (by omega)) (hb.mono (by omega)) ⟨by omega,by omega⟩ ⟨by omega,by omega⟩) ?_));rw [aAD];refine aB (aDc hn (by omega) h1 h2 h4.2 h5 (aJj hk hb h0)) ?_;refine l8 (n:=n) (l:=l.lo) (f:=fun x=>cQ n x 1 b 1) (K:=fun x4=>aM (fun again15 ((x12,x13):(List Affine)×Int)=>
    bif decide (x13<(l.hi.length:Int)) then(
     Option.bind (ix l.hi x13) fun x16=>
     Option.bind (cQ n x16 1 b 1) fun x17=>
     Option.bind (app x12 [x17]) fun x18=>
     again15 (x18,wr (x13+1))
    ) else(
     Option.bind (ix (P.nest.take (k+1)++(P.nest.drop (k+1)).map (gB (fB k b))) (k:Int)) fun x19=>
     Option.bind (dC (P.nest.take (k+1)++(P.nest.drop (k+1)).map (gB (fB k b))) (k:Int) (⟨x4,x12⟩:Loop)) fun x20=>
     some (⟨x20,P.body.map (uU (fB k b))⟩:Part)
    )
   ) n ([],0)) (fun x hx=>hc x (hlp.1.2 x hx)) (by have:=hlp.1.1;omega) (by omega) ?_
 refine l8 (n:=n) (l:=l.hi) (f:=fun x=>cQ n x 1 b 1) (g:=fun x=>lP x 1 b) (K:=fun x12=>Option.bind (ix (P.nest.take (k+1)++(P.nest.drop (k+1)).map (gB (fB k b))) (k:Int)) fun x19=>Option.bind (dC (P.nest.take (k+1)++(P.nest.drop (k+1)).map (gB (fB k b))) (k:Int) (⟨l.lo.map fun x=>lP x 1 b,x12⟩:Loop)) fun x20=>some (⟨x20,P.body.map (uU (fB k b))⟩:Part)) (fun x hx=>hc x (hlp.2.2 x hx)) (by have:=hlp.2.1;omega) (by omega) ?_;have hx:(P.nest.take (k+1)++(P.nest.drop (k+1)).map (gB (fB k b)))[k]? =some l:=by
  rw [B4 (by simp;omega),N9,if_pos (by omega)];exact hl
 refine aB (aS hx) (aB (eS (by simp;omega) _) (Ev.some ?_));rw [vAG,aGz hl];rfl
def sA(s:Int):Affine:=⟨[0,0,0,0],s⟩
theorem aFn(n:Nat)(s:Int):wU n s=some (decide (-6≤s∧s≤6)):=by unfold wU;rw [dQ];rfl
theorem aHe{p:Prog}{part loop:Int}(h:loop<0):fK p part loop=false:=by
 cases hc:fK p part loop with
 |false=>rfl
 |true=>obtain⟨_,i,k,P,l,_,hk,_⟩:=J2 hc;omega
theorem U9{p:Prog}{i k:Nat}{P:Part}{l:Loop}(hP:p.parts[i]? =some P)(hl:P.nest[k]? =some l)(g f:Affine→Affine):aAh p (i:Int) (k:Int) g f=aAp ⟨p.arrays,p.parts.set i (H0 k g f P l)⟩:=by unfold aAh;rw [aS hP];dsimp only;rw [aS hl];rfl
theorem aFG{n:Nat}(hn:7700000≤n){p:Prog}(hp:BG 1100000 p)(part:Int):Ev (mA n p part (-1)) (fun r=>r.2=false→r=noP):=by
 unfold mA;refine Ev.jn (fun z=>z=false→iE p=true∧(0≤part∧part<(p.parts.length:Int))) (fun j hj=>?_) fun z hz=>?_
 ·refine aB (gC hn hp.sm) (Ev.cond (fun h=>hj _ fun h=>by cases h) fun h=>?_);refine aB (yW n hp.2.1 part) (Ev.cond (fun h=>hj _ fun h=>by cases h) fun h2=>bV (fun h=>(h rfl).elim) fun _=>hj _ fun _=>⟨by simpa using h,by simpa using h2⟩)
 refine Ev.cond (fun _=>Ev.some fun _=>rfl) fun h=>?_;obtain⟨hv,h1,h2⟩:=hz h;obtain⟨x,hx,hx2⟩:=aBD h1 h2;exact aB (aCX (by omega) hv) (aB hx (Ev.some fun h=>by cases h))
def kA(k:Nat)(s:Int):Affine:=⟨[0,0,0,0].set k s,0⟩
theorem H7(k:Nat){s:Int}(h: -6≤s∧s≤6):bB 6 (kA k s):=by refine⟨by simp [kA],⟨by simp [kA],by simp [kA]⟩,B6 (fun c hc=>?_) ⟨h.1,h.2⟩⟩;simp at hc;subst hc;exact⟨by omega,by omega⟩
theorem aL7(s:Int){k:Nat}(hk:k+1<4):(kA k s).coefs.getD (k+1) 0=0:=by rcases(show k=0∨k=1∨k=2 by omega) with rfl|rfl|rfl<;>rfl
def T2(p:Prog)(part loop s:Int):Prog×Bool:=
 if fK p part loop=true∧fK p part (loop+1)=true∧(-6≤s∧s≤6) then aAh p part (loop+1) (fun x=>lP x 1 (kA loop.toNat s)) (fB (loop.toNat+1) (kA loop.toNat s)) else noP
theorem aK8{k:Nat}(hk:k<4)(s:Int):aHX (nO k) s ⟨[0,0,0,0],0⟩ 0=kA k s:=by rcases(show k=0∨k=1∨k=2∨k=3 by omega) with rfl|rfl|rfl|rfl<;>simp [aHX,nO,kA]
theorem aLd{k:Nat}(hk:k<4)(s:Int){a:Affine}(ha:a.coefs.length=4):lP a s (nO k)=lP a 1 (kA k s):=by obtain⟨a0,a1,a2,a3,e⟩:=aBB ha;rcases(show k=0∨k=1∨k=2∨k=3 by omega) with rfl|rfl|rfl|rfl<;>simp [lP,nO,kA,e]
theorem aLS{k:Nat}(hk:k+1<4)(s:Int):lP (nO (k+1)) (-s) (nO k)=toB (k+1) (kA k s):=by rcases(show k=0∨k=1∨k=2 by omega) with rfl|rfl|rfl<;>simp [toB,lP,nO,kA]
theorem aFa{n:Nat}(hn:7700000≤n){p:Prog}(hp:BG 1100000 p)(part loop s:Int):kD n p part loop s=some (T2 p part loop s):=by
 unfold kD T2;refine Ev.eq (aB (aC6 (by omega) hp) (Ev.jn (fun z=>z= !(fK p part loop&&(fK p part (loop+1)&&decide (-6≤s∧s≤6)))) (fun j hj=>?_) fun z hz=>?_))
 ·refine aB (aHd hn hp part loop) (Ev.cond (fun h=>hj _ ?_) fun h=>?_)
  ·rw [show fK p part loop=false by simpa using h];rfl
  have h1:fK p part loop=true:=by simpa using h
  obtain⟨hv,i,k,P,l,rfl,rfl,hP,hl,hi,hkl,hok,hk⟩:=J2 h1;rw [aN (by omega)];refine aB (aHd hn hp _ _) (Ev.cond (fun h=>hj _ ?_) fun h=>aB (nP n s 6 (by omega)) (hj _ ?_))
  ·rw [h1,show fK p (i:Int) ((k:Int)+1)=false by simpa using h];rfl
  rw [h1,show fK p (i:Int) ((k:Int)+1)=true by simpa using h];rfl
 subst hz;by_cases hc:fK p part loop=true∧fK p part (loop+1)=true∧(-6≤s∧s≤6)
 ·rw [if_pos hc,hc.1,hc.2.1,decide_eq_true hc.2.2];refine bJ ?_;obtain⟨hv,i,k1,P,l,rfl,hk1,hP,hl,hi,hkl,hok,hk⟩:=J2 hc.2.1;obtain⟨_,i0,k,P0,l0,hi0,rfl,_⟩:=J2 hc.1;obtain rfl:k1=k+1:=by omega
  refine aB (aBl n (by omega)) (aB (x:=⟨[0,0,0,0],0⟩) rfl (aB (wG (by omega) ((vY (by omega)).mono (by omega)) (by unfold bB o7;simp) ⟨by omega,by omega⟩ ⟨by omega,by omega⟩) ?_));rw [aK8 (by omega),aN (by omega)];refine aB (aS hP) (aB (aJd (by omega) hok hl hk (H7 k hc.2.2) (aL7 s hk)) (aB (aIr hn hp hi ((aEw hok hl (aAU (H7 k hc.2.2).1) (aJZ (H7 k hc.2.2).1)).mono (by omega))) (Ev.some ?_)));show aAp _=_;rw [show((k:Int)+1)=((k+1:Nat):Int) by omega,U9 hP hl];rfl
 rw [if_neg hc,show(fK p part loop&&(fK p part (loop+1)&&decide (-6≤s∧s≤6)))=false by
  cases h1:fK p part loop with
  |false=>rfl
  |true=>cases h2:fK p part (loop+1) with
   |false=>rfl
   |true=>exact decide_eq_false fun h3=>hc ⟨h1,h2,h3⟩]
 exact b8 (Ev.some rfl)
theorem aGH{n:Nat}(hn:5500000≤n){k:Nat}(hk:k<4){s:Int}(hs: -6≤s∧s≤6): ∀x,bM x=true→jR n x s (k:Int)=some (lP x 1 (kA k s)):=fun x hx=>by unfold jR;rw [I2 n hk];refine Ev.eq (aB rfl (aB (I3 hn ((zI hx).mono (by omega)) ((vY hk).mono (by omega)) ⟨by omega,by omega⟩) (Ev.some (aLd hk s (jT hx).1))))
theorem aGG{n:Nat}(hn:5500000≤n){k:Nat}(hk:k+1<4){s:Int}(hs: -6≤s∧s≤6): ∀x,bM x=true→iA n x (k:Int) (toB (k+1) (kA k s))=some (fB (k+1) (kA k s) x):=fun x hx=>by unfold iA;rw [aN (by omega),show((k:Int)+1)=((k+1:Nat):Int) by omega,aDh hn ((zI hx).mono (by omega)) (aGy hk (H7 k hs)) hk,aGE (zI hx).1 (H7 k hs).1 hk (aL7 s hk)];rfl
theorem aFs{n:Nat}(hn:7700000≤n){p:Prog}(hp:BG 1100000 p)(part loop s:Int):gO n p part loop s=some (T2 p part loop s):=by
 unfold gO T2;by_cases hneg:loop= -1
 ·subst hneg;rw [if_neg fun h=>by rw [aHe (by omega)] at h;cases h.1];refine Ev.eq (iQ (aFG hn hp part) fun x1 h1=>Ev.cond (fun _=>Ev.jn (fun z=>z=true) (fun j hj=>aK (fun _=>hj _ rfl) fun h=>absurd (show(-1:Int)<0 by omega) h) fun z hz=>by rw [hz];exact b8 (Ev.some rfl)) fun _=>Ev.some rfl)
 refine Ev.eq (aB (aH3 hn hp part loop hneg) ?_);by_cases hb:fK p part loop=true
 ·rw [if_pos hb];obtain⟨hv,i,k,P,l0,rfl,rfl,hP,hl0,hi,hkl,hok,hk⟩:=J2 hb;obtain⟨h1,h2⟩:=qB hok;obtain⟨_,h4,h5,_⟩:=lK hok;have hb2:fK p (i:Int) ((k:Int)+1)=decide (k+1<P.nest.length):=by
   unfold fK;rw [hv,aS hP];exact decide_eq_decide.2 (by omega)
  refine b8 (Ev.jn (fun z=>z= !(decide (k+1<P.nest.length)&&decide (-6≤s∧s≤6))) (fun j hj=>?_) fun z hz=>?_)
  ·refine aK (fun h=>absurd h (by omega)) fun _=>aB (aS hP) ?_;rw [aN (by omega)];refine aK (fun h=>hj _ ?_) fun h=>aB (aFn n s) (hj _ ?_)
   ·rw [decide_eq_false (show¬k+1<P.nest.length by omega)];rfl
   rw [decide_eq_true (show k+1<P.nest.length by omega)];rfl
  subst hz;by_cases hk1:k+1<P.nest.length
  ·by_cases hs: -6≤s∧s≤6
   ·rw [if_pos ⟨hb,by rw [hb2,decide_eq_true hk1],hs⟩,decide_eq_true hs,decide_eq_true hk1];refine bJ ?_;obtain⟨l,hl⟩: ∃l,P.nest[k+1]? =some l:=⟨_,dK hk1⟩
    rw [aN (n:=(k:Int)+1) (by omega),aN (n:=(k:Int)+2) (by omega),aN (n:=0-s) (by omega),show((k:Int)+1)=((k+1:Nat):Int) by omega,show((k:Int)+2)=((k+1+1:Nat):Int) by omega,show 0-s= -s by omega];refine aB (aS hP) (aB (aS hl) (aB (tY (by omega) (h2 l (dF hl)) (aGH (by omega) hk hs)) (aB (eS (by omega) _) (aB (eS (by dsimp only;omega) _) (aB (I2 n (by omega)) (aB (I2 n hk) (aB (I3 (by omega) ((vY (by omega)).mono (by omega)) ((vY hk).mono (by omega)) ⟨by omega,by omega⟩) ?_)))))));rw [aLS (by omega)];have hch:=P2 (n:=n) (by omega) (nest:=P.nest.set (k+1) (gB (fun x=>lP x 1 (kA k s)) l)) (body:=P.body) (s:=k+1+1) (by simp;omega) (by simp;omega) (fun y hy=>by
     rw [List.drop_set_of_lt (by omega)] at hy;exact h2 y (vAL hy)) h4.2 h5 (F:=fun q0=>iA n q0 (k:Int) (toB (k+1) (kA k s))) (aGG (by omega) (by omega) hs)
    rw [vAG,vAG];refine aB hch (aB (eS (by simp;omega) _) ?_);rw [vAG,List.set_set];have hm:(⟨(P.nest.set (k+1) (gB (fun x=>lP x 1 (kA k s)) l)).take (k+1+1)++((P.nest.set (k+1) (gB (fun x=>lP x 1 (kA k s)) l)).drop (k+1+1)).map (gB (fB (k+1) (kA k s))),P.body.map (uU (fB (k+1) (kA k s)))⟩:Part)=H0 (k+1) (fun x=>lP x 1 (kA k s)) (fB (k+1) (kA k s)) P l:=by
     rw [List.drop_set_of_lt (by omega),D9,S8 (by omega),List.take_set_of_le (lI _),vAN];rfl
    rw [hm];refine aB (aBM hn (aLb hp i (aEw hok hl (aAU (H7 k hs).1) (aJZ (H7 k hs).1)))) (Ev.some ?_);rw [U9 hP hl];rfl
   rw [if_neg fun h=>hs h.2.2,decide_eq_false hs,vBg];exact b8 (Ev.some rfl)
  rw [if_neg (fun h=>by rw [hb2,decide_eq_false hk1] at h;cases h.2.1),decide_eq_false hk1];exact b8 (Ev.some rfl)
 rw [if_neg hb,if_neg fun h=>hb h.1];exact bJ (Ev.some rfl)
end Go.Lift
