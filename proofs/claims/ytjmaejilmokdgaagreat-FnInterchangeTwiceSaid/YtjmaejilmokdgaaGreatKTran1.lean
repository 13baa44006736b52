/- Two programs that do the same. -/
import Derived.Test.YtjmaejilmokdgaaGreatKRun1
import Derived.Test.YtjmaejilmokdgaaGreatKDraw1
import Derived.Test.YtjmaejilmokdgaaGreatKDrawD
set_option maxRecDepth 100000
set_option linter.unusedVariables false
namespace Go.Lift
open Go
theorem uR{α β R:Type}{l:List α}{F:α→(β→Option R)→Option R}{g:α→β}{K:List β→Option R}{Q:R→Prop}{n:Nat}(hF: ∀x∈l,∀k:β→Option R,Ev (k (g x)) Q→Ev (F x k) Q)
  {s:Nat} (hs:s≤l.length) {pre:List β} (hp:pre.length≤1000) (hl:l.length≤1000) (hn:5000≤n) (hK:Ev (K (pre++(l.drop s).map g)) Q):
  Ev (aM (fun again ((x,i):List β×Int)=>bif decide (i<(l.length:Int)) then(Option.bind (ix l i) fun y=>F y fun z=>Option.bind (app x [z]) fun w=>again (w,wr (i+1))) else K x) n (pre,(s:Int))) Q:=by
 refine Ev.loop (fun z:List β×Int=> ∃i:Nat,z.2=i∧s≤i∧i≤l.length∧z.1=pre++((l.drop s).take (i-s)).map g) (fun z=>l.length-z.2.toNat) ?_ n _ ⟨s,rfl,by omega,by omega,by simp⟩ (by dsimp only;omega);rintro again ⟨x,z⟩ ⟨i,hz,hsi,hi,hx⟩ hr;dsimp only at hz hx⊢;subst hz;refine aH (fun hlt=>?_) fun hge=>?_
 ·have hg:=cO (show i<l.length by omega);have hxl:x.length≤2000:=by rw [hx,pE,qB,qC,vAT];omega
  refine aA (aN hg) (hF _ (cP hg) _ (aA (bT (by simp;omega)) ?_));rw [aS (by omega)];refine hr _ ⟨i+1,by dsimp only;omega,by omega,by omega,?_⟩ (by dsimp only;omega);dsimp only;rw [show i+1-s=(i-s)+1 by omega,yV,vAE,show s+(i-s)=i by omega,hg,hx,vAO,vAR];rfl
 have:i=l.length:=by omega
 subst this;rw [hx,vBb (by rw [vAT];omega)];exact hK
theorem sL{α β R:Type}{l:List α}{f:α→Option β}{g:α→β}{K:List β→Option R}{Q:R→Prop}{n:Nat}(hf: ∀x∈l,f x=some (g x))(hl:l.length≤1000)(hn:5000≤n)(hK:Ev (K (l.map g)) Q):
  Ev (aM (fun again ((x,i):List β×Int)=>bif decide (i<(l.length:Int)) then(Option.bind (ix l i) fun y=>Option.bind (f y) fun z=>Option.bind (app x [z]) fun w=>again (w,wr (i+1))) else K x) n ([],0)) Q:=
 uR (F:=fun y k=>Option.bind (f y) k) (g:=g) (s:=0) (pre:=[]) (fun x hx k hk=>aA (hf x hx) hk) (by omega) (by simp) hl hn (by simpa using hK)
theorem aB6{α R:Type}{l:List α}{F:α→(α→Option R)→Option R}{W:List α→Option R→Option R}{m:List α→Int}{g:α→α}{K:List α→Option R}{Q:R→Prop}{n:Nat}
  (hW: ∀y o,y.length=l.length→Ev o Q→Ev (W y o) Q) (hm: ∀y:List α,y.length=l.length→m y=(l.length:Int))
  {s:Nat} (hs:s≤l.length) (hF: ∀x∈l,∀k:α→Option R,Ev (k (g x)) Q→Ev (F x k) Q) (hl:l.length≤1000) (hn:5000≤n) (hK:Ev (K (l.take s++(l.drop s).map g)) Q):
  Ev (aM (fun again ((y,i):List α×Int)=>W y (bif decide (i<m y) then(Option.bind (ix y i) fun x=>F x fun z=>Option.bind (dH y i z) fun w=>again (w,wr (i+1))) else K y)) n (l,(s:Int))) Q:=by
 refine Ev.loop (fun z:List α×Int=> ∃i:Nat,z.2=i∧s≤i∧i≤l.length∧z.1=l.take s++((l.drop s).take (i-s)).map g++l.drop i) (fun z=>l.length-z.2.toNat) ?_ n _ ⟨s,rfl,by omega,by omega,by simp⟩ (by dsimp only;omega);rintro again ⟨x,z⟩ ⟨i,hz,hsi,hi,hx⟩ hr;dsimp only at hz hx⊢;subst hz;have hpl:(l.take s++((l.drop s).take (i-s)).map g).length=i:=by rw [pE,qB,qC,qC,vAT];omega
 have hxl:x.length=l.length:=by rw [hx,pE,hpl,vAT];omega
 refine hW _ _ hxl ?_;rw [hm _ hxl];refine aH (fun hlt=>?_) fun hge=>?_
 ·obtain⟨e,hg⟩: ∃e,l[i]? =some e:=⟨_,cO (show i<l.length by omega)⟩
  have hgx:x[i]? =some e:=by
   rw [hx,vAp (by omega),hpl,vBK,vAE];exact hg
  refine aA (aN hgx) (hF _ (cP hg) _ (aA (dE (by omega) _) ?_));rw [aS (by omega)];refine hr _ ⟨i+1,by dsimp only;omega,by omega,by omega,?_⟩ (by dsimp only;omega);dsimp only;rw [hx,P0,List.set_append_right _ _ (by omega),hpl,vBK,mM hg,List.set_cons_zero,show i+1-s=(i-s)+1 by omega,yV,vAE,show s+(i-s)=i by omega,hg];simp
 have:i=l.length:=by omega
 subst this;rw [hx,vBb (l:=l.drop s) (by rw [vAT];omega),vBn,vBj];exact hK
def lM(f:Affine→Affine)(a:Access):Access:=⟨a.array,a.subs.map f⟩
def uS(f:Affine→Affine):Nat→Expr→Expr
 |0,e=>e
 |L+1,e=>⟨e.kind,e.num,if e.kind=2 then f e.index else⟨[],0⟩,if e.kind=3 then lM f e.read else⟨[],[]⟩,e.kids.map (uS f L)⟩
def qI(f:Affine→Affine)(s:Stmt):Stmt:=⟨lM f s.write,uS f 5 s.value⟩
def eS(f:Affine→Affine)(l:Loop):Loop:=⟨l.lo.map f,l.hi.map f⟩
theorem H2{e:Expr}{d:Int}(h:fU e d=true)(hk:e.kind=2):bX e.index=true∧mX e.read=true:=by unfold fU bZ at h;rw [if_pos hk] at h;simp only [Bool.and_eq_true] at h;exact⟨h.2.2.1,h.2.1⟩
theorem H1{e:Expr}{d:Int}(h:fU e d=true)(hk:e.kind=3):gS e.read d=true∧jF e.index=true:=by unfold fU at h;rw [if_neg (by omega),if_pos hk] at h;simp only [Bool.and_eq_true] at h;exact⟨h.2.2,h.2.1⟩
theorem aFq{e:Expr}{d:Int}(h:fU e d=true)(h2: ¬e.kind=2)(h3: ¬e.kind=3):jF e.index=true∧mX e.read=true:=by unfold fU at h;rw [if_neg h2,if_neg h3] at h;split at h<;>simp only [Bool.and_eq_true] at h<;>exact⟨h.2.1,h.2.2⟩
theorem B0{a:Affine}(h:jF a=true):a=⟨[],0⟩:=by obtain⟨c,k⟩:=a;simp only [jF,Bool.and_eq_true,decide_eq_true_eq] at h;obtain⟨h1,rfl⟩:=h;rw [vAy h1]
theorem B1{a:Access}(h:mX a=true):a=⟨[],[]⟩:=by obtain⟨c,k⟩:=a;simp only [mX,Bool.and_eq_true,decide_eq_true_eq] at h;obtain⟨rfl,h1⟩:=h;rw [vAy h1]
theorem uY{n:Nat}(hn:5000≤n){a:Access}{d:Int}(ha:gS a d=true){F:Affine→Option Affine}{f:Affine→Affine}(hF: ∀x,bX x=true→F x=some (f x)):kE n a F=some (lM f a):=by obtain⟨h1,h2,h3⟩:=xB ha;refine Ev.eq ?_;unfold kE;exact sL (K:=fun x1=>some (⟨a.array,x1⟩:Access)) (fun x hx=>hF x (h3 x hx)) (by omega) hn (Ev.some rfl)
theorem C5{d:Int}{F:Affine→Option Affine}{f:Affine→Affine}(hF: ∀x,bX x=true→F x=some (f x)): ∀(L n:Nat) (e:Expr),5000+L≤n→dW L e d=true→i_exprMap (n+1) e F=some (uS f L e)
 |0,_,_,_,h=>by cases h
 |L+1,n,e,hn,h=>by
  obtain⟨hk,ho,hs⟩:=jL h;obtain⟨n,rfl⟩: ∃j,n=j+1:=⟨n-1,by omega⟩
  have hkl:e.kids.length≤2:=by have:=mK e.kind;omega
  unfold i_exprMap;refine Ev.eq (Ev.jn (fun z=>(⟨z.1,z.2.1⟩:Affine)=(if e.kind=2 then f e.index else⟨[],0⟩)∧(⟨z.2.2.1,z.2.2.2⟩:Access)=(if e.kind=3 then lM f e.read else⟨[],[]⟩)) (fun j hj=>?_) fun z hz=>?_)
  ·refine aH (fun h2=>?_) fun h2=>aH (fun h3=>?_) fun h3=>?_
   ·exact aA (hF _ (H2 ho h2).1) (hj _ ⟨by rw [if_pos h2],by rw [if_neg (by omega)]⟩)
   ·exact aA (uY (by omega) (H1 ho h3).1 hF) (hj _ ⟨by rw [if_neg h2],by rw [if_pos h3]⟩)
   exact hj _ ⟨by rw [if_neg h2],by rw [if_neg h3]⟩
  obtain⟨x4,x5,x6,x7⟩:=z;obtain⟨z1,z2⟩:=hz;dsimp only at z1 z2⊢;refine sL (K:=fun x8=>some (⟨e.kind,e.num,(⟨x4,x5⟩:Affine),(⟨x6,x7⟩:Access),x8⟩:Expr)) (fun x hx=>C5 hF L n x (by omega) (hs x hx)) (by omega) (by omega) (Ev.some ?_);rw [z1,z2];rfl
theorem C3{n:Nat}(hn:6000≤n){s:Stmt}{d:Int}(hs:fN s d=true){F:Affine→Option Affine}{f:Affine→Affine}(hF: ∀x,bX x=true→F x=some (f x)):kD n s F=some (qI f s):=by
 obtain⟨h1,h2,_⟩:=oD hs;obtain⟨n,rfl⟩: ∃j,n=j+1:=⟨n-1,by omega⟩
 unfold kD;rw [uY (by omega) h1 hF,C5 hF 5 n s.value (by omega) h2];rfl
theorem xP{α:Type}{f:α→α}: ∀{l:List α},(∀x∈l,f x=x)→l.map f=l
 | [],_=>rfl
 |x::l,h=>by rw [List.map_cons,h x yZ,xP fun y hy=>h y (tZ _ hy)]
theorem aBs{f:Affine→Affine}{a:Access}{d:Int}(ha:gS a d=true)(hf: ∀x,bX x=true→f x=x):lM f a=a:=by obtain⟨h1,h2,h3⟩:=xB ha;unfold lM;rw [xP fun x hx=>hf x (h3 x hx)]
theorem aG6{d:Int}{f:Affine→Affine}(hf: ∀x,bX x=true→f x=x): ∀{L:Nat} {e:Expr},dW L e d=true→uS f L e=e
 |0,_,_=>rfl
 |L+1,e,h=>by
  obtain⟨hk,ho,hs⟩:=jL h;obtain⟨kind,num,index,read,kids⟩:=e;unfold uS;dsimp only at hk ho hs⊢;rw [xP fun x hx=>aG6 hf (hs x hx)];by_cases h2:kind=2
  ·have e1:=H2 ho h2;dsimp only at e1;rw [if_pos h2,if_neg (by omega),hf _ e1.1,B1 e1.2]
  by_cases h3:kind=3
  ·have e1:=H1 ho h3;dsimp only at e1;rw [if_neg h2,if_pos h3,aBs e1.1 hf,B0 e1.2]
  have e1:=aFq ho h2 h3;dsimp only at e1;rw [if_neg h2,if_neg h3,B0 e1.1,B1 e1.2]
theorem aG5{f:Affine→Affine}(hf: ∀x,bX x=true→f x=x){s:Stmt}{d:Int}(hs:fN s d=true):qI f s=s:=by obtain⟨h1,h2,_⟩:=oD hs;unfold qI;rw [aBs h1 hf,aG6 hf h2]
theorem aDR(f g:Affine→Affine): ∀(L:Nat) (e:Expr),uS g L (uS f L e)=uS (fun x=>g (f x)) L e
 |0,_=>rfl
 |L+1,e=>by
  show(⟨e.kind,e.num,if e.kind=2 then g (if e.kind=2 then f e.index else⟨[],0⟩) else⟨[],0⟩,if e.kind=3 then lM g (if e.kind=3 then lM f e.read else⟨[],[]⟩) else⟨[],[]⟩,(e.kids.map (uS f L)).map (uS g L)⟩:Expr)
   =⟨e.kind,e.num,if e.kind=2 then g (f e.index) else⟨[],0⟩,if e.kind=3 then lM (fun x=>g (f x)) e.read else⟨[],[]⟩,e.kids.map (uS (fun x=>g (f x)) L)⟩
  rw [List.map_map,show(uS g L ∘ uS f L)=uS (fun x=>g (f x)) L from funext (aDR f g L)];by_cases h2:e.kind=2
  ·have h3: ¬e.kind=3:=by omega
   simp only [if_pos h2,if_neg h3]
  by_cases h3:e.kind=3
  ·simp only [if_neg h2,if_pos h3,lM,List.map_map];rfl
  simp only [if_neg h2,if_neg h3]
theorem aJv(f g:Affine→Affine)(s:Stmt):qI g (qI f s)=qI (fun x=>g (f x)) s:=by unfold qI;rw [aDR];simp only [lM,List.map_map];rfl
theorem aHT(f g:Affine→Affine)(l:Loop):eS g (eS f l)=eS (fun x=>g (f x)) l:=by simp only [eS,List.map_map];rfl
def V2(l:Loop):Prop:=(l.lo.length≤2∧ ∀x∈l.lo,bX x=true)∧l.hi.length≤2∧ ∀x∈l.hi,bX x=true
theorem aJw{f:Affine→Affine}(hf: ∀x,bX x=true→f x=x){l:Loop}(hl:V2 l):eS f l=l:=by unfold eS;rw [xP fun x hx=>hf x (hl.1.2 x hx),xP fun x hx=>hf x (hl.2.2 x hx)]
theorem aNu{nest:List Loop}(h:Fit nest): ∀l∈nest,V2 l:=fun l hl=>by
 obtain⟨i,hi⟩:=vAH.1 hl
 have:=h.2 i l hi;exact⟨(t8 this.1).2,(t8 this.2).2⟩
theorem pO{list:List Arr}{x:Part}(h:cW list x=true):x.nest.length≤4∧ ∀l∈x.nest,V2 l:=by have:=(aGH (hJ h).1).1;exact⟨this.1,aNu this⟩
theorem aME{a:Affine}(h:bX a=true):BA 4 a:=by have:=(gR h).1;unfold BA;omega
theorem aCZ{l:List Affine}(h1:l.length≤2)(h2: ∀x∈l,bX x=true):BAs 4 l:=⟨by omega,fun a ha=>aME (h2 a ha)⟩
theorem aMD{d:Int}: ∀{L:Nat} {e:Expr},dW L e d=true→BE 4 L e
 |0,_,h=>by cases h
 |L+1,e,h=>by
  obtain⟨hk,ho,hs⟩:=jL h
  have:=mK e.kind;refine⟨by omega,?_,?_,fun k hk=>aMD (hs k hk)⟩
  ·by_cases h2:e.kind=2
   ·exact aME (H2 ho h2).1
   by_cases h3:e.kind=3
   ·rw [B0 (H1 ho h3).2];unfold BA;simp
   rw [B0 (aFq ho h2 h3).1];unfold BA;simp
  by_cases h3:e.kind=3
  ·have:=xB (H1 ho h3).1;exact aCZ this.2.1 this.2.2
  by_cases h2:e.kind=2
  ·rw [B1 (H2 ho h2).2];exact⟨by simp,fun x hx=>by cases hx⟩
  rw [B1 (aFq ho h2 h3).2];exact⟨by simp,fun x hx=>by cases hx⟩
theorem aOA{s:Stmt}{d:Int}(hs:fN s d=true):BS 4 s:=by
 obtain⟨h1,h2,_⟩:=oD hs
 have:=xB h1;exact⟨aCZ this.2.1 this.2.2,aMD h2⟩
theorem aNE{list:List Arr}{x:Part}(h:cW list x=true):BPt 4 x:=by obtain⟨h1,h2⟩:=pO h;obtain⟨_,h4,h5,_⟩:=hJ h;exact⟨⟨h1,fun l hl=>⟨aCZ (h2 l hl).1.1 (h2 l hl).1.2,aCZ (h2 l hl).2.1 (h2 l hl).2.2⟩⟩,h4.2,fun s hs=>aOA (h5 s hs)⟩
theorem aOB{l:List Arr}(h1:l.length≤4)(h2:jO l):BR 4 l:=⟨h1,fun x hx=>by have:=h2 x hx;simp only [jA,Bool.and_eq_true,decide_eq_true_eq] at this;omega⟩
theorem Q6{B:Nat}{l:List Affine}{f:Affine→Affine}(h:l.length≤B)(hf: ∀x∈l,BA B (f x)):BAs B (l.map f):=⟨by rw [qB];exact h,fun a ha=>by obtain⟨x,hx,rfl⟩:=vAV.1 ha;exact hf x hx⟩
theorem aKD{d:Int}{f:Affine→Affine}(hf: ∀x,bX x=true→BA 4 (f x)): ∀{L:Nat} {e:Expr},dW L e d=true→BE 4 L (uS f L e)
 |0,_,h=>by cases h
 |L+1,e,h=>by
  obtain⟨hk,ho,hs⟩:=jL h
  have:=mK e.kind;unfold uS BE;refine⟨by dsimp only;rw [qB];omega,?_,?_,fun k hk=>?_⟩
  ·dsimp only;by_cases h2:e.kind=2
   ·rw [if_pos h2];exact hf _ (H2 ho h2).1
   rw [if_neg h2];unfold BA;simp
  ·dsimp only;by_cases h3:e.kind=3
   ·rw [if_pos h3]
    have:=xB (H1 ho h3).1;exact Q6 (by omega) fun x hx=>hf x (this.2.2 x hx)
   rw [if_neg h3];exact⟨by simp,fun x hx=>by cases hx⟩
  obtain⟨x,hx,rfl⟩:=vAV.1 hk;exact aKD hf (hs x hx)
theorem aND{f:Affine→Affine}(hf: ∀x,bX x=true→BA 4 (f x)){s:Stmt}{d:Int}(hs:fN s d=true):BS 4 (qI f s):=by
 obtain⟨h1,h2,_⟩:=oD hs
 have:=xB h1;exact⟨Q6 (by omega) fun x hx=>hf x (this.2.2 x hx),aKD hf h2⟩
theorem aMe{f:Affine→Affine}(hf: ∀x,bX x=true→BA 4 (f x)){l:Loop}(h:V2 l):BAs 4 (eS f l).lo∧BAs 4 (eS f l).hi:=
 ⟨Q6 (by have:=h.1.1;omega) fun x hx=>hf x (h.1.2 x hx),Q6 (by have:=h.2.1;omega) fun x hx=>hf x (h.2.2 x hx)⟩
theorem aHO(n:Nat){a:Affine}(h:a.coefs.length≤1000):eB n a=some a:=by unfold eB m_ownClone;rw [if_pos (by omega)];rfl
theorem H3(n:Nat): ∀x,bX x=true→eB n x=some x:=fun x hx=>aHO n (by have:=(gR hx).1;omega)
theorem T7{n:Nat}(hn:5000≤n){l:List Affine}(h1:l.length≤2)(h2: ∀x∈l,bX x=true):fW n l=some l:=by unfold fW;refine Ev.eq (sL (g:=fun x=>x) (K:=fun x1=>some x1) (fun x hx=>H3 n x (h2 x hx)) (by omega) hn (Ev.some ?_));simp
theorem aFr{n:Nat}(hn:5000≤n){nest:List Loop}(h1:nest.length≤4)(h2: ∀l∈nest,V2 l):rD n nest=some nest:=by unfold rD;refine Ev.eq ?_;refine uR (β:=Loop) (l:=nest) (n:=n) (F:=fun x5 k=>Option.bind (fW n x5.lo) fun x6=>Option.bind (fW n x5.hi) fun x7=>k (⟨x6,x7⟩:Loop)) (g:=fun x=>x) (s:=0) (pre:=[]) (K:=fun x1=>some x1) ?_ (by omega) (by simp) (by omega) hn (Ev.some (by simp));exact fun x hx k hk=>aA (T7 hn (h2 x hx).1.1 (h2 x hx).1.2) (aA (T7 hn (h2 x hx).2.1 (h2 x hx).2.2) hk)
theorem aFo{n:Nat}(hn:6000≤n){s:Stmt}{d:Int}(hs:fN s d=true):wE n s=some s:=by unfold wE;rw [C3 hn hs (F:=fun q0=>eB n q0) (f:=fun x=>x) (H3 n),aG5 (fun _ _=>rfl) hs];rfl
theorem aFp{n:Nat}(hn:6000≤n){list:List Arr}{x:Part}(h:cW list x=true):nV n x=some x:=by obtain⟨h1,h2⟩:=pO h;obtain⟨_,h4,h5,_⟩:=hJ h;unfold nV;refine Ev.eq (aA (aFr (by omega) h1 h2) (sL (g:=fun x=>x) (K:=fun x2=>some (⟨x.nest,x2⟩:Part)) (fun s hs=>aFo hn (h5 s hs)) (by omega) (by omega) (Ev.some ?_)));simp
theorem aFn{n:Nat}(hn:6000≤n){p:Prog}(h:cF p=true):gL n p=some p:=by
 obtain⟨h1,h2,h3,h4,_⟩:=iZ h;unfold gL;refine Ev.eq (uR (F:=fun x5 k=>Option.bind (m_ownClone x5.dims) fun x6=>k (⟨x5.name,x6⟩:Arr)) (g:=fun x=>x) (s:=0) (pre:=[]) (K:=fun x1=>aM (fun again11 ((x8,x9):(List Part)×Int)=>
    bif decide (x9<(p.parts.length:Int)) then(
     Option.bind (ix p.parts x9) fun x12=>
     Option.bind (nV n x12) fun x13=>
     Option.bind (app x8 [x13]) fun x14=>
     again11 (x14,wr (x9+1))
    ) else(
     some (⟨x1,x8⟩:Prog)
    )
   ) n ([],0)) (fun x hx k hk=>aA (x:=x.dims) ?_ hk) (by omega) (by simp) (by omega) (by omega) ?_)
 ·have:=(aOB h1 h2).2 x hx;unfold m_ownClone;rw [if_pos (by omega)]
 refine sL (g:=fun x=>x) (K:=fun x8=>some (⟨_,x8⟩:Prog)) (fun x hx=>aFp hn (h4 x hx)) (by omega) (by omega) (Ev.some ?_);simp
theorem fV{α:Type}{a b:List α}(h:b.length=a.length):iM a b=some ():=by unfold iM;rw [if_pos h]
theorem aAI{n:Nat}(hn:5000≤n){l:Loop}(hl:V2 l){F:Affine→Option Affine}{f:Affine→Affine}(hF: ∀x,bX x=true→F x=some (f x)):mC n l F=some (eS f l):=by
 obtain⟨⟨a1,a2⟩,b1,b2⟩:=hl;unfold mC;refine Ev.eq (Ev.loop (fun z:Loop×Int=>(z.2=0∧z.1=l)∨(z.2=1∧z.1=⟨l.lo.map f,l.hi⟩)∨(z.2=2∧z.1=eS f l)) (fun z=>3-z.2.toNat) ?_ n _ (.inl ⟨rfl,rfl⟩) (by dsimp only;omega));rintro again ⟨x,i⟩ hz hr;dsimp only at hz hr⊢;rcases hz with ⟨rfl,rfl⟩|⟨rfl,rfl⟩|⟨rfl,rfl⟩
 ·refine aA (fV rfl) (aA (fV rfl) (aH (fun _=>aH (fun _=>?_) fun h=>(h rfl).elim) fun h=>absurd h (by omega)));refine aB6 (F:=fun x k=>Option.bind (F x) k) (W:=fun _ o=>o) (m:=fun _=>(x.lo.length:Int)) (g:=f) (s:=0) (K:=fun y=>again ((⟨y,x.hi⟩:Loop),wr (0+1))) (fun _ _ _ h=>h) (fun _ _=>rfl) (by omega) (fun x hx k hk=>aA (hF x (a2 x hx)) hk) (by omega) hn ?_;rw [aS (by omega)];exact hr _ (.inr (.inl ⟨by dsimp only;omega,by simp⟩)) (by dsimp only;omega)
 ·refine aA (fV (by simp)) (aA (fV rfl) (aH (fun _=>aH (fun h=>absurd h (by omega)) fun _=>aH (fun _=>?_) fun h=>(h rfl).elim) fun h=>absurd h (by omega)));refine aB6 (F:=fun x k=>Option.bind (F x) k) (W:=fun _ o=>o) (m:=fun _=>(l.hi.length:Int)) (g:=f) (s:=0) (K:=fun y=>again ((⟨l.lo.map f,y⟩:Loop),wr (1+1))) (fun _ _ _ h=>h) (fun _ _=>rfl) (by omega) (fun x hx k hk=>aA (hF x (b2 x hx)) hk) (by omega) hn ?_;rw [aS (by omega)];exact hr _ (.inr (.inr ⟨by dsimp only;omega,by simp [eS]⟩)) (by dsimp only;omega)
 refine aA (fV (by simp [eS])) (aA (fV (by simp [eS])) (aH (fun h=>absurd h (by omega)) fun _=>Ev.some rfl))
theorem aAH{n:Nat}(hn:6000≤n){nest:List Loop}{body:List Stmt}{s:Nat}(hs:s≤nest.length)(h1:nest.length≤4)(h2: ∀l∈nest.drop s,V2 l){d:Int}(h3:body.length≤4)(h4: ∀s∈body,fN s d=true){F:Affine→Option Affine}{f:Affine→Affine}(hF: ∀x,bX x=true→F x=some (f x)):
  mB n ⟨nest,body⟩ (s:Int) F=some ⟨nest.take s++(nest.drop s).map (eS f),body.map (qI f)⟩:=by
 have key: ∀(nest2:List Loop),Ev (aM (fun again2 ((y,j):(List Stmt)×Int)=>
    Option.bind (iM body y) fun x5=>
    bif decide (j<(body.length:Int)) then(
     Option.bind (ix y j) fun x6=>
     Option.bind (kD n x6 F) fun x7=>
     Option.bind (dH y j x7) fun x8=>
     again2 (x8,wr (j+1))
    ) else(
     some (⟨nest2,y⟩:Part)
    )
   ) n (body,0)) (fun r=>r=⟨nest2,body.map (qI f)⟩):=fun nest2=>
  aB6 (F:=fun x k=>Option.bind (kD n x F) k) (W:=fun y o=>Option.bind (iM body y) fun _=>o) (m:=fun _=>(body.length:Int)) (g:=qI f) (s:=0) (K:=fun y=>some (⟨nest2,y⟩:Part)) (fun y o h ho=>aA (fV h) ho) (fun _ _=>rfl) (by omega) (fun x hx k hk=>aA (C3 hn (h4 x hx) hF) hk) (by omega) (by omega) (Ev.some (by simp))
 unfold mB;refine Ev.eq ?_
 -- the loops ahead stay: only those behind are changed
 refine Ev.loop (fun z:List Loop×Int=> ∃i:Nat,z.2=i∧s≤i∧i≤nest.length∧z.1=nest.take s++((nest.drop s).take (i-s)).map (eS f)++nest.drop i) (fun z=>nest.length-z.2.toNat) ?_ n _ ⟨s,rfl,by omega,by omega,by simp⟩ (by dsimp only;omega);rintro again ⟨x,z⟩ ⟨i,hz,hsi,hi,hx⟩ hr;dsimp only at hz hx⊢;subst hz;have hpl:(nest.take s++((nest.drop s).take (i-s)).map (eS f)).length=i:=by rw [pE,qB,qC,qC,vAT];omega
 have hxl:x.length=nest.length:=by rw [hx,pE,hpl,vAT];omega
 refine aA (fV hxl) (aH (fun hlt=>?_) fun hge=>?_)
 ·obtain⟨e,hg⟩: ∃e,nest[i]? =some e:=⟨_,cO (show i<nest.length by omega)⟩
  have hgx:x[i]? =some e:=by
   rw [hx,vAp (by omega),hpl,vBK,vAE];exact hg
  have he:e∈nest.drop s:=vAH.2 ⟨i-s,by rw [vAE,show s+(i-s)=i by omega];exact hg⟩;refine aA (aN hgx) (aA (aAI (by omega) (h2 _ he) hF) (aA (dE (by omega) _) ?_));rw [aS (by omega)];refine hr _ ⟨i+1,by dsimp only;omega,by omega,by omega,?_⟩ (by dsimp only;omega);dsimp only;rw [hx,P0,List.set_append_right _ _ (by omega),hpl,vBK,mM hg,List.set_cons_zero,show i+1-s=(i-s)+1 by omega,yV,vAE,show s+(i-s)=i by omega,hg];simp
 have:i=nest.length:=by omega
 subst this;rw [hx,vBb (l:=nest.drop s) (by rw [vAT];omega),vBn,vBj];exact key _
theorem aCc{n:Nat}(hn:5000≤n){l:List Affine}(h1:l.length≤2)(h2: ∀x∈l,bX x=true){way v:Int}{b:Affine}{f:Affine→Affine}(hF: ∀x,bX x=true→gW n x way v b=some (f x)):qW n l way v b=some (l.map f):=by unfold qW;exact Ev.eq (sL (K:=fun x1=>some x1) (fun x hx=>hF x (h2 x hx)) (by omega) hn (Ev.some rfl))
theorem aHV{n:Nat}(hn:5000≤n){l:Loop}(hl:V2 l){way v:Int}{b:Affine}{f:Affine→Affine}(hF: ∀x,bX x=true→gW n x way v b=some (f x)):uC n l way v b=some (eS f l):=by unfold uC;rw [aCc hn hl.1.1 hl.1.2 hF,aCc hn hl.2.1 hl.2.2 hF];rfl
theorem L3{n:Nat}(hn:5000≤n){a:Access}{d:Int}(ha:gS a d=true){way v:Int}{b:Affine}{f:Affine→Affine}(hF: ∀x,bX x=true→gW n x way v b=some (f x)):lD n a way v b=some (lM f a):=by have:=xB ha;unfold lD;rw [aCc hn this.2.1 this.2.2 hF];rfl
theorem aBw{d way v:Int}{b:Affine}{f:Affine→Affine}(hF: ∀n,5000≤n→ ∀x,bX x=true→gW n x way v b=some (f x)): ∀(L n:Nat) (e:Expr),5000+L≤n→dW L e d=true→s_l8Expr (n+1) e way v b=some (uS f L e)
 |0,_,_,_,h=>by cases h
 |L+1,n,e,hn,h=>by
  obtain⟨hk,ho,hs⟩:=jL h;obtain⟨n,rfl⟩: ∃j,n=j+1:=⟨n-1,by omega⟩
  have hkl:e.kids.length≤2:=by have:=mK e.kind;omega
  unfold s_l8Expr;refine Ev.eq (Ev.jn (fun z=>(⟨z.1,z.2⟩:Affine)=(if e.kind=2 then f e.index else⟨[],0⟩)) (fun j hj=>?_) fun z hz=>Ev.jn (fun y=>(⟨y.1,y.2⟩:Access)=(if e.kind=3 then lM f e.read else⟨[],[]⟩)) (fun j hj=>?_) fun y hy=>?_)
  ·exact aH (fun h2=>aA (hF _ (by omega) _ (H2 ho h2).1) (hj _ (by rw [if_pos h2]))) fun h2=>hj _ (by rw [if_neg h2])
  ·exact aH (fun h3=>aA (L3 (by omega) (H1 ho h3).1 (hF _ (by omega))) (hj _ (by rw [if_pos h3]))) fun h3=>hj _ (by rw [if_neg h3])
  obtain⟨x3,x4⟩:=z;obtain⟨x7,x8⟩:=y;dsimp only at hz hy⊢;refine sL (K:=fun x9=>some (⟨e.kind,e.num,(⟨x3,x4⟩:Affine),(⟨x7,x8⟩:Access),x9⟩:Expr)) (fun x hx=>aBw hF L n x (by omega) (hs x hx)) (by omega) (by omega) (Ev.some ?_);rw [hz,hy];rfl
theorem aHX{n:Nat}(hn:6000≤n){l:List Stmt}{d:Int}(h1:l.length≤4)(h2: ∀s∈l,fN s d=true){way v:Int}{b:Affine}{f:Affine→Affine}(hF: ∀n,5000≤n→ ∀x,bX x=true→gW n x way v b=some (f x)):zK n l way v b=some (l.map (qI f)):=by
 obtain⟨n,rfl⟩: ∃j,n=j+1:=⟨n-1,by omega⟩
 unfold zK;refine Ev.eq ?_;refine uR (β:=Stmt) (l:=l) (n:=n+1) (F:=fun x5 k=>Option.bind (lD (n+1) x5.write way v b) fun x6=>Option.bind (s_l8Expr (n+1) x5.value way v b) fun x7=>k (⟨x6,x7⟩:Stmt)) (g:=qI f) (s:=0) (pre:=[]) (K:=fun x1=>some x1) (fun x hx k hk=>?_) (by omega) (by simp) (by omega) (by omega) (Ev.some (by simp));obtain⟨h1,h2,_⟩:=oD (h2 x hx);exact aA (L3 (by omega) h1 (hF _ (by omega))) (aA (aBw hF 5 n x.value (by omega) h2) hk)
theorem aFB{n:Nat}(hn:6000≤n){x:Part}{s:Nat}(hs:s+1≤x.nest.length)(h1:x.nest.length≤4)(h2: ∀l∈x.nest,V2 l){d:Int}(h3:x.body.length≤4)(h4: ∀s∈x.body,fN s d=true){way v:Int}{b:Affine}{f:Affine→Affine}(hF: ∀n,5000≤n→ ∀x,bX x=true→gW n x way v b=some (f x)):
  vR n x (s:Int) way v b=some ⟨x.nest.take (s+1)++(x.nest.drop (s+1)).map (eS f),x.body.map (qI f)⟩:=by unfold vR;rw [aS (by omega)];refine Ev.eq (aA (S1 (by omega) (by omega) (by omega)) ?_);rw [show((s:Int)+1).toNat=s+1 by omega,show(0:Int).toNat=0 from rfl,List.drop_zero];refine aA (x:=x.nest.take (s+1)) (bT (by simp;omega)) (aA (aHX hn h3 h4 hF) ?_);exact uR (F:=fun x8 k=>Option.bind (uC n x8 way v b) k) (g:=eS f) (s:=s+1) (pre:=x.nest.take (s+1)) (K:=fun x4=>some (⟨x4,x.body.map (qI f)⟩:Part)) (fun l hl k hk=>aA (aHV (by omega) (h2 l hl) (hF _ (by omega))) hk) (by omega) (by simp;omega) (by omega) (by omega) (Ev.some rfl)
theorem aBo(n:Nat){a:Affine}(h:BA 1000 a):gY n a=some a:=by unfold gY;rw [eD _ h];rfl
theorem xM{n:Nat}(hn:5000≤n){l:List Affine}(h:BAs 1000 l):dT n l=some l:=by unfold dT;exact Ev.eq (mN (K:=fun x1=>some x1) (fun x hx=>aBo n (h.2 x hx)) h.1 hn (Ev.some rfl))
theorem aBp{n:Nat}(hn:5000≤n){a:Access}(h:BAs 1000 a.subs):gZ n a=some a:=by unfold gZ;rw [xM hn h];rfl
theorem U3: ∀(L n:Nat) (e:Expr),5000+L≤n→BE 1000 L e→s_l16OwnExpr (n+1) e=some e
 |0,_,_,_,h=>h.elim
 |L+1,n,e,hn,h=>by
  obtain⟨h1,h2,h3,h4⟩:=h;obtain⟨n,rfl⟩: ∃j,n=j+1:=⟨n-1,by omega⟩
  unfold s_l16OwnExpr lI;rw [aBo _ h2,aBp (by omega) h3];refine Ev.eq (aA rfl (aA rfl (aA (x:=e.kids) ?_ (Ev.some (by cases e;rfl)))));exact Ev.eq (mN (f:=s_l16OwnExpr (n+1)) (K:=fun x1=>some x1) (fun x hx=>U3 L n x (by omega) (h4 x hx)) h1 (by omega) (Ev.some rfl))
theorem aFv{n:Nat}(hn:6000≤n){s:Stmt}(h:BS 1000 s):m5 n s=some s:=by
 obtain⟨n,rfl⟩: ∃j,n=j+1:=⟨n-1,by omega⟩
 unfold m5;rw [aBp (by omega) h.1,U3 5 n s.value (by omega) h.2];rfl
theorem aFw{n:Nat}(hn:6000≤n){x:Part}(h:BPt 1000 x):m7 n x=some x:=by
 obtain⟨⟨h1,h2⟩,h3,h4⟩:=h;have e1:iP n x.nest=some x.nest:=by
  unfold iP;refine Ev.eq (mN (K:=fun x1=>some x1) (fun l hl=>?_) h1 (by omega) (Ev.some rfl));unfold sG;rw [xM (by omega) (h2 l hl).1,xM (by omega) (h2 l hl).2];rfl
 have e2:iN n x.body=some x.body:=by
  unfold iN;exact Ev.eq (mN (K:=fun x1=>some x1) (fun l hl=>aFv hn (h4 l hl)) h3 (by omega) (Ev.some rfl))
 unfold m7;rw [e1,e2];rfl
theorem xL{n:Nat}(hn:6000≤n){p:Prog}(h:BG 1000 p):jM n p=some p:=by
 obtain⟨⟨h1,h2⟩,h3,h4⟩:=h;have e1:gP n p.arrays=some p.arrays:=by
  unfold gP;refine Ev.eq (mN (K:=fun x1=>some x1) (fun l hl=>?_) h1 (by omega) (Ev.some rfl));unfold qF;rw [eD _ (h2 l hl)];rfl
 have e2:iO n p.parts=some p.parts:=by
  unfold iO;exact Ev.eq (mN (K:=fun x1=>some x1) (fun l hl=>aFw hn (h4 l hl)) h3 (by omega) (Ev.some rfl))
 unfold jM;rw [e1,e2];rfl
theorem qV{α:Type}{f:α→α→Option Bool}{l:List α}(hf: ∀x∈l,f x x=some true){n:Nat}(hn:l.length<n)(hl:l.length≤1000000):
  (bif !decide ((l.length:Int)=(l.length:Int)) then(some false) else(aM (fun again2 (x1:Int)=>bif decide (x1<(l.length:Int)) then(Option.bind (ix l x1) fun x3=>Option.bind (ix l x1) fun x4=>Option.bind (f x3 x4) fun x5=>bif !x5 then(some false) else(again2 (wr (x1+1)))) else(some true)) n 0))=some true:=by
 refine Ev.eq (dQ (fun h=>(h rfl).elim) fun _=>?_);refine Ev.loop (fun x:Int=> ∃i:Nat,x=i∧i≤l.length) (fun x=>l.length-x.toNat) ?_ n 0 ⟨0,rfl,by omega⟩ (by omega);rintro again x ⟨i,rfl,hi⟩ hr;refine aH (fun hlt=>?_) fun _=>Ev.some rfl;obtain⟨e,hg⟩: ∃e,l[i]? =some e:=⟨_,cO (show i<l.length by omega)⟩
 refine aA (aN hg) (aA (aN hg) (aA (hf e (cP hg)) (cE ?_)));rw [aS (by omega)];exact hr _ ⟨i+1,by omega,by omega⟩ (by omega)
theorem aA8{a:List Int}{n:Nat}(hn:a.length<n)(hl:a.length≤1000000):mJ n a a=some true:=by
 unfold mJ;refine Ev.eq (dQ (fun h=>(h rfl).elim) fun _=>?_);refine Ev.loop (fun x:Int=> ∃i:Nat,x=i∧i≤a.length) (fun x=>a.length-x.toNat) ?_ n 0 ⟨0,rfl,by omega⟩ (by omega);rintro again x ⟨i,rfl,hi⟩ hr;refine aH (fun hlt=>?_) fun _=>Ev.some rfl;obtain⟨e,hg⟩: ∃e,a[i]? =some e:=⟨_,cO (show i<a.length by omega)⟩
 refine aA (aN hg) (aA (aN hg) (dQ (fun h=>(h rfl).elim) fun _=>?_));rw [aS (by omega)];exact hr _ ⟨i+1,by omega,by omega⟩ (by omega)
theorem aHw{n:Nat}(hn:5000≤n){a:Affine}(h:BA 1000 a):cT n a a=some true:=by unfold BA at h;unfold cT;refine Ev.eq (Ev.jn (fun z=>z=true) (fun j hj=>aA (aA8 (by omega) (by omega)) (cD (hj _ (decide_eq_true rfl)))) fun z hz=>Ev.some hz)
theorem aAv{n:Nat}(hn:5000≤n){l:List Affine}(h:BAs 1000 l):dV n l l (fun q0 q1=>cT n q0 q1)=some true:=by have:=h.1;unfold dV;exact qV (fun x hx=>aHw hn (h.2 x hx)) (by omega) (by omega)
theorem aHx{n:Nat}(hn:5000≤n){a:Access}(h:BAs 1000 a.subs):kQ n a a=some true:=by unfold kQ;refine Ev.eq (Ev.jn (fun z=>z=true) (fun j hj=>?_) fun z hz=>Ev.some hz);exact aH (fun _=>aA (aAv hn h) (hj _ rfl)) fun h=>(h rfl).elim
theorem aD8: ∀(L n:Nat) (e:Expr),5000+L≤n→BE 1000 L e→i_exprSame (n+1) e e=some true
 |0,_,_,_,h=>h.elim
 |L+1,n,e,hn,h=>by
  obtain⟨h1,h2,h3,h4⟩:=h;obtain⟨n,rfl⟩: ∃j,n=j+1:=⟨n-1,by omega⟩
  unfold i_exprSame;refine Ev.eq (Ev.jn (fun z=>z=true) (fun j hj=>?_) fun z hz=>Ev.some hz);refine aH (fun _=>aH (fun _=>aA (aHw (by omega) h2) (cD (aA (aHx (by omega) h3) (cD (aA (x:=true) ?_ (hj _ rfl)))))) fun h=>(h rfl).elim) fun h=>(h rfl).elim;unfold lT;exact qV (fun x hx=>aD8 L n x (by omega) (h4 x hx)) (by omega) (by omega)
theorem aI4{n:Nat}(hn:6000≤n){s:Stmt}(h:BS 1000 s):o0 n s s=some true:=by
 obtain⟨n,rfl⟩: ∃j,n=j+1:=⟨n-1,by omega⟩
 unfold o0;refine Ev.eq (Ev.jn (fun z=>z=true) (fun j hj=>?_) fun z hz=>Ev.some hz);exact aA (aHx (by omega) h.1) (cD (aA (aD8 5 n s.value (by omega) h.2) (hj _ rfl)))
theorem aJq{n:Nat}(hn:5000≤n){nest:List Loop}(h:BN 1000 nest):sU n nest nest=some true:=by
 have:=h.1;unfold sU lR;rw [qV (fun l hl=>?_) (by omega) (by omega)]
 ·rfl
 unfold nE;refine Ev.eq (Ev.jn (fun z=>z=true) (fun j hj=>?_) fun z hz=>Ev.some hz);exact aA (aAv hn (h.2 l hl).1) (cD (aA (aAv hn (h.2 l hl).2) (hj _ rfl)))
theorem aJm{n:Nat}(hn:6000≤n){x:Part}(h:BPt 1000 x):gF n x x=some true:=by have:=h.2.1;unfold gF;refine Ev.eq (Ev.jn (fun z=>z=true) (fun j hj=>?_) fun z hz=>Ev.some hz);refine aA (aJq (by omega) h.1) (cD (aA (x:=true) ?_ (hj _ rfl)));unfold lP;exact qV (fun s hs=>aI4 hn (h.2.2 s hs)) (by omega) (by omega)
theorem aDL{n:Nat}(hn:6000≤n){p:Prog}(h:BG 1000 p):gM n p p=some true:=by
 obtain⟨⟨h1,h2⟩,h3,h4⟩:=h;unfold gM;refine Ev.eq (Ev.jn (fun z=>z=true) (fun j hj=>?_) fun z hz=>Ev.some hz);refine aA (x:=true) ?_ (cD (aA (x:=true) ?_ (hj _ rfl)))
 ·unfold kO;refine qV (fun x hx=>?_) (by omega) (by omega);unfold gG;refine Ev.eq (Ev.jn (fun z=>z=true) (fun j hj=>?_) fun z hz=>Ev.some hz)
  have:=h2 x hx;exact aH (fun _=>aA (aA8 (by omega) (by omega)) (hj _ rfl)) fun h=>(h rfl).elim
 unfold lQ;exact qV (fun x hx=>aJm hn (h4 x hx)) (by omega) (by omega)
def gT(p:Prog)(part loop:Int):Bool:=cF p&&match ix p.parts part with
 |some x=>decide (0≤loop∧loop<(x.nest.length:Int))
 |none=>false
theorem aJC{α:Type}{l:List α}{i:Int}(h: ¬(0≤i∧i<(l.length:Int))):ix l i=none:=by
 cases hx:ix l i with
 |none=>rfl
 |some x=>
  obtain⟨h1,h2⟩:=l9 hx
  have:=(cS.1 h2).1;exact absurd ⟨h1,by omega⟩ h
theorem aNp{α:Type}{l:List α}{i:Int}{x:α}(h:ix l i=some x): ∃k:Nat,i=k∧k<l.length∧l[k]? =some x:=by obtain⟨h1,h2⟩:=l9 h;exact⟨i.toNat,by omega,(cS.1 h2).1,h2⟩
theorem wD(n:Nat){p:Prog}(h:p.parts.length≤1000)(part:Int):dB n p part=some (decide (0≤part∧part<(p.parts.length:Int))):=by unfold dB;rw [eX,aS (by omega)];exact congrArg some (decide_eq_decide.2 (by omega))
theorem aKC{n:Nat}(hn:7000≤n){p:Prog}(hp:BG 1000 p)(part loop:Int)(hl:loop≠ -1):sQ n p part loop=some (if gT p part loop=true then(p,true) else(⟨[],[]⟩,false)):=by
 unfold sQ;refine Ev.eq (Ev.jn (fun z=>z= !gT p part loop) (fun j hj=>?_) fun z hz=>?_)
 ·refine aA (kT hn hp.sm) (Ev.cond (fun h=>?_) fun h=>?_)
  ·refine hj _ ?_;unfold gT;rw [show cF p=false by simpa using h];rfl
  have hv:cF p=true:=by simpa using h
  refine aA (wD n hp.2.1 part) ?_;by_cases hi:0≤part∧part<(p.parts.length:Int)
  ·obtain⟨x,hx,hx2⟩:=jH hi.1 hi.2;rw [decide_eq_true hi];refine cE (dQ (fun _=>aA (x:=gT p part loop) ?_ (hj _ rfl)) fun h=>absurd h hl);unfold lV;refine Ev.eq (Ev.jn (fun z=>z=gT p part loop) (fun j hj=>?_) fun z hz=>Ev.some hz);rw [wD n hp.2.1 part,decide_eq_true hi];refine aA rfl (cD (aA hx ?_))
   have:=(hp.2.2 x (cP hx2)).1.1;rw [aS (by omega),eX];refine aA rfl (hj _ ?_);unfold gT;rw [hv,hx];exact decide_eq_decide.2 (by omega)
  rw [decide_eq_false hi];refine cD (hj _ ?_);unfold gT;rw [aJC hi,vBq];rfl
 subst hz;by_cases hc:gT p part loop=true
 ·rw [hc];have hv:cF p=true:=by unfold gT at hc;rw [vBI] at hc;exact hc.1
  obtain⟨x,hx⟩: ∃x,ix p.parts part=some x:=by
   cases hx:ix p.parts part with
   |some x=>exact⟨x,rfl⟩
   |none=>unfold gT at hc;rw [hx,vBq] at hc;cases hc
  exact cE (aA (aFn (by omega) hv) (aA hx (Ev.some rfl)))
 rw [show gT p part loop=false by simpa using hc];exact cD (Ev.some rfl)
def aAN(q:Prog):Prog×Bool:=if cF q=true then(q,true) else(⟨[],[]⟩,false)
theorem aD7{n:Nat}(hn:7000≤n){p:Prog}(hp:BG 1000 p):sP n p=some (aAN p):=by
 unfold sP aAN;refine Ev.eq (aA (kT hn hp.sm) (Ev.cond (fun h=>Ev.some ?_) fun h=>?_))
 ·rw [if_neg (by simpa using h)]
 have hv:cF p=true:=by simpa using h
 rw [if_pos hv];exact aA (aFn (by omega) hv) (Ev.some rfl)
theorem X3{n:Nat}(hn:7000≤n){p:Prog}(hp:BG 1000 p)(part loop:Int):zH n p part loop=some (gT p part loop):=by
 unfold zH;refine Ev.eq (Ev.jn (fun z=>z=gT p part loop) (fun j hj=>?_) fun z hz=>Ev.some hz);refine aA (kH hn hp.sm) (Ev.cond (fun hv=>?_) fun hv=>hj _ (by unfold gT;rw [hv];rfl));refine aH (fun h1=>aH (fun h2=>?_) fun h2=>?_) fun h1=>?_
 ·obtain⟨x,hx,hx2⟩:=jH h1 h2;refine aH (fun h3=>aA hx (hj _ ?_)) fun h3=>hj _ ?_
  ·unfold gT;rw [hv,hx];exact decide_eq_decide.2 (by omega)
  unfold gT;rw [hv,hx];exact(decide_eq_false (by omega)).symm
 ·exact hj _ (by unfold gT;rw [aJC (by omega),vBq])
 exact hj _ (by unfold gT;rw [aJC (by omega),vBq])
theorem aKZ{n:Nat}(hn:7000≤n){p:Prog}(hp:BG 1000 p){i:Nat}(hi:i<p.parts.length){y:Part}(hy:BPt 1000 y):zF n p (i:Int) 1 [y]=some (aAN ⟨p.arrays,p.parts.set i y⟩):=by
 have hpl:=hp.2.1;have hq:BG 1000 ⟨p.arrays,p.parts.set i y⟩:=⟨hp.1,by dsimp only;rw [vAL];exact hpl,vQ hp.2.2 hy⟩
 unfold zF aAN;refine Ev.eq (aA (u4 (by omega) hp) (aA (S1 (by omega) (by omega) (by omega)) ?_));rw [P0,show(0:Int).toNat=0 from rfl,List.drop_zero];refine aA (x:=p.parts.take i) (bT (by simp;omega)) (aA (x:=p.parts.take i++[y]) (bT (by simp;omega)) ?_);rw [aS (by omega)];refine aA (S1 (by omega) (by omega) (by omega)) ?_;rw [P0,qS,show((i:Int)+1).toNat=i+1 by omega];refine aA (x:=p.parts.set i y) ?_ (aA (kH hn hq.sm) (Ev.cond (fun h=>Ev.some ?_) fun h=>?_))
 ·rw [bT (by simp;omega),List.set_eq_take_append_cons_drop,if_pos hi,vAR];rfl
 ·rw [if_neg (by simpa using h)]
 rw [if_pos (by simpa using h)];exact aA (u4 (by omega) hq) (Ev.some rfl)
def bB(m:Int)(a:Affine):Prop:=a.coefs.length=4∧w3 m a.const∧ ∀c∈a.coefs,w3 m c
theorem bB.mono{m m':Int}{a:Affine}(h:bB m a)(hm:m≤m'):bB m' a:=⟨h.1,⟨by have:=h.2.1.1;omega,by have:=h.2.1.2;omega⟩,fun c hc=>⟨by have:=(h.2.2 c hc).1;omega,by have:=(h.2.2 c hc).2;omega⟩⟩
theorem aOV{l:List Int}(h:l.length=4): ∃a b c d,l=[a,b,c,d]:=by
 match l,h with
 | [a,b,c,d],_=>exact⟨a,b,c,d,rfl⟩
def noP:Prog×Bool:=(⟨[],[]⟩,false)
theorem I7{p:Prog}{part loop:Int}(h:gT p part loop=true):cF p=true∧ ∃(i k:Nat) (P:Part) (l:Loop),part=i∧loop=k∧p.parts[i]? =some P∧P.nest[k]? =some l∧i<p.parts.length∧k<P.nest.length∧cW p.arrays P=true∧k<4:=by
 unfold gT at h;rw [vBI] at h;obtain⟨hv,h⟩:=h;refine⟨hv,?_⟩;cases hx:ix p.parts part with
 |none=>rw [hx] at h;cases h
 |some P=>
  rw [hx] at h;obtain⟨i,rfl,hi,hP⟩:=aNp hx;obtain⟨h1,h2⟩:=of_decide_eq_true h;obtain⟨l,hl,hl2⟩:=jH h1 h2;have hok:=(iZ hv).2.2.2.1 P (cP hP)
  have:=(pO hok).1;exact⟨i,loop.toNat,P,l,rfl,by omega,hP,hl2,hi,by omega,hok,by omega⟩
theorem aKB{p:Prog}(hp:BG 1000 p)(i:Nat){y:Part}(hy:BPt 4 y):BG 1000 ⟨p.arrays,p.parts.set i y⟩:=⟨hp.1,by dsimp only;rw [vAL];exact hp.2.1,vQ hp.2.2 (hy.mono (by omega))⟩
theorem aD1{p:Prog}{part loop:Int}(h:loop<0):gT p part loop=false:=by
 cases hc:gT p part loop with
 |false=>rfl
 |true=>obtain⟨_,i,k,P,l,_,hk,_⟩:=I7 hc;omega
theorem aIk{n:Nat}(hn:7000≤n){p:Prog}(hp:BG 1000 p)(part:Int):Ev (sQ n p part (-1)) (fun r=>r.2=false→r=noP):=by
 unfold sQ;refine Ev.jn (fun z=>z=false→cF p=true∧(0≤part∧part<(p.parts.length:Int))) (fun j hj=>?_) fun z hz=>?_
 ·refine aA (kT hn hp.sm) (Ev.cond (fun h=>hj _ fun h=>by cases h) fun h=>?_);refine aA (wD n hp.2.1 part) (Ev.cond (fun h=>hj _ fun h=>by cases h) fun h2=>dQ (fun h=>(h rfl).elim) fun _=>hj _ fun _=>⟨by simpa using h,by simpa using h2⟩)
 refine Ev.cond (fun _=>Ev.some fun _=>rfl) fun h=>?_;obtain⟨hv,h1,h2⟩:=hz h;obtain⟨x,hx,hx2⟩:=jH h1 h2;exact aA (aFn (by omega) hv) (aA hx (Ev.some fun h=>by cases h))
theorem aI7{α:Type}{l:List α}{i:Nat}{x:α}(h:l[i]? =some x):l.set i x=l:=by
 refine List.ext_getElem? fun j=>?_;by_cases hj:i=j
 ·subst hj;rw [vAA (cS.1 h).1,h]
 rw [vAG hj]
theorem aCj:BG 1000 noP.1:=⟨⟨by simp [noP],fun x hx=>by cases hx⟩,by simp [noP],fun x hx=>by cases hx⟩
def kA(k:Nat)(s:Int):Affine:=⟨[0,0,0,0].set k s,0⟩
def low(k:Nat)(b:Affine):Prop:= ∀j,k≤j→b.coefs.getD j 0=0
theorem aKz{p:Prog}(hv:cF p=true){x:Inst}(hx:fI p x): ∀{Y:List Inst} {m:List Int},(∀y∈Y,fI p y)→(∀y∈Y,com p x y)→aAw p.arrays m→mT p (uM p m x) Y=uM p (mT p m Y) x
 | [],m,_,_,_=>rfl
 |y::Y,m,h1,h2,hm=>by show mT p (uM p (uM p m x) y) Y=uM p (mT p (uM p m y) Y) x;rw [h2 y yZ m hm];exact aKz hv hx (fun z hz=>h1 z (tZ _ hz)) (fun z hz=>h2 z (tZ _ hz)) (aGX hv hm (h1 y yZ))
theorem block{p:Prog}(hv:cF p=true): ∀{X Y:List Inst} {m:List Int},(∀x∈X,fI p x)→(∀y∈Y,fI p y)→(∀x∈X,∀y∈Y,com p x y)→aAw p.arrays m→mT p (mT p m X) Y=mT p (mT p m Y) X
 | [],Y,m,_,_,_,_=>rfl
 |x::X,Y,m,h1,h2,h3,hm=>by show mT p (mT p (uM p m x) X) Y=mT p (uM p (mT p m Y) x) X;rw [block hv (fun z hz=>h1 z (tZ _ hz)) h2 (fun z hz=>h3 z (tZ _ hz)) (aGX hv hm (h1 x yZ)),aKz hv (h1 x yZ) h2 (h3 x yZ) hm]
def V3:List Int→List Int→Bool
 |a::as,b::bs=>if a=b then V3 as bs else decide (a<b)
 | [],_::_=>true
 |_,[]=>false
theorem aJd{n:Nat}{p q:List Int}(hn:p.length<n)(hp:p.length≤1000)(hq:q.length≤1000):vW n p q=some (V3 p q):=by
 unfold vW;refine Ev.eq (Ev.loop (fun x:Int=> ∃i:Nat,x=i∧i≤p.length∧i≤q.length∧V3 (p.drop i) (q.drop i)=V3 p q) (fun x=>p.length-x.toNat) ?_ n 0 ⟨0,rfl,by omega,by omega,rfl⟩ (by omega));rintro again x ⟨i,rfl,h1,h2,hs⟩ hr;refine Ev.jn (fun z=>z=decide (i<p.length∧i<q.length)) (fun j hj=>aH (fun h=>hj _ ?_) fun h=>hj _ ?_) fun z hz=>?_
 ·rw [Bool.eq_iff_iff];simp only [decide_eq_true_eq];omega
 ·exact(decide_eq_false (by omega)).symm
 subst hz;refine aH (fun h=>?_) fun h=>Ev.some ?_
 ·have ha1:=cO h.1;have hb1:=cO h.2;rw [vBf h.1,vBf h.2] at hs;simp only [V3] at hs;refine aA (aN ha1) (aA (aN hb1) (dQ (fun hne=>Ev.some ?_) fun he=>?_))
  ·rw [if_neg hne] at hs;exact hs
  rw [if_pos he] at hs;rw [aS (by omega)];exact hr _ ⟨i+1,by omega,by omega,by omega,hs⟩ (by omega)
 rw [←hs];by_cases e:i<p.length
 ·have e2:q.drop i=[]:=List.drop_eq_nil_of_le (by omega);rw [e2,vBf e];simp only [V3];exact decide_eq_false (by omega)
 have e1:p.drop i=[]:=List.drop_eq_nil_of_le (by omega);rw [e1];by_cases e3:i<q.length
 ·rw [vBf e3];simp only [V3];exact decide_eq_true (by omega)
 rw [List.drop_eq_nil_of_le (show q.length≤i by omega)];simp only [V3];exact decide_eq_false (by omega)
end Go.Lift
