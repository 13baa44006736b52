/- Two programs that do the same. -/
import Derived.Test.YtiplelpjhgnmoaaGreatMRun1
import Derived.Test.YtiplelpjhgnmoaaGreatMDraw1
import Derived.Test.YtiplelpjhgnmoaaGreatMDrawD
import Derived.Test.YtiplelpjhgnmoaaGreatMLiftLib
set_option maxRecDepth 100000
set_option linter.unusedVariables false
namespace Go.Lift
open Go
theorem L9{α β R:Type}{l:List α}{F:α→(β→Option R)→Option R}{g:α→β}{K:List β→Option R}{Q:R→Prop}{n:Nat}(hF: ∀x∈l,∀k:β→Option R,Ev (k (g x)) Q→Ev (F x k) Q)
  {s:Nat} (hs:s≤l.length) {pre:List β} (hp:pre.length≤1000) (hl:l.length≤1000) (hn:5000≤n) (hK:Ev (K (pre++(l.drop s).map g)) Q):
  Ev (aN (fun again ((x,i):List β×Int)=>bif decide (i<(l.length:Int)) then(Option.bind (ix l i) fun y=>F y (fun z=>Option.bind (app x [z]) fun w=>again (w,wr (i+1)))) else K x) n (pre,(s:Int))) Q:=by
 refine Ev.loop (fun z:List β×Int=> ∃i:Nat,z.2=i∧s≤i∧i≤l.length∧z.1=pre++((l.drop s).take (i-s)).map g) (fun z=>l.length-z.2.toNat) ?_ n _ ⟨s,rfl,by omega,by omega,by simp⟩ (by dsimp only;omega)
 rintro again ⟨x,z⟩ ⟨i,hz,hsi,hi,hx⟩ hr
 dsimp only at hz hx⊢
 subst hz
 refine aG (fun hlt=> ?_) (fun hge=> ?_)
 ·have hg:=List.getElem?_eq_getElem (show i<l.length by omega)
  have hxl:x.length≤2000:=by rw [hx,List.length_append,List.length_map,List.length_take,List.length_drop];omega
  refine aB (aQ hg) (hF _ (List.mem_of_getElem? hg) _ (aB (bT (by simp;omega)) ?_))
  rw [aM (by omega)]
  refine hr _ ⟨i+1,by dsimp only;omega,by omega,by omega,?_⟩ (by dsimp only;omega)
  dsimp only
  rw [show i+1-s=(i-s)+1 by omega,List.take_add_one,List.getElem?_drop,show s+(i-s)=i by omega,hg,hx,List.map_append,List.append_assoc];rfl
 ·have:i=l.length:=by omega
  subst this
  rw [hx,List.take_of_length_le (by rw [List.length_drop];omega)];exact hK
theorem xL{α β R:Type}{l:List α}{f:α→Option β}{g:α→β}{K:List β→Option R}{Q:R→Prop}{n:Nat}(hf: ∀x∈l,f x=some (g x))(hl:l.length≤1000)(hn:5000≤n)(hK:Ev (K (l.map g)) Q):
  Ev (aN (fun again ((x,i):List β×Int)=>bif decide (i<(l.length:Int)) then(Option.bind (ix l i) fun y=>Option.bind (f y) fun z=>Option.bind (app x [z]) fun w=>again (w,wr (i+1))) else K x) n ([],0)) Q:=
 L9 (F:=fun y k=>Option.bind (f y) k) (g:=g) (s:=0) (pre:=[]) (fun x hx k hk=>aB (hf x hx) hk) (by omega) (by simp) hl hn (by simpa using hK)
theorem aAv{α R:Type}{l:List α}{F:α→(α→Option R)→Option R}{W:List α→Option R→Option R}{m:List α→Int}{g:α→α}{K:List α→Option R}{Q:R→Prop}{n:Nat}
  (hW: ∀y o,y.length=l.length→Ev o Q→Ev (W y o) Q) (hm: ∀y:List α,y.length=l.length→m y=(l.length:Int))
  {s:Nat} (hs:s≤l.length) (hF: ∀x∈l,∀k:α→Option R,Ev (k (g x)) Q→Ev (F x k) Q) (hl:l.length≤1000) (hn:5000≤n) (hK:Ev (K (l.take s++(l.drop s).map g)) Q):
  Ev (aN (fun again ((y,i):List α×Int)=>W y (bif decide (i<m y) then(Option.bind (ix y i) fun x=>F x (fun z=>Option.bind (dB y i z) fun w=>again (w,wr (i+1)))) else K y)) n (l,(s:Int))) Q:=by
 refine Ev.loop (fun z:List α×Int=> ∃i:Nat,z.2=i∧s≤i∧i≤l.length∧z.1=l.take s++((l.drop s).take (i-s)).map g++l.drop i) (fun z=>l.length-z.2.toNat) ?_ n _ ⟨s,rfl,by omega,by omega,by simp⟩ (by dsimp only;omega)
 rintro again ⟨x,z⟩ ⟨i,hz,hsi,hi,hx⟩ hr
 dsimp only at hz hx⊢
 subst hz
 have hpl:(l.take s++((l.drop s).take (i-s)).map g).length=i:=by rw [List.length_append,List.length_map,List.length_take,List.length_take,List.length_drop];omega
 have hxl:x.length=l.length:=by rw [hx,List.length_append,hpl,List.length_drop];omega
 refine hW _ _ hxl ?_
 rw [hm _ hxl]
 refine aG (fun hlt=> ?_) (fun hge=> ?_)
 ·obtain⟨e,hg⟩: ∃e,l[i]? =some e:=⟨_,List.getElem?_eq_getElem (show i<l.length by omega)⟩
  have hgx:x[i]? =some e:=by
   rw [hx,List.getElem?_append_right (by omega),hpl,Nat.sub_self,List.getElem?_drop];exact hg
  refine aB (aQ hgx) (hF _ (List.mem_of_getElem? hg) _ (aB (dJ (by omega) _) ?_))
  rw [aM (by omega)]
  refine hr _ ⟨i+1,by dsimp only;omega,by omega,by omega,?_⟩ (by dsimp only;omega)
  dsimp only
  rw [hx,Int.toNat_natCast,List.set_append_right _ _ (by omega),hpl,Nat.sub_self,gI hg,List.set_cons_zero,show i+1-s=(i-s)+1 by omega,List.take_add_one,List.getElem?_drop,show s+(i-s)=i by omega,hg]
  simp
 ·have:i=l.length:=by omega
  subst this
  rw [hx,List.take_of_length_le (l:=l.drop s) (by rw [List.length_drop];omega),List.drop_length,List.append_nil];exact hK
def eM(f:Affine→Affine)(a:Access):Access:=⟨a.array,a.subs.map f⟩
def uW(f:Affine→Affine):Nat→Expr→Expr
 |0,e=>e
 |L+1,e=>⟨e.kind,e.num,if e.kind=2 then f e.index else⟨[],0⟩,if e.kind=3 then eM f e.read else⟨[],[]⟩,e.kids.map (uW f L)⟩
def wD(f:Affine→Affine)(s:Stmt):Stmt:=⟨eM f s.write,uW f 5 s.value⟩
def cH(f:Affine→Affine)(l:Loop):Loop:=⟨l.lo.map f,l.hi.map f⟩
theorem zE{e:Expr}{d:Int}(h:fX e d=true)(hk:e.kind=2):bM e.index=true∧mX e.read=true:=by
 unfold fX bY at h
 rw [if_pos hk] at h
 simp only [Bool.and_eq_true] at h
 exact⟨h.2.2.1,h.2.1⟩
theorem zD{e:Expr}{d:Int}(h:fX e d=true)(hk:e.kind=3):gK e.read d=true∧jH e.index=true:=by
 unfold fX at h
 rw [if_neg (by omega),if_pos hk] at h
 simp only [Bool.and_eq_true] at h
 exact⟨h.2.2,h.2.1⟩
theorem aDn{e:Expr}{d:Int}(h:fX e d=true)(h2: ¬e.kind=2)(h3: ¬e.kind=3):jH e.index=true∧mX e.read=true:=by
 unfold fX at h
 rw [if_neg h2,if_neg h3] at h
 split at h<;>simp only [Bool.and_eq_true] at h<;>exact⟨h.2.1,h.2.2⟩
theorem xG{a:Affine}(h:jH a=true):a=⟨[],0⟩:=by
 obtain⟨c,k⟩:=a
 simp only [jH,Bool.and_eq_true,decide_eq_true_eq] at h
 obtain⟨h1,rfl⟩:=h
 rw [List.eq_nil_of_length_eq_zero h1]
theorem xH{a:Access}(h:mX a=true):a=⟨[],[]⟩:=by
 obtain⟨c,k⟩:=a
 simp only [mX,Bool.and_eq_true,decide_eq_true_eq] at h
 obtain⟨rfl,h1⟩:=h
 rw [List.eq_nil_of_length_eq_zero h1]
theorem tO{n:Nat}(hn:5000≤n){a:Access}{d:Int}(ha:gK a d=true){F:Affine→Option Affine}{f:Affine→Affine}(hF: ∀x,bM x=true→F x=some (f x)):eB n a F=some (eM f a):=by
 obtain⟨h1,h2,h3⟩:=sD ha
 refine Ev.eq ?_
 unfold eB
 exact xL (K:=fun x1=>some (⟨a.array,x1⟩:Access)) (fun x hx=>hF x (h3 x hx)) (by omega) hn (Ev.some rfl)
theorem xV{d:Int}{F:Affine→Option Affine}{f:Affine→Affine}(hF: ∀x,bM x=true→F x=some (f x)): ∀(L n:Nat) (e:Expr),5000+L≤n→dI L e d=true→i_exprMap (n+1) e F=some (uW f L e)
 |0,_,_,_,h=>by cases h
 |L+1,n,e,hn,h=>by
  obtain⟨hk,ho,hs⟩:=jJ h
  obtain⟨n,rfl⟩: ∃j,n=j+1:=⟨n-1,by omega⟩
  have hkl:e.kids.length≤2:=by have:=n6 e.kind;omega
  unfold i_exprMap
  refine Ev.eq (Ev.jn (fun z=>(⟨z.1,z.2.1⟩:Affine)=(if e.kind=2 then f e.index else⟨[],0⟩)∧(⟨z.2.2.1,z.2.2.2⟩:Access)=(if e.kind=3 then eM f e.read else⟨[],[]⟩)) (fun j hj=> ?_) (fun z hz=> ?_))
  ·refine aG (fun h2=> ?_) (fun h2=>aG (fun h3=> ?_) (fun h3=> ?_))
   ·exact aB (hF _ (zE ho h2).1) (hj _ ⟨by rw [if_pos h2],by rw [if_neg (by omega)]⟩)
   ·exact aB (tO (by omega) (zD ho h3).1 hF) (hj _ ⟨by rw [if_neg h2],by rw [if_pos h3]⟩)
   ·exact hj _ ⟨by rw [if_neg h2],by rw [if_neg h3]⟩
  ·obtain⟨x4,x5,x6,x7⟩:=z
   obtain⟨z1,z2⟩:=hz
   dsimp only at z1 z2⊢
   refine xL (K:=fun x8=>some (⟨e.kind,e.num,(⟨x4,x5⟩:Affine),(⟨x6,x7⟩:Access),x8⟩:Expr)) (fun x hx=>xV hF L n x (by omega) (hs x hx)) (by omega) (by omega) (Ev.some ?_)
   rw [z1,z2];rfl
theorem xT{n:Nat}(hn:6000≤n){s:Stmt}{d:Int}(hs:fK s d=true){F:Affine→Option Affine}{f:Affine→Affine}(hF: ∀x,bM x=true→F x=some (f x)):eQ n s F=some (wD f s):=by
 obtain⟨h1,h2,_⟩:=gW hs
 obtain⟨n,rfl⟩: ∃j,n=j+1:=⟨n-1,by omega⟩
 unfold eQ
 rw [tO (by omega) h1 hF,xV hF 5 n s.value (by omega) h2];rfl
theorem aAQ{α:Type}{f:α→α}: ∀{l:List α},(∀x∈l,f x=x)→l.map f=l
 | [],_=>rfl
 |x::l,h=>by rw [List.map_cons,h x List.mem_cons_self,aAQ (fun y hy=>h y (List.mem_cons_of_mem _ hy))]
theorem Y1{f:Affine→Affine}{a:Access}{d:Int}(ha:gK a d=true)(hf: ∀x,bM x=true→f x=x):eM f a=a:=by
 obtain⟨h1,h2,h3⟩:=sD ha
 unfold eM
 rw [aAQ (fun x hx=>hf x (h3 x hx))]
theorem aEQ{d:Int}{f:Affine→Affine}(hf: ∀x,bM x=true→f x=x): ∀{L:Nat} {e:Expr},dI L e d=true→uW f L e=e
 |0,_,_=>rfl
 |L+1,e,h=>by
  obtain⟨hk,ho,hs⟩:=jJ h
  obtain⟨kind,num,index,read,kids⟩:=e
  unfold uW
  dsimp only at hk ho hs⊢
  rw [aAQ (fun x hx=>aEQ hf (hs x hx))]
  by_cases h2:kind=2
  ·have e1:=zE ho h2
   dsimp only at e1
   rw [if_pos h2,if_neg (by omega),hf _ e1.1,xH e1.2]
  ·by_cases h3:kind=3
   ·have e1:=zD ho h3
    dsimp only at e1
    rw [if_neg h2,if_pos h3,Y1 e1.1 hf,xG e1.2]
   ·have e1:=aDn ho h2 h3
    dsimp only at e1
    rw [if_neg h2,if_neg h3,xG e1.1,xH e1.2]
theorem aI9{f:Affine→Affine}(hf: ∀x,bM x=true→f x=x){s:Stmt}{d:Int}(hs:fK s d=true):wD f s=s:=by
 obtain⟨h1,h2,_⟩:=gW hs
 unfold wD
 rw [Y1 h1 hf,aEQ hf h2]
def uX(l:Loop):Prop:=(l.lo.length≤2∧ ∀x∈l.lo,bM x=true)∧l.hi.length≤2∧ ∀x∈l.hi,bM x=true
theorem aKM{nest:List Loop}(h:Fit nest): ∀l∈nest,uX l:=fun l hl=>by
 obtain⟨i,hi⟩:=List.mem_iff_getElem?.1 hl
 have:=h.2 i l hi
 exact⟨(o9 this.1).2,(o9 this.2).2⟩
theorem lY{list:List Arr}{x:Part}(h:b7 list x=true):x.nest.length≤4∧ ∀l∈x.nest,uX l:=by
 have:=(aCX (fQ h).1).1
 exact⟨this.1,aKM this⟩
theorem aJV{a:Affine}(h:bM a=true):BA 4 a:=by have:=(dW h).1;unfold BA;omega
theorem aBq{l:List Affine}(h1:l.length≤2)(h2: ∀x∈l,bM x=true):BAs 4 l:=⟨by omega,fun a ha=>aJV (h2 a ha)⟩
theorem aJU{d:Int}: ∀{L:Nat} {e:Expr},dI L e d=true→BE 4 L e
 |0,_,h=>by cases h
 |L+1,e,h=>by
  obtain⟨hk,ho,hs⟩:=jJ h
  have:=n6 e.kind
  refine⟨by omega,?_,?_,fun k hk=>aJU (hs k hk)⟩
  ·by_cases h2:e.kind=2
   ·exact aJV (zE ho h2).1
   ·by_cases h3:e.kind=3
    ·rw [xG (zD ho h3).2];unfold BA;simp
    ·rw [xG (aDn ho h2 h3).1];unfold BA;simp
  ·by_cases h3:e.kind=3
   ·have:=sD (zD ho h3).1
    exact aBq this.2.1 this.2.2
   ·by_cases h2:e.kind=2
    ·rw [xH (zE ho h2).2];exact⟨by simp,fun x hx=>by cases hx⟩
    ·rw [xH (aDn ho h2 h3).2];exact⟨by simp,fun x hx=>by cases hx⟩
theorem aLQ{s:Stmt}{d:Int}(hs:fK s d=true):BS 4 s:=by
 obtain⟨h1,h2,_⟩:=gW hs
 have:=sD h1
 exact⟨aBq this.2.1 this.2.2,aJU h2⟩
theorem aH0{list:List Arr}{x:Part}(h:b7 list x=true):BPt 4 x:=by
 obtain⟨h1,h2⟩:=lY h
 obtain⟨_,h4,h5,_⟩:=fQ h
 exact⟨⟨h1,fun l hl=>⟨aBq (h2 l hl).1.1 (h2 l hl).1.2,aBq (h2 l hl).2.1 (h2 l hl).2.2⟩⟩,h4.2,fun s hs=>aLQ (h5 s hs)⟩
theorem aLR{l:List Arr}(h1:l.length≤4)(h2:jO l):BR 4 l:=⟨h1,fun x hx=>by
 have:=h2 x hx
 simp only [jB,Bool.and_eq_true,decide_eq_true_eq] at this
 omega⟩
theorem H1{B:Nat}{l:List Affine}{f:Affine→Affine}(h:l.length≤B)(hf: ∀x∈l,BA B (f x)):BAs B (l.map f):=⟨by rw [List.length_map];exact h,fun a ha=>by
 obtain⟨x,hx,rfl⟩:=List.mem_map.1 ha
 exact hf x hx⟩
theorem aH4{d:Int}{f:Affine→Affine}(hf: ∀x,bM x=true→BA 4 (f x)): ∀{L:Nat} {e:Expr},dI L e d=true→BE 4 L (uW f L e)
 |0,_,h=>by cases h
 |L+1,e,h=>by
  obtain⟨hk,ho,hs⟩:=jJ h
  have:=n6 e.kind
  unfold uW BE
  refine⟨by dsimp only;rw [List.length_map];omega,?_,?_,fun k hk=> ?_⟩
  ·dsimp only
   by_cases h2:e.kind=2
   ·rw [if_pos h2];exact hf _ (zE ho h2).1
   ·rw [if_neg h2];unfold BA;simp
  ·dsimp only
   by_cases h3:e.kind=3
   ·rw [if_pos h3]
    have:=sD (zD ho h3).1
    exact H1 (by omega) (fun x hx=>hf x (this.2.2 x hx))
   ·rw [if_neg h3];exact⟨by simp,fun x hx=>by cases hx⟩
  ·obtain⟨x,hx,rfl⟩:=List.mem_map.1 hk
   exact aH4 hf (hs x hx)
theorem aHZ{f:Affine→Affine}(hf: ∀x,bM x=true→BA 4 (f x)){s:Stmt}{d:Int}(hs:fK s d=true):BS 4 (wD f s):=by
 obtain⟨h1,h2,_⟩:=gW hs
 have:=sD h1
 exact⟨H1 (by omega) (fun x hx=>hf x (this.2.2 x hx)),aH4 hf h2⟩
theorem aBo{f:Affine→Affine}(hf: ∀x,bM x=true→BA 4 (f x)){l:Loop}(h:uX l):BAs 4 (cH f l).lo∧BAs 4 (cH f l).hi:=
 ⟨H1 (by have:=h.1.1;omega) (fun x hx=>hf x (h.1.2 x hx)),H1 (by have:=h.2.1;omega) (fun x hx=>hf x (h.2.2 x hx))⟩
theorem X0(n:Nat){a:Affine}(h:a.coefs.length≤1000):cL n a=some a:=by
 unfold cL m_ownClone
 rw [if_pos (by omega)];rfl
theorem zF(n:Nat): ∀x,bM x=true→cL n x=some x:=fun x hx=>X0 n (by have:=(dW hx).1;omega)
theorem K8{n:Nat}(hn:5000≤n){l:List Affine}(h1:l.length≤2)(h2: ∀x∈l,bM x=true):eX n l=some l:=by
 unfold eX
 refine Ev.eq (xL (g:=fun x=>x) (K:=fun x1=>some x1) (fun x hx=>zF n x (h2 x hx)) (by omega) hn (Ev.some ?_))
 simp
theorem aDo{n:Nat}(hn:5000≤n){nest:List Loop}(h1:nest.length≤4)(h2: ∀l∈nest,uX l):lN n nest=some nest:=by
 unfold lN
 refine Ev.eq ?_
 refine L9 (β:=Loop) (l:=nest) (n:=n) (F:=fun x5 k=>Option.bind (eX n x5.lo) fun x6=>Option.bind (eX n x5.hi) fun x7=>k (⟨x6,x7⟩:Loop)) (g:=fun x=>x) (s:=0) (pre:=[]) (K:=fun x1=>some x1) ?_ (by omega) (by simp) (by omega) hn (Ev.some (by simp))
 exact fun x hx k hk=>aB (K8 hn (h2 x hx).1.1 (h2 x hx).1.2) (aB (K8 hn (h2 x hx).2.1 (h2 x hx).2.2) hk)
theorem aDl{n:Nat}(hn:6000≤n){s:Stmt}{d:Int}(hs:fK s d=true):qB n s=some s:=by
 unfold qB
 rw [xT hn hs (F:=fun q0=>cL n q0) (f:=fun x=>x) (zF n),aI9 (fun _ _=>rfl) hs];rfl
theorem aDm{n:Nat}(hn:6000≤n){list:List Arr}{x:Part}(h:b7 list x=true):kC n x=some x:=by
 obtain⟨h1,h2⟩:=lY h
 obtain⟨_,h4,h5,_⟩:=fQ h
 unfold kC
 refine Ev.eq (aB (aDo (by omega) h1 h2) (xL (g:=fun x=>x) (K:=fun x2=>some (⟨x.nest,x2⟩:Part)) (fun s hs=>aDl hn (h5 s hs)) (by omega) (by omega) (Ev.some ?_)))
 simp
theorem aAH{n:Nat}(hn:6000≤n){p:Prog}(h:bX p=true):eC n p=some p:=by
 obtain⟨h1,h2,h3,h4,_⟩:=jU h
 unfold eC
 refine Ev.eq (L9 (F:=fun x5 k=>Option.bind (m_ownClone x5.dims) fun x6=>k (⟨x5.name,x6⟩:Arr)) (g:=fun x=>x) (s:=0) (pre:=[]) (K:=fun x1=>aN (fun again11 ((x8,x9):(List Part)×Int)=>
    bif decide (x9<(p.parts.length:Int)) then(
     Option.bind (ix p.parts x9) fun x12=>
     Option.bind (kC n x12) fun x13=>
     Option.bind (app x8 [x13]) fun x14=>
     again11 (x14,wr (x9+1))
    ) else(
     some (⟨x1,x8⟩:Prog)
    )
   ) n ([],0)) (fun x hx k hk=>aB (x:=x.dims) ?_ hk) (by omega) (by simp) (by omega) (by omega) ?_)
 ·have:=(aLR h1 h2).2 x hx
  unfold m_ownClone
  rw [if_pos (by omega)]
 ·refine xL (g:=fun x=>x) (K:=fun x8=>some (⟨_,x8⟩:Prog)) (fun x hx=>aDm hn (h4 x hx)) (by omega) (by omega) (Ev.some ?_)
  simp
theorem gX{α:Type}{a b:List α}(h:b.length=a.length):jK a b=some ():=by unfold jK;rw [if_pos h]
theorem pC{n:Nat}(hn:5000≤n){l:Loop}(hl:uX l){F:Affine→Option Affine}{f:Affine→Affine}(hF: ∀x,bM x=true→F x=some (f x)):dL n l F=some (cH f l):=by
 obtain⟨⟨a1,a2⟩,b1,b2⟩:=hl
 unfold dL
 refine Ev.eq (Ev.loop (fun z:Loop×Int=>(z.2=0∧z.1=l)∨(z.2=1∧z.1=⟨l.lo.map f,l.hi⟩)∨(z.2=2∧z.1=cH f l)) (fun z=>3-z.2.toNat) ?_ n _ (.inl ⟨rfl,rfl⟩) (by dsimp only;omega))
 rintro again ⟨x,i⟩ hz hr
 dsimp only at hz hr⊢
 rcases hz with ⟨rfl,rfl⟩|⟨rfl,rfl⟩|⟨rfl,rfl⟩
 ·refine aB (gX rfl) (aB (gX rfl) (aG (fun _=>aG (fun _=> ?_) (fun h=>(h rfl).elim)) (fun h=>absurd h (by omega))))
  refine aAv (F:=fun x k=>Option.bind (F x) k) (W:=fun _ o=>o) (m:=fun _=>(x.lo.length:Int)) (g:=f) (s:=0) (K:=fun y=>again ((⟨y,x.hi⟩:Loop),wr (0+1))) (fun _ _ _ h=>h) (fun _ _=>rfl) (by omega) (fun x hx k hk=>aB (hF x (a2 x hx)) hk) (by omega) hn ?_
  rw [aM (by omega)]
  exact hr _ (.inr (.inl ⟨by dsimp only;omega,by simp⟩)) (by dsimp only;omega)
 ·refine aB (gX (by simp)) (aB (gX rfl) (aG (fun _=>aG (fun h=>absurd h (by omega)) (fun _=>aG (fun _=> ?_) (fun h=>(h rfl).elim))) (fun h=>absurd h (by omega))))
  refine aAv (F:=fun x k=>Option.bind (F x) k) (W:=fun _ o=>o) (m:=fun _=>(l.hi.length:Int)) (g:=f) (s:=0) (K:=fun y=>again ((⟨l.lo.map f,y⟩:Loop),wr (1+1))) (fun _ _ _ h=>h) (fun _ _=>rfl) (by omega) (fun x hx k hk=>aB (hF x (b2 x hx)) hk) (by omega) hn ?_
  rw [aM (by omega)]
  exact hr _ (.inr (.inr ⟨by dsimp only;omega,by simp [cH]⟩)) (by dsimp only;omega)
 ·refine aB (gX (by simp [cH])) (aB (gX (by simp [cH])) (aG (fun h=>absurd h (by omega)) (fun _=>Ev.some rfl)))
def pX(k:Nat)(g f:Affine→Affine)(x:Part)(l:Loop):Part:=⟨x.nest.take k++cH g l::(x.nest.drop (k+1)).map (cH f),x.body.map (wD f)⟩
theorem pA{n:Nat}(hn:6000≤n){nest:List Loop}{body:List Stmt}{s:Nat}(hs:s≤nest.length)(h1:nest.length≤4)(h2: ∀l∈nest.drop s,uX l){d:Int}(h3:body.length≤4)(h4: ∀s∈body,fK s d=true){F:Affine→Option Affine}{f:Affine→Affine}(hF: ∀x,bM x=true→F x=some (f x)):
  dK n ⟨nest,body⟩ (s:Int) F=some ⟨nest.take s++(nest.drop s).map (cH f),body.map (wD f)⟩:=by
 have key: ∀(nest2:List Loop),Ev (aN (fun again2 ((y,j):(List Stmt)×Int)=>
    Option.bind (jK body y) fun x5=>
    bif decide (j<(body.length:Int)) then(
     Option.bind (ix y j) fun x6=>
     Option.bind (eQ n x6 F) fun x7=>
     Option.bind (dB y j x7) fun x8=>
     again2 (x8,wr (j+1))
    ) else(
     some (⟨nest2,y⟩:Part)
    )
   ) n (body,0)) (fun r=>r=⟨nest2,body.map (wD f)⟩):=fun nest2=>
  aAv (F:=fun x k=>Option.bind (eQ n x F) k) (W:=fun y o=>Option.bind (jK body y) fun _=>o) (m:=fun _=>(body.length:Int)) (g:=wD f) (s:=0) (K:=fun y=>some (⟨nest2,y⟩:Part)) (fun y o h ho=>aB (gX h) ho) (fun _ _=>rfl) (by omega) (fun x hx k hk=>aB (xT hn (h4 x hx) hF) hk) (by omega) (by omega) (Ev.some (by simp))
 unfold dK
 refine Ev.eq ?_
 -- the loops ahead stay: only those behind are changed
 refine Ev.loop (fun z:List Loop×Int=> ∃i:Nat,z.2=i∧s≤i∧i≤nest.length∧z.1=nest.take s++((nest.drop s).take (i-s)).map (cH f)++nest.drop i) (fun z=>nest.length-z.2.toNat) ?_ n _ ⟨s,rfl,by omega,by omega,by simp⟩ (by dsimp only;omega)
 rintro again ⟨x,z⟩ ⟨i,hz,hsi,hi,hx⟩ hr
 dsimp only at hz hx⊢
 subst hz
 have hpl:(nest.take s++((nest.drop s).take (i-s)).map (cH f)).length=i:=by rw [List.length_append,List.length_map,List.length_take,List.length_take,List.length_drop];omega
 have hxl:x.length=nest.length:=by rw [hx,List.length_append,hpl,List.length_drop];omega
 refine aB (gX hxl) (aG (fun hlt=> ?_) (fun hge=> ?_))
 ·obtain⟨e,hg⟩: ∃e,nest[i]? =some e:=⟨_,List.getElem?_eq_getElem (show i<nest.length by omega)⟩
  have hgx:x[i]? =some e:=by
   rw [hx,List.getElem?_append_right (by omega),hpl,Nat.sub_self,List.getElem?_drop];exact hg
  have he:e∈nest.drop s:=List.mem_iff_getElem?.2 ⟨i-s,by rw [List.getElem?_drop,show s+(i-s)=i by omega];exact hg⟩
  refine aB (aQ hgx) (aB (pC (by omega) (h2 _ he) hF) (aB (dJ (by omega) _) ?_))
  rw [aM (by omega)]
  refine hr _ ⟨i+1,by dsimp only;omega,by omega,by omega,?_⟩ (by dsimp only;omega)
  dsimp only
  rw [hx,Int.toNat_natCast,List.set_append_right _ _ (by omega),hpl,Nat.sub_self,gI hg,List.set_cons_zero,show i+1-s=(i-s)+1 by omega,List.take_add_one,List.getElem?_drop,show s+(i-s)=i by omega,hg]
  simp
 ·have:i=nest.length:=by omega
  subst this
  rw [hx,List.take_of_length_le (l:=nest.drop s) (by rw [List.length_drop];omega),List.drop_length,List.append_nil]
  exact key _
def iT(p:Prog)(part loop:Int):Bool:=bX p&&match ix p.parts part with
 |some x=>decide (0≤loop∧loop<(x.nest.length:Int))
 |none=>false
theorem aLE{α:Type}{l:List α}{i:Int}(h: ¬(0≤i∧i<(l.length:Int))):ix l i=none:=by
 cases hx:ix l i with
 |none=>rfl
 |some x=>
  obtain⟨h1,h2⟩:=rA hx
  have:=(List.getElem?_eq_some_iff.1 h2).1
  exact absurd ⟨h1,by omega⟩ h
theorem aKE{α:Type}{l:List α}{i:Int}{x:α}(h:ix l i=some x): ∃k:Nat,i=k∧k<l.length∧l[k]? =some x:=by
 obtain⟨h1,h2⟩:=rA h
 exact⟨i.toNat,by omega,(List.getElem?_eq_some_iff.1 h2).1,h2⟩
theorem uK(n:Nat){p:Prog}(h:p.parts.length≤1000)(part:Int):eG n p part=some (decide (0≤part∧part<(p.parts.length:Int))):=by
 unfold eG
 rw [dU,aM (by omega)]
 exact congrArg some (decide_eq_decide.2 (by omega))
theorem S6{n:Nat}(hn:7000≤n){p:Prog}(hp:BG 1000 p)(part loop:Int)(hl:loop≠ -1):iP n p part loop=some (if iT p part loop=true then(p,true) else(⟨[],[]⟩,false)):=by
 unfold iP
 refine Ev.eq (Ev.jn (fun z=>z= !iT p part loop) (fun j hj=> ?_) (fun z hz=> ?_))
 ·refine aB (eZ hn hp.sm) (Ev.cond (fun h=> ?_) (fun h=> ?_))
  ·refine hj _ ?_
   unfold iT
   rw [show bX p=false by simpa using h];rfl
  ·have hv:bX p=true:=by simpa using h
   refine aB (uK n hp.2.1 part) ?_
   by_cases hi:0≤part∧part<(p.parts.length:Int)
   ·obtain⟨x,hx,hx2⟩:=i8 hi.1 hi.2
    rw [decide_eq_true hi]
    refine cE (iY (fun _=>aB (x:=iT p part loop) ?_ (hj _ rfl)) (fun h=>absurd h hl))
    unfold iS
    refine Ev.eq (Ev.jn (fun z=>z=iT p part loop) (fun j hj=> ?_) (fun z hz=>Ev.some hz))
    rw [uK n hp.2.1 part,decide_eq_true hi]
    refine aB rfl (cD (aB hx ?_))
    have:=(hp.2.2 x (List.mem_of_getElem? hx2)).1.1
    rw [aM (by omega),dU]
    refine aB rfl (hj _ ?_)
    unfold iT
    rw [hv,hx]
    exact decide_eq_decide.2 (by omega)
   ·rw [decide_eq_false hi]
    refine cD (hj _ ?_)
    unfold iT
    rw [aLE hi,Bool.and_false];rfl
 ·subst hz
  by_cases hc:iT p part loop=true
  ·rw [hc]
   have hv:bX p=true:=by unfold iT at hc;rw [Bool.and_eq_true] at hc;exact hc.1
   obtain⟨x,hx⟩: ∃x,ix p.parts part=some x:=by
    cases hx:ix p.parts part with
    |some x=>exact⟨x,rfl⟩
    |none=>unfold iT at hc;rw [hx,Bool.and_false] at hc;cases hc
   exact cE (aB (aAH (by omega) hv) (aB hx (Ev.some rfl)))
  ·rw [show iT p part loop=false by simpa using hc]
   exact cD (Ev.some rfl)
def E6(q:Prog):Prog×Bool:=if bX q=true then(q,true) else(⟨[],[]⟩,false)
theorem tP{n:Nat}(hn:7000≤n){p:Prog}(hp:BG 1000 p):jW n p=some (E6 p):=by
 unfold jW E6
 refine Ev.eq (aB (eZ hn hp.sm) (Ev.cond (fun h=>Ev.some ?_) (fun h=> ?_)))
 ·rw [if_neg (by simpa using h)]
 ·have hv:bX p=true:=by simpa using h
  rw [if_pos hv]
  exact aB (aAH (by omega) hv) (Ev.some rfl)
def fC(a:Affine)(k:Int)(b:Affine):Affine:=⟨List.zipWith (fun x y=>x+k*y) a.coefs b.coefs,a.const+k*b.const⟩
def mW(k:Nat):Affine:=⟨[0,0,0,0].set k 1,0⟩
def fB(k:Nat)(b x:Affine):Affine:=fC x (-(x.coefs.getD k 0)) b
def bB(m:Int)(a:Affine):Prop:=a.coefs.length=4∧oK m a.const∧ ∀c∈a.coefs,oK m c
theorem bB.mono{m m':Int}{a:Affine}(h:bB m a)(hm:m≤m'):bB m' a:=⟨h.1,⟨by have:=h.2.1.1;omega,by have:=h.2.1.2;omega⟩,fun c hc=>⟨by have:=(h.2.2 c hc).1;omega,by have:=(h.2.2 c hc).2;omega⟩⟩
theorem T8{l:List Int}(h:l.length=4): ∃a b c d,l=[a,b,c,d]:=by
 match l,h with
 | [a,b,c,d],_=>exact⟨a,b,c,d,rfl⟩
theorem A9{a:Affine}(h:bM a=true):bB 99 a:=by
 obtain⟨h1,h2,h3⟩:=dW h
 exact⟨h1,h2,fun c hc=>⟨by have:=(h3 c hc).1;omega,by have:=(h3 c hc).2;omega⟩⟩
theorem aAx{k:Nat}(hk:k<4):bB 6 (mW k):=by
 rcases(show k=0∨k=1∨k=2∨k=3 by omega) with rfl|rfl|rfl|rfl<;>(unfold bB oK mW;simp)
theorem aG2{k b:Int}(hk:oK 1000 k)(hb:oK 1000 b):oK 1000000 (k*b):=aEM (by omega) (by omega) hk hb
theorem wrB{a x:Int}(ha:oK 1000 a)(hx:oK 1000000 x):wr (a+wr x)=a+x:=by
 unfold oK at ha hx
 rw [aM (n:=x) (by omega),aM (by omega)]
theorem aKJ(m:Nat)(a0 a1 a2 a3 ac k b0 b1 b2 b3 bc:Int):C3 (m+6) ⟨[a0,a1,a2,a3],ac⟩ k ⟨[b0,b1,b2,b3],bc⟩=
  some ⟨[wr (a0+wr (k*b0)),wr (a1+wr (k*b1)),wr (a2+wr (k*b2)),wr (a3+wr (k*b3))],wr (ac+wr (k*bc))⟩:=by kernel_rfl
theorem xS{n:Nat}(hn:5000≤n){a b:Affine}(ha:bB 1000 a)(hb:bB 1000 b){k:Int}(hk:oK 1000 k):C3 n a k b=some (fC a k b):=by
 obtain⟨m,rfl⟩: ∃m,n=m+6:=⟨n-6,by omega⟩
 obtain⟨ac,a⟩:=a
 obtain⟨bc,b⟩:=b
 obtain⟨h1,h2,h3⟩:=ha
 obtain⟨g1,g2,g3⟩:=hb
 dsimp only at h1 h2 h3 g1 g2 g3
 obtain⟨a0,a1,a2,a3,rfl⟩:=T8 h1
 obtain⟨b0,b1,b2,b3,rfl⟩:=T8 g1
 rw [aKJ,wrB (h3 a0 (by simp)) (aG2 hk (g3 b0 (by simp))),wrB (h3 a1 (by simp)) (aG2 hk (g3 b1 (by simp))),wrB (h3 a2 (by simp)) (aG2 hk (g3 b2 (by simp))),wrB (h3 a3 (by simp)) (aG2 hk (g3 b3 (by simp))),wrB h2 (aG2 hk g2)]
 rfl
theorem aKY(a b:Affine)(k:Int)(ha:a.coefs.length=4)(hb:b.coefs.length=4):(fC a k b).coefs.length=4:=by
 unfold fC
 rw [List.length_zipWith];omega
def aKq(a:Affine)(k:Nat)(b:Affine):Affine:=fC ⟨a.coefs.set k 0,a.const⟩ (a.coefs.getD k 0) b
theorem aIT{a:Affine}(h:bB 1000 a)(k:Nat):bB 1000 ⟨a.coefs.set k 0,a.const⟩:=⟨by dsimp only;rw [List.length_set];exact h.1,h.2.1,qU h.2.2 ⟨by omega,by omega⟩⟩
theorem aJr{a:Affine}(h:bB 1000 a){k:Nat}(hk:k<4):a.coefs[k]? =some (a.coefs.getD k 0)∧oK 1000 (a.coefs.getD k 0):=by
 have hl:k<a.coefs.length:=by rw [h.1];exact hk
 have e:=List.getElem?_eq_getElem hl
 have e2:a.coefs.getD k 0=a.coefs[k]:=by rw [List.getD_eq_getElem?_getD,e];rfl
 rw [e2]
 exact⟨e,h.2.2 _ (List.getElem_mem hl)⟩
theorem N3{n:Nat}(hn:5000≤n){a b:Affine}(ha:bB 1000 a)(hb:bB 1000 b){k:Nat}(hk:k<4):uL n a (k:Int) b=some (aKq a k b):=by
 obtain⟨h1,h2⟩:=aJr ha hk
 have hl:k<a.coefs.length:=by rw [ha.1];exact hk
 unfold uL
 rw [X0 n (by have:=ha.1;omega)]
 refine Ev.eq (aB rfl (aB (aQ h1) (aB (dJ (by omega) _) (aB (xS hn (aIT ha k) hb h2) (Ev.some rfl)))))
theorem xQ(n:Nat){k:Nat}(hk:k<4):fE n (k:Int) 1=some (mW k):=by
 rcases(show k=0∨k=1∨k=2∨k=3 by omega) with rfl|rfl|rfl|rfl<;>rfl
def toB(k:Nat)(b:Affine):Affine:=fC (mW k) (-1) b
theorem aGE{a b:Affine}(ha:a.coefs.length=4)(hb:b.coefs.length=4){k:Nat}(hk:k<4)(h0:b.coefs.getD k 0=0):aKq a k (toB k b)=fB k b a:=by
 obtain⟨a,ac⟩:=a
 obtain⟨b,bc⟩:=b
 dsimp only at ha hb h0
 obtain⟨a0,a1,a2,a3,rfl⟩:=T8 ha
 obtain⟨b0,b1,b2,b3,rfl⟩:=T8 hb
 rcases(show k=0∨k=1∨k=2∨k=3 by omega) with rfl|rfl|rfl|rfl<;>
  (simp only [List.getD_cons_zero,List.getD_cons_succ] at h0;subst h0;simp [aKq,toB,fB,fC,mW,Int.mul_neg,Int.neg_mul])
def noP:Prog×Bool:=(⟨[],[]⟩,false)
def wB(p:Prog)(part loop:Int)(g f:Affine→Affine):Prog×Bool:=
 match ix p.parts part with
 |some P=>match ix P.nest loop with
  |some l=>E6 ⟨p.arrays,p.parts.set part.toNat (pX loop.toNat g f P l)⟩
  |none=>noP
 |none=>noP
theorem pE{p:Prog}{part loop:Int}(h:iT p part loop=true):bX p=true∧ ∃(i k:Nat) (P:Part) (l:Loop),part=i∧loop=k∧p.parts[i]? =some P∧P.nest[k]? =some l∧i<p.parts.length∧k<P.nest.length∧b7 p.arrays P=true∧k<4:=by
 unfold iT at h
 rw [Bool.and_eq_true] at h
 obtain⟨hv,h⟩:=h
 refine⟨hv,?_⟩
 cases hx:ix p.parts part with
 |none=>rw [hx] at h;cases h
 |some P=>
  rw [hx] at h
  obtain⟨i,rfl,hi,hP⟩:=aKE hx
  obtain⟨h1,h2⟩:=of_decide_eq_true h
  obtain⟨l,hl,hl2⟩:=i8 h1 h2
  have hok:=(jU hv).2.2.2.1 P (List.mem_of_getElem? hP)
  have:=(lY hok).1
  exact⟨i,loop.toNat,P,l,rfl,by omega,hP,hl2,hi,by omega,hok,by omega⟩
theorem aAO{list:List Arr}{P:Part}(hP:b7 list P=true){k:Nat}{l:Loop}(hl:P.nest[k]? =some l){g f:Affine→Affine}(hg: ∀x,bM x=true→BA 4 (g x))(hf: ∀x,bM x=true→BA 4 (f x)):BPt 4 (pX k g f P l):=by
 obtain⟨h1,h2⟩:=lY hP
 obtain⟨_,h4,h5,_⟩:=fQ hP
 have hk:=(List.getElem?_eq_some_iff.1 hl).1
 refine⟨⟨by simp only [pX,List.length_append,List.length_cons,List.length_map,List.length_take,List.length_drop];omega,fun y hy=> ?_⟩,by simp only [pX,List.length_map];exact h4.2,fun s hs=> ?_⟩
 ·rcases List.mem_append.1 hy with hy|hy
  ·exact((aH0 hP).1.2 y (List.mem_of_mem_take hy))
  ·rcases List.mem_cons.1 hy with rfl|hy
   ·exact aBo hg (h2 l (List.mem_of_getElem? hl))
   ·obtain⟨z,hz,rfl⟩:=List.mem_map.1 hy
    exact aBo hf (h2 z (List.mem_of_mem_drop hz))
 ·obtain⟨z,hz,rfl⟩:=List.mem_map.1 hs
  exact aHZ hf (h5 z hz)
theorem S5{p:Prog}(hp:BG 1000 p)(i:Nat){y:Part}(hy:BPt 4 y):BG 1000 ⟨p.arrays,p.parts.set i y⟩:=⟨hp.1,by dsimp only;rw [List.length_set];exact hp.2.1,qU hp.2.2 (hy.mono (by omega))⟩
theorem yT{k:Int}{b:Affine}(hb:b.coefs.length=4): ∀x,bM x=true→BA 4 (fC x k b):=fun x hx=>by
 have:=aKY x b k (dW hx).1 hb
 unfold BA;omega
theorem aE2{k:Nat}{b:Affine}(hb:b.coefs.length=4): ∀x,bM x=true→BA 4 (fB k b x):=fun x hx=>yT hb x hx
theorem aGB{k:Nat}(hk:k<4){b:Affine}(hb:bB 6 b):bB 1000 (toB k b):=by
 obtain⟨b,bc⟩:=b
 obtain⟨h1,h2,h3⟩:=hb
 dsimp only at h1 h2 h3
 obtain⟨b0,b1,b2,b3,rfl⟩:=T8 h1
 have c0:=h3 b0 (by simp)
 have c1:=h3 b1 (by simp)
 have c2:=h3 b2 (by simp)
 have c3:=h3 b3 (by simp)
 unfold oK at h2 c0 c1 c2 c3
 rcases(show k=0∨k=1∨k=2∨k=3 by omega) with rfl|rfl|rfl|rfl<;>
  (refine⟨rfl,?_,fun c hc=> ?_⟩<;>unfold oK<;>simp [toB,mW,fC] at* <;>omega)
def sA(s:Int):Affine:=⟨[0,0,0,0],s⟩
theorem aLs{s:Int}(h: -6≤s∧s≤6):bB 6 (sA s):=by unfold sA bB oK;simp;omega
theorem aL4(s:Int){k:Nat}(hk:k<4):(sA s).coefs.getD k 0=0:=by
 rcases(show k=0∨k=1∨k=2∨k=3 by omega) with rfl|rfl|rfl|rfl<;>rfl
def mQ(p:Prog)(part loop by_:Int):Prog×Bool:=
 if iT p part loop=true∧(-6≤by_∧by_≤6) then wB p part loop (fun x=>fC x 1 (sA by_)) (fB loop.toNat (sA by_)) else noP
theorem Y4(n:Nat)(s:Int):qC n s=some (decide (-6≤s∧s≤6)):=by
 unfold qC;rw [dU];rfl
theorem xX{p:Prog}{part loop:Int}(h:loop<0):iT p part loop=false:=by
 cases hc:iT p part loop with
 |false=>rfl
 |true=>obtain⟨_,i,k,P,l,_,hk,_⟩:=pE hc;omega
theorem pW{p:Prog}{i k:Nat}{P:Part}{l:Loop}(hP:p.parts[i]? =some P)(hl:P.nest[k]? =some l)(g f:Affine→Affine):wB p (i:Int) (k:Int) g f=E6 ⟨p.arrays,p.parts.set i (pX k g f P l)⟩:=by
 unfold wB
 rw [aQ hP]
 dsimp only
 rw [aQ hl];rfl
theorem aFu{n:Nat}(hn:5000≤n){s:Int}(hs: -6≤s∧s≤6): ∀x,bM x=true→gP n x s=some (fC x 1 (sA s)):=fun x hx=>by
 unfold gP
 have hc:fG n 1=some ⟨[0,0,0,0],1⟩:=rfl
 rw [hc]
 refine Ev.eq (aB rfl (aB (xS hn ((A9 hx).mono (by omega)) (b:=⟨[0,0,0,0],1⟩) (by unfold bB oK;simp) ⟨by omega,by omega⟩) (Ev.some ?_)))
 unfold fC sA
 obtain⟨a0,a1,a2,a3,e⟩:=T8 (dW hx).1
 rw [e]
 simp
theorem aFt{n:Nat}(hn:5000≤n){k:Nat}(hk:k<4){s:Int}(hs: -6≤s∧s≤6): ∀x,bM x=true→fI n x (k:Int) (⟨(mW k).coefs,wr (0-s)⟩:Affine)=some (fB k (sA s) x):=fun x hx=>by
 have e:(⟨(mW k).coefs,wr (0-s)⟩:Affine)=toB k (sA s):=by
  rw [aM (by omega)]
  rcases(show k=0∨k=1∨k=2∨k=3 by omega) with rfl|rfl|rfl|rfl<;>(unfold mW toB sA fC mW;simp)
 unfold fI
 rw [e,N3 hn ((A9 hx).mono (by omega)) (aGB hk (aLs hs)) hk,aGE (A9 hx).1 rfl hk (aL4 _ hk)];rfl
theorem aAh{n:Nat}(hn:7000≤n){p:Prog}(hp:BG 1000 p)(part:Int):Ev (iP n p part (-1)) (fun r=>r.2=false→r=noP):=by
 unfold iP
 refine Ev.jn (fun z=>z=false→bX p=true∧(0≤part∧part<(p.parts.length:Int))) (fun j hj=> ?_) (fun z hz=> ?_)
 ·refine aB (eZ hn hp.sm) (Ev.cond (fun h=>hj _ (fun h=>by cases h)) (fun h=> ?_))
  refine aB (uK n hp.2.1 part) (Ev.cond (fun h=>hj _ (fun h=>by cases h)) (fun h2=>iY (fun h=>(h rfl).elim) (fun _=>hj _ (fun _=>⟨by simpa using h,by simpa using h2⟩))))
 ·refine Ev.cond (fun _=>Ev.some (fun _=>rfl)) (fun h=> ?_)
  obtain⟨hv,h1,h2⟩:=hz h
  obtain⟨x,hx,hx2⟩:=i8 h1 h2
  exact aB (aAH (by omega) hv) (aB hx (Ev.some (fun h=>by cases h)))
theorem aDH{n:Nat}(hn:7000≤n){p:Prog}(hp:BG 1000 p)(part loop by_:Int):mF n p part loop by_=some (mQ p part loop by_):=by
 unfold mF mQ
 by_cases hneg:loop= -1
 ·subst hneg
  rw [if_neg (fun h=>by rw [xX (by omega)] at h;cases h.1)]
  refine Ev.eq (aJ (aAh hn hp part) (fun x1 h1=>Ev.cond (fun _=>Ev.jn (fun z=>z=true) (fun j hj=>aG (fun _=>hj _ rfl) (fun h=>absurd (show(-1:Int)<0 by omega) h)) (fun z hz=>by rw [hz];exact cD (Ev.some rfl))) (fun _=>Ev.some rfl)))
 refine Ev.eq (aB (S6 hn hp part loop hneg) ?_)
 by_cases hb:iT p part loop=true
 ·rw [if_pos hb]
  refine cD (Ev.jn (fun z=>z= !decide (-6≤by_∧by_≤6)) (fun j hj=> ?_) (fun z hz=> ?_))
  ·refine aG (fun h=> ?_) (fun _=>aB (Y4 n by_) (hj _ rfl))
   rw [xX h] at hb;cases hb
  ·subst hz
   by_cases hs: -6≤by_∧by_≤6
   ·rw [if_pos ⟨hb,hs⟩,decide_eq_true hs]
    refine cE ?_
    obtain⟨hv,i,k,P,l,rfl,rfl,hP,hl,hi,hkl,hok,hk⟩:=pE hb
    obtain⟨h1,h2⟩:=lY hok
    obtain⟨_,h4,h5,_⟩:=fQ hok
    refine aB (aQ hP) (aB (aQ hl) (aB (pC (by omega) (h2 l (List.mem_of_getElem? hl)) (aFu (by omega) hs)) (aB (dJ (by omega) _) (aB (dJ (by dsimp only;omega) _) (aB (xQ n hk) ?_)))))
    rw [aM (n:=(k:Int)+1) (by omega)]
    have hch:=pA (n:=n) (by omega) (nest:=P.nest.set k (cH (fun x=>fC x 1 (sA by_)) l)) (body:=P.body) (s:=k+1) (by simp;omega) (by simp;omega) (fun y hy=>by
     rw [List.drop_set_of_lt (by omega)] at hy
     exact h2 y (List.mem_of_mem_drop hy)) h4.2 h5 (F:=fun q0=>fI n q0 (k:Int) (⟨(mW k).coefs,wr (0-by_)⟩:Affine)) (aFt (by omega) hk hs)
    rw [Int.toNat_natCast,Int.toNat_natCast]
    refine aB hch (aB (dJ (by simp;omega) _) ?_)
    rw [Int.toNat_natCast,List.set_set]
    have hm:(⟨(P.nest.set k (cH (fun x=>fC x 1 (sA by_)) l)).take (k+1)++((P.nest.set k (cH (fun x=>fC x 1 (sA by_)) l)).drop (k+1)).map (cH (fB k (sA by_))),P.body.map (wD (fB k (sA by_)))⟩:Part)=pX k (fun x=>fC x 1 (sA by_)) (fB k (sA by_)) P l:=by
     rw [List.drop_set_of_lt (by omega),List.take_add_one,List.getElem?_set_self (by omega),List.take_set_of_le (Nat.le_refl k),List.append_assoc];rfl
    rw [hm]
    refine aB (tP hn (S5 hp i (aAO hok hl (yT rfl) (aE2 rfl)))) (Ev.some ?_)
    rw [pW hP hl]
   ·rw [if_neg (fun h=>hs h.2),decide_eq_false hs]
    exact cD (Ev.some rfl)
 ·rw [if_neg hb,if_neg (fun h=>hb h.1)]
  exact cE (Ev.some rfl)
theorem aE1{q:Prog}(h:BG 1000 q):BG 1000 (E6 q).1:=by
 unfold E6
 split
 ·exact h
 ·exact⟨⟨by simp,fun x hx=>by cases hx⟩,by simp,fun x hx=>by cases hx⟩
theorem aAJ:BG 1000 noP.1:=⟨⟨by simp [noP],fun x hx=>by cases hx⟩,by simp [noP],fun x hx=>by cases hx⟩
theorem X9{p:Prog}(hp:BG 1000 p){part loop:Int}(hc:iT p part loop=true){g f:Affine→Affine}(hg: ∀x,bM x=true→BA 4 (g x))(hf: ∀x,bM x=true→BA 4 (f x)):BG 1000 (wB p part loop g f).1:=by
 obtain⟨hv,i,k,P,l,rfl,rfl,hP,hl,hi,hkl,hok,hk⟩:=pE hc
 rw [pW hP hl]
 exact aE1 (S5 hp i (aAO hok hl hg hf))
theorem aFs{p:Prog}(hp:BG 1000 p)(part loop by_:Int):BG 1000 (mQ p part loop by_).1:=by
 unfold mQ
 split
 ·rename_i hc
  exact X9 hp hc.1 (yT rfl) (aE2 rfl)
 ·exact aAJ
def kA(k:Nat)(s:Int):Affine:=⟨[0,0,0,0].set k s,0⟩
theorem M3(k:Nat){s:Int}(h: -6≤s∧s≤6):bB 6 (kA k s):=by
 refine⟨by simp [kA],⟨by simp [kA],by simp [kA]⟩,qU (fun c hc=> ?_) ⟨h.1,h.2⟩⟩
 simp at hc
 subst hc
 exact⟨by omega,by omega⟩
theorem aL8(s:Int){k:Nat}(hk:k+1<4):(kA k s).coefs.getD (k+1) 0=0:=by
 rcases(show k=0∨k=1∨k=2 by omega) with rfl|rfl|rfl<;>rfl
def sB(p:Prog)(part loop s:Int):Prog×Bool:=
 if iT p part loop=true∧iT p part (loop+1)=true∧(-6≤s∧s≤6) then wB p part (loop+1) (fun x=>fC x 1 (kA loop.toNat s)) (fB (loop.toNat+1) (kA loop.toNat s)) else noP
theorem aKX{k:Nat}(hk:k<4)(s:Int){a:Affine}(ha:a.coefs.length=4):fC a s (mW k)=fC a 1 (kA k s):=by
 obtain⟨a0,a1,a2,a3,e⟩:=T8 ha
 rcases(show k=0∨k=1∨k=2∨k=3 by omega) with rfl|rfl|rfl|rfl<;>simp [fC,mW,kA,e]
theorem aLp{k:Nat}(hk:k+1<4)(s:Int):fC (mW (k+1)) (-s) (mW k)=toB (k+1) (kA k s):=by
 rcases(show k=0∨k=1∨k=2 by omega) with rfl|rfl|rfl<;>simp [toB,fC,mW,kA]
theorem aGJ{n:Nat}(hn:5000≤n){k:Nat}(hk:k<4){s:Int}(hs: -6≤s∧s≤6): ∀x,bM x=true→iR n x s (k:Int)=some (fC x 1 (kA k s)):=fun x hx=>by
 unfold iR
 rw [xQ n hk]
 refine Ev.eq (aB rfl (aB (xS hn ((A9 hx).mono (by omega)) ((aAx hk).mono (by omega)) ⟨by omega,by omega⟩) (Ev.some (aKX hk s (dW hx).1))))
theorem aGI{n:Nat}(hn:5000≤n){k:Nat}(hk:k+1<4){s:Int}(hs: -6≤s∧s≤6): ∀x,bM x=true→f9 n x (k:Int) (toB (k+1) (kA k s))=some (fB (k+1) (kA k s) x):=fun x hx=>by
 unfold f9
 rw [aM (by omega),show((k:Int)+1)=((k+1:Nat):Int) by omega,N3 hn ((A9 hx).mono (by omega)) (aGB hk (M3 k hs)) hk,aGE (A9 hx).1 (M3 k hs).1 hk (aL8 s hk)];rfl
theorem aFQ{n:Nat}(hn:7000≤n){p:Prog}(hp:BG 1000 p)(part loop s:Int):n8 n p part loop s=some (sB p part loop s):=by
 unfold n8 sB
 by_cases hneg:loop= -1
 ·subst hneg
  rw [if_neg (fun h=>by rw [xX (by omega)] at h;cases h.1)]
  refine Ev.eq (aJ (aAh hn hp part) (fun x1 h1=>Ev.cond (fun _=>Ev.jn (fun z=>z=true) (fun j hj=>aG (fun _=>hj _ rfl) (fun h=>absurd (show(-1:Int)<0 by omega) h)) (fun z hz=>by rw [hz];exact cD (Ev.some rfl))) (fun _=>Ev.some rfl)))
 refine Ev.eq (aB (S6 hn hp part loop hneg) ?_)
 by_cases hb:iT p part loop=true
 ·rw [if_pos hb]
  obtain⟨hv,i,k,P,l0,rfl,rfl,hP,hl0,hi,hkl,hok,hk⟩:=pE hb
  obtain⟨h1,h2⟩:=lY hok
  obtain⟨_,h4,h5,_⟩:=fQ hok
  have hb2:iT p (i:Int) ((k:Int)+1)=decide (k+1<P.nest.length):=by
   unfold iT
   rw [hv,aQ hP]
   exact decide_eq_decide.2 (by omega)
  refine cD (Ev.jn (fun z=>z= !(decide (k+1<P.nest.length)&&decide (-6≤s∧s≤6))) (fun j hj=> ?_) (fun z hz=> ?_))
  ·refine aG (fun h=>absurd h (by omega)) (fun _=>aB (aQ hP) ?_)
   rw [aM (by omega)]
   refine aG (fun h=>hj _ ?_) (fun h=>aB (Y4 n s) (hj _ ?_))
   ·rw [decide_eq_false (show¬k+1<P.nest.length by omega)];rfl
   ·rw [decide_eq_true (show k+1<P.nest.length by omega)];rfl
  ·subst hz
   by_cases hk1:k+1<P.nest.length
   ·by_cases hs: -6≤s∧s≤6
    ·rw [if_pos ⟨hb,by rw [hb2,decide_eq_true hk1],hs⟩,decide_eq_true hs,decide_eq_true hk1]
     refine cE ?_
     obtain⟨l,hl⟩: ∃l,P.nest[k+1]? =some l:=⟨_,List.getElem?_eq_getElem hk1⟩
     rw [aM (n:=(k:Int)+1) (by omega),aM (n:=(k:Int)+2) (by omega),aM (n:=0-s) (by omega),show((k:Int)+1)=((k+1:Nat):Int) by omega,show((k:Int)+2)=((k+1+1:Nat):Int) by omega,show 0-s= -s by omega]
     refine aB (aQ hP) (aB (aQ hl) (aB (pC (by omega) (h2 l (List.mem_of_getElem? hl)) (aGJ (by omega) hk hs)) (aB (dJ (by omega) _) (aB (dJ (by dsimp only;omega) _) (aB (xQ n (by omega)) (aB (xQ n hk) (aB (xS (by omega) ((aAx (by omega)).mono (by omega)) ((aAx hk).mono (by omega)) ⟨by omega,by omega⟩) ?_)))))))
     rw [aLp (by omega)]
     have hch:=pA (n:=n) (by omega) (nest:=P.nest.set (k+1) (cH (fun x=>fC x 1 (kA k s)) l)) (body:=P.body) (s:=k+1+1) (by simp;omega) (by simp;omega) (fun y hy=>by
      rw [List.drop_set_of_lt (by omega)] at hy
      exact h2 y (List.mem_of_mem_drop hy)) h4.2 h5 (F:=fun q0=>f9 n q0 (k:Int) (toB (k+1) (kA k s))) (aGI (by omega) (by omega) hs)
     rw [Int.toNat_natCast,Int.toNat_natCast]
     refine aB hch (aB (dJ (by simp;omega) _) ?_)
     rw [Int.toNat_natCast,List.set_set]
     have hm:(⟨(P.nest.set (k+1) (cH (fun x=>fC x 1 (kA k s)) l)).take (k+1+1)++((P.nest.set (k+1) (cH (fun x=>fC x 1 (kA k s)) l)).drop (k+1+1)).map (cH (fB (k+1) (kA k s))),P.body.map (wD (fB (k+1) (kA k s)))⟩:Part)=pX (k+1) (fun x=>fC x 1 (kA k s)) (fB (k+1) (kA k s)) P l:=by
      rw [List.drop_set_of_lt (by omega),List.take_add_one,List.getElem?_set_self (by omega),List.take_set_of_le (Nat.le_refl _),List.append_assoc];rfl
     rw [hm]
     refine aB (tP hn (S5 hp i (aAO hok hl (yT (M3 k hs).1) (aE2 (M3 k hs).1)))) (Ev.some ?_)
     rw [pW hP hl];rfl
    ·rw [if_neg (fun h=>hs h.2.2),decide_eq_false hs,Bool.and_false]
     exact cD (Ev.some rfl)
   ·rw [if_neg (fun h=>by rw [hb2,decide_eq_false hk1] at h;cases h.2.1),decide_eq_false hk1]
    exact cD (Ev.some rfl)
 ·rw [if_neg hb,if_neg (fun h=>hb h.1)]
  exact cE (Ev.some rfl)
theorem aGH{p:Prog}(hp:BG 1000 p)(part loop s:Int):BG 1000 (sB p part loop s).1:=by
 unfold sB
 split
 ·rename_i hc
  exact X9 hp hc.2.1 (yT (M3 _ hc.2.2).1) (aE2 (M3 _ hc.2.2).1)
 ·exact aAJ
theorem aKL{B:Option Bool}{a b:Int}(h:b≤1048576→Ev B (fun r=>r=true)):Ev (jn (fun(x2:Bool)=>bif x2 then(some true) else B) (fun j1=>bif decide ((1048576:Int)<a) then(j1 true) else(j1 (decide ((1048576:Int)<b))))) (fun r=>r=true):=by
 exact Ev.jn (fun z=>z=false→b≤1048576) (fun j hj=>aG (fun _=>hj _ (fun h=>by cases h)) (fun _=>hj _ (fun h=>by have:=of_decide_eq_false h;omega))) (fun z hz=>Ev.cond (fun _=>Ev.some rfl) (fun h0=>h (hz h0)))
theorem iM{α β:Type}{f g:α→β}: ∀{l:List α},(∀x∈l,f x=g x)→l.map f=l.map g
 | [],_=>rfl
 |x::l,h=>by rw [List.map_cons,List.map_cons,h x List.mem_cons_self,iM (fun y hy=>h y (List.mem_cons_of_mem _ hy))]
theorem aDJ{p q:Prog}(h:E6 p=(q,true)):q=p∧bX p=true:=by
 unfold E6 at h
 split at h
 ·rename_i hv;cases h;exact⟨rfl,hv⟩
 ·cases h
theorem aGK{p q:Prog}{part loop b:Int}(h:mQ p part loop b=(q,true)):iT p part loop=true∧(-6≤b∧b≤6)∧wB p part loop (fun x=>fC x 1 (sA b)) (fB loop.toNat (sA b))=(q,true):=by
 unfold mQ at h
 split at h
 ·rename_i hc;exact⟨hc.1,hc.2,h⟩
 ·cases h
theorem aBc(m:Int): ∀(a b p:List Int),a.length=b.length→o1 (List.zipWith (fun x y=>x+m*y) a b) p=o1 a p+m*o1 b p
 | [],[],p,_=>by simp [o1]
 |x::a,y::b,[],_=>by simp [o1]
 |x::a,y::b,z::p,h=>by
  simp only [List.zipWith_cons_cons,o1]
  rw [aBc m a b p (by simpa using h),Int.add_mul,Int.mul_add,Int.mul_assoc]
  omega
theorem aBd: ∀(cs p:List Int) (k:Nat) (v:Int),k<p.length→o1 cs (p.set k v)=o1 cs p+cs.getD k 0*(v-p.getD k 0)
 | [],p,k,v,_=>by simp [o1]
 |c::cs,x::p,0,v,_=>by
  simp only [List.set_cons_zero,o1,List.getD_cons_zero]
  rw [Int.mul_sub];omega
 |c::cs,x::p,k+1,v,h=>by
  simp only [List.set_cons_succ,o1,List.getD_cons_succ]
  rw [aBd cs p k v (by simpa using h)];omega
theorem aCn: ∀(cs p:List Int) (v:Int),cs.getD p.length 0=0→o1 cs (p++[v])=o1 cs p
 | [],p,v,_=>by simp [o1]
 |c::cs,[],v,h=>by
  simp only [List.length_nil,List.getD_cons_zero] at h
  subst h
  cases cs<;>simp [o1]
 |c::cs,x::p,v,h=>by
  simp only [List.cons_append,o1]
  rw [aCn cs p v (by simpa using h)]
def tau(k:Nat)(b:Affine)(p:List Int):List Int:=p.set k (p.getD k 0+bP b p)
theorem aJm{x b:Affine}(h:x.coefs.length=b.coefs.length)(p:List Int):bP (fC x 1 b) p=bP x p+bP b p:=by
 unfold bP fC
 rw [aBc 1 _ _ _ h]
 dsimp only
 omega
theorem aE4{x b:Affine}(h:x.coefs.length=b.coefs.length){k:Nat}(h0:b.coefs.getD k 0=0){p:List Int}(hk:k<p.length):bP (fB k b x) (tau k b p)=bP x p:=by
 unfold fB bP fC tau
 rw [aBc _ _ _ _ h]
 dsimp only
 rw [aBd _ _ _ _ hk,aBd _ _ _ _ hk,h0,show p.getD k 0+bP b p-p.getD k 0=bP b p by omega]
 unfold bP
 rw [Int.zero_mul,Int.mul_add,Int.add_zero,Int.neg_mul,Int.neg_mul]
 omega
def low(k:Nat)(b:Affine):Prop:= ∀j,k≤j→b.coefs.getD j 0=0
theorem Z6{b:Affine}{k:Nat}(hz:low k b){p:List Int}(hk:k≤p.length)(v:Int):bP b (p++[v])=bP b p:=by
 unfold bP
 rw [aCn _ _ _ (hz _ hk)]
theorem Z1{α:Type}{l:List α}{v d:α}:(l++[v]).getD l.length d=v:=by
 rw [List.getD_eq_getElem?_getD,List.getElem?_append_right (Nat.le_refl _),Nat.sub_self];rfl
theorem Z0{α:Type}{l:List α}{k:Nat}{v d:α}(h:k<l.length):(l++[v]).getD k d=l.getD k d:=by
 rw [List.getD_eq_getElem?_getD,List.getElem?_append_left h,List.getD_eq_getElem?_getD]
theorem aIO{b:Affine}{k:Nat}(hz:low k b){p:List Int}(hk:k<p.length)(v:Int):tau k b (p++[v])=tau k b p++[v]:=by
 unfold tau
 rw [Z6 hz (by omega),Z0 hk,List.set_append_left _ _ hk]
theorem aKp{b:Affine}{k:Nat}(hz:low k b){p:List Int}(hk:p.length=k)(v:Int):tau k b (p++[v])=p++[v+bP b p]:=by
 unfold tau
 rw [Z6 hz (by omega),←hk,Z1,List.set_append_right _ _ (Nat.le_refl _),Nat.sub_self];rfl
theorem vH(e:Int): ∀(l:List Int) (a:Int),(l.map (fun x=>x+e)).foldl max (a+e)=l.foldl max a+e
 | [],a=>rfl
 |x::l,a=>by
  simp only [List.map_cons,List.foldl_cons]
  rw [show max (a+e) (x+e)=max a x+e by omega,vH e l]
theorem vG(e:Int): ∀(l:List Int) (a:Int),(l.map (fun x=>x+e)).foldl min (a+e)=l.foldl min a+e
 | [],a=>rfl
 |x::l,a=>by
  simp only [List.map_cons,List.foldl_cons]
  rw [show min (a+e) (x+e)=min a x+e by omega,vG e l]
theorem aKu(e:Int){l:List Int}(h:l≠[]):mx (l.map (fun x=>x+e))=mx l+e:=by
 cases l with
 |nil=>exact absurd rfl h
 |cons a l=>exact vH e l a
theorem aKv(e:Int){l:List Int}(h:l≠[]):mn (l.map (fun x=>x+e))=mn l+e:=by
 cases l with
 |nil=>exact absurd rfl h
 |cons a l=>exact vG e l a
theorem aIX(a b e:Int):iL (a+e) (b+e)=(iL a b).map (fun v=>v+e):=by
 unfold iL
 rw [show b+e-(a+e)=b-a by omega,List.map_map]
 refine List.map_congr_left (fun i _=> ?_)
 show a+e+(i:Int)=a+(i:Int)+e
 omega
def lpN(l:Loop):Prop:=l.lo≠[]∧l.hi≠[]
theorem aJP{b:Affine}(hb:b.coefs.length=4){k:Nat}(h0:b.coefs.getD k 0=0){p:List Int}(hk:k<p.length){l:List Affine}(hl: ∀x∈l,bM x=true):yV (l.map (fB k b)) (tau k b p)=yV l p:=by
 unfold yV
 rw [List.map_map]
 exact iM (fun x hx=>aE4 (by rw [(dW (hl x hx)).1,hb]) h0 hk)
theorem aJO{b:Affine}(hb:b.coefs.length=4)(p:List Int){l:List Affine}(hl: ∀x∈l,bM x=true):yV (l.map (fun x=>fC x 1 b)) p=(yV l p).map (fun y=>y+bP b p):=by
 unfold yV
 rw [List.map_map,List.map_map]
 exact iM (fun x hx=>aJm (by rw [(dW (hl x hx)).1,hb]) p)
theorem kV{α β:Type}{f g:α→List β}{l:List α}(h: ∀x∈l,f x=g x):l.flatMap f=l.flatMap g:=by
 rw [List.flatMap_def,List.flatMap_def,iM h]
theorem aJJ{b:Affine}(hb:b.coefs.length=4){k:Nat}(hz:low k b): ∀(ls:List Loop) (p:List Int),(∀l∈ls,uX l)→k<p.length→pts (ls.map (cH (fB k b))) (tau k b p)=(pts ls p).map (tau k b)
 | [],p,_,_=>rfl
 |l::ls,p,h,hk=>by
  have hl:=h l List.mem_cons_self
  have e1:iZ (cH (fB k b) l) (tau k b p)=iZ l p:=by unfold iZ cH;rw [aJP hb (hz k (Nat.le_refl _)) hk hl.1.2]
  have e2:mI (cH (fB k b) l) (tau k b p)=mI l p:=by unfold mI cH;rw [aJP hb (hz k (Nat.le_refl _)) hk hl.2.2]
  simp only [List.map_cons,pts]
  rw [e1,e2,List.map_flatMap]
  refine kV (fun v _=> ?_)
  rw [←aIO hz hk]
  exact aJJ hb hz ls (p++[v]) (fun x hx=>h x (List.mem_cons_of_mem _ hx)) (by simp;omega)
theorem aLu{b:Affine}(hb:b.coefs.length=4){k:Nat}(hz:low k b){l:Loop}(hl:uX l)(hn:lpN l){ls:List Loop}(h: ∀l∈ls,uX l){p:List Int}(hk:p.length=k):
  pts (cH (fun x=>fC x 1 b) l::ls.map (cH (fB k b))) p=(pts (l::ls) p).map (tau k b):=by
 have e1:iZ (cH (fun x=>fC x 1 b) l) p=iZ l p+bP b p:=by
  unfold iZ cH
  rw [aJO hb p hl.1.2,aKu _ (by unfold yV;simpa using hn.1)]
 have e2:mI (cH (fun x=>fC x 1 b) l) p=mI l p+bP b p:=by
  unfold mI cH
  rw [aJO hb p hl.2.2,aKv _ (by unfold yV;simpa using hn.2)]
 simp only [pts]
 rw [e1,e2,aIX,List.flatMap_map,List.map_flatMap]
 refine kV (fun v _=> ?_)
 rw [←aKp hz hk]
 exact aJJ hb hz ls (p++[v]) h (by simp;omega)
theorem aJH{b:Affine}(hb:b.coefs.length=4){k:Nat}(hz:low k b){l:Loop}(hl:uX l)(hn:lpN l){ls:List Loop}(h: ∀l∈ls,uX l): ∀(os:List Loop) (p:List Int),p.length+os.length=k→
  pts (os++cH (fun x=>fC x 1 b) l::ls.map (cH (fB k b))) p=(pts (os++l::ls) p).map (tau k b)
 | [],p,hk=>aLu hb hz hl hn h (by simpa using hk)
 |o::os,p,hk=>by
  simp only [List.cons_append,pts]
  rw [List.map_flatMap]
  refine kV (fun v _=> ?_)
  exact aJH hb hz hl hn h os (p++[v]) (by simp at hk ⊢; omega)
theorem aGX{list:List Arr}{x:Part}(h:b7 list x=true): ∀l∈x.nest,lpN l:=fun l hl=>by
 obtain⟨i,hi⟩:=List.mem_iff_getElem?.1 hl
 have:=(aCX (fQ h).1).1.2 i l hi
 have h1:=(o9 this.1).1
 have h2:=(o9 this.2).1
 exact⟨fun e=>by rw [e] at h1;simp at h1,fun e=>by rw [e] at h2;simp at h2⟩
theorem oW{list:List Arr}{x:Part}(h:b7 list x=true):cP x=pts x.nest []:=(aCX (fQ h).1).2.2.2.1
theorem aFF{list:List Arr}{P:Part}(hP:b7 list P=true){k:Nat}{l:Loop}(hl:P.nest[k]? =some l){b:Affine}(hb:b.coefs.length=4)(hz:low k b)(hq:b7 list (pX k (fun x=>fC x 1 b) (fB k b) P l)=true):
  cP (pX k (fun x=>fC x 1 b) (fB k b) P l)=(cP P).map (tau k b):=by
 obtain⟨h1,h2⟩:=lY hP
 have hk:=(List.getElem?_eq_some_iff.1 hl).1
 rw [oW hq,oW hP]
 have e:P.nest=P.nest.take k++l::P.nest.drop (k+1):=by rw [←gI hl,List.take_append_drop]
 have:=aJH hb hz (h2 l (List.mem_of_getElem? hl)) (aGX hP l (List.mem_of_getElem? hl)) (ls:=P.nest.drop (k+1)) (fun y hy=>h2 y (List.mem_of_mem_drop hy)) (P.nest.take k) [] (by simp;omega)
 rw [←e] at this
 exact this
def sig(i k:Nat)(b:Affine)(x:Inst):Inst:=if x.part=(i:Int) then⟨x.part,x.stmt,tau k b x.point⟩ else x
theorem insts_set{ps:List Part}{i:Nat}{P P':Part}(hP:ps[i]? =some P){σ:Inst→Inst}(h1:instP i P'=(instP i P).map σ)(h2: ∀x,x.part≠(i:Int)→σ x=x):insts (ps.set i P')=(insts ps).map σ:=by
 unfold insts
 rw [List.map_flatMap]
 have e:(ps.set i P').zipIdx=ps.zipIdx.map (fun y=>if y.2=i then(P',i) else y):=by
  refine List.ext_getElem? (fun j=> ?_)
  rw [List.getElem?_zipIdx,List.getElem?_map,List.getElem?_zipIdx]
  by_cases hj:i=j
  ·subst hj
   rw [List.getElem?_set_self (List.getElem?_eq_some_iff.1 hP).1,hP]
   simp
  ·rw [List.getElem?_set_ne hj]
   cases ps[j]? with
   |none=>rfl
   |some y=>
    have: ¬j=i:=fun h=>hj h.symm
    simp [this]
 rw [e,List.flatMap_map]
 refine kV (fun y hy=> ?_)
 obtain⟨j,hj⟩:=List.mem_iff_getElem?.1 hy
 rw [List.getElem?_zipIdx] at hj
 cases hx:ps[j]? with
 |none=>rw [hx] at hj;cases hj
 |some x=>
  rw [hx] at hj
  simp at hj
  subst hj
  by_cases hji:j=i
  ·subst hji
   rw [hP] at hx
   cases hx
   simp [h1]
  ·simp only [if_neg hji]
   refine(aAQ (fun z hz=>h2 z ?_)).symm
   unfold instP at hz
   obtain⟨q,_,hz⟩:=List.mem_flatMap.1 hz
   obtain⟨t,_,rfl⟩:=List.mem_map.1 hz
   dsimp only
   omega
theorem instP_move{i k:Nat}{b:Affine}{P P':Part}(h1:cP P'=(cP P).map (tau k b))(h2:P'.body.length=P.body.length):instP i P'=(instP i P).map (sig i k b):=by
 unfold instP
 rw [h1,h2,List.flatMap_map,List.map_flatMap]
 refine kV (fun q _=> ?_)
 rw [List.map_map]
 refine iM (fun t _=> ?_)
 show _=sig i k b _
 unfold sig
 rw [if_pos rfl]
theorem W5{i k:Nat}{b:Affine}: ∀x:Inst,x.part≠(i:Int)→sig i k b x=x:=fun x hx=>by unfold sig;rw [if_neg hx]
theorem aJM{f:Affine→Affine}{t q:List Int}: ∀{ss:List Affine} (ds:List Int) (acc:Int),(∀x∈ss,bP (f x) t=bP x q)→lM (ss.map f) ds t acc=lM ss ds q acc
 | [],ds,acc,_=>by cases ds<;>rfl
 |s::ss,[],acc,_=>rfl
 |s::ss,d::ds,acc,h=>by
  simp only [List.map_cons,lM]
  rw [h s List.mem_cons_self]
  split
  ·exact aJM ds _ (fun x hx=>h x (List.mem_cons_of_mem _ hx))
  ·rfl
theorem aBi{f:Affine→Affine}{t q:List Int}{a:Access}(h: ∀x∈a.subs,bP (f x) t=bP x q): ∀(xs:List Arr) (base:Int),cO xs (eM f a) t base=cO xs a q base
 | [],_=>rfl
 |x::xs,base=>by
  have e1:lM (eM f a).subs x.dims t 0=lM a.subs x.dims q 0:=aJM _ _ h
  have e2:(eM f a).subs.length=a.subs.length:=by simp [eM]
  have e3:(eM f a).array=a.array:=rfl
  simp only [cO,e1,e2,e3,aBi h xs]
theorem aAG{d:Int}{f:Affine→Affine}: ∀{L:Nat} {e:Expr},dI L e d=true→b9 L (uW f L e)=(b9 L e).map (eM f)
 |0,_,h=>by cases h
 |L+1,e,h=>by
  obtain⟨hk,ho,hs⟩:=jJ h
  show(if e.kind=3 then [if e.kind=3 then eM f e.read else⟨[],[]⟩] else [])++(e.kids.map (uW f L)).flatMap (b9 L)=((if e.kind=3 then [e.read] else [])++e.kids.flatMap (b9 L)).map (eM f)
  rw [List.map_append,List.flatMap_map,List.map_flatMap]
  congr 1
  ·by_cases h3:e.kind=3
   ·simp only [if_pos h3];rfl
   ·simp only [if_neg h3];rfl
  ·exact kV (fun x hx=>aAG (hs x hx))
theorem aEw{d:Int}{f:Affine→Affine}{t q:List Int}(h: ∀x,bM x=true→bP (f x) t=bP x q)(list:List Arr)(m:List Int): ∀{L:Nat} {e:Expr},dI L e d=true→sE L list m (uW f L e) t=sE L list m e q
 |0,_,_=>rfl
 |L+1,e,he=>by
  obtain⟨hk,ho,hs⟩:=jJ he
  have e1:(uW f (L+1) e).kind=e.kind:=rfl
  have e2:(uW f (L+1) e).num=e.num:=rfl
  have e5:(uW f (L+1) e).kids=e.kids.map (uW f L):=rfl
  unfold sE
  rw [e1,e2,e5]
  by_cases h1:e.kind=1
  ·rw [if_pos h1,if_pos h1]
  ·rw [if_neg h1,if_neg h1]
   by_cases h2:e.kind=2
   ·have e3:(uW f (L+1) e).index=f e.index:=by show(if e.kind=2 then f e.index else _)=_;rw [if_pos h2]
    rw [if_pos h2,if_pos h2,e3,h _ (zE ho h2).1]
   ·rw [if_neg h2,if_neg h2]
    by_cases h3:e.kind=3
    ·have e4:(uW f (L+1) e).read=eM f e.read:=by show(if e.kind=3 then eM f e.read else _)=_;rw [if_pos h3]
     rw [if_pos h3,if_pos h3,e4,aBi (fun x hx=>h x ((sD (zD ho h3).1).2.2 x hx))]
    ·rw [if_neg h3,if_neg h3]
     obtain⟨kind,num,index,read,kids⟩:=e
     dsimp only at hs⊢
     match kids,hs with
     | [],_=>rfl
     | [a],_=>rfl
     | [a,c],hs=>
      simp only [List.map_cons,List.map_nil]
      rw [aEw h list m (hs a (by simp)),aEw h list m (hs c (by simp))]
     |a::c::e::r,_=>rfl
theorem L5{p:Prog}(hv:bX p=true){i k:Nat}{P:Part}{l:Loop}(hP:p.parts[i]? =some P)(hk:k<P.nest.length){g:Affine→Affine}{b:Affine}(hb:b.coefs.length=4)(h0:b.coefs.getD k 0=0){q:Prog}(hq:q=⟨p.arrays,p.parts.set i (pX k g (fB k b) P l)⟩){x:Inst}(hx:oJ p x):
  ∃s s' d,kI p x=some s∧kI q (sig i k b x)=some s'∧fK s d=true∧
   (∀a,gK a d=true→cO q.arrays (if x.part=(i:Int) then eM (fB k b) a else a) (sig i k b x).point 0=cO p.arrays a x.point 0)∧
   (s'.write=if x.part=(i:Int) then eM (fB k b) s.write else s.write)∧
   (b9 5 s'.value=(b9 5 s.value).map (fun a=>if x.part=(i:Int) then eM (fB k b) a else a))∧
   ∀m,sE 5 q.arrays m s'.value (sig i k b x).point=sE 5 p.arrays m s.value x.point:=by
 obtain⟨i',k',P',s,d,e1,e2,e3,e4,e5,e6,e7,e8⟩:=inst_d hv hx
 have hi:=(List.getElem?_eq_some_iff.1 hP).1
 subst hq
 by_cases hxi:x.part=(i:Int)
 ·obtain rfl:i'=i:=by omega
  rw [hP] at e3;cases e3
  have hpt:k<x.point.length:=by rw [e7.1];exact hk
  have hev: ∀y,bM y=true→bP (fB k b y) (tau k b x.point)=bP y x.point:=fun y hy=>aE4 (by rw [(dW hy).1,hb]) h0 hpt
  have hs:sig i' k b x=⟨x.part,x.stmt,tau k b x.point⟩:=by unfold sig;rw [if_pos hxi]
  refine⟨s,wD (fB k b) s,d,e5,?_,e6,fun a ha=> ?_,?_,?_,fun m=> ?_⟩
  ·rw [hs]
   unfold kI
   dsimp only
   rw [e1,Int.toNat_natCast,List.getElem?_set_self hi]
   show((P.body.map (wD (fB k b)))[x.stmt.toNat]?)=_
   rw [List.getElem?_map,e2,Int.toNat_natCast,e4];rfl
  ·rw [if_pos hxi,hs]
   exact aBi (fun y hy=>hev y ((sD ha).2.2 y hy)) _ _
  ·rw [if_pos hxi];rfl
  ·simp only [if_pos hxi]
   exact aAG (gW e6).2.1
  ·rw [hs]
   exact aEw hev _ m (gW e6).2.1
 ·have hs:sig i k b x=x:=W5 x hxi
  refine⟨s,s,d,e5,?_,e6,fun a ha=> ?_,?_,?_,fun m=> ?_⟩
  ·rw [hs,←e5]
   unfold kI
   dsimp only
   rw [List.getElem?_set_ne (by omega)]
  ·rw [if_neg hxi,hs]
  ·rw [if_neg hxi]
  ·simp only [if_neg hxi,List.map_id']
  ·rw [hs]
theorem X8{p:Prog}(hv:bX p=true){i k:Nat}{P:Part}{l:Loop}(hP:p.parts[i]? =some P)(hl:P.nest[k]? =some l){b:Affine}(hb:b.coefs.length=4)(hz:low k b){q:Prog}(hq:q=⟨p.arrays,p.parts.set i (pX k (fun x=>fC x 1 b) (fB k b) P l)⟩)(hw:bX q=true):
  insts q.parts=(insts p.parts).map (sig i k b)∧(∀x∈insts p.parts,rc q (sig i k b x)=rc p x∧wc q (sig i k b x)=wc p x)∧ ∀m,gQ q m (insts q.parts)=gQ p m (insts p.parts):=by
 have hi:=(List.getElem?_eq_some_iff.1 hP).1
 have hk:=(List.getElem?_eq_some_iff.1 hl).1
 have hok:=(jU hv).2.2.2.1 P (List.mem_of_getElem? hP)
 have hokq:b7 p.arrays (pX k (fun x=>fC x 1 b) (fB k b) P l)=true:=by
  have:=(jU hw).2.2.2.1
  subst hq
  exact this _ (List.mem_of_getElem? (List.getElem?_set_self hi))
 have e1:insts q.parts=(insts p.parts).map (sig i k b):=by
  rw [hq]
  exact insts_set hP (instP_move (aFF hok hl hb hz hokq) (by simp [pX])) W5
 refine⟨e1,fun x hx=> ?_,fun m=> ?_⟩
 ·obtain⟨s,s',d,s1,s2,s3,s4,s5,s6,s7⟩:=L5 hv hP hk (g:=fun x=>fC x 1 b) hb (hz k (Nat.le_refl _)) hq (insts_mem hx)
  obtain⟨c1,_,c3,_⟩:=gW s3
  unfold rc wc
  rw [s1,s2]
  dsimp only
  rw [s5,s6,List.map_map,s4 _ c1]
  exact⟨iM (fun a ha=>s4 a (c3 a ha)),rfl⟩
 ·unfold gQ
  rw [e1,List.foldl_map]
  refine wG (fun x hx m=> ?_)
  obtain⟨s,s',d,s1,s2,s3,s4,s5,s6,s7⟩:=L5 hv hP hk (g:=fun x=>fC x 1 b) hb (hz k (Nat.le_refl _)) hq (insts_mem hx)
  obtain⟨c1,_,c3,_⟩:=gW s3
  unfold qZ
  rw [s1,s2]
  dsimp only
  rw [s5,s4 _ c1,s7 m]
theorem aKx(s:Int)(k:Nat):low k (sA s):=fun j _=>by
 unfold sA
 rcases(show j=0∨j=1∨j=2∨j=3∨4≤j by omega) with rfl|rfl|rfl|rfl|h
 ·rfl
 ·rfl
 ·rfl
 ·rfl
 ·rw [List.getD_eq_getElem?_getD,List.getElem?_eq_none (by simpa using h)];rfl
theorem aKy(s:Int){k:Nat}(hk:k+1<4):low (k+1) (kA k s):=fun j hj=>by
 unfold kA
 rw [List.getD_eq_getElem?_getD,List.getElem?_set_ne (by omega)]
 rcases(show j=0∨j=1∨j=2∨j=3∨4≤j by omega) with rfl|rfl|rfl|rfl|h
 ·rfl
 ·rfl
 ·rfl
 ·rfl
 ·rw [List.getElem?_eq_none (by simpa using h)];rfl
theorem aIS{p q:Prog}{part loop s:Int}(h:sB p part loop s=(q,true)):iT p part loop=true∧iT p part (loop+1)=true∧(-6≤s∧s≤6)∧wB p part (loop+1) (fun x=>fC x 1 (kA loop.toNat s)) (fB (loop.toNat+1) (kA loop.toNat s))=(q,true):=by
 unfold sB at h
 split at h
 ·rename_i hc;exact⟨hc.1,hc.2.1,hc.2.2,h⟩
 ·cases h
def isP(p:Prog)(a:Int):Bool:=decide (0≤a∧a<(p.parts.length:Int))
theorem aDt{b:Bool}(h:(!b)=true):b=false:=by cases b with
 |false=>rfl
 |true=>cases h
theorem aDu{b:Bool}(h:(!b)=false):b=true:=by cases b with
 |false=>cases h
 |true=>rfl
theorem aH2{p:Prog}(hv:bX p=true){x:Inst}(hx:oJ p x): ∀{Y:List Inst} {m:List Int},(∀y∈Y,oJ p y)→(∀y∈Y,com p x y)→S8 p.arrays m→gQ p (qZ p m x) Y=qZ p (gQ p m Y) x
 | [],m,_,_,_=>rfl
 |y::Y,m,h1,h2,hm=>by
  show gQ p (qZ p (qZ p m x) y) Y=qZ p (gQ p (qZ p m y) Y) x
  rw [h2 y List.mem_cons_self m hm]
  exact aH2 hv hx (fun z hz=>h1 z (List.mem_cons_of_mem _ hz)) (fun z hz=>h2 z (List.mem_cons_of_mem _ hz)) (aEE hv hm (h1 y List.mem_cons_self))
theorem block{p:Prog}(hv:bX p=true): ∀{X Y:List Inst} {m:List Int},(∀x∈X,oJ p x)→(∀y∈Y,oJ p y)→(∀x∈X,∀y∈Y,com p x y)→S8 p.arrays m→gQ p (gQ p m X) Y=gQ p (gQ p m Y) X
 | [],Y,m,_,_,_,_=>rfl
 |x::X,Y,m,h1,h2,h3,hm=>by
  show gQ p (gQ p (qZ p m x) X) Y=gQ p (qZ p (gQ p m Y) x) X
  rw [block hv (fun z hz=>h1 z (List.mem_cons_of_mem _ hz)) h2 (fun z hz=>h3 z (List.mem_cons_of_mem _ hz)) (aEE hv hm (h1 x List.mem_cons_self)),aH2 hv (h1 x List.mem_cons_self) h2 (h3 x List.mem_cons_self) hm]
theorem aF1{n:Nat}(hn:7000≤n){p:Prog}(hp:BG 1000 p)(part:Int):iP n p part (-1)=some (if bX p=true∧isP p part=true then(p,true) else noP):=by
 unfold iP
 refine Ev.eq (Ev.jn (fun z=>z= !(bX p&&isP p part)) (fun j hj=> ?_) (fun z hz=> ?_))
 ·refine aB (eZ hn hp.sm) (Ev.cond (fun h=>hj _ (by rw [aDt h];rfl)) (fun h=> ?_))
  have hv:=aDu h
  refine aB (uK n hp.2.1 part) (Ev.cond (fun h2=>hj _ ?_) (fun h2=>iY (fun h=>(h rfl).elim) (fun _=>hj _ ?_)))
  ·rw [hv,show isP p part=false from aDt h2];rfl
  ·rw [hv,show isP p part=true from aDu h2];rfl
 ·subst hz
  refine Ev.cond (fun h=>Ev.some ?_) (fun h=> ?_)
  ·have:=aDt h
   rw [if_neg (fun hc=>by rw [hc.1,hc.2] at this;cases this)];rfl
  ·have:=aDu h
   simp only [Bool.and_eq_true] at this
   obtain⟨hv,hi⟩:=this
   rw [if_pos ⟨hv,hi⟩]
   have hi':0≤part∧part<(p.parts.length:Int):=of_decide_eq_true hi
   obtain⟨x,hx,_⟩:=i8 hi'.1 hi'.2
   exact aB (aAH (by omega) hv) (aB hx (Ev.some rfl))
def nA(k:Nat)(x:Affine):Affine:=⟨(x.coefs.take k++0::x.coefs.drop k).take 4,x.const⟩
def zA(c:Int):Affine:=⟨[0,0,0,0],c⟩
def vA(k:Nat)(s c:Int):Affine:=⟨[0,0,0,0].set k s,c⟩
theorem aEV(k:Nat): ∀x,bM x=true→BA 4 (nA k x):=fun x hx=>by
 unfold BA nA
 rw [List.length_take];omega
theorem aFq{n:Nat}(hn:5000≤n){k:Nat}(hk:k<3): ∀x,bM x=true→fH n x (k:Int)=some (nA k x):=fun x hx=>by
 obtain⟨h1,_,_⟩:=dW hx
 obtain⟨a,b,c,d,e⟩:=T8 h1
 unfold fH
 rw [zF n x hx]
 obtain⟨cs,k0⟩:=x
 dsimp only at e
 subst e
 rcases(show k=0∨k=1∨k=2 by omega) with rfl|rfl|rfl<;>rfl
def C4(l:List Affine):Bool:=l.all (fun a=>decide (dQ a.coefs=0))
def uY(l:Loop):Bool:=decide (l.lo.length=1)&&(decide (l.hi.length=1)&&(C4 l.lo&&C4 l.hi))
def m9(l:List Affine):Int:=(l.headD ⟨[],0⟩).const
theorem M6{n:Nat}(hn:5000≤n){l:List Affine}(h1:l.length≤2)(h2: ∀x∈l,bM x=true):nM n l=some (C4 l):=by
 unfold nM
 rw [mT (p:=fun a=>decide (0<(dQ a.coefs:Int))) (fun x hx=>by
  unfold l9
  rw [wF hn (show x.coefs.length≤1000 by have:=(dW (h2 x hx)).1;omega)];rfl) (by omega) (by omega)]
 show some (!l.any _)=_
 congr 1
 unfold C4
 rw [List.not_any_eq_all_not]
 congr 1
 funext a
 by_cases h:dQ a.coefs=0
 ·simp [h]
 ·have:0<(dQ a.coefs:Int):=by omega
  simp [h];omega
theorem aHk{n:Nat}(hn:5000≤n){l:Loop}(h:uX l):kU n l=some (if uY l=true then(m9 l.lo,m9 l.hi,true) else(0,0,false)):=by
 obtain⟨⟨h1,h2⟩,h3,h4⟩:=h
 unfold kU
 refine Ev.eq (Ev.jn (fun z=>z= !uY l) (fun j hj=> ?_) (fun z hz=> ?_))
 ·refine iY (fun h=>hj _ ?_) (fun h=>iY (fun h'=>hj _ ?_) (fun h'=>aB (M6 hn h1 h2) (Ev.cond (fun h5=>hj _ ?_) (fun h5=>aB (M6 hn h3 h4) (hj _ ?_)))))
  ·unfold uY;rw [decide_eq_false (show¬l.lo.length=1 by omega)];rfl
  ·unfold uY;rw [decide_eq_false (show¬l.hi.length=1 by omega),Bool.false_and,Bool.and_false];rfl
  ·unfold uY;rw [show C4 l.lo=false by simpa using h5];simp
  ·unfold uY;rw [show C4 l.lo=true by simpa using h5,decide_eq_true (show l.lo.length=1 by omega),decide_eq_true (show l.hi.length=1 by omega)];rfl
 ·subst hz
  cases hf:uY l with
  |false=>exact cD (Ev.some rfl)
  |true=>
   refine cE ?_
   unfold uY at hf
   simp only [Bool.and_eq_true,decide_eq_true_eq] at hf
   obtain⟨e1,e2,_⟩:=hf
   obtain⟨x,hx⟩:=List.length_eq_one_iff.1 e1
   obtain⟨y,hy⟩:=List.length_eq_one_iff.1 e2
   rw [hx,hy]
   exact aB (x:=x) rfl (aB (x:=y) rfl (Ev.some rfl))
def wK(lo hi s:Int):Int:=Int.tdiv (max 0 (hi-lo)+s-1) s
def kH(k:Nat)(s:Int)(P:Part)(l:Loop):Part:=
 ⟨P.nest.take k++(⟨[zA 0],[zA (wK (m9 l.lo) (m9 l.hi) s)]⟩:Loop)::(⟨[zA (m9 l.lo),vA k s (m9 l.lo)],[zA (m9 l.hi),vA k s (m9 l.lo+s)]⟩:Loop)::(P.nest.drop (k+1)).map (cH (nA k)),P.body.map (wD (nA k))⟩
def qT(p:Prog)(part loop s:Int):Prog×Bool:=
 match ix p.parts part with
 |some P=>match ix P.nest loop with
  |some l=>if iT p part loop=true∧P.nest.length<4∧(1≤s∧s≤6)∧uY l=true then E6 ⟨p.arrays,p.parts.set part.toNat (kH loop.toNat s P l)⟩ else noP
  |none=>noP
 |none=>noP
theorem t7{p:Prog}{part loop s:Int}(h:iT p part loop≠true):qT p part loop s=noP:=by
 unfold qT
 split
 ·split
  ·rw [if_neg (fun hc=>h hc.1)]
  ·rfl
 ·rfl
theorem yY{p:Prog}{i k:Nat}{P:Part}{l:Loop}(hP:p.parts[i]? =some P)(hl:P.nest[k]? =some l)(s:Int):
  qT p (i:Int) (k:Int) s=if iT p (i:Int) (k:Int)=true∧P.nest.length<4∧(1≤s∧s≤6)∧uY l=true then E6 ⟨p.arrays,p.parts.set i (kH k s P l)⟩ else noP:=by
 unfold qT
 rw [aQ hP]
 dsimp only
 rw [aQ hl]
 rfl
theorem aCf{l:Loop}(h:uX l)(hf:uY l=true): ∃a b,l=⟨[a],[b]⟩∧a=zA (m9 l.lo)∧b=zA (m9 l.hi)∧oK 99 (m9 l.lo)∧oK 99 (m9 l.hi):=by
 obtain⟨⟨h1,h2⟩,h3,h4⟩:=h
 unfold uY at hf
 simp only [Bool.and_eq_true,decide_eq_true_eq] at hf
 obtain⟨e1,e2,f1,f2⟩:=hf
 obtain⟨lo,hi⟩:=l
 dsimp only at*
 obtain⟨x,hx⟩:=List.length_eq_one_iff.1 e1
 obtain⟨y,hy⟩:=List.length_eq_one_iff.1 e2
 subst hx;subst hy
 have key: ∀z:Affine,bM z=true→C4 [z]=true→z=zA z.const:=fun z hz hf=>by
  obtain⟨g1,_,_⟩:=dW hz
  obtain⟨a,b,c,d,e⟩:=T8 g1
  obtain⟨cs,k0⟩:=z
  dsimp only at e
  subst e
  unfold C4 at hf
  simp only [List.all_cons,List.all_nil,Bool.and_true,decide_eq_true_eq] at hf
  have h0:=mJ (l:=[a,b,c,d]) (i:=0) rfl (by omega)
  have h1:=mJ (l:=[a,b,c,d]) (i:=1) rfl (by omega)
  have h2:=mJ (l:=[a,b,c,d]) (i:=2) rfl (by omega)
  have h3:=mJ (l:=[a,b,c,d]) (i:=3) rfl (by omega)
  rw [h0,h1,h2,h3];rfl
 exact⟨x,y,rfl,key x (h2 x (by simp)) f1,key y (h4 y (by simp)) f2,(dW (h2 x (by simp))).2.1,(dW (h4 y (by simp))).2.1⟩
theorem aLO{lo hi s:Int}(h1:oK 99 lo)(h2:oK 99 hi)(hs:1≤s∧s≤6):0≤wK lo hi s∧wK lo hi s≤198:=by
 unfold oK at h1 h2
 unfold wK
 rw [Int.tdiv_eq_ediv_of_nonneg (by omega)]
 refine⟨Int.ediv_nonneg (by omega) (by omega),?_⟩
 refine Int.le_trans (Int.ediv_le_ediv (a:=max 0 (hi-lo)+s-1) (b:=198*s) (by omega) ?_) (by rw [Int.mul_ediv_cancel _ (by omega)];omega)
 have:0≤(198-max 0 (hi-lo))*(s-1):=Int.mul_nonneg (by omega) (by omega)
 have e:(198-max 0 (hi-lo))*(s-1)=198*s-198-max 0 (hi-lo)*(s-1):=by
  rw [Int.sub_mul,Int.mul_sub];omega
 have e2:max 0 (hi-lo)*(s-1)≥0:=Int.mul_nonneg (by omega) (by omega)
 rcases(show s=1∨s=2∨s=3∨s=4∨s=5∨s=6 by omega) with rfl|rfl|rfl|rfl|rfl|rfl<;>omega
theorem aBQ{list:List Arr}{P:Part}(hP:b7 list P=true){k:Nat}{l:Loop}(h4:P.nest.length<4)(hk:k<P.nest.length)(s:Int):BPt 4 (kH k s P l):=by
 obtain⟨h1,h2⟩:=lY hP
 obtain⟨_,h5,h6,_⟩:=fQ hP
 refine⟨⟨by simp only [kH,List.length_append,List.length_cons,List.length_map,List.length_take,List.length_drop];omega,fun y hy=> ?_⟩,by simp only [kH,List.length_map];exact h5.2,fun s hs=> ?_⟩
 ·have hz: ∀c,BA 4 (zA c):=fun c=>by unfold BA zA;simp
  have hv: ∀s c,BA 4 (vA k s c):=fun s c=>by unfold BA vA;simp
  rcases List.mem_append.1 hy with hy|hy
  ·exact((aH0 hP).1.2 y (List.mem_of_mem_take hy))
  ·rcases List.mem_cons.1 hy with rfl|hy
   ·exact⟨⟨by simp,fun a ha=>by simp at ha;subst ha;exact hz _⟩,by simp,fun a ha=>by simp at ha;subst ha;exact hz _⟩
   ·rcases List.mem_cons.1 hy with rfl|hy
    ·exact⟨⟨by simp,fun a ha=>by simp at ha;rcases ha with rfl|rfl;exact hz _;exact hv _ _⟩,by simp,fun a ha=>by simp at ha;rcases ha with rfl|rfl;exact hz _;exact hv _ _⟩
    ·obtain⟨z,hz,rfl⟩:=List.mem_map.1 hy
     exact aBo (aEV k) (h2 z (List.mem_of_mem_drop hz))
 ·obtain⟨z,hz,rfl⟩:=List.mem_map.1 hs
  exact aHZ (aEV k) (h6 z hz)
theorem aFp{p:Prog}(hp:BG 1000 p)(part loop s:Int):BG 1000 (qT p part loop s).1:=by
 by_cases hc:iT p part loop=true
 ·obtain⟨hv,i,k,P,l,rfl,rfl,hP,hl,hi,hkl,hok,hk⟩:=pE hc
  rw [yY hP hl]
  split
  ·rename_i h
   exact aE1 (S5 hp i (aBQ hok h.2.1 hkl s))
  ·exact aAJ
 ·rw [t7 hc];exact aAJ
theorem Y8(n:Nat){k:Nat}(hk:k<4)(s:Int):fE n (k:Int) s=some (vA k s 0):=by
 rcases(show k=0∨k=1∨k=2∨k=3 by omega) with rfl|rfl|rfl|rfl<;>rfl
theorem uR(n:Nat)(c:Int):fG n c=some (zA c):=rfl
theorem aKT{lo hi s:Int}(h1:oK 99 lo)(h2:oK 99 hi)(hs:1≤s∧s≤6):wr (Int.tdiv (wr ((wr ((max 0 (wr (hi-lo)))+s))-1)) s)=wK lo hi s:=by
 obtain⟨c1,c2⟩:=aLO h1 h2 hs
 unfold oK at h1 h2
 rw [aM (n:=hi-lo) (by omega),aM (n:=max 0 (hi-lo)+s) (by omega),aM (n:=max 0 (hi-lo)+s-1) (by omega)]
 exact aM (by unfold wK at c1 c2;omega)
theorem aKH{n:Nat}{l:List Loop}{k:Nat}(hk:k≤l.length)(hl:l.length≤1000)(v:Loop):gO n l (k:Int) [v]=some (l.take k++[v]++l.drop k):=by
 unfold gO
 rw [decide_eq_true (show(0:Int)≤(k:Int) by omega),decide_eq_true (show(k:Int)≤(l.length:Int) by omega)]
 rw [Int.toNat_natCast]
 exact bT (by simp;omega)
theorem aDG{n:Nat}(hn:7000≤n){p:Prog}(hp:BG 1000 p)(part loop s:Int):mD n p part loop s=some (qT p part loop s):=by
 unfold mD
 by_cases hneg:loop= -1
 ·subst hneg
  rw [t7 (by rw [xX (by omega)];simp)]
  refine Ev.eq (aB (aF1 hn hp part) ?_)
  by_cases hc:bX p=true∧isP p part=true
  ·rw [if_pos hc]
   have hi:=hc.2
   unfold isP at hi
   simp only [decide_eq_true_eq] at hi
   obtain⟨x,hx,_⟩:=i8 hi.1 hi.2
   exact cD (aB hx (Ev.jn (fun z=>z=true) (fun j hj=>aG (fun _=>hj _ rfl) (fun h=>absurd (show(-1:Int)<0 by omega) h)) (fun z hz=>by rw [hz];exact cD (Ev.some rfl))))
  ·rw [if_neg hc]
   exact cE (Ev.some rfl)
 refine Ev.eq (aB (S6 hn hp part loop hneg) ?_)
 by_cases hb:iT p part loop=true
 ·rw [if_pos hb]
  obtain⟨hv,i,k,P,l,rfl,rfl,hP,hl,hi,hkl,hok,hk⟩:=pE hb
  obtain⟨h1,h2⟩:=lY hok
  obtain⟨_,h4,h5,_⟩:=fQ hok
  have hlp:=h2 l (List.mem_of_getElem? hl)
  rw [yY hP hl]
  refine cD (aB (aQ hP) (Ev.jn (fun z=>z= !(decide (P.nest.length<4)&&decide (1≤s∧s≤6))) (fun j hj=> ?_) (fun z hz=> ?_)))
  ·refine aG (fun h=>absurd h (by omega)) (fun _=>aG (fun h=>hj _ ?_) (fun h=>aB (dU n s 1 6) (hj _ ?_)))
   ·rw [decide_eq_false (show¬P.nest.length<4 by omega)];rfl
   ·rw [decide_eq_true (show P.nest.length<4 by omega)];rfl
  ·subst hz
   by_cases h4n:P.nest.length<4
   ·by_cases hs:1≤s∧s≤6
    ·rw [decide_eq_true h4n,decide_eq_true hs]
     refine cE (aB (aQ hl) (aB (aHk (by omega) hlp) ?_))
     by_cases hf:uY l=true
     ·rw [if_pos hf,if_pos ⟨hb,h4n,hs,hf⟩]
      obtain⟨a,b,_,_,_,b1,b2⟩:=aCf hlp hf
      have hch:=pA (n:=n) (by omega) (nest:=P.nest) (body:=P.body) (s:=k) (by omega) h1 (fun y hy=>h2 y (List.mem_of_mem_drop hy)) h4.2 h5 (F:=fun q0=>fH n q0 (k:Int)) (aFq (by omega) (by omega))
      have hx8:(P.nest.take k++(P.nest.drop k).map (cH (nA k)))[k]? =some (cH (nA k) l):=by
       rw [gI hl,List.getElem?_append_right (by rw [List.length_take];omega),List.length_take,Nat.min_eq_left (by omega),Nat.sub_self];rfl
      refine cD (aB hch (aB (dJ (by dsimp only;omega) _) (aB (x:=()) (by unfold nzc;rw [if_neg (by omega)]) (aB (Y8 n hk s) (aB (Y8 n hk s) (aB (uR n _) (aB (uR n _) (aB (aQ hx8) (aB (dJ (by simp;omega) _) (aB (uR n 0) (aB (uR n _) (aB (aKH (by simp;omega) (by simp;omega) _) (aB (dJ (by simp;omega) _) ?_)))))))))))))
      dsimp only
      unfold oK at b1 b2
      rw [Int.toNat_natCast,Int.toNat_natCast,List.set_set,aM (n:=m9 l.lo+s) (by omega),aKT ⟨by omega,by omega⟩ ⟨by omega,by omega⟩ hs]
      have hd:P.nest.drop k=l::P.nest.drop (k+1):=gI hl
      have hlen:(P.nest.take k).length=k:=by rw [List.length_take];omega
      have hm: ∀R S:Loop,(((P.nest.take k++(P.nest.drop k).map (cH (nA k))).set k R).take k++[S]++((P.nest.take k++(P.nest.drop k).map (cH (nA k))).set k R).drop k)=P.nest.take k++S::R::(P.nest.drop (k+1)).map (cH (nA k)):=fun R S=>by
       rw [hd,List.map_cons,List.set_append_right _ _ (by omega),hlen,Nat.sub_self,List.set_cons_zero,List.take_append_of_le_length (by omega),List.take_of_length_le (by omega),List.drop_append_of_le_length (by omega),List.drop_of_length_le (by omega)]
       simp
      rw [hm]
      exact aB (tP hn (S5 hp i (aBQ hok h4n hkl s))) (Ev.some rfl)
     ·rw [if_neg hf,if_neg (fun h=>hf h.2.2.2)]
      exact cE (Ev.some rfl)
    ·rw [if_neg (fun h=>hs h.2.2.1),decide_eq_false hs,Bool.and_false]
     exact cD (Ev.some rfl)
   ·rw [if_neg (fun h=>h4n h.2.1),decide_eq_false h4n]
    exact cD (Ev.some rfl)
 ·rw [if_neg hb,t7 hb]
  exact cE (Ev.some rfl)
theorem aA2(c:Int)(p:List Int):bP (zA c) p=c:=by
 unfold bP zA
 match p with
 | []=>simp [o1]
 | [a]=>simp [o1]
 | [a,b]=>simp [o1]
 | [a,b,d]=>simp [o1]
 |a::b::d::e::r=>simp [o1]
theorem aHn{k:Nat}(hk:k<4){p:List Int}(hp:p.length=k)(s c t:Int):bP (vA k s c) (p++[t])=c+s*t:=by
 unfold bP vA
 rcases(show k=0∨k=1∨k=2∨k=3 by omega) with rfl|rfl|rfl|rfl
 ·obtain rfl:=List.length_eq_zero_iff.1 hp
  simp [o1]
 ·obtain⟨a,rfl⟩:=List.length_eq_one_iff.1 hp
  simp [o1]
 ·match p,hp with
  | [a,b],_=>simp [o1]
 ·match p,hp with
  | [a,b,d],_=>simp [o1]
def sg(k:Nat)(lo s:Int)(p:List Int):List Int:=p.take k++(p.getD k 0-lo) / s::p.drop k
theorem aKs{k:Nat}{lo s:Int}{p:List Int}(hk:k<p.length)(v:Int):sg k lo s (p++[v])=sg k lo s p++[v]:=by
 unfold sg
 rw [List.take_append_of_le_length (by omega),Z0 hk,List.drop_append_of_le_length (by omega)]
 simp
theorem aLr{k:Nat}{lo s:Int}{p:List Int}(hk:p.length=k){v t:Int}(h1:lo+s*t≤v)(h2:v<lo+s*t+s):sg k lo s (p++[v])=p++[t]++[v]:=by
 subst hk
 unfold sg
 rw [List.take_append_of_le_length (Nat.le_refl _),List.take_length,Z1,List.drop_append_of_le_length (Nat.le_refl _),List.drop_length]
 have e:(v-lo) / s=t:=by
  rw [show v-lo=(v-lo-s*t)+s*t by omega,Int.add_mul_ediv_left _ _ (by omega),Int.ediv_eq_zero_of_lt (by omega) (by omega)]
  omega
 rw [e];simp
theorem aE3{k:Nat}{lo s:Int}{x:Affine}(hx:bM x=true){p:List Int}(hk:k<p.length)(h3:p.length≤3):bP (nA k x) (sg k lo s p)=bP x p:=by
 obtain⟨a,b,c,d,e⟩:=T8 (dW hx).1
 obtain⟨cs,k0⟩:=x
 dsimp only at e
 subst e
 unfold bP nA sg
 match p,hk,h3 with
 | [u],hk,_=>
  obtain rfl:k=0:=by simp at hk;omega
  simp [o1]
 | [u,v],hk,_=>
  rcases(show k=0∨k=1 by simp at hk;omega) with rfl|rfl<;>simp [o1]
 | [u,v,w],hk,_=>
  rcases(show k=0∨k=1∨k=2 by simp at hk;omega) with rfl|rfl|rfl<;>simp [o1]
theorem aEF{a b:Int}(h1:a≤b): ∀n:Nat,iL a b++iL b (b+n)=iL a (b+n)
 |0=>by rw [show b+((0:Nat):Int)=b by omega,eU (Int.le_refl b),List.append_nil]
 |n+1=>by
  rw [show b+((n+1:Nat):Int)=b+n+1 by omega,jF (show b≤b+(n:Int) by omega),jF (show a≤b+(n:Int) by omega),←List.append_assoc,aEF h1 n]
theorem aGR{a b c:Int}(h1:a≤b)(h2:b≤c):iL a b++iL b c=iL a c:=by
 have:=aEF h1 (c-b).toNat
 rwa [show b+(((c-b).toNat:Nat):Int)=c by omega] at this
theorem K0{lo hi s:Int}(hs:0<s): ∀n:Nat,(iL 0 (n:Int)).flatMap (fun t=>iL (lo+s*t) (min hi (lo+s*t+s)))=iL lo (min hi (lo+s*(n:Int)))
 |0=>by
  have h9:s*((0:Nat):Int)=0:=Int.mul_zero s
  rw [eU (by omega),eU (by omega)];rfl
 |n+1=>by
  have h0:0≤s*(n:Int):=Int.mul_nonneg (by omega) (by omega)
  have e1:s*((n+1:Nat):Int)=s*(n:Int)+s:=by rw [show((n+1:Nat):Int)=(n:Int)+1 by omega,Int.mul_add,Int.mul_one]
  rw [show((n+1:Nat):Int)=(n:Int)+1 by omega,jF (by omega),List.flatMap_append,K0 hs n]
  simp only [List.flatMap_cons,List.flatMap_nil,List.append_nil]
  rw [show s*((n:Int)+1)=s*(n:Int)+s by rw [Int.mul_add,Int.mul_one]]
  by_cases h:hi≤lo+s*(n:Int)
  ·rw [eU (show min hi (lo+s*(n:Int)+s)≤lo+s*(n:Int) by omega),List.append_nil]
   congr 1;omega
  ·rw [show min hi (lo+s*(n:Int))=lo+s*(n:Int) by omega,aGR (by omega) (by omega)]
   congr 1;omega
theorem aFA{lo hi s:Int}(hs:1≤s):iL lo hi=(iL 0 (wK lo hi s)).flatMap (fun t=>iL (lo+s*t) (min hi (lo+s*t+s))):=by
 have hq:wK lo hi s=(max 0 (hi-lo)+s-1) / s:=by unfold wK;exact Int.tdiv_eq_ediv_of_nonneg (by omega)
 have h0:0≤wK lo hi s:=by rw [hq];exact Int.ediv_nonneg (by omega) (by omega)
 have h1:=Int.lt_ediv_add_one_mul_self (max 0 (hi-lo)+s-1) (show 0<s by omega)
 rw [←hq,Int.add_mul,Int.one_mul,Int.mul_comm] at h1
 have:=K0 (lo:=lo) (hi:=hi) (show 0<s by omega) (wK lo hi s).toNat
 rw [show(((wK lo hi s).toNat:Nat):Int)=wK lo hi s by omega] at this
 rw [this]
 congr 1;omega
theorem aJI{k:Nat}{lo s:Int}: ∀(ls:List Loop) (p:List Int),(∀l∈ls,uX l)→k<p.length→p.length+ls.length≤3→pts (ls.map (cH (nA k))) (sg k lo s p)=(pts ls p).map (sg k lo s)
 | [],p,_,_,_=>rfl
 |l::ls,p,h,hk,h3=>by
  have hl:=h l List.mem_cons_self
  have h3':p.length+(ls.length+1)≤3:=by simpa using h3
  have ev: ∀{as:List Affine},(∀x∈as,bM x=true)→yV (as.map (nA k)) (sg k lo s p)=yV as p:=fun ha=>by
   unfold yV
   rw [List.map_map]
   exact iM (fun x hx=>aE3 (ha x hx) hk (by omega))
  have e1:iZ (cH (nA k) l) (sg k lo s p)=iZ l p:=by unfold iZ cH;rw [ev hl.1.2]
  have e2:mI (cH (nA k) l) (sg k lo s p)=mI l p:=by unfold mI cH;rw [ev hl.2.2]
  simp only [List.map_cons,pts]
  rw [e1,e2,List.map_flatMap]
  refine kV (fun v _=> ?_)
  rw [←aKs hk]
  exact aJI ls (p++[v]) (fun x hx=>h x (List.mem_cons_of_mem _ hx)) (by simp;omega) (by simp;omega)
theorem aI0{k:Nat}{lo hi s:Int}(hs:1≤s){ls:List Loop}(h: ∀l∈ls,uX l){p:List Int}(hk:p.length=k)(h3:k+1+ls.length≤3):
  pts ((⟨[zA 0],[zA (wK lo hi s)]⟩:Loop)::(⟨[zA lo,vA k s lo],[zA hi,vA k s (lo+s)]⟩:Loop)::ls.map (cH (nA k))) p=(pts ((⟨[zA lo],[zA hi]⟩:Loop)::ls) p).map (sg k lo s):=by
 have z1: ∀(c:Int) (q:List Int) (x:List Affine),iZ ⟨[zA c],x⟩ q=c:=fun c q x=>by unfold iZ yV;simp [mx,aA2]
 have z2: ∀(c:Int) (q:List Int) (x:List Affine),mI ⟨x,[zA c]⟩ q=c:=fun c q x=>by unfold mI yV;simp [mn,aA2]
 simp only [pts,z1,z2]
 rw [List.map_flatMap,aFA (lo:=lo) (hi:=hi) hs,List.flatMap_assoc]
 refine kV (fun t ht=> ?_)
 have ht:=(aAF.1 ht).1
 have h0:0≤s*t:=Int.mul_nonneg (by omega) ht
 have y1:iZ ⟨[zA lo,vA k s lo],[zA hi,vA k s (lo+s)]⟩ (p++[t])=lo+s*t:=by
  unfold iZ yV
  simp only [List.map_cons,List.map_nil,mx,List.foldl_cons,List.foldl_nil,aA2,aHn (show k<4 by omega) hk]
  omega
 have y2:mI ⟨[zA lo,vA k s lo],[zA hi,vA k s (lo+s)]⟩ (p++[t])=min hi (lo+s*t+s):=by
  unfold mI yV
  simp only [List.map_cons,List.map_nil,mn,List.foldl_cons,List.foldl_nil,aA2,aHn (show k<4 by omega) hk]
  omega
 rw [y1,y2]
 refine kV (fun v hv=> ?_)
 obtain⟨v1,v2⟩:=aAF.1 hv
 rw [←aLr hk v1 (by omega)]
 exact aJI ls (p++[v]) h (by simp;omega) (by simp;omega)
theorem aEH{k:Nat}{lo hi s:Int}(hs:1≤s){ls:List Loop}(h: ∀l∈ls,uX l)(h3:k+1+ls.length≤3): ∀(os:List Loop) (p:List Int),p.length+os.length=k→
  pts (os++(⟨[zA 0],[zA (wK lo hi s)]⟩:Loop)::(⟨[zA lo,vA k s lo],[zA hi,vA k s (lo+s)]⟩:Loop)::ls.map (cH (nA k))) p=(pts (os++(⟨[zA lo],[zA hi]⟩:Loop)::ls) p).map (sg k lo s)
 | [],p,hk=>aI0 hs h (by simpa using hk) h3
 |o::os,p,hk=>by
  simp only [List.cons_append,pts]
  rw [List.map_flatMap]
  refine kV (fun v _=> ?_)
  exact aEH hs h h3 os (p++[v]) (by simp at hk ⊢; omega)
theorem aFn{list:List Arr}{P:Part}(hP:b7 list P=true){k:Nat}{l:Loop}(hl:P.nest[k]? =some l){s:Int}(hs:1≤s)(h4:P.nest.length<4)(hf:uY l=true)(hq:b7 list (kH k s P l)=true):
  cP (kH k s P l)=(cP P).map (sg k (m9 l.lo) s):=by
 obtain⟨h1,h2⟩:=lY hP
 have hk:=(List.getElem?_eq_some_iff.1 hl).1
 obtain⟨a,b,e0,e1,e2,_,_⟩:=aCf (h2 l (List.mem_of_getElem? hl)) hf
 rw [oW hq,oW hP]
 have e:P.nest=P.nest.take k++l::P.nest.drop (k+1):=by rw [←gI hl,List.take_append_drop]
 have:=aEH (k:=k) (lo:=m9 l.lo) (hi:=m9 l.hi) hs (ls:=P.nest.drop (k+1)) (fun y hy=>h2 y (List.mem_of_mem_drop hy)) (by rw [List.length_drop];omega) (P.nest.take k) [] (by simp;omega)
 have el:(⟨[zA (m9 l.lo)],[zA (m9 l.hi)]⟩:Loop)=l:=by rw [←e1,←e2];exact e0.symm
 rw [el,←e] at this
 exact this
def vW(i k:Nat)(lo s:Int)(x:Inst):Inst:=if x.part=(i:Int) then⟨x.part,x.stmt,sg k lo s x.point⟩ else x
theorem I8{i k:Nat}{lo s:Int}: ∀x:Inst,x.part≠(i:Int)→vW i k lo s x=x:=fun x hx=>by unfold vW;rw [if_neg hx]
theorem instP_strip{i k:Nat}{lo s:Int}{P P':Part}(h1:cP P'=(cP P).map (sg k lo s))(h2:P'.body.length=P.body.length):instP i P'=(instP i P).map (vW i k lo s):=by
 unfold instP
 rw [h1,h2,List.flatMap_map,List.map_flatMap]
 refine kV (fun q _=> ?_)
 rw [List.map_map]
 refine iM (fun t _=> ?_)
 show _=vW i k lo s _
 unfold vW
 rw [if_pos rfl]
theorem I5{p:Prog}(hv:bX p=true){i k:Nat}{P:Part}{l:Loop}(hP:p.parts[i]? =some P)(hk:k<P.nest.length)(h4:P.nest.length<4){lo s:Int}{q:Prog}(hq:q=⟨p.arrays,p.parts.set i (kH k s P l)⟩){x:Inst}(hx:oJ p x):
  ∃st st' d,kI p x=some st∧kI q (vW i k lo s x)=some st'∧fK st d=true∧
   (∀a,gK a d=true→cO q.arrays (if x.part=(i:Int) then eM (nA k) a else a) (vW i k lo s x).point 0=cO p.arrays a x.point 0)∧
   (st'.write=if x.part=(i:Int) then eM (nA k) st.write else st.write)∧
   (b9 5 st'.value=(b9 5 st.value).map (fun a=>if x.part=(i:Int) then eM (nA k) a else a))∧
   ∀m,sE 5 q.arrays m st'.value (vW i k lo s x).point=sE 5 p.arrays m st.value x.point:=by
 obtain⟨i',k',P',st,d,e1,e2,e3,e4,e5,e6,e7,e8⟩:=inst_d hv hx
 have hi:=(List.getElem?_eq_some_iff.1 hP).1
 subst hq
 by_cases hxi:x.part=(i:Int)
 ·obtain rfl:i'=i:=by omega
  rw [hP] at e3;cases e3
  have hpt:x.point.length=P.nest.length:=e7.1
  have hev: ∀y,bM y=true→bP (nA k y) (sg k lo s x.point)=bP y x.point:=fun y hy=>aE3 hy (by omega) (by omega)
  have hs:vW i' k lo s x=⟨x.part,x.stmt,sg k lo s x.point⟩:=by unfold vW;rw [if_pos hxi]
  refine⟨st,wD (nA k) st,d,e5,?_,e6,fun a ha=> ?_,?_,?_,fun m=> ?_⟩
  ·rw [hs]
   unfold kI
   dsimp only
   rw [e1,Int.toNat_natCast,List.getElem?_set_self hi]
   show((P.body.map (wD (nA k)))[x.stmt.toNat]?)=_
   rw [List.getElem?_map,e2,Int.toNat_natCast,e4];rfl
  ·rw [if_pos hxi,hs]
   exact aBi (fun y hy=>hev y ((sD ha).2.2 y hy)) _ _
  ·rw [if_pos hxi];rfl
  ·simp only [if_pos hxi]
   exact aAG (gW e6).2.1
  ·rw [hs]
   exact aEw hev _ m (gW e6).2.1
 ·have hs:vW i k lo s x=x:=I8 x hxi
  refine⟨st,st,d,e5,?_,e6,fun a ha=> ?_,?_,?_,fun m=> ?_⟩
  ·rw [hs,←e5]
   unfold kI
   dsimp only
   rw [List.getElem?_set_ne (by omega)]
  ·rw [if_neg hxi,hs]
  ·rw [if_neg hxi]
  ·simp only [if_neg hxi,List.map_id']
  ·rw [hs]
theorem aFm{p:Prog}(hv:bX p=true){i k:Nat}{P:Part}{l:Loop}(hP:p.parts[i]? =some P)(hl:P.nest[k]? =some l){s:Int}(hs:1≤s)(h4:P.nest.length<4)(hf:uY l=true){q:Prog}(hq:q=⟨p.arrays,p.parts.set i (kH k s P l)⟩)(hw:bX q=true):
  insts q.parts=(insts p.parts).map (vW i k (m9 l.lo) s)∧(∀x∈insts p.parts,rc q (vW i k (m9 l.lo) s x)=rc p x∧wc q (vW i k (m9 l.lo) s x)=wc p x)∧ ∀m,gQ q m (insts q.parts)=gQ p m (insts p.parts):=by
 have hi:=(List.getElem?_eq_some_iff.1 hP).1
 have hk:=(List.getElem?_eq_some_iff.1 hl).1
 have hok:=(jU hv).2.2.2.1 P (List.mem_of_getElem? hP)
 have hokq:b7 p.arrays (kH k s P l)=true:=by
  have:=(jU hw).2.2.2.1
  subst hq
  exact this _ (List.mem_of_getElem? (List.getElem?_set_self hi))
 have e1:insts q.parts=(insts p.parts).map (vW i k (m9 l.lo) s):=by
  rw [hq]
  exact insts_set hP (instP_strip (aFn hok hl hs h4 hf hokq) (by simp [kH])) I8
 refine⟨e1,fun x hx=> ?_,fun m=> ?_⟩
 ·obtain⟨st,st',d,s1,s2,s3,s4,s5,s6,s7⟩:=I5 hv hP hk h4 (lo:=m9 l.lo) (s:=s) hq (insts_mem hx)
  obtain⟨c1,_,c3,_⟩:=gW s3
  unfold rc wc
  rw [s1,s2]
  dsimp only
  rw [s5,s6,List.map_map,s4 _ c1]
  exact⟨iM (fun a ha=>s4 a (c3 a ha)),rfl⟩
 ·unfold gQ
  rw [e1,List.foldl_map]
  refine wG (fun x hx m=> ?_)
  obtain⟨st,st',d,s1,s2,s3,s4,s5,s6,s7⟩:=I5 hv hP hk h4 (lo:=m9 l.lo) (s:=s) hq (insts_mem hx)
  obtain⟨c1,_,c3,_⟩:=gW s3
  unfold qZ
  rw [s1,s2]
  dsimp only
  rw [s5,s4 _ c1,s7 m]
def T6(c:Int)(st:List Int):Int:=if c∈st then(st.idxOf c:Int) else-1
def vU(c:Int)(st:List Int):List Int:=c::st.filter (fun x=> !decide (x=c))
def mP:List Int→List Int→List Int
 |_,[]=>[]
 |st,c::t=>T6 c st::mP (vU c st) t
theorem w3{c:Int}{st:List Int}(h:st.Nodup):(vU c st).Nodup:=by
 unfold vU
 rw [List.nodup_cons]
 exact⟨fun hm=>by simp at hm,h.filter _⟩
theorem O3{c:Int}: ∀{l:List Int},l.Nodup→l.length≤(l.filter (fun x=> !decide (x=c))).length+1
 | [],_=>by simp
 |x::l,h=>by
  rw [List.nodup_cons] at h
  by_cases hx:x=c
  ·subst hx
   rw [List.filter_cons_of_neg (by simp),List.filter_eq_self.2 (fun y hy=>by simp;intro e;subst e;exact h.1 hy)]
   simp
  ·rw [List.filter_cons_of_pos (by simp [hx])]
   have:=O3 (c:=c) h.2
   simp only [List.length_cons];omega
theorem yA{c:Int}: ∀{l:List Int},l.Nodup→l.erase c=l.filter (fun x=> !decide (x=c))
 | [],_=>rfl
 |x::l,h=>by
  rw [List.nodup_cons] at h
  by_cases hx:x=c
  ·subst hx
   rw [List.erase_cons_head,List.filter_cons_of_neg (by simp),List.filter_eq_self.2 (fun y hy=>by simp;intro e;subst e;exact h.1 hy)]
  ·rw [List.erase_cons_tail (by simpa using hx),List.filter_cons_of_pos (by simp [hx]),yA h.2]
theorem aDy{size:Nat}{c:Int}{st:List Int}(h:st.Nodup):kQ size c (st.take size).reverse=((vU c st).take size).reverse:=by
 have hn:(st.take size).Nodup:=h.sublist (List.take_sublist _ _)
 have hr:(st.take size).reverse.Nodup:=List.pairwise_reverse.2 (hn.imp (fun h=>Ne.symm h))
 unfold kQ
 rw [yA hr,List.filter_reverse]
 have hc:((st.take size).filter (fun x=> !decide (x=c))).reverse++[c]=(c::(st.take size).filter (fun x=> !decide (x=c))).reverse:=by simp
 simp only [hc]
 have hl:((st.take size).filter (fun x=> !decide (x=c))).length≤size:=Nat.le_trans (List.length_filter_le _ _) (by rw [List.length_take];omega)
 have h1:(if size<(c::(st.take size).filter (fun x=> !decide (x=c))).reverse.length then(c::(st.take size).filter (fun x=> !decide (x=c))).reverse.drop 1 else(c::(st.take size).filter (fun x=> !decide (x=c))).reverse)=((c::(st.take size).filter (fun x=> !decide (x=c))).take size).reverse:=by
  split
  ·rename_i hs
   rw [List.length_reverse,List.length_cons] at hs
   rw [List.drop_reverse,List.length_cons,show((st.take size).filter (fun x=> !decide (x=c))).length+1-1=size by omega]
  ·rename_i hs
   rw [List.length_reverse] at hs
   rw [List.take_of_length_le (l:=c::(st.take size).filter (fun x=> !decide (x=c))) (by omega)]
 rw [h1]
 congr 1
 unfold vU
 cases size with
 |zero=>rfl
 |succ n=>
  rw [List.take_succ_cons,List.take_succ_cons]
  congr 1
  have hsp:st.filter (fun x=> !decide (x=c))=(st.take (n+1)).filter (fun x=> !decide (x=c))++(st.drop (n+1)).filter (fun x=> !decide (x=c)):=by
   rw [←List.filter_append,List.take_append_drop]
  rw [hsp]
  by_cases hlen:n+1≤st.length
  ·have:=O3 (c:=c) hn
   rw [List.length_take,Nat.min_eq_left hlen] at this
   rw [List.take_append_of_le_length (by omega)]
  ·rw [List.drop_of_length_le (by omega)]
   simp
theorem xK{c:Int}{size:Nat}: ∀{st:List Int},c∈st.take size↔c∈st∧st.idxOf c<size
 | []=>by simp
 |x::st=>by
  cases size with
  |zero=>simp
  |succ n=>
   rw [List.take_succ_cons,List.mem_cons,List.mem_cons,xK (st:=st)]
   by_cases hx:x=c
   ·subst hx
    simp
   ·rw [List.idxOf_cons,show(x==c)=false by simpa using hx,cond_false]
    have hx': ¬c=x:=fun e=>hx e.symm
    simp [hx']
theorem aB2{size:Nat}: ∀{t st:List Int},st.Nodup→cY size (st.take size).reverse t=(mP st t).countP (fun d=>decide (d<0∨(size:Int)≤d))
 | [],_,_=>rfl
 |c::t,st,h=>by
  rw [cY,mP,List.countP_cons,aDy h,aB2 (w3 h),Nat.add_comm]
  congr 1
  have hm:(c∈(st.take size).reverse)↔(c∈st∧st.idxOf c<size):=by rw [List.mem_reverse];exact xK
  by_cases hc:c∈st
  ·unfold T6
   rw [if_pos hc]
   by_cases hi:st.idxOf c<size
   ·rw [if_pos (hm.2 ⟨hc,hi⟩),if_neg (by simp;omega)]
   ·rw [if_neg (fun e=>hi (hm.1 e).2),if_pos (by simp;omega)]
  ·unfold T6
   rw [if_neg hc,if_neg (fun e=>hc (hm.1 e).1),if_pos (by simp)]
theorem aFG(size:Nat)(t:List Int):cY size [] t=(mP [] t).countP (fun d=>decide (d<0∨(size:Int)≤d)):=by
 have:=aB2 (size:=size) (t:=t) (st:=[]) List.nodup_nil
 simpa using this
theorem T5{c:Int}{st:List Int}(h: ¬c∈st):T6 c (st++[c])=(st.length:Int):=by
 unfold T6
 rw [if_pos (by simp),List.idxOf_append,if_neg h,List.idxOf_cons_self]
 omega
theorem aAA{c y:Int}{st:List Int}(h:y≠c):T6 c (st++[y])=T6 c st:=by
 unfold T6
 by_cases hc:c∈st
 ·rw [if_pos hc,if_pos (by simp [hc]),List.idxOf_append,if_pos hc]
 ·rw [if_neg hc,if_neg (by simp [hc];exact fun e=>h e.symm)]
theorem aDb(c:Int)(st:List Int):(vU c st).length≤st.length+1:=by
 unfold vU
 have:=List.length_filter_le (fun x=> !decide (x=c)) st
 simp only [List.length_cons];omega
theorem aDe{n:Nat}(hn:20000≤n){tr:List Int}(ht:tr.length≤600):Ev (fM n tr) (fun r=>r=mP [] tr):=by
 unfold fM
 refine aG (fun h=>by omega) (fun _=> ?_)
 refine Ev.loop (fun x:List Int×List Int×Int=> ∃k:Nat,x.2.2=k∧k≤tr.length∧x.2.1.Nodup∧x.2.1.length≤k∧x.1.length=k∧x.1++mP x.2.1 (tr.drop k)=mP [] tr) (fun x=>tr.length-x.2.2.toNat) ?_ n _ ⟨0,rfl,by omega,List.nodup_nil,Nat.le_refl _,rfl,rfl⟩ (by dsimp only;omega)
 rintro again ⟨o,st,kz⟩ ⟨k,hk0,hk,hnd,hl,hol,he⟩ hr
 dsimp only at hk0 hnd hl hol he⊢
 subst hk0
 refine aG (fun hlt=> ?_) (fun hge=>Ev.some ?_)
 rotate_left
 ·rw [List.drop_of_length_le (by omega),mP,List.append_nil] at he
  exact he
 have hlt:k<tr.length:=by omega
 have ec:=List.getElem?_eq_getElem hlt
 generalize tr[k]=c at ec
 refine Ev.loop (fun x:List Int×Int×Int=> ∃j:Nat,x.2.2=j∧j≤st.length∧x.1=(st.take j).filter (fun y=> !decide (y=c))∧x.2.1=T6 c (st.take j)) (fun x=>st.length-x.2.2.toNat) ?_ n _ ⟨0,rfl,by omega,rfl,rfl⟩ (by dsimp only;omega)
 rintro again2 ⟨r,at_,jz⟩ ⟨j,hj0,hj,hr1,hr2⟩ hr'
 dsimp only at hj0 hr1 hr2⊢
 subst hj0
 refine aG (fun hlt2=> ?_) (fun hge2=> ?_)
 ·have hlt2:j<st.length:=by omega
  have ey:=List.getElem?_eq_getElem hlt2
  generalize hy:st[j]=y at ey
  have hs:st.take (j+1)=st.take j++[y]:=by rw [List.take_add_one,ey];rfl
  have hnd2:(st.take j++[y]).Nodup:=by rw [←hs];exact hnd.sublist (List.take_sublist _ _)
  have hrl:r.length≤600:=by
   rw [hr1];exact Nat.le_trans (List.length_filter_le _ _) (by rw [List.length_take];omega)
  refine Ev.jn (fun z:List Int×Int=>z.1=(st.take (j+1)).filter (fun y=> !decide (y=c))∧z.2=T6 c (st.take (j+1))) (fun j11 hj11=> ?_) (fun z hz=> ?_)
  ·refine aB (aQ ey) (aB (aQ ec) (aG (fun heq=> ?_) (fun hne=> ?_)))
   ·subst heq
    refine hj11 _ ⟨?_,?_⟩
    ·rw [hs,List.filter_append,←hr1];simp
    ·rw [hs]
     have hni: ¬y∈st.take j:=fun hm=>by
      have:=(List.nodup_append.1 hnd2).2.2 y hm y (by simp)
      exact this rfl
     rw [T5 hni,List.length_take,Nat.min_eq_left hj]
   ·refine aB (bT (by simp only [List.length_cons,List.length_nil];omega)) (hj11 _ ⟨?_,?_⟩)
    ·rw [hs,List.filter_append,←hr1];simp [hne]
    ·rw [hs,aAA hne];exact hr2
  ·rw [aM (by omega)]
   exact hr' _ ⟨j+1,by dsimp only;omega,by omega,hz.1,hz.2⟩ (by dsimp only;omega)
 ·have hj:j=st.length:=by omega
  subst hj
  rw [List.take_length] at hr1 hr2
  subst hr1;subst hr2
  have hfl:=List.length_filter_le (fun y=> !decide (y=c)) st
  refine aB (bT (by simp only [List.length_cons,List.length_nil];omega)) (aB (aQ ec) (aB (bT (by simp only [List.length_cons,List.length_nil];omega)) ?_))
  rw [aM (by omega)]
  have hd:tr.drop k=c::tr.drop (k+1):=by
   rw [List.drop_eq_getElem_cons hlt]
   congr 1
   rw [List.getElem?_eq_getElem hlt] at ec
   exact Option.some.inj ec
  rw [hd,mP] at he
  refine hr _ ⟨k+1,by dsimp only;omega,by omega,w3 hnd,Nat.le_trans (aDb c st) (by omega),by dsimp only;rw [List.length_append];simp only [List.length_cons,List.length_nil];omega,?_⟩ (by dsimp only;omega)
  dsimp only
  rw [List.append_assoc]
  exact he
theorem I6: ∀(t st:List Int),(mP st t).length=t.length
 | [],_=>rfl
 |c::t,st=>by rw [mP,List.length_cons,List.length_cons,I6 t]
theorem aGP{n:Nat}(hn:20000≤n){tr:List Int}{size:Int}(ht:tr.length≤600)(h0:0≤size)(h4:size≤40):fW n tr size=some (cY size.toNat [] tr:Int):=by
 refine Ev.eq ?_
 unfold fW
 have hfit:lI n tr size=some true:=by
  unfold lI
  simp only [jn]
  rw [decide_eq_true (show(tr.length:Int)≤600 by omega),decide_eq_true h0,decide_eq_true h4];rfl
 refine aB hfit ?_
 refine aJ (aDe hn ht) ?_
 rintro _ rfl
 have hlen:=I6 tr []
 rw [aFG]
 generalize hD:mP [] tr=D at hlen⊢
 refine Ev.loop (fun x:Int×Int=> ∃k:Nat,x.2=k∧k≤D.length∧x.1=((D.take k).countP (fun d=>decide (d<0∨(size.toNat:Int)≤d)):Nat)) (fun x=>D.length-x.2.toNat) ?_ n _ ⟨0,rfl,by omega,rfl⟩ (by dsimp only;omega)
 rintro again ⟨m,kz⟩ ⟨k,hk0,hk,hm⟩ hr
 dsimp only at hk0 hm⊢
 subst hk0
 refine aG (fun hlt=> ?_) (fun hge=>Ev.some ?_)
 rotate_left
 ·rw [hm,List.take_of_length_le (by omega)]
 have hlt:k<D.length:=by omega
 have ed:=List.getElem?_eq_getElem hlt
 generalize D[k]=d at ed
 have hs:D.take (k+1)=D.take k++[d]:=by rw [List.take_add_one,ed];rfl
 have hcl:=List.countP_le_length (p:=fun d=>decide (d<0∨(size.toNat:Int)≤d)) (l:=D.take k)
 rw [List.length_take] at hcl
 refine Ev.jn (fun z:Int=>z=((D.take (k+1)).countP (fun d=>decide (d<0∨(size.toNat:Int)≤d)):Nat)) (fun j6 hj6=> ?_) (fun z hz=> ?_)
 ·refine Ev.jn (fun b:Bool=>b=decide (d<0∨(size.toNat:Int)≤d)) (fun j7 hj7=> ?_) (fun b hb=> ?_)
  ·refine aB (aQ ed) (aG (fun hneg=>hj7 _ ?_) (fun hpos=>hj7 _ ?_))
   ·rw [decide_eq_true (Or.inl hneg)]
   ·rw [decide_eq_decide];omega
  ·subst hb
   rw [hs,List.countP_append,List.countP_singleton] at hj6
   refine Ev.cond (fun ht=>hj6 _ ?_) (fun hf=>hj6 _ ?_)
   ·rw [aM (by omega),hm,if_pos ht];omega
   ·rw [hm,if_neg (by rw [hf];exact Bool.false_ne_true)];omega
 ·rw [aM (by omega)]
  exact hr _ ⟨k+1,by dsimp only;omega,by omega,hz⟩ (by dsimp only;omega)
theorem aGO{n:Nat}{tr:List Int}{size:Int}(h: ¬(tr.length≤600∧0≤size∧size≤40)):fW n tr size=some (-1):=by
 have hfit:lI n tr size=some false:=by
  unfold lI
  simp only [jn]
  by_cases a:(tr.length:Int)≤600
  ·by_cases b:0≤size
   ·rw [decide_eq_true a,decide_eq_true b,decide_eq_false (show¬size≤40 by omega)];rfl
   ·rw [decide_eq_true a,decide_eq_false b];rfl
  ·rw [decide_eq_false a];rfl
 unfold fW
 rw [hfit];rfl
def F9(p:Prog)(x:Inst):List Int:=rc p x++[(wc p x:Int)]
def rX(p:Prog):List Int:=(insts p.parts).flatMap (F9 p)
theorem S7{p q:Prog}{σ:Inst→Inst}(hi:insts q.parts=(insts p.parts).map σ)(hc: ∀x∈insts p.parts,rc q (σ x)=rc p x∧wc q (σ x)=wc p x):rX q=rX p:=by
 unfold rX
 rw [hi]
 generalize insts p.parts=l at hc
 clear hi
 induction l with
 |nil=>rfl
 |cons x l ih=>
  rw [List.map_cons,List.flatMap_cons,List.flatMap_cons,ih (fun y hy=>hc y (List.mem_cons_of_mem _ hy))]
  unfold F9
  rw [(hc x List.mem_cons_self).1,(hc x List.mem_cons_self).2]
theorem aCS{l:List Inst}{f:Inst→List Int}{k:Nat}{x:Inst}(h:l[k]? =some x):(l.take (k+1)).flatMap f=(l.take k).flatMap f++f x:=by
 rw [List.take_add_one,h,List.flatMap_append]
 simp
theorem aFf{f:Inst→List Int}: ∀{l:List Inst},(∀x∈l,(f x).length≤13)→(l.flatMap f).length≤13*l.length
 | [],_=>by simp
 |x::l,h=>by
  have h1:=h x List.mem_cons_self
  have h2:=aFf (l:=l) (fun y hy=>h y (List.mem_cons_of_mem _ hy))
  rw [List.flatMap_cons,List.length_append,List.length_cons];omega
theorem aH7{p:Prog}(hv:bX p=true){x:Inst}(hx:x∈insts p.parts):(F9 p x).length≤13:=by
 have:=(inst_c hv (insts_mem hx)).2.2.1
 unfold F9
 rw [List.length_append,List.length_singleton];omega
theorem aJs(n:Nat)(s:List Int):n4 n s=some s:=by
 unfold n4
 rw [I4 (by omega) (by omega) (by omega)]
 simp
theorem aFR{n:Nat}(hn:20000≤n){p:Prog}(hp:SmP p)(hv:bX p=true):fS n p=some ((rX p).take 600):=by
 have hil:=(jU hv).2.2.2.2
 refine Ev.eq ?_
 unfold fS
 refine aB (aDF (by omega) hp) ?_
 rw [if_pos hv]
 simp only [Option.isSome_some,Option.getD_some,cond_true,Bool.not_true,cond_false]
 have htl:(trc p).list=insts p.parts:=rfl
 have htr:(trc p).reads=(insts p.parts).map (rc p):=rfl
 have htw:(trc p).writes=(insts p.parts).map (fun x=>(wc p x:Int)):=rfl
 simp only [htl,htr,htw]
 refine Ev.loop (fun z:List Int×Int=> ∃k:Nat,z.2=k∧k≤(insts p.parts).length∧z.1=((insts p.parts).take k).flatMap (F9 p)) (fun z=>(insts p.parts).length-z.2.toNat) ?_ n _ ⟨0,rfl,by omega,rfl⟩ (by dsimp only;omega)
 rintro again ⟨a,z⟩ ⟨k,hz,hk,ha⟩ hr
 dsimp only at hz ha⊢
 subst hz
 have hal:a.length≤1560:=by
  rw [ha]
  have:=aFf (f:=F9 p) (l:=(insts p.parts).take k) (fun x hx=>aH7 hv (List.mem_of_mem_take hx))
  rw [List.length_take] at this;omega
 refine aG (fun hlt=> ?_) (fun hge=> ?_)
 ·obtain⟨x,hg⟩: ∃x,(insts p.parts)[k]? =some x:=⟨_,List.getElem?_eq_getElem (show k<(insts p.parts).length by omega)⟩
  have h12:=(inst_c hv (insts_mem (List.mem_of_getElem? hg))).2.2.1
  refine aB (aQ (aAR hg)) (aB (bT (by omega)) (aB (aQ (aAR hg)) (aB (bT (by rw [List.length_append,List.length_singleton];omega)) ?_)))
  rw [aM (by omega)]
  refine hr _ ⟨k+1,by dsimp only;omega,by omega,?_⟩ (by dsimp only;omega)
  dsimp only
  rw [aCS hg,←ha,List.append_assoc];rfl
 ·have e:k=(insts p.parts).length:=by omega
  subst e
  rw [List.take_length] at ha
  refine aB (I4 (by omega) (by omega) (by omega)) (aB (aJs n _) (Ev.some ?_))
  rw [ha,show(0:Int).toNat=0 from rfl,List.drop_zero]
  show(rX p).take _=_
  have hl:a.length=(rX p).length:=by rw [ha];rfl
  by_cases h:(rX p).length≤600
  ·rw [List.take_of_length_le h,List.take_of_length_le]
   show(rX p).length≤(min ((rX p).length:Int) 600).toNat
   omega
  ·congr 1
   show(min ((rX p).length:Int) 600).toNat=600
   omega
theorem aFy{n:Nat}(hn:20000≤n){p:Prog}(hV:cU n p=some true)(hv:bX p=true):fN n p=some ((rX p).take 600):=by
 have hil:=(jU hv).2.2.2.2
 refine Ev.eq ?_
 unfold fN
 refine aB hV ?_
 rw [Bool.not_true,cond_false]
 refine aB (aFv (by omega) hv) ?_
 have hul:(aBL p).length=(insts p.parts).length:=by unfold aBL;rw [List.length_map]
 refine Ev.loop (fun z:List Int×Int=> ∃k:Nat,z.2=k∧k≤(insts p.parts).length∧z.1=((insts p.parts).take k).flatMap (F9 p)∧z.1.length≤600) (fun z=>(insts p.parts).length-z.2.toNat) ?_ n _ ⟨0,rfl,by omega,rfl,by simp⟩ (by dsimp only;omega)
 rintro again ⟨a,z⟩ ⟨k,hz,hk,ha,hal⟩ hr
 dsimp only at hz ha hal⊢
 subst hz
 refine aG (fun hlt=> ?_) (fun hge=>Ev.some ?_)
 ·obtain⟨x,hg⟩: ∃x,(insts p.parts)[k]? =some x:=⟨_,List.getElem?_eq_getElem (show k<(insts p.parts).length by omega)⟩
  have h12:=(inst_c hv (insts_mem (List.mem_of_getElem? hg))).2.2.1
  have hu:(aBL p)[k]? =some (⟨rc p x,(wc p x:Int)⟩:L6Use):=aAR hg
  refine aB (aQ hu) (aB (bT (by dsimp only;omega)) (aB (bT (by rw [List.length_append,List.length_singleton];dsimp only;omega)) ?_))
  dsimp only
  have hsn:a++rc p x++[(wc p x:Int)]=((insts p.parts).take (k+1)).flatMap (F9 p):=by
   rw [aCS hg,←ha,List.append_assoc];rfl
  rw [hsn]
  have hb:(((insts p.parts).take (k+1)).flatMap (F9 p)).length≤1000:=by
   rw [←hsn,List.length_append,List.length_append,List.length_singleton];omega
  refine aG (fun hbig=> ?_) (fun hsm=> ?_)
  ·refine aB (I4 (by omega) (by omega) (by omega)) (aB (bT (by rw [List.length_drop,List.length_take];simp only [List.length_nil];omega)) (Ev.some ?_))
   rw [List.nil_append,show(0:Int).toNat=0 from rfl,List.drop_zero,show(600:Int).toNat=600 from rfl]
   have hsp:rX p=((insts p.parts).take (k+1)).flatMap (F9 p)++((insts p.parts).drop (k+1)).flatMap (F9 p):=by
    unfold rX
    rw [←List.flatMap_append,List.take_append_drop]
   rw [hsp,List.take_append_of_le_length (by omega)]
  ·rw [aM (by omega)]
   exact hr _ ⟨k+1,by dsimp only;omega,by omega,rfl,by dsimp only;omega⟩ (by dsimp only;omega)
 ·have e:k=(insts p.parts).length:=by omega
  subst e
  rw [List.take_length] at ha
  subst ha
  rw [show(rX p)=(insts p.parts).flatMap (F9 p) from rfl,List.take_of_length_le hal]
end Go.Lift
