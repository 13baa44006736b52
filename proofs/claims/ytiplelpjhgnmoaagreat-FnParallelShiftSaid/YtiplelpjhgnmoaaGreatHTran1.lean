/- Two programs that do the same. -/
import Derived.Test.YtiplelpjhgnmoaaGreatHRun1
import Derived.Test.YtiplelpjhgnmoaaGreatHDraw1
import Derived.Test.YtiplelpjhgnmoaaGreatHDrawD
set_option maxRecDepth 100000
set_option linter.unusedVariables false
namespace Go.Lift
open Go
theorem uA{α β R:Type}{l:List α}{F:α→(β→Option R)→Option R}{g:α→β}{K:List β→Option R}{Q:R→Prop}{n:Nat}(hF: ∀x∈l,∀k:β→Option R,Ev (k (g x)) Q→Ev (F x k) Q)
  {s:Nat} (hs:s≤l.length) {pre:List β} (hp:pre.length≤1000) (hl:l.length≤1000) (hn:5000≤n) (hK:Ev (K (pre++(l.drop s).map g)) Q):
  Ev (aM (fun again ((x,i):List β×Int)=>bif decide (i<(l.length:Int)) then(Option.bind (ix l i) fun y=>F y (fun z=>Option.bind (app x [z]) fun w=>again (w,wr (i+1)))) else K x) n (pre,(s:Int))) Q:=by
 refine Ev.loop (fun z:List β×Int=> ∃i:Nat,z.2=i∧s≤i∧i≤l.length∧z.1=pre++((l.drop s).take (i-s)).map g) (fun z=>l.length-z.2.toNat) ?_ n _ ⟨s,rfl,by omega,by omega,by simp⟩ (by dsimp only;omega)
 rintro again ⟨x,z⟩ ⟨i,hz,hsi,hi,hx⟩ hr
 dsimp only at hz hx⊢
 subst hz
 refine aH (fun hlt=> ?_) (fun hge=> ?_)
 ·have hg:=List.getElem?_eq_getElem (show i<l.length by omega)
  have hxl:x.length≤2000:=by rw [hx,List.length_append,List.length_map,List.length_take,List.length_drop];omega
  refine aB (aQ hg) (hF _ (List.mem_of_getElem? hg) _ (aB (bW (by simp;omega)) ?_))
  rw [aP (by omega)]
  refine hr _ ⟨i+1,by dsimp only;omega,by omega,by omega,?_⟩ (by dsimp only;omega)
  dsimp only
  rw [show i+1-s=(i-s)+1 by omega,List.take_add_one,List.getElem?_drop,show s+(i-s)=i by omega,hg,hx,List.map_append,List.append_assoc];rfl
 ·have:i=l.length:=by omega
  subst this
  rw [hx,List.take_of_length_le (by rw [List.length_drop];omega)];exact hK
theorem nL{α β R:Type}{l:List α}{f:α→Option β}{g:α→β}{K:List β→Option R}{Q:R→Prop}{n:Nat}(hf: ∀x∈l,f x=some (g x))(hl:l.length≤1000)(hn:5000≤n)(hK:Ev (K (l.map g)) Q):
  Ev (aM (fun again ((x,i):List β×Int)=>bif decide (i<(l.length:Int)) then(Option.bind (ix l i) fun y=>Option.bind (f y) fun z=>Option.bind (app x [z]) fun w=>again (w,wr (i+1))) else K x) n ([],0)) Q:=
 uA (F:=fun y k=>Option.bind (f y) k) (g:=g) (s:=0) (pre:=[]) (fun x hx k hk=>aB (hf x hx) hk) (by omega) (by simp) hl hn (by simpa using hK)
theorem aAH{α R:Type}{l:List α}{F:α→(α→Option R)→Option R}{W:List α→Option R→Option R}{m:List α→Int}{g:α→α}{K:List α→Option R}{Q:R→Prop}{n:Nat}
  (hW: ∀y o,y.length=l.length→Ev o Q→Ev (W y o) Q) (hm: ∀y:List α,y.length=l.length→m y=(l.length:Int))
  {s:Nat} (hs:s≤l.length) (hF: ∀x∈l,∀k:α→Option R,Ev (k (g x)) Q→Ev (F x k) Q) (hl:l.length≤1000) (hn:5000≤n) (hK:Ev (K (l.take s++(l.drop s).map g)) Q):
  Ev (aM (fun again ((y,i):List α×Int)=>W y (bif decide (i<m y) then(Option.bind (ix y i) fun x=>F x (fun z=>Option.bind (dF y i z) fun w=>again (w,wr (i+1)))) else K y)) n (l,(s:Int))) Q:=by
 refine Ev.loop (fun z:List α×Int=> ∃i:Nat,z.2=i∧s≤i∧i≤l.length∧z.1=l.take s++((l.drop s).take (i-s)).map g++l.drop i) (fun z=>l.length-z.2.toNat) ?_ n _ ⟨s,rfl,by omega,by omega,by simp⟩ (by dsimp only;omega)
 rintro again ⟨x,z⟩ ⟨i,hz,hsi,hi,hx⟩ hr
 dsimp only at hz hx⊢
 subst hz
 have hpl:(l.take s++((l.drop s).take (i-s)).map g).length=i:=by rw [List.length_append,List.length_map,List.length_take,List.length_take,List.length_drop];omega
 have hxl:x.length=l.length:=by rw [hx,List.length_append,hpl,List.length_drop];omega
 refine hW _ _ hxl ?_
 rw [hm _ hxl]
 refine aH (fun hlt=> ?_) (fun hge=> ?_)
 ·obtain⟨e,hg⟩: ∃e,l[i]? =some e:=⟨_,List.getElem?_eq_getElem (show i<l.length by omega)⟩
  have hgx:x[i]? =some e:=by
   rw [hx,List.getElem?_append_right (by omega),hpl,Nat.sub_self,List.getElem?_drop];exact hg
  refine aB (aQ hgx) (hF _ (List.mem_of_getElem? hg) _ (aB (dU (by omega) _) ?_))
  rw [aP (by omega)]
  refine hr _ ⟨i+1,by dsimp only;omega,by omega,by omega,?_⟩ (by dsimp only;omega)
  dsimp only
  rw [hx,Int.toNat_natCast,List.set_append_right _ _ (by omega),hpl,Nat.sub_self,lL hg,List.set_cons_zero,show i+1-s=(i-s)+1 by omega,List.take_add_one,List.getElem?_drop,show s+(i-s)=i by omega,hg]
  simp
 ·have:i=l.length:=by omega
  subst this
  rw [hx,List.take_of_length_le (l:=l.drop s) (by rw [List.length_drop];omega),List.drop_length,List.append_nil];exact hK
def fJ(f:Affine→Affine)(a:Access):Access:=⟨a.array,a.subs.map f⟩
def uB(f:Affine→Affine):Nat→Expr→Expr
 |0,e=>e
 |L+1,e=>⟨e.kind,e.num,if e.kind=2 then f e.index else⟨[],0⟩,if e.kind=3 then fJ f e.read else⟨[],[]⟩,e.kids.map (uB f L)⟩
def t8(f:Affine→Affine)(s:Stmt):Stmt:=⟨fJ f s.write,uB f 5 s.value⟩
def dJ(f:Affine→Affine)(l:Loop):Loop:=⟨l.lo.map f,l.hi.map f⟩
theorem wR{e:Expr}{d:Int}(h:f9 e d=true)(hk:e.kind=2):bL e.index=true∧nE e.read=true:=by
 unfold f9 bX at h
 rw [if_pos hk] at h
 simp only [Bool.and_eq_true] at h
 exact⟨h.2.2.1,h.2.1⟩
theorem wQ{e:Expr}{d:Int}(h:f9 e d=true)(hk:e.kind=3):gQ e.read d=true∧jM e.index=true:=by
 unfold f9 at h
 rw [if_neg (by omega),if_pos hk] at h
 simp only [Bool.and_eq_true] at h
 exact⟨h.2.2,h.2.1⟩
theorem aDD{e:Expr}{d:Int}(h:f9 e d=true)(h2: ¬e.kind=2)(h3: ¬e.kind=3):jM e.index=true∧nE e.read=true:=by
 unfold f9 at h
 rw [if_neg h2,if_neg h3] at h
 split at h<;>simp only [Bool.and_eq_true] at h<;>exact⟨h.2.1,h.2.2⟩
theorem yG{a:Affine}(h:jM a=true):a=⟨[],0⟩:=by
 obtain⟨c,k⟩:=a
 simp only [jM,Bool.and_eq_true,decide_eq_true_eq] at h
 obtain⟨h1,rfl⟩:=h
 rw [List.eq_nil_of_length_eq_zero h1]
theorem yH{a:Access}(h:nE a=true):a=⟨[],[]⟩:=by
 obtain⟨c,k⟩:=a
 simp only [nE,Bool.and_eq_true,decide_eq_true_eq] at h
 obtain⟨rfl,h1⟩:=h
 rw [List.eq_nil_of_length_eq_zero h1]
theorem uH{n:Nat}(hn:5000≤n){a:Access}{d:Int}(ha:gQ a d=true){F:Affine→Option Affine}{f:Affine→Affine}(hF: ∀x,bL x=true→F x=some (f x)):gA n a F=some (fJ f a):=by
 obtain⟨h1,h2,h3⟩:=s8 ha
 refine Ev.eq ?_
 unfold gA
 exact nL (K:=fun x1=>some (⟨a.array,x1⟩:Access)) (fun x hx=>hF x (h3 x hx)) (by omega) hn (Ev.some rfl)
theorem yR{d:Int}{F:Affine→Option Affine}{f:Affine→Affine}(hF: ∀x,bL x=true→F x=some (f x)): ∀(L n:Nat) (e:Expr),5000+L≤n→dI L e d=true→i_exprMap (n+1) e F=some (uB f L e)
 |0,_,_,_,h=>by cases h
 |L+1,n,e,hn,h=>by
  obtain⟨hk,ho,hs⟩:=iR h
  obtain⟨n,rfl⟩: ∃j,n=j+1:=⟨n-1,by omega⟩
  have hkl:e.kids.length≤2:=by have:=mU e.kind;omega
  unfold i_exprMap
  refine Ev.eq (Ev.jn (fun z=>(⟨z.1,z.2.1⟩:Affine)=(if e.kind=2 then f e.index else⟨[],0⟩)∧(⟨z.2.2.1,z.2.2.2⟩:Access)=(if e.kind=3 then fJ f e.read else⟨[],[]⟩)) (fun j hj=> ?_) (fun z hz=> ?_))
  ·refine aH (fun h2=> ?_) (fun h2=>aH (fun h3=> ?_) (fun h3=> ?_))
   ·exact aB (hF _ (wR ho h2).1) (hj _ ⟨by rw [if_pos h2],by rw [if_neg (by omega)]⟩)
   ·exact aB (uH (by omega) (wQ ho h3).1 hF) (hj _ ⟨by rw [if_neg h2],by rw [if_pos h3]⟩)
   ·exact hj _ ⟨by rw [if_neg h2],by rw [if_neg h3]⟩
  ·obtain⟨x4,x5,x6,x7⟩:=z
   obtain⟨z1,z2⟩:=hz
   dsimp only at z1 z2⊢
   refine nL (K:=fun x8=>some (⟨e.kind,e.num,(⟨x4,x5⟩:Affine),(⟨x6,x7⟩:Access),x8⟩:Expr)) (fun x hx=>yR hF L n x (by omega) (hs x hx)) (by omega) (by omega) (Ev.some ?_)
   rw [z1,z2];rfl
theorem yP{n:Nat}(hn:6000≤n){s:Stmt}{d:Int}(hs:fN s d=true){F:Affine→Option Affine}{f:Affine→Affine}(hF: ∀x,bL x=true→F x=some (f x)):gU n s F=some (t8 f s):=by
 obtain⟨h1,h2,_⟩:=kR hs
 obtain⟨n,rfl⟩: ∃j,n=j+1:=⟨n-1,by omega⟩
 unfold gU
 rw [uH (by omega) h1 hF,yR hF 5 n s.value (by omega) h2];rfl
theorem aAX{α:Type}{f:α→α}: ∀{l:List α},(∀x∈l,f x=x)→l.map f=l
 | [],_=>rfl
 |x::l,h=>by rw [List.map_cons,h x List.mem_cons_self,aAX (fun y hy=>h y (List.mem_cons_of_mem _ hy))]
theorem Z5{f:Affine→Affine}{a:Access}{d:Int}(ha:gQ a d=true)(hf: ∀x,bL x=true→f x=x):fJ f a=a:=by
 obtain⟨h1,h2,h3⟩:=s8 ha
 unfold fJ
 rw [aAX (fun x hx=>hf x (h3 x hx))]
theorem aFd{d:Int}{f:Affine→Affine}(hf: ∀x,bL x=true→f x=x): ∀{L:Nat} {e:Expr},dI L e d=true→uB f L e=e
 |0,_,_=>rfl
 |L+1,e,h=>by
  obtain⟨hk,ho,hs⟩:=iR h
  obtain⟨kind,num,index,read,kids⟩:=e
  unfold uB
  dsimp only at hk ho hs⊢
  rw [aAX (fun x hx=>aFd hf (hs x hx))]
  by_cases h2:kind=2
  ·have e1:=wR ho h2
   dsimp only at e1
   rw [if_pos h2,if_neg (by omega),hf _ e1.1,yH e1.2]
  ·by_cases h3:kind=3
   ·have e1:=wQ ho h3
    dsimp only at e1
    rw [if_neg h2,if_pos h3,Z5 e1.1 hf,yG e1.2]
   ·have e1:=aDD ho h2 h3
    dsimp only at e1
    rw [if_neg h2,if_neg h3,yG e1.1,yH e1.2]
theorem aJN{f:Affine→Affine}(hf: ∀x,bL x=true→f x=x){s:Stmt}{d:Int}(hs:fN s d=true):t8 f s=s:=by
 obtain⟨h1,h2,_⟩:=kR hs
 unfold t8
 rw [Z5 h1 hf,aFd hf h2]
def A5(l:Loop):Prop:=(l.lo.length≤2∧ ∀x∈l.lo,bL x=true)∧l.hi.length≤2∧ ∀x∈l.hi,bL x=true
theorem aLD{nest:List Loop}(h:Fit nest): ∀l∈nest,A5 l:=fun l hl=>by
 obtain⟨i,hi⟩:=List.mem_iff_getElem?.1 hl
 have:=h.2 i l hi
 exact⟨(pY this.1).2,(pY this.2).2⟩
theorem mK{list:List Arr}{x:Part}(h:cC list x=true):x.nest.length≤4∧ ∀l∈x.nest,A5 l:=by
 have:=(aDc (iG h).1).1
 exact⟨this.1,aLD this⟩
theorem aKG{a:Affine}(h:bL a=true):BA 4 a:=by have:=(jD h).1;unfold BA;omega
theorem aBx{l:List Affine}(h1:l.length≤2)(h2: ∀x∈l,bL x=true):BAs 4 l:=⟨by omega,fun a ha=>aKG (h2 a ha)⟩
theorem aKF{d:Int}: ∀{L:Nat} {e:Expr},dI L e d=true→BE 4 L e
 |0,_,h=>by cases h
 |L+1,e,h=>by
  obtain⟨hk,ho,hs⟩:=iR h
  have:=mU e.kind
  refine⟨by omega,?_,?_,fun k hk=>aKF (hs k hk)⟩
  ·by_cases h2:e.kind=2
   ·exact aKG (wR ho h2).1
   ·by_cases h3:e.kind=3
    ·rw [yG (wQ ho h3).2];unfold BA;simp
    ·rw [yG (aDD ho h2 h3).1];unfold BA;simp
  ·by_cases h3:e.kind=3
   ·have:=s8 (wQ ho h3).1
    exact aBx this.2.1 this.2.2
   ·by_cases h2:e.kind=2
    ·rw [yH (wR ho h2).2];exact⟨by simp,fun x hx=>by cases hx⟩
    ·rw [yH (aDD ho h2 h3).2];exact⟨by simp,fun x hx=>by cases hx⟩
theorem aMJ{s:Stmt}{d:Int}(hs:fN s d=true):BS 4 s:=by
 obtain⟨h1,h2,_⟩:=kR hs
 have:=s8 h1
 exact⟨aBx this.2.1 this.2.2,aKF h2⟩
theorem aLS{list:List Arr}{x:Part}(h:cC list x=true):BPt 4 x:=by
 obtain⟨h1,h2⟩:=mK h
 obtain⟨_,h4,h5,_⟩:=iG h
 exact⟨⟨h1,fun l hl=>⟨aBx (h2 l hl).1.1 (h2 l hl).1.2,aBx (h2 l hl).2.1 (h2 l hl).2.2⟩⟩,h4.2,fun s hs=>aMJ (h5 s hs)⟩
theorem aMK{l:List Arr}(h1:l.length≤4)(h2:jW l):BR 4 l:=⟨h1,fun x hx=>by
 have:=h2 x hx
 simp only [jH,Bool.and_eq_true,decide_eq_true_eq] at this
 omega⟩
theorem I6{B:Nat}{l:List Affine}{f:Affine→Affine}(h:l.length≤B)(hf: ∀x∈l,BA B (f x)):BAs B (l.map f):=⟨by rw [List.length_map];exact h,fun a ha=>by
 obtain⟨x,hx,rfl⟩:=List.mem_map.1 ha
 exact hf x hx⟩
theorem aIF{d:Int}{f:Affine→Affine}(hf: ∀x,bL x=true→BA 4 (f x)): ∀{L:Nat} {e:Expr},dI L e d=true→BE 4 L (uB f L e)
 |0,_,h=>by cases h
 |L+1,e,h=>by
  obtain⟨hk,ho,hs⟩:=iR h
  have:=mU e.kind
  unfold uB BE
  refine⟨by dsimp only;rw [List.length_map];omega,?_,?_,fun k hk=> ?_⟩
  ·dsimp only
   by_cases h2:e.kind=2
   ·rw [if_pos h2];exact hf _ (wR ho h2).1
   ·rw [if_neg h2];unfold BA;simp
  ·dsimp only
   by_cases h3:e.kind=3
   ·rw [if_pos h3]
    have:=s8 (wQ ho h3).1
    exact I6 (by omega) (fun x hx=>hf x (this.2.2 x hx))
   ·rw [if_neg h3];exact⟨by simp,fun x hx=>by cases hx⟩
  ·obtain⟨x,hx,rfl⟩:=List.mem_map.1 hk
   exact aIF hf (hs x hx)
theorem aLR{f:Affine→Affine}(hf: ∀x,bL x=true→BA 4 (f x)){s:Stmt}{d:Int}(hs:fN s d=true):BS 4 (t8 f s):=by
 obtain⟨h1,h2,_⟩:=kR hs
 have:=s8 h1
 exact⟨I6 (by omega) (fun x hx=>hf x (this.2.2 x hx)),aIF hf h2⟩
theorem aFE{f:Affine→Affine}(hf: ∀x,bL x=true→BA 4 (f x)){l:Loop}(h:A5 l):BAs 4 (dJ f l).lo∧BAs 4 (dJ f l).hi:=
 ⟨I6 (by have:=h.1.1;omega) (fun x hx=>hf x (h.1.2 x hx)),I6 (by have:=h.2.1;omega) (fun x hx=>hf x (h.2.2 x hx))⟩
theorem Y5(n:Nat){a:Affine}(h:a.coefs.length≤1000):cY n a=some a:=by
 unfold cY m_ownClone
 rw [if_pos (by omega)];rfl
theorem Y4(n:Nat): ∀x,bL x=true→cY n x=some x:=fun x hx=>Y5 n (by have:=(jD hx).1;omega)
theorem M2{n:Nat}(hn:5000≤n){l:List Affine}(h1:l.length≤2)(h2: ∀x∈l,bL x=true):fD n l=some l:=by
 unfold fD
 refine Ev.eq (nL (g:=fun x=>x) (K:=fun x1=>some x1) (fun x hx=>Y4 n x (h2 x hx)) (by omega) hn (Ev.some ?_))
 simp
theorem aDE{n:Nat}(hn:5000≤n){nest:List Loop}(h1:nest.length≤4)(h2: ∀l∈nest,A5 l):l5 n nest=some nest:=by
 unfold l5
 refine Ev.eq ?_
 refine uA (β:=Loop) (l:=nest) (n:=n) (F:=fun x5 k=>Option.bind (fD n x5.lo) fun x6=>Option.bind (fD n x5.hi) fun x7=>k (⟨x6,x7⟩:Loop)) (g:=fun x=>x) (s:=0) (pre:=[]) (K:=fun x1=>some x1) ?_ (by omega) (by simp) (by omega) hn (Ev.some (by simp))
 exact fun x hx k hk=>aB (M2 hn (h2 x hx).1.1 (h2 x hx).1.2) (aB (M2 hn (h2 x hx).2.1 (h2 x hx).2.2) hk)
theorem aDB{n:Nat}(hn:6000≤n){s:Stmt}{d:Int}(hs:fN s d=true):qY n s=some s:=by
 unfold qY
 rw [yP hn hs (F:=fun q0=>cY n q0) (f:=fun x=>x) (Y4 n),aJN (fun _ _=>rfl) hs];rfl
theorem aDC{n:Nat}(hn:6000≤n){list:List Arr}{x:Part}(h:cC list x=true):kJ n x=some x:=by
 obtain⟨h1,h2⟩:=mK h
 obtain⟨_,h4,h5,_⟩:=iG h
 unfold kJ
 refine Ev.eq (aB (aDE (by omega) h1 h2) (nL (g:=fun x=>x) (K:=fun x2=>some (⟨x.nest,x2⟩:Part)) (fun s hs=>aDB hn (h5 s hs)) (by omega) (by omega) (Ev.some ?_)))
 simp
theorem aDA{n:Nat}(hn:6000≤n){p:Prog}(h:cL p=true):eA n p=some p:=by
 obtain⟨h1,h2,h3,h4,_⟩:=lA h
 unfold eA
 refine Ev.eq (uA (F:=fun x5 k=>Option.bind (m_ownClone x5.dims) fun x6=>k (⟨x5.name,x6⟩:Arr)) (g:=fun x=>x) (s:=0) (pre:=[]) (K:=fun x1=>aM (fun again11 ((x8,x9):(List Part)×Int)=>
    bif decide (x9<(p.parts.length:Int)) then(
     Option.bind (ix p.parts x9) fun x12=>
     Option.bind (kJ n x12) fun x13=>
     Option.bind (app x8 [x13]) fun x14=>
     again11 (x14,wr (x9+1))
    ) else(
     some (⟨x1,x8⟩:Prog)
    )
   ) n ([],0)) (fun x hx k hk=>aB (x:=x.dims) ?_ hk) (by omega) (by simp) (by omega) (by omega) ?_)
 ·have:=(aMK h1 h2).2 x hx
  unfold m_ownClone
  rw [if_pos (by omega)]
 ·refine nL (g:=fun x=>x) (K:=fun x8=>some (⟨_,x8⟩:Prog)) (fun x hx=>aDC hn (h4 x hx)) (by omega) (by omega) (Ev.some ?_)
  simp
theorem iB{α:Type}{a b:List α}(h:b.length=a.length):jS a b=some ():=by unfold jS;rw [if_pos h]
theorem v8{n:Nat}(hn:5000≤n){l:Loop}(hl:A5 l){F:Affine→Option Affine}{f:Affine→Affine}(hF: ∀x,bL x=true→F x=some (f x)):eC n l F=some (dJ f l):=by
 obtain⟨⟨a1,a2⟩,b1,b2⟩:=hl
 unfold eC
 refine Ev.eq (Ev.loop (fun z:Loop×Int=>(z.2=0∧z.1=l)∨(z.2=1∧z.1=⟨l.lo.map f,l.hi⟩)∨(z.2=2∧z.1=dJ f l)) (fun z=>3-z.2.toNat) ?_ n _ (.inl ⟨rfl,rfl⟩) (by dsimp only;omega))
 rintro again ⟨x,i⟩ hz hr
 dsimp only at hz hr⊢
 rcases hz with ⟨rfl,rfl⟩|⟨rfl,rfl⟩|⟨rfl,rfl⟩
 ·refine aB (iB rfl) (aB (iB rfl) (aH (fun _=>aH (fun _=> ?_) (fun h=>(h rfl).elim)) (fun h=>absurd h (by omega))))
  refine aAH (F:=fun x k=>Option.bind (F x) k) (W:=fun _ o=>o) (m:=fun _=>(x.lo.length:Int)) (g:=f) (s:=0) (K:=fun y=>again ((⟨y,x.hi⟩:Loop),wr (0+1))) (fun _ _ _ h=>h) (fun _ _=>rfl) (by omega) (fun x hx k hk=>aB (hF x (a2 x hx)) hk) (by omega) hn ?_
  rw [aP (by omega)]
  exact hr _ (.inr (.inl ⟨by dsimp only;omega,by simp⟩)) (by dsimp only;omega)
 ·refine aB (iB (by simp)) (aB (iB rfl) (aH (fun _=>aH (fun h=>absurd h (by omega)) (fun _=>aH (fun _=> ?_) (fun h=>(h rfl).elim))) (fun h=>absurd h (by omega))))
  refine aAH (F:=fun x k=>Option.bind (F x) k) (W:=fun _ o=>o) (m:=fun _=>(l.hi.length:Int)) (g:=f) (s:=0) (K:=fun y=>again ((⟨l.lo.map f,y⟩:Loop),wr (1+1))) (fun _ _ _ h=>h) (fun _ _=>rfl) (by omega) (fun x hx k hk=>aB (hF x (b2 x hx)) hk) (by omega) hn ?_
  rw [aP (by omega)]
  exact hr _ (.inr (.inr ⟨by dsimp only;omega,by simp [dJ]⟩)) (by dsimp only;omega)
 ·refine aB (iB (by simp [dJ])) (aB (iB (by simp [dJ])) (aH (fun h=>absurd h (by omega)) (fun _=>Ev.some rfl)))
def nF(k:Nat)(g f:Affine→Affine)(x:Part)(l:Loop):Part:=⟨x.nest.take k++dJ g l::(x.nest.drop (k+1)).map (dJ f),x.body.map (t8 f)⟩
theorem V4{n:Nat}(hn:6000≤n){nest:List Loop}{body:List Stmt}{s:Nat}(hs:s≤nest.length)(h1:nest.length≤4)(h2: ∀l∈nest.drop s,A5 l){d:Int}(h3:body.length≤4)(h4: ∀s∈body,fN s d=true){F:Affine→Option Affine}{f:Affine→Affine}(hF: ∀x,bL x=true→F x=some (f x)):
  jQ n ⟨nest,body⟩ (s:Int) F=some ⟨nest.take s++(nest.drop s).map (dJ f),body.map (t8 f)⟩:=by
 have key: ∀(nest2:List Loop),Ev (aM (fun again2 ((y,j):(List Stmt)×Int)=>
    Option.bind (jS body y) fun x5=>
    bif decide (j<(body.length:Int)) then(
     Option.bind (ix y j) fun x6=>
     Option.bind (gU n x6 F) fun x7=>
     Option.bind (dF y j x7) fun x8=>
     again2 (x8,wr (j+1))
    ) else(
     some (⟨nest2,y⟩:Part)
    )
   ) n (body,0)) (fun r=>r=⟨nest2,body.map (t8 f)⟩):=fun nest2=>
  aAH (F:=fun x k=>Option.bind (gU n x F) k) (W:=fun y o=>Option.bind (jS body y) fun _=>o) (m:=fun _=>(body.length:Int)) (g:=t8 f) (s:=0) (K:=fun y=>some (⟨nest2,y⟩:Part)) (fun y o h ho=>aB (iB h) ho) (fun _ _=>rfl) (by omega) (fun x hx k hk=>aB (yP hn (h4 x hx) hF) hk) (by omega) (by omega) (Ev.some (by simp))
 unfold jQ
 refine Ev.eq ?_
 -- the loops ahead stay: only those behind are changed
 refine Ev.loop (fun z:List Loop×Int=> ∃i:Nat,z.2=i∧s≤i∧i≤nest.length∧z.1=nest.take s++((nest.drop s).take (i-s)).map (dJ f)++nest.drop i) (fun z=>nest.length-z.2.toNat) ?_ n _ ⟨s,rfl,by omega,by omega,by simp⟩ (by dsimp only;omega)
 rintro again ⟨x,z⟩ ⟨i,hz,hsi,hi,hx⟩ hr
 dsimp only at hz hx⊢
 subst hz
 have hpl:(nest.take s++((nest.drop s).take (i-s)).map (dJ f)).length=i:=by rw [List.length_append,List.length_map,List.length_take,List.length_take,List.length_drop];omega
 have hxl:x.length=nest.length:=by rw [hx,List.length_append,hpl,List.length_drop];omega
 refine aB (iB hxl) (aH (fun hlt=> ?_) (fun hge=> ?_))
 ·obtain⟨e,hg⟩: ∃e,nest[i]? =some e:=⟨_,List.getElem?_eq_getElem (show i<nest.length by omega)⟩
  have hgx:x[i]? =some e:=by
   rw [hx,List.getElem?_append_right (by omega),hpl,Nat.sub_self,List.getElem?_drop];exact hg
  have he:e∈nest.drop s:=List.mem_iff_getElem?.2 ⟨i-s,by rw [List.getElem?_drop,show s+(i-s)=i by omega];exact hg⟩
  refine aB (aQ hgx) (aB (v8 (by omega) (h2 _ he) hF) (aB (dU (by omega) _) ?_))
  rw [aP (by omega)]
  refine hr _ ⟨i+1,by dsimp only;omega,by omega,by omega,?_⟩ (by dsimp only;omega)
  dsimp only
  rw [hx,Int.toNat_natCast,List.set_append_right _ _ (by omega),hpl,Nat.sub_self,lL hg,List.set_cons_zero,show i+1-s=(i-s)+1 by omega,List.take_add_one,List.getElem?_drop,show s+(i-s)=i by omega,hg]
  simp
 ·have:i=nest.length:=by omega
  subst this
  rw [hx,List.take_of_length_le (l:=nest.drop s) (by rw [List.length_drop];omega),List.drop_length,List.append_nil]
  exact key _
theorem aAL{n:Nat}(hn:5000≤n){l:List Affine}(h1:l.length≤2)(h2: ∀x∈l,bL x=true){way v:Int}{b:Affine}{f:Affine→Affine}(hF: ∀x,bL x=true→gJ n x way v b=some (f x)):oH n l way v b=some (l.map f):=by
 unfold oH
 exact Ev.eq (nL (K:=fun x1=>some x1) (fun x hx=>hF x (h2 x hx)) (by omega) hn (Ev.some rfl))
theorem aF4{n:Nat}(hn:5000≤n){l:Loop}(hl:A5 l){way v:Int}{b:Affine}{f:Affine→Affine}(hF: ∀x,bL x=true→gJ n x way v b=some (f x)):qM n l way v b=some (dJ f l):=by
 unfold qM
 rw [aAL hn hl.1.1 hl.1.2 hF,aAL hn hl.2.1 hl.2.2 hF];rfl
theorem D9{n:Nat}(hn:5000≤n){a:Access}{d:Int}(ha:gQ a d=true){way v:Int}{b:Affine}{f:Affine→Affine}(hF: ∀x,bL x=true→gJ n x way v b=some (f x)):jY n a way v b=some (fJ f a):=by
 have:=s8 ha
 unfold jY
 rw [aAL hn this.2.1 this.2.2 hF];rfl
theorem Z8{d way v:Int}{b:Affine}{f:Affine→Affine}(hF: ∀n,5000≤n→ ∀x,bL x=true→gJ n x way v b=some (f x)): ∀(L n:Nat) (e:Expr),5000+L≤n→dI L e d=true→s_l8Expr (n+1) e way v b=some (uB f L e)
 |0,_,_,_,h=>by cases h
 |L+1,n,e,hn,h=>by
  obtain⟨hk,ho,hs⟩:=iR h
  obtain⟨n,rfl⟩: ∃j,n=j+1:=⟨n-1,by omega⟩
  have hkl:e.kids.length≤2:=by have:=mU e.kind;omega
  unfold s_l8Expr
  refine Ev.eq (Ev.jn (fun z=>(⟨z.1,z.2⟩:Affine)=(if e.kind=2 then f e.index else⟨[],0⟩)) (fun j hj=> ?_) (fun z hz=>Ev.jn (fun y=>(⟨y.1,y.2⟩:Access)=(if e.kind=3 then fJ f e.read else⟨[],[]⟩)) (fun j hj=> ?_) (fun y hy=> ?_)))
  ·exact aH (fun h2=>aB (hF _ (by omega) _ (wR ho h2).1) (hj _ (by rw [if_pos h2]))) (fun h2=>hj _ (by rw [if_neg h2]))
  ·exact aH (fun h3=>aB (D9 (by omega) (wQ ho h3).1 (hF _ (by omega))) (hj _ (by rw [if_pos h3]))) (fun h3=>hj _ (by rw [if_neg h3]))
  ·obtain⟨x3,x4⟩:=z
   obtain⟨x7,x8⟩:=y
   dsimp only at hz hy⊢
   refine nL (K:=fun x9=>some (⟨e.kind,e.num,(⟨x3,x4⟩:Affine),(⟨x7,x8⟩:Access),x9⟩:Expr)) (fun x hx=>Z8 hF L n x (by omega) (hs x hx)) (by omega) (by omega) (Ev.some ?_)
   rw [hz,hy];rfl
theorem aF6{n:Nat}(hn:6000≤n){l:List Stmt}{d:Int}(h1:l.length≤4)(h2: ∀s∈l,fN s d=true){way v:Int}{b:Affine}{f:Affine→Affine}(hF: ∀n,5000≤n→ ∀x,bL x=true→gJ n x way v b=some (f x)):tN n l way v b=some (l.map (t8 f)):=by
 obtain⟨n,rfl⟩: ∃j,n=j+1:=⟨n-1,by omega⟩
 unfold tN
 refine Ev.eq ?_
 refine uA (β:=Stmt) (l:=l) (n:=n+1) (F:=fun x5 k=>Option.bind (jY (n+1) x5.write way v b) fun x6=>Option.bind (s_l8Expr (n+1) x5.value way v b) fun x7=>k (⟨x6,x7⟩:Stmt)) (g:=t8 f) (s:=0) (pre:=[]) (K:=fun x1=>some x1) (fun x hx k hk=> ?_) (by omega) (by simp) (by omega) (by omega) (Ev.some (by simp))
 obtain⟨h1,h2,_⟩:=kR (h2 x hx)
 exact aB (D9 (by omega) h1 (hF _ (by omega))) (aB (Z8 hF 5 n x.value (by omega) h2) hk)
theorem aDP{n:Nat}(hn:6000≤n){x:Part}{s:Nat}(hs:s+1≤x.nest.length)(h1:x.nest.length≤4)(h2: ∀l∈x.nest,A5 l){d:Int}(h3:x.body.length≤4)(h4: ∀s∈x.body,fN s d=true){way v:Int}{b:Affine}{f:Affine→Affine}(hF: ∀n,5000≤n→ ∀x,bL x=true→gJ n x way v b=some (f x)):
  qN n x (s:Int) way v b=some ⟨x.nest.take (s+1)++(x.nest.drop (s+1)).map (dJ f),x.body.map (t8 f)⟩:=by
 unfold qN
 rw [aP (by omega)]
 refine Ev.eq (aB (J9 (by omega) (by omega) (by omega)) ?_)
 rw [show((s:Int)+1).toNat=s+1 by omega,show(0:Int).toNat=0 from rfl,List.drop_zero]
 refine aB (x:=x.nest.take (s+1)) (bW (by simp;omega)) (aB (aF6 hn h3 h4 hF) ?_)
 exact uA (F:=fun x8 k=>Option.bind (qM n x8 way v b) k) (g:=dJ f) (s:=s+1) (pre:=x.nest.take (s+1)) (K:=fun x4=>some (⟨x4,x.body.map (t8 f)⟩:Part)) (fun l hl k hk=>aB (aF4 (by omega) (h2 l hl) (hF _ (by omega))) hk) (by omega) (by simp;omega) (by omega) (by omega) (Ev.some rfl)
theorem Z0(n:Nat){a:Affine}(h:BA 1000 a):fS n a=some a:=by
 unfold fS
 rw [eD _ h];rfl
theorem wT{n:Nat}(hn:5000≤n){l:List Affine}(h:BAs 1000 l):cT n l=some l:=by
 unfold cT
 exact Ev.eq (mZ (K:=fun x1=>some x1) (fun x hx=>Z0 n (h.2 x hx)) h.1 hn (Ev.some rfl))
theorem Z1{n:Nat}(hn:5000≤n){a:Access}(h:BAs 1000 a.subs):fT n a=some a:=by
 unfold fT
 rw [wT hn h];rfl
theorem M6: ∀(L n:Nat) (e:Expr),5000+L≤n→BE 1000 L e→s_l16OwnExpr (n+1) e=some e
 |0,_,_,_,h=>h.elim
 |L+1,n,e,hn,h=>by
  obtain⟨h1,h2,h3,h4⟩:=h
  obtain⟨n,rfl⟩: ∃j,n=j+1:=⟨n-1,by omega⟩
  unfold s_l16OwnExpr iS
  rw [Z0 _ h2,Z1 (by omega) h3]
  refine Ev.eq (aB rfl (aB rfl (aB (x:=e.kids) ?_ (Ev.some (by cases e;rfl)))))
  exact Ev.eq (mZ (f:=s_l16OwnExpr (n+1)) (K:=fun x1=>some x1) (fun x hx=>M6 L n x (by omega) (h4 x hx)) h1 (by omega) (Ev.some rfl))
theorem aDI{n:Nat}(hn:6000≤n){s:Stmt}(h:BS 1000 s):kU n s=some s:=by
 obtain⟨n,rfl⟩: ∃j,n=j+1:=⟨n-1,by omega⟩
 unfold kU
 rw [Z1 (by omega) h.1,M6 5 n s.value (by omega) h.2];rfl
theorem aDK{n:Nat}(hn:6000≤n){x:Part}(h:BPt 1000 x):kV n x=some x:=by
 obtain⟨⟨h1,h2⟩,h3,h4⟩:=h
 have e1:fR n x.nest=some x.nest:=by
  unfold fR
  refine Ev.eq (mZ (K:=fun x1=>some x1) (fun l hl=> ?_) h1 (by omega) (Ev.some rfl))
  unfold nI
  rw [wT (by omega) (h2 l hl).1,wT (by omega) (h2 l hl).2];rfl
 have e2:fP n x.body=some x.body:=by
  unfold fP
  exact Ev.eq (mZ (K:=fun x1=>some x1) (fun l hl=>aDI hn (h4 l hl)) h3 (by omega) (Ev.some rfl))
 unfold kV
 rw [e1,e2];rfl
theorem aDJ{n:Nat}(hn:6000≤n){p:Prog}(h:BG 1000 p):gK n p=some p:=by
 obtain⟨⟨h1,h2⟩,h3,h4⟩:=h
 have e1:e9 n p.arrays=some p.arrays:=by
  unfold e9
  refine Ev.eq (mZ (K:=fun x1=>some x1) (fun l hl=> ?_) h1 (by omega) (Ev.some rfl))
  unfold mI
  rw [eD _ (h2 l hl)];rfl
 have e2:fQ n p.parts=some p.parts:=by
  unfold fQ
  exact Ev.eq (mZ (K:=fun x1=>some x1) (fun l hl=>aDK hn (h4 l hl)) h3 (by omega) (Ev.some rfl))
 unfold gK
 rw [e1,e2];rfl
theorem qL{α:Type}{f:α→α→Option Bool}{l:List α}(hf: ∀x∈l,f x x=some true){n:Nat}(hn:l.length<n)(hl:l.length≤1000000):
  (bif !decide ((l.length:Int)=(l.length:Int)) then(some false) else(aM (fun again2 (x1:Int)=>bif decide (x1<(l.length:Int)) then(Option.bind (ix l x1) fun x3=>Option.bind (ix l x1) fun x4=>Option.bind (f x3 x4) fun x5=>bif !x5 then(some false) else(again2 (wr (x1+1)))) else(some true)) n 0))=some true:=by
 refine Ev.eq (dQ (fun h=>(h rfl).elim) (fun _=> ?_))
 refine Ev.loop (fun x:Int=> ∃i:Nat,x=i∧i≤l.length) (fun x=>l.length-x.toNat) ?_ n 0 ⟨0,rfl,by omega⟩ (by omega)
 rintro again x ⟨i,rfl,hi⟩ hr
 refine aH (fun hlt=> ?_) (fun _=>Ev.some rfl)
 obtain⟨e,hg⟩: ∃e,l[i]? =some e:=⟨_,List.getElem?_eq_getElem (show i<l.length by omega)⟩
 refine aB (aQ hg) (aB (aQ hg) (aB (hf e (List.mem_of_getElem? hg)) (bZ ?_)))
 rw [aP (by omega)]
 exact hr _ ⟨i+1,by omega,by omega⟩ (by omega)
theorem X8{a:List Int}{n:Nat}(hn:a.length<n)(hl:a.length≤1000000):d9 n a a=some true:=by
 unfold d9
 refine Ev.eq (dQ (fun h=>(h rfl).elim) (fun _=> ?_))
 refine Ev.loop (fun x:Int=> ∃i:Nat,x=i∧i≤a.length) (fun x=>a.length-x.toNat) ?_ n 0 ⟨0,rfl,by omega⟩ (by omega)
 rintro again x ⟨i,rfl,hi⟩ hr
 refine aH (fun hlt=> ?_) (fun _=>Ev.some rfl)
 obtain⟨e,hg⟩: ∃e,a[i]? =some e:=⟨_,List.getElem?_eq_getElem (show i<a.length by omega)⟩
 refine aB (aQ hg) (aB (aQ hg) (dQ (fun h=>(h rfl).elim) (fun _=> ?_)))
 rw [aP (by omega)]
 exact hr _ ⟨i+1,by omega,by omega⟩ (by omega)
theorem aFG{n:Nat}(hn:5000≤n){a:Affine}(h:BA 1000 a):cI n a a=some true:=by
 unfold BA at h
 unfold cI
 refine Ev.eq (Ev.jn (fun z=>z=true) (fun j hj=>aB (X8 (by omega) (by omega)) (bY (hj _ (decide_eq_true rfl)))) (fun z hz=>Ev.some hz))
theorem U7{n:Nat}(hn:5000≤n){l:List Affine}(h:BAs 1000 l):cU n l l (fun q0 q1=>cI n q0 q1)=some true:=by
 have:=h.1
 unfold cU
 exact qL (fun x hx=>aFG hn (h.2 x hx)) (by omega) (by omega)
theorem aFH{n:Nat}(hn:5000≤n){a:Access}(h:BAs 1000 a.subs):iZ n a a=some true:=by
 unfold iZ
 refine Ev.eq (Ev.jn (fun z=>z=true) (fun j hj=> ?_) (fun z hz=>Ev.some hz))
 exact aH (fun _=>aB (U7 hn h) (hj _ rfl)) (fun h=>(h rfl).elim)
theorem aCw: ∀(L n:Nat) (e:Expr),5000+L≤n→BE 1000 L e→i_exprSame (n+1) e e=some true
 |0,_,_,_,h=>h.elim
 |L+1,n,e,hn,h=>by
  obtain⟨h1,h2,h3,h4⟩:=h
  obtain⟨n,rfl⟩: ∃j,n=j+1:=⟨n-1,by omega⟩
  unfold i_exprSame
  refine Ev.eq (Ev.jn (fun z=>z=true) (fun j hj=> ?_) (fun z hz=>Ev.some hz))
  refine aH (fun _=>aH (fun _=>aB (aFG (by omega) h2) (bY (aB (aFH (by omega) h3) (bY (aB (x:=true) ?_ (hj _ rfl)))))) (fun h=>(h rfl).elim)) (fun h=>(h rfl).elim)
  unfold iY
  exact qL (fun x hx=>aCw L n x (by omega) (h4 x hx)) (by omega) (by omega)
theorem aHa{n:Nat}(hn:6000≤n){s:Stmt}(h:BS 1000 s):l9 n s s=some true:=by
 obtain⟨n,rfl⟩: ∃j,n=j+1:=⟨n-1,by omega⟩
 unfold l9
 refine Ev.eq (Ev.jn (fun z=>z=true) (fun j hj=> ?_) (fun z hz=>Ev.some hz))
 exact aB (aFH (by omega) h.1) (bY (aB (aCw 5 n s.value (by omega) h.2) (hj _ rfl)))
theorem aHv{n:Nat}(hn:5000≤n){nest:List Loop}(h:BN 1000 nest):o8 n nest nest=some true:=by
 have:=h.1
 unfold o8 iX
 rw [qL (fun l hl=> ?_) (by omega) (by omega)]
 ·rfl
 ·unfold lH
  refine Ev.eq (Ev.jn (fun z=>z=true) (fun j hj=> ?_) (fun z hz=>Ev.some hz))
  exact aB (U7 hn (h.2 l hl).1) (bY (aB (U7 hn (h.2 l hl).2) (hj _ rfl)))
theorem aHr{n:Nat}(hn:6000≤n){x:Part}(h:BPt 1000 x):eV n x x=some true:=by
 have:=h.2.1
 unfold eV
 refine Ev.eq (Ev.jn (fun z=>z=true) (fun j hj=> ?_) (fun z hz=>Ev.some hz))
 refine aB (aHv (by omega) h.1) (bY (aB (x:=true) ?_ (hj _ rfl)))
 unfold iV
 exact qL (fun s hs=>aHa hn (h.2.2 s hs)) (by omega) (by omega)
theorem aHp{n:Nat}(hn:6000≤n){p:Prog}(h:BG 1000 p):eB n p p=some true:=by
 obtain⟨⟨h1,h2⟩,h3,h4⟩:=h
 unfold eB
 refine Ev.eq (Ev.jn (fun z=>z=true) (fun j hj=> ?_) (fun z hz=>Ev.some hz))
 refine aB (x:=true) ?_ (bY (aB (x:=true) ?_ (hj _ rfl)))
 ·unfold hJ
  refine qL (fun x hx=> ?_) (by omega) (by omega)
  unfold eX
  refine Ev.eq (Ev.jn (fun z=>z=true) (fun j hj=> ?_) (fun z hz=>Ev.some hz))
  have:=h2 x hx
  exact aH (fun _=>aB (X8 (by omega) (by omega)) (hj _ rfl)) (fun h=>(h rfl).elim)
 ·unfold iW
  exact qL (fun x hx=>aHr hn (h4 x hx)) (by omega) (by omega)
def jR(p:Prog)(part loop:Int):Bool:=cL p&&match ix p.parts part with
 |some x=>decide (0≤loop∧loop<(x.nest.length:Int))
 |none=>false
theorem aHG{α:Type}{l:List α}{i:Int}(h: ¬(0≤i∧i<(l.length:Int))):ix l i=none:=by
 cases hx:ix l i with
 |none=>rfl
 |some x=>
  obtain⟨h1,h2⟩:=rW hx
  have:=(List.getElem?_eq_some_iff.1 h2).1
  exact absurd ⟨h1,by omega⟩ h
theorem aLv{α:Type}{l:List α}{i:Int}{x:α}(h:ix l i=some x): ∃k:Nat,i=k∧k<l.length∧l[k]? =some x:=by
 obtain⟨h1,h2⟩:=rW h
 exact⟨i.toNat,by omega,(List.getElem?_eq_some_iff.1 h2).1,h2⟩
theorem vA(n:Nat){p:Prog}(h:p.parts.length≤1000)(part:Int):bU n p part=some (decide (0≤part∧part<(p.parts.length:Int))):=by
 unfold bU
 rw [eH,aP (by omega)]
 exact congrArg some (decide_eq_decide.2 (by omega))
theorem aIE{n:Nat}(hn:7000≤n){p:Prog}(hp:BG 1000 p)(part loop:Int)(hl:loop≠ -1):nN n p part loop=some (if jR p part loop=true then(p,true) else(⟨[],[]⟩,false)):=by
 unfold nN
 refine Ev.eq (Ev.jn (fun z=>z= !jR p part loop) (fun j hj=> ?_) (fun z hz=> ?_))
 ·refine aB (lG hn hp.sm) (Ev.cond (fun h=> ?_) (fun h=> ?_))
  ·refine hj _ ?_
   unfold jR
   rw [show cL p=false by simpa using h];rfl
  ·have hv:cL p=true:=by simpa using h
   refine aB (vA n hp.2.1 part) ?_
   by_cases hi:0≤part∧part<(p.parts.length:Int)
   ·obtain⟨x,hx,hx2⟩:=jF hi.1 hi.2
    rw [decide_eq_true hi]
    refine bZ (dQ (fun _=>aB (x:=jR p part loop) ?_ (hj _ rfl)) (fun h=>absurd h hl))
    unfold jA
    refine Ev.eq (Ev.jn (fun z=>z=jR p part loop) (fun j hj=> ?_) (fun z hz=>Ev.some hz))
    rw [vA n hp.2.1 part,decide_eq_true hi]
    refine aB rfl (bY (aB hx ?_))
    have:=(hp.2.2 x (List.mem_of_getElem? hx2)).1.1
    rw [aP (by omega),eH]
    refine aB rfl (hj _ ?_)
    unfold jR
    rw [hv,hx]
    exact decide_eq_decide.2 (by omega)
   ·rw [decide_eq_false hi]
    refine bY (hj _ ?_)
    unfold jR
    rw [aHG hi,Bool.and_false];rfl
 ·subst hz
  by_cases hc:jR p part loop=true
  ·rw [hc]
   have hv:cL p=true:=by unfold jR at hc;rw [Bool.and_eq_true] at hc;exact hc.1
   obtain⟨x,hx⟩: ∃x,ix p.parts part=some x:=by
    cases hx:ix p.parts part with
    |some x=>exact⟨x,rfl⟩
    |none=>unfold jR at hc;rw [hx,Bool.and_false] at hc;cases hc
   exact bZ (aB (aDA (by omega) hv) (aB hx (Ev.some rfl)))
  ·rw [show jR p part loop=false by simpa using hc]
   exact bY (Ev.some rfl)
def V9(q:Prog):Prog×Bool:=if cL q=true then(q,true) else(⟨[],[]⟩,false)
theorem aCv{n:Nat}(hn:7000≤n){p:Prog}(hp:BG 1000 p):o5 n p=some (V9 p):=by
 unfold o5 V9
 refine Ev.eq (aB (lG hn hp.sm) (Ev.cond (fun h=>Ev.some ?_) (fun h=> ?_)))
 ·rw [if_neg (by simpa using h)]
 ·have hv:cL p=true:=by simpa using h
  rw [if_pos hv]
  exact aB (aDA (by omega) hv) (Ev.some rfl)
theorem aLA{n:Nat}(hn:7000≤n){p:Prog}(hp:BG 1000 p)(part loop:Int):xW n p part loop=some (jR p part loop):=by
 unfold xW
 refine Ev.eq (Ev.jn (fun z=>z=jR p part loop) (fun j hj=> ?_) (fun z hz=>Ev.some hz))
 refine aB (kW hn hp.sm) (Ev.cond (fun hv=> ?_) (fun hv=>hj _ (by unfold jR;rw [hv];rfl)))
 refine aH (fun h1=>aH (fun h2=> ?_) (fun h2=> ?_)) (fun h1=> ?_)
 ·obtain⟨x,hx,hx2⟩:=jF h1 h2
  refine aH (fun h3=>aB hx (hj _ ?_)) (fun h3=>hj _ ?_)
  ·unfold jR
   rw [hv,hx]
   exact decide_eq_decide.2 (by omega)
  ·unfold jR
   rw [hv,hx]
   exact(decide_eq_false (by omega)).symm
 ·exact hj _ (by unfold jR;rw [aHG (by omega),Bool.and_false])
 ·exact hj _ (by unfold jR;rw [aHG (by omega),Bool.and_false])
theorem aI2{n:Nat}(hn:7000≤n){p:Prog}(hp:BG 1000 p){i:Nat}(hi:i<p.parts.length){y:Part}(hy:BPt 1000 y):tK n p (i:Int) 1 [y]=some (V9 ⟨p.arrays,p.parts.set i y⟩):=by
 have hpl:=hp.2.1
 have hq:BG 1000 ⟨p.arrays,p.parts.set i y⟩:=⟨hp.1,by dsimp only;rw [List.length_set];exact hpl,rJ hp.2.2 hy⟩
 unfold tK V9
 refine Ev.eq (aB (uJ (by omega) hp) (aB (J9 (by omega) (by omega) (by omega)) ?_))
 rw [Int.toNat_natCast,show(0:Int).toNat=0 from rfl,List.drop_zero]
 refine aB (x:=p.parts.take i) (bW (by simp;omega)) (aB (x:=p.parts.take i++[y]) (bW (by simp;omega)) ?_)
 rw [aP (by omega)]
 refine aB (J9 (by omega) (by omega) (by omega)) ?_
 rw [Int.toNat_natCast,List.take_length,show((i:Int)+1).toNat=i+1 by omega]
 refine aB (x:=p.parts.set i y) ?_ (aB (kW hn hq.sm) (Ev.cond (fun h=>Ev.some ?_) (fun h=> ?_)))
 ·rw [bW (by simp;omega),List.set_eq_take_append_cons_drop,if_pos hi,List.append_assoc];rfl
 ·rw [if_neg (by simpa using h)]
 ·rw [if_pos (by simpa using h)]
  exact aB (uJ (by omega) hq) (Ev.some rfl)
def f0(a:Affine)(k:Int)(b:Affine):Affine:=⟨List.zipWith (fun x y=>x+k*y) a.coefs b.coefs,a.const+k*b.const⟩
def sV(k:Nat):Affine:=⟨[0,0,0,0].set k 1,0⟩
def fB(k:Nat)(b x:Affine):Affine:=f0 x (-(x.coefs.getD k 0)) b
def bB(m:Int)(a:Affine):Prop:=a.coefs.length=4∧pI m a.const∧ ∀c∈a.coefs,pI m c
theorem bB.mono{m m':Int}{a:Affine}(h:bB m a)(hm:m≤m'):bB m' a:=⟨h.1,⟨by have:=h.2.1.1;omega,by have:=h.2.1.2;omega⟩,fun c hc=>⟨by have:=(h.2.2 c hc).1;omega,by have:=(h.2.2 c hc).2;omega⟩⟩
theorem aCb{l:List Int}(h:l.length=4): ∃a b c d,l=[a,b,c,d]:=by
 match l,h with
 | [a,b,c,d],_=>exact⟨a,b,c,d,rfl⟩
theorem C7{a:Affine}(h:bL a=true):bB 99 a:=by
 obtain⟨h1,h2,h3⟩:=jD h
 exact⟨h1,h2,fun c hc=>⟨by have:=(h3 c hc).1;omega,by have:=(h3 c hc).2;omega⟩⟩
theorem aI6{k:Nat}(hk:k<4):bB 6 (sV k):=by
 rcases(show k=0∨k=1∨k=2∨k=3 by omega) with rfl|rfl|rfl|rfl<;>(unfold bB pI sV;simp)
theorem wV{k b:Int}(hk:pI 1000 k)(hb:pI 1000 b):pI 1000000 (k*b):=aE9 (by omega) (by omega) hk hb
theorem wrB{a x:Int}(ha:pI 1000 a)(hx:pI 1000000 x):wr (a+wr x)=a+x:=by
 unfold pI at ha hx
 rw [aP (n:=x) (by omega),aP (by omega)]
theorem aLz(m:Nat)(a0 a1 a2 a3 ac k b0 b1 b2 b3 bc:Int):aAd (m+6) ⟨[a0,a1,a2,a3],ac⟩ k ⟨[b0,b1,b2,b3],bc⟩=
  some ⟨[wr (a0+wr (k*b0)),wr (a1+wr (k*b1)),wr (a2+wr (k*b2)),wr (a3+wr (k*b3))],wr (ac+wr (k*bc))⟩:=by kernel_rfl
theorem aCj{n:Nat}(hn:5000≤n){a b:Affine}(ha:bB 1000 a)(hb:bB 1000 b){k:Int}(hk:pI 1000 k):aAd n a k b=some (f0 a k b):=by
 obtain⟨m,rfl⟩: ∃m,n=m+6:=⟨n-6,by omega⟩
 obtain⟨ac,a⟩:=a
 obtain⟨bc,b⟩:=b
 obtain⟨h1,h2,h3⟩:=ha
 obtain⟨g1,g2,g3⟩:=hb
 dsimp only at h1 h2 h3 g1 g2 g3
 obtain⟨a0,a1,a2,a3,rfl⟩:=aCb h1
 obtain⟨b0,b1,b2,b3,rfl⟩:=aCb g1
 rw [aLz,wrB (h3 a0 (by simp)) (wV hk (g3 b0 (by simp))),wrB (h3 a1 (by simp)) (wV hk (g3 b1 (by simp))),wrB (h3 a2 (by simp)) (wV hk (g3 b2 (by simp))),wrB (h3 a3 (by simp)) (wV hk (g3 b3 (by simp))),wrB h2 (wV hk g2)]
 rfl
def aLN(a:Affine)(x:Int)(b:Affine)(y:Int):Affine:=⟨List.zipWith (fun p q=>x*p+y*q) a.coefs b.coefs,x*a.const+y*b.const⟩
theorem aLf(m:Nat)(a0 a1 a2 a3 ac x b0 b1 b2 b3 bc y:Int):cA (m+6) ⟨[a0,a1,a2,a3],ac⟩ x ⟨[b0,b1,b2,b3],bc⟩ y=
  some ⟨[wr (wr (x*a0)+wr (y*b0)),wr (wr (x*a1)+wr (y*b1)),wr (wr (x*a2)+wr (y*b2)),wr (wr (x*a3)+wr (y*b3))],wr (wr (x*ac)+wr (y*bc))⟩:=by kernel_rfl
theorem wrC{a x:Int}(ha:pI 1000000 a)(hx:pI 1000000 x):wr (wr a+wr x)=a+x:=by
 unfold pI at ha hx
 rw [aP (n:=x) (by omega),aP (n:=a) (by omega),aP (by omega)]
theorem L0{n:Nat}(hn:5000≤n){a b:Affine}(ha:bB 1000 a)(hb:bB 1000 b){x y:Int}(hx:pI 1000 x)(hy:pI 1000 y):cA n a x b y=some (aLN a x b y):=by
 obtain⟨m,rfl⟩: ∃m,n=m+6:=⟨n-6,by omega⟩
 obtain⟨ac,a⟩:=a
 obtain⟨bc,b⟩:=b
 obtain⟨h1,h2,h3⟩:=ha
 obtain⟨g1,g2,g3⟩:=hb
 dsimp only at h1 h2 h3 g1 g2 g3
 obtain⟨a0,a1,a2,a3,rfl⟩:=aCb h1
 obtain⟨b0,b1,b2,b3,rfl⟩:=aCb g1
 rw [aLf,wrC (wV hx (h3 a0 (by simp))) (wV hy (g3 b0 (by simp))),wrC (wV hx (h3 a1 (by simp))) (wV hy (g3 b1 (by simp))),wrC (wV hx (h3 a2 (by simp))) (wV hy (g3 b2 (by simp))),wrC (wV hx (h3 a3 (by simp))) (wV hy (g3 b3 (by simp))),wrC (wV hx h2) (wV hy g2)]
 rfl
theorem aBm(a b:Affine)(k:Int):aLN a 1 b k=f0 a k b:=by
 unfold aLN f0
 simp only [Int.one_mul]
theorem aLU(a b:Affine)(k:Int)(ha:a.coefs.length=4)(hb:b.coefs.length=4):(f0 a k b).coefs.length=4:=by
 unfold f0
 rw [List.length_zipWith];omega
def aJs(a:Affine)(k:Nat)(b:Affine):Affine:=f0 ⟨a.coefs.set k 0,a.const⟩ (a.coefs.getD k 0) b
theorem aE0{a:Affine}(h:bB 1000 a)(k:Nat):bB 1000 ⟨a.coefs.set k 0,a.const⟩:=⟨by dsimp only;rw [List.length_set];exact h.1,h.2.1,rJ h.2.2 ⟨by omega,by omega⟩⟩
theorem aFw{a:Affine}(h:bB 1000 a){k:Nat}(hk:k<4):a.coefs[k]? =some (a.coefs.getD k 0)∧pI 1000 (a.coefs.getD k 0):=by
 have hl:k<a.coefs.length:=by rw [h.1];exact hk
 have e:=List.getElem?_eq_getElem hl
 have e2:a.coefs.getD k 0=a.coefs[k]:=by rw [List.getD_eq_getElem?_getD,e];rfl
 rw [e2]
 exact⟨e,h.2.2 _ (List.getElem_mem hl)⟩
theorem aDV{n:Nat}(hn:5000≤n){a b:Affine}(ha:bB 1000 a)(hb:bB 1000 b){k:Nat}(hk:k<4):yO n a (k:Int) b=some (aJs a k b):=by
 obtain⟨h1,h2⟩:=aFw ha hk
 have hl:k<a.coefs.length:=by rw [ha.1];exact hk
 unfold yO
 rw [Y5 n (by have:=ha.1;omega)]
 refine Ev.eq (aB rfl (aB (aQ h1) (aB (dU (by omega) _) (aB (aCj hn (aE0 ha k) hb h2) (Ev.some rfl)))))
theorem aDs{n:Nat}(hn:5000≤n){a b:Affine}(ha:bB 1000 a)(hb:bB 1000 b){k:Nat}(hk:k<4):qS n a (k:Int) b=some (aJs a k b):=by
 obtain⟨h1,h2⟩:=aFw ha hk
 have hl:k<a.coefs.length:=by rw [ha.1];exact hk
 unfold qS
 rw [eD _ (by have:=ha.1;omega)]
 refine Ev.eq (aB rfl (aB (aQ h1) (aB (dU (by omega) _) (aB (aQ h1) (aB (L0 hn (aE0 ha k) hb ⟨by omega,by omega⟩ h2) (Ev.some ?_))))))
 rw [aBm];rfl
theorem aHM(n:Nat){k:Nat}(hk:k<4):sB n (k:Int) 1=some (sV k):=by
 rcases(show k=0∨k=1∨k=2∨k=3 by omega) with rfl|rfl|rfl|rfl<;>rfl
theorem aHf(n:Nat){k:Nat}(hk:k<4):kT n (k:Int)=some (sV k):=by
 rcases(show k=0∨k=1∨k=2∨k=3 by omega) with rfl|rfl|rfl|rfl<;>rfl
def toB(k:Nat)(b:Affine):Affine:=f0 (sV k) (-1) b
theorem aG9{a b:Affine}(ha:a.coefs.length=4)(hb:b.coefs.length=4){k:Nat}(hk:k<4)(h0:b.coefs.getD k 0=0):aJs a k (toB k b)=fB k b a:=by
 obtain⟨a,ac⟩:=a
 obtain⟨b,bc⟩:=b
 dsimp only at ha hb h0
 obtain⟨a0,a1,a2,a3,rfl⟩:=aCb ha
 obtain⟨b0,b1,b2,b3,rfl⟩:=aCb hb
 rcases(show k=0∨k=1∨k=2∨k=3 by omega) with rfl|rfl|rfl|rfl<;>
  (simp only [List.getD_cons_zero,List.getD_cons_succ] at h0;subst h0;simp [aJs,toB,fB,f0,sV,Int.mul_neg,Int.neg_mul])
def noP:Prog×Bool:=(⟨[],[]⟩,false)
def N3(p:Prog)(part loop:Int)(g f:Affine→Affine):Prog×Bool:=
 match ix p.parts part with
 |some P=>match ix P.nest loop with
  |some l=>V9 ⟨p.arrays,p.parts.set part.toNat (nF loop.toNat g f P l)⟩
  |none=>noP
 |none=>noP
theorem P4{p:Prog}{part loop:Int}(h:jR p part loop=true):cL p=true∧ ∃(i k:Nat) (P:Part) (l:Loop),part=i∧loop=k∧p.parts[i]? =some P∧P.nest[k]? =some l∧i<p.parts.length∧k<P.nest.length∧cC p.arrays P=true∧k<4:=by
 unfold jR at h
 rw [Bool.and_eq_true] at h
 obtain⟨hv,h⟩:=h
 refine⟨hv,?_⟩
 cases hx:ix p.parts part with
 |none=>rw [hx] at h;cases h
 |some P=>
  rw [hx] at h
  obtain⟨i,rfl,hi,hP⟩:=aLv hx
  obtain⟨h1,h2⟩:=of_decide_eq_true h
  obtain⟨l,hl,hl2⟩:=jF h1 h2
  have hok:=(lA hv).2.2.2.1 P (List.mem_of_getElem? hP)
  have:=(mK hok).1
  exact⟨i,loop.toNat,P,l,rfl,by omega,hP,hl2,hi,by omega,hok,by omega⟩
theorem aAW{list:List Arr}{P:Part}(hP:cC list P=true){k:Nat}{l:Loop}(hl:P.nest[k]? =some l){g f:Affine→Affine}(hg: ∀x,bL x=true→BA 4 (g x))(hf: ∀x,bL x=true→BA 4 (f x)):BPt 4 (nF k g f P l):=by
 obtain⟨h1,h2⟩:=mK hP
 obtain⟨_,h4,h5,_⟩:=iG hP
 have hk:=(List.getElem?_eq_some_iff.1 hl).1
 refine⟨⟨by simp only [nF,List.length_append,List.length_cons,List.length_map,List.length_take,List.length_drop];omega,fun y hy=> ?_⟩,by simp only [nF,List.length_map];exact h4.2,fun s hs=> ?_⟩
 ·rcases List.mem_append.1 hy with hy|hy
  ·exact((aLS hP).1.2 y (List.mem_of_mem_take hy))
  ·rcases List.mem_cons.1 hy with rfl|hy
   ·exact aFE hg (h2 l (List.mem_of_getElem? hl))
   ·obtain⟨z,hz,rfl⟩:=List.mem_map.1 hy
    exact aFE hf (h2 z (List.mem_of_mem_drop hz))
 ·obtain⟨z,hz,rfl⟩:=List.mem_map.1 hs
  exact aLR hf (h5 z hz)
theorem aID{p:Prog}(hp:BG 1000 p)(i:Nat){y:Part}(hy:BPt 4 y):BG 1000 ⟨p.arrays,p.parts.set i y⟩:=⟨hp.1,by dsimp only;rw [List.length_set];exact hp.2.1,rJ hp.2.2 (hy.mono (by omega))⟩
theorem I9{k:Int}{b:Affine}(hb:b.coefs.length=4): ∀x,bL x=true→BA 4 (f0 x k b):=fun x hx=>by
 have:=aLU x b k (jD hx).1 hb
 unfold BA;omega
theorem aHV{k:Nat}{b:Affine}(hb:b.coefs.length=4): ∀x,bL x=true→BA 4 (fB k b x):=fun x hx=>I9 hb x hx
theorem aG5{k:Nat}(hk:k<4){b:Affine}(hb:bB 6 b):bB 1000 (toB k b):=by
 obtain⟨b,bc⟩:=b
 obtain⟨h1,h2,h3⟩:=hb
 dsimp only at h1 h2 h3
 obtain⟨b0,b1,b2,b3,rfl⟩:=aCb h1
 have c0:=h3 b0 (by simp)
 have c1:=h3 b1 (by simp)
 have c2:=h3 b2 (by simp)
 have c3:=h3 b3 (by simp)
 unfold pI at h2 c0 c1 c2 c3
 rcases(show k=0∨k=1∨k=2∨k=3 by omega) with rfl|rfl|rfl|rfl<;>
  (refine⟨rfl,?_,fun c hc=> ?_⟩<;>unfold pI<;>simp [toB,sV,f0] at* <;>omega)
theorem aJO{k:Nat}(hk:k<4){b:Affine}(hb:bB 6 b)(h0:b.coefs.getD k 0=0): ∀n,5000≤n→ ∀x,bL x=true→gJ n x 1 (k:Int) (toB k b)=some (fB k b x):=fun n hn x hx=>by
 unfold gJ
 rw [aDs hn ((C7 hx).mono (by omega)) (aG5 hk hb) hk,aG9 (C7 hx).1 hb.1 hk h0];rfl
theorem aG6{α:Type}{l r:List α}{k:Nat}{x y:α}(h:l[k]? =some x):(l.take (k+1)++r).set k y=l.take k++y::r:=by
 have hk:=(List.getElem?_eq_some_iff.1 h).1
 rw [List.take_add_one,h,List.append_assoc,List.set_append_right _ _ (by simp;omega),List.length_take,Nat.min_eq_left (by omega),Nat.sub_self];rfl
theorem aJL{n:Nat}(hn:6000≤n){list:List Arr}{P:Part}(hP:cC list P=true){k:Nat}{l:Loop}(hl:P.nest[k]? =some l)(hk:k<4){b:Affine}(hb:bB 6 b)(h0:b.coefs.getD k 0=0):
  tL n P (k:Int) b=some (nF k (fun x=>f0 x 1 b) (fB k b) P l):=by
 obtain⟨h1,h2⟩:=mK hP
 obtain⟨_,h4,h5,_⟩:=iG hP
 have hkl:=(List.getElem?_eq_some_iff.1 hl).1
 have hlp:=h2 l (List.mem_of_getElem? hl)
 have hc: ∀x,bL x=true→cA n x 1 b 1=some (f0 x 1 b):=fun x hx=>by
  rw [L0 (by omega) ((C7 hx).mono (by omega)) (hb.mono (by omega)) ⟨by omega,by omega⟩ ⟨by omega,by omega⟩,aBm]
 unfold tL
 simp only [aQ hl,Option.bind_some]
 refine Ev.eq (aB (aHf n hk) (aB (L0 (by omega) ((aI6 hk).mono (by omega)) (hb.mono (by omega)) ⟨by omega,by omega⟩ ⟨by omega,by omega⟩) ?_))
 rw [aBm]
 refine aB (aDP hn (by omega) h1 h2 h4.2 h5 (aJO hk hb h0)) ?_
 refine nL (n:=n) (l:=l.lo) (f:=fun x=>cA n x 1 b 1) (K:=fun x4=>aM (fun again15 ((x12,x13):(List Affine)×Int)=>
    bif decide (x13<(l.hi.length:Int)) then(
     Option.bind (ix l.hi x13) fun x16=>
     Option.bind (cA n x16 1 b 1) fun x17=>
     Option.bind (app x12 [x17]) fun x18=>
     again15 (x18,wr (x13+1))
    ) else(
     Option.bind (ix (P.nest.take (k+1)++(P.nest.drop (k+1)).map (dJ (fB k b))) (k:Int)) fun x19=>
     Option.bind (dF (P.nest.take (k+1)++(P.nest.drop (k+1)).map (dJ (fB k b))) (k:Int) (⟨x4,x12⟩:Loop)) fun x20=>
     some (⟨x20,P.body.map (t8 (fB k b))⟩:Part)
    )
   ) n ([],0)) (fun x hx=>hc x (hlp.1.2 x hx)) (by have:=hlp.1.1;omega) (by omega) ?_
 refine nL (n:=n) (l:=l.hi) (f:=fun x=>cA n x 1 b 1) (g:=fun x=>f0 x 1 b) (K:=fun x12=>Option.bind (ix (P.nest.take (k+1)++(P.nest.drop (k+1)).map (dJ (fB k b))) (k:Int)) fun x19=>Option.bind (dF (P.nest.take (k+1)++(P.nest.drop (k+1)).map (dJ (fB k b))) (k:Int) (⟨l.lo.map (fun x=>f0 x 1 b),x12⟩:Loop)) fun x20=>some (⟨x20,P.body.map (t8 (fB k b))⟩:Part)) (fun x hx=>hc x (hlp.2.2 x hx)) (by have:=hlp.2.1;omega) (by omega) ?_
 have hx:(P.nest.take (k+1)++(P.nest.drop (k+1)).map (dJ (fB k b)))[k]? =some l:=by
  rw [List.getElem?_append_left (by simp;omega),List.getElem?_take,if_pos (by omega)];exact hl
 refine aB (aQ hx) (aB (dU (by simp;omega) _) (Ev.some ?_))
 rw [Int.toNat_natCast,aG6 hl];rfl
def sA(s:Int):Affine:=⟨[0,0,0,0],s⟩
theorem aE1{s:Int}(h: -6≤s∧s≤6):bB 6 (sA s):=by unfold sA bB pI;simp;omega
theorem aMo(s:Int){k:Nat}(hk:k<4):(sA s).coefs.getD k 0=0:=by
 rcases(show k=0∨k=1∨k=2∨k=3 by omega) with rfl|rfl|rfl|rfl<;>rfl
def lV(p:Prog)(part loop by_:Int):Prog×Bool:=
 if jR p part loop=true∧(-6≤by_∧by_≤6) then N3 p part loop (fun x=>f0 x 1 (sA by_)) (fB loop.toNat (sA by_)) else noP
theorem aGa(n:Nat)(s:Int):uE n s=some (decide (-6≤s∧s≤6)):=by
 unfold uE;rw [eH];rfl
theorem aCn{p:Prog}{part loop:Int}(h:loop<0):jR p part loop=false:=by
 cases hc:jR p part loop with
 |false=>rfl
 |true=>obtain⟨_,i,k,P,l,_,hk,_⟩:=P4 hc;omega
theorem u9{p:Prog}{i k:Nat}{P:Part}{l:Loop}(hP:p.parts[i]? =some P)(hl:P.nest[k]? =some l)(g f:Affine→Affine):N3 p (i:Int) (k:Int) g f=V9 ⟨p.arrays,p.parts.set i (nF k g f P l)⟩:=by
 unfold N3
 rw [aQ hP]
 dsimp only
 rw [aQ hl];rfl
theorem aDu{n:Nat}(hn:7000≤n){p:Prog}(hp:BG 1000 p)(part loop by_:Int):mR n p part loop by_=some (lV p part loop by_):=by
 unfold mR lV
 refine Ev.eq (aB (aDJ (by omega) hp) (Ev.jn (fun z=>z= !(jR p part loop&&decide (-6≤by_∧by_≤6))) (fun j hj=> ?_) (fun z hz=> ?_)))
 ·refine aB (aLA hn hp part loop) (Ev.cond (fun h=>hj _ ?_) (fun h=>aB (pM n by_ 6 (by omega)) (hj _ ?_)))
  ·rw [show jR p part loop=false by simpa using h];rfl
  ·rw [show jR p part loop=true by simpa using h];rfl
 ·subst hz
  by_cases hc:jR p part loop=true∧(-6≤by_∧by_≤6)
  ·rw [if_pos hc,hc.1,decide_eq_true hc.2]
   refine bZ ?_
   obtain⟨hv,i,k,P,l,rfl,rfl,hP,hl,hi,hkl,hok,hk⟩:=P4 hc.1
   refine aB (aQ hP) (aB (gO n by_) (aB (aJL (by omega) hok hl hk (aE1 hc.2) (aMo _ hk)) (aB (aI2 hn hp hi ((aAW hok hl (I9 (aE1 hc.2).1) (aHV (aE1 hc.2).1)).mono (by omega))) (Ev.some ?_))))
   rw [u9 hP hl];rfl
  ·rw [if_neg hc,show(jR p part loop&&decide (-6≤by_∧by_≤6))=false by
    cases h1:jR p part loop with
    |false=>rfl
    |true=>exact decide_eq_false (fun h2=>hc ⟨h1,h2⟩)]
   exact bY (Ev.some rfl)
theorem aFR{n:Nat}(hn:5000≤n){s:Int}(hs: -6≤s∧s≤6): ∀x,bL x=true→gW n x s=some (f0 x 1 (sA s)):=fun x hx=>by
 unfold gW
 have hc:o6 n 1=some ⟨[0,0,0,0],1⟩:=rfl
 rw [hc]
 refine Ev.eq (aB rfl (aB (aCj hn ((C7 hx).mono (by omega)) (b:=⟨[0,0,0,0],1⟩) (by unfold bB pI;simp) ⟨by omega,by omega⟩) (Ev.some ?_)))
 unfold f0 sA
 obtain⟨a0,a1,a2,a3,e⟩:=aCb (jD hx).1
 rw [e]
 simp
theorem aFQ{n:Nat}(hn:5000≤n){k:Nat}(hk:k<4){s:Int}(hs: -6≤s∧s≤6): ∀x,bL x=true→fK n x (k:Int) (⟨(sV k).coefs,wr (0-s)⟩:Affine)=some (fB k (sA s) x):=fun x hx=>by
 have e:(⟨(sV k).coefs,wr (0-s)⟩:Affine)=toB k (sA s):=by
  rw [aP (by omega)]
  rcases(show k=0∨k=1∨k=2∨k=3 by omega) with rfl|rfl|rfl|rfl<;>(unfold sV toB sA f0 sV;simp)
 unfold fK
 rw [e,aDV hn ((C7 hx).mono (by omega)) (aG5 hk (aE1 hs)) hk,aG9 (C7 hx).1 rfl hk (aMo _ hk)];rfl
theorem aGt{n:Nat}(hn:7000≤n){p:Prog}(hp:BG 1000 p)(part:Int):Ev (nN n p part (-1)) (fun r=>r.2=false→r=noP):=by
 unfold nN
 refine Ev.jn (fun z=>z=false→cL p=true∧(0≤part∧part<(p.parts.length:Int))) (fun j hj=> ?_) (fun z hz=> ?_)
 ·refine aB (lG hn hp.sm) (Ev.cond (fun h=>hj _ (fun h=>by cases h)) (fun h=> ?_))
  refine aB (vA n hp.2.1 part) (Ev.cond (fun h=>hj _ (fun h=>by cases h)) (fun h2=>dQ (fun h=>(h rfl).elim) (fun _=>hj _ (fun _=>⟨by simpa using h,by simpa using h2⟩))))
 ·refine Ev.cond (fun _=>Ev.some (fun _=>rfl)) (fun h=> ?_)
  obtain⟨hv,h1,h2⟩:=hz h
  obtain⟨x,hx,hx2⟩:=jF h1 h2
  exact aB (aDA (by omega) hv) (aB hx (Ev.some (fun h=>by cases h)))
theorem aDX{n:Nat}(hn:7000≤n){p:Prog}(hp:BG 1000 p)(part loop by_:Int):mW n p part loop by_=some (lV p part loop by_):=by
 unfold mW lV
 by_cases hneg:loop= -1
 ·subst hneg
  rw [if_neg (fun h=>by rw [aCn (by omega)] at h;cases h.1)]
  refine Ev.eq (aL (aGt hn hp part) (fun x1 h1=>Ev.cond (fun _=>Ev.jn (fun z=>z=true) (fun j hj=>aH (fun _=>hj _ rfl) (fun h=>absurd (show(-1:Int)<0 by omega) h)) (fun z hz=>by rw [hz];exact bY (Ev.some rfl))) (fun _=>Ev.some rfl)))
 refine Ev.eq (aB (aIE hn hp part loop hneg) ?_)
 by_cases hb:jR p part loop=true
 ·rw [if_pos hb]
  refine bY (Ev.jn (fun z=>z= !decide (-6≤by_∧by_≤6)) (fun j hj=> ?_) (fun z hz=> ?_))
  ·refine aH (fun h=> ?_) (fun _=>aB (aGa n by_) (hj _ rfl))
   rw [aCn h] at hb;cases hb
  ·subst hz
   by_cases hs: -6≤by_∧by_≤6
   ·rw [if_pos ⟨hb,hs⟩,decide_eq_true hs]
    refine bZ ?_
    obtain⟨hv,i,k,P,l,rfl,rfl,hP,hl,hi,hkl,hok,hk⟩:=P4 hb
    obtain⟨h1,h2⟩:=mK hok
    obtain⟨_,h4,h5,_⟩:=iG hok
    refine aB (aQ hP) (aB (aQ hl) (aB (v8 (by omega) (h2 l (List.mem_of_getElem? hl)) (aFR (by omega) hs)) (aB (dU (by omega) _) (aB (dU (by dsimp only;omega) _) (aB (aHM n hk) ?_)))))
    rw [aP (n:=(k:Int)+1) (by omega)]
    have hch:=V4 (n:=n) (by omega) (nest:=P.nest.set k (dJ (fun x=>f0 x 1 (sA by_)) l)) (body:=P.body) (s:=k+1) (by simp;omega) (by simp;omega) (fun y hy=>by
     rw [List.drop_set_of_lt (by omega)] at hy
     exact h2 y (List.mem_of_mem_drop hy)) h4.2 h5 (F:=fun q0=>fK n q0 (k:Int) (⟨(sV k).coefs,wr (0-by_)⟩:Affine)) (aFQ (by omega) hk hs)
    rw [Int.toNat_natCast,Int.toNat_natCast]
    refine aB hch (aB (dU (by simp;omega) _) ?_)
    rw [Int.toNat_natCast,List.set_set]
    have hm:(⟨(P.nest.set k (dJ (fun x=>f0 x 1 (sA by_)) l)).take (k+1)++((P.nest.set k (dJ (fun x=>f0 x 1 (sA by_)) l)).drop (k+1)).map (dJ (fB k (sA by_))),P.body.map (t8 (fB k (sA by_)))⟩:Part)=nF k (fun x=>f0 x 1 (sA by_)) (fB k (sA by_)) P l:=by
     rw [List.drop_set_of_lt (by omega),List.take_add_one,List.getElem?_set_self (by omega),List.take_set_of_le (Nat.le_refl k),List.append_assoc];rfl
    rw [hm]
    refine aB (aCv hn (aID hp i (aAW hok hl (I9 rfl) (aHV rfl)))) (Ev.some ?_)
    rw [u9 hP hl]
   ·rw [if_neg (fun h=>hs h.2),decide_eq_false hs]
    exact bY (Ev.some rfl)
 ·rw [if_neg hb,if_neg (fun h=>hb h.1)]
  exact bZ (Ev.some rfl)
theorem aJ0{q:Prog}(h:BG 1000 q):BG 1000 (V9 q).1:=by
 unfold V9
 split
 ·exact h
 ·exact⟨⟨by simp,fun x hx=>by cases hx⟩,by simp,fun x hx=>by cases hx⟩
theorem aLh:BG 1000 noP.1:=⟨⟨by simp [noP],fun x hx=>by cases hx⟩,by simp [noP],fun x hx=>by cases hx⟩
theorem aF2{p:Prog}(hp:BG 1000 p){part loop:Int}(hc:jR p part loop=true){g f:Affine→Affine}(hg: ∀x,bL x=true→BA 4 (g x))(hf: ∀x,bL x=true→BA 4 (f x)):BG 1000 (N3 p part loop g f).1:=by
 obtain⟨hv,i,k,P,l,rfl,rfl,hP,hl,hi,hkl,hok,hk⟩:=P4 hc
 rw [u9 hP hl]
 exact aJ0 (aID hp i (aAW hok hl hg hf))
theorem aKg(code:List UInt8):Ev (Option.bind (n4 N code) fun x1=>Option.bind (tO N x1) fun x2=>some (x2.1,x2.2.1,x2.2.2.1,x2.2.2.2.1)) (fun x=>BG 1000 x.1):=by
 have hN:N=100000:=rfl
 refine aL (aJF code) (fun x1 r1=>aL (P:=fun x=>BG 1000 x.1) ?_ (fun x2 h2=>Ev.some h2))
 unfold tO
 refine aL (aF5 r1 (by omega)) (fun x1 ⟨h1,r1⟩=>aL (aJK (by omega) r1 (by omega) h1) (fun x2 ⟨h2,r2⟩=>aL (jE N r2 (by omega) (by simp)) (fun x3 ⟨_,r3⟩=>aL (jE N r3 (by omega) (by simp)) (fun x4 ⟨_,r4⟩=>aL (jE N r4 (by omega) (by simp)) (fun x5 ⟨_,r5⟩=>Ev.some (h2.mono (show 30≤1000 by omega)))))))
theorem aFP{p:Prog}(hp:BG 1000 p)(part loop by_:Int):BG 1000 (lV p part loop by_).1:=by
 unfold lV
 split
 ·rename_i hc
  exact aF2 hp hc.1 (I9 rfl) (aHV rfl)
 ·exact aLh
def kA(k:Nat)(s:Int):Affine:=⟨[0,0,0,0].set k s,0⟩
theorem aLC{I S:Option (Prog×Bool)}{REST:Prog×Bool→Prog×Bool→Option Bool}{R:Prog×Bool}(hR:BG 1000 R.1)(h1:I=some R)(h2:S=some R)(hb:R.2=true→Ev (REST R R) (fun r=>r=true)):
  Ev (Option.bind I fun x4=>Option.bind S fun x5=>jn (fun(x8:Bool)=>
    bif x8 then(
     jn (fun(x11:Bool)=>
      some x11
     ) (fun j9=>
      bif(x4.2==x5.2) then(
       Option.bind (eB N x4.1 x5.1) fun x10=>
       j9 x10
      ) else(
       j9 false
      )
     )
    ) else(
     REST x4 x5
    )
   ) (fun j6=>
    bif !(x4.2==x5.2) then(
     j6 true
    ) else(
     Option.bind (eB N x4.1 x5.1) fun x7=>
     bif !x7 then(
      j6 true
     ) else(
      j6 (!x4.2)
     )
    )
   )) (fun r=>r=true):=by
 have hN:N=100000:=rfl
 have hs:=aHp (n:=N) (by omega) hR
 have he:(R.2==R.2)=true:=by cases R.2<;>rfl
 refine aB h1 (aB h2 (Ev.jn (fun z=>z= !R.2) (fun j hj=> ?_) (fun z hz=> ?_)))
 ·rw [he]
  exact bZ (aB hs (bZ (hj _ rfl)))
 ·subst hz
  cases hr:R.2 with
  |false=>exact bY (Ev.jn (fun z=>z=true) (fun j hj=>bY (aB hs (hj _ rfl))) (fun z hz=>Ev.some hz))
  |true=>exact bZ (hb hr)
theorem n7{α β:Type}{f g:α→β}: ∀{l:List α},(∀x∈l,f x=g x)→l.map f=l.map g
 | [],_=>rfl
 |x::l,h=>by rw [List.map_cons,List.map_cons,h x List.mem_cons_self,n7 (fun y hy=>h y (List.mem_cons_of_mem _ hy))]
theorem aLE{p q:Prog}(h:V9 p=(q,true)):q=p∧cL p=true:=by
 unfold V9 at h
 split at h
 ·rename_i hv;cases h;exact⟨rfl,hv⟩
 ·cases h
theorem aHc{p q:Prog}{part loop b:Int}(h:lV p part loop b=(q,true)):jR p part loop=true∧(-6≤b∧b≤6)∧N3 p part loop (fun x=>f0 x 1 (sA b)) (fB loop.toNat (sA b))=(q,true):=by
 unfold lV at h
 split at h
 ·rename_i hc;exact⟨hc.1,hc.2,h⟩
 ·cases h
theorem aBi(m:Int): ∀(a b p:List Int),a.length=b.length→tD (List.zipWith (fun x y=>x+m*y) a b) p=tD a p+m*tD b p
 | [],[],p,_=>by simp [tD]
 |x::a,y::b,[],_=>by simp [tD]
 |x::a,y::b,z::p,h=>by
  simp only [List.zipWith_cons_cons,tD]
  rw [aBi m a b p (by simpa using h),Int.add_mul,Int.mul_add,Int.mul_assoc]
  omega
theorem aBj: ∀(cs p:List Int) (k:Nat) (v:Int),k<p.length→tD cs (p.set k v)=tD cs p+cs.getD k 0*(v-p.getD k 0)
 | [],p,k,v,_=>by simp [tD]
 |c::cs,x::p,0,v,_=>by
  simp only [List.set_cons_zero,tD,List.getD_cons_zero]
  rw [Int.mul_sub];omega
 |c::cs,x::p,k+1,v,h=>by
  simp only [List.set_cons_succ,tD,List.getD_cons_succ]
  rw [aBj cs p k v (by simpa using h)];omega
theorem aCD: ∀(cs p:List Int) (v:Int),cs.getD p.length 0=0→tD cs (p++[v])=tD cs p
 | [],p,v,_=>by simp [tD]
 |c::cs,[],v,h=>by
  simp only [List.length_nil,List.getD_cons_zero] at h
  subst h
  cases cs<;>simp [tD]
 |c::cs,x::p,v,h=>by
  simp only [List.cons_append,tD]
  rw [aCD cs p v (by simpa using h)]
def X6(k:Nat)(b:Affine)(p:List Int):List Int:=p.set k (p.getD k 0+bV b p)
theorem aJ1{x b:Affine}(h:x.coefs.length=b.coefs.length)(p:List Int):bV (f0 x 1 b) p=bV x p+bV b p:=by
 unfold bV f0
 rw [aBi 1 _ _ _ h]
 dsimp only
 omega
theorem aFq{x b:Affine}(h:x.coefs.length=b.coefs.length){k:Nat}(h0:b.coefs.getD k 0=0){p:List Int}(hk:k<p.length):bV (fB k b x) (X6 k b p)=bV x p:=by
 unfold fB bV f0 X6
 rw [aBi _ _ _ _ h]
 dsimp only
 rw [aBj _ _ _ _ hk,aBj _ _ _ _ hk,h0,show p.getD k 0+bV b p-p.getD k 0=bV b p by omega]
 unfold bV
 rw [Int.zero_mul,Int.mul_add,Int.add_zero,Int.neg_mul,Int.neg_mul]
 omega
def low(k:Nat)(b:Affine):Prop:= ∀j,k≤j→b.coefs.getD j 0=0
theorem aAk{b:Affine}{k:Nat}(hz:low k b){p:List Int}(hk:k≤p.length)(v:Int):bV b (p++[v])=bV b p:=by
 unfold bV
 rw [aCD _ _ _ (hz _ hk)]
theorem aGi{α:Type}{l:List α}{v d:α}:(l++[v]).getD l.length d=v:=by
 rw [List.getD_eq_getElem?_getD,List.getElem?_append_right (Nat.le_refl _),Nat.sub_self];rfl
theorem aGh{α:Type}{l:List α}{k:Nat}{v d:α}(h:k<l.length):(l++[v]).getD k d=l.getD k d:=by
 rw [List.getD_eq_getElem?_getD,List.getElem?_append_left h,List.getD_eq_getElem?_getD]
theorem aJr{b:Affine}{k:Nat}(hz:low k b){p:List Int}(hk:k<p.length)(v:Int):X6 k b (p++[v])=X6 k b p++[v]:=by
 unfold X6
 rw [aAk hz (by omega),aGh hk,List.set_append_left _ _ hk]
theorem aLc{b:Affine}{k:Nat}(hz:low k b){p:List Int}(hk:p.length=k)(v:Int):X6 k b (p++[v])=p++[v+bV b p]:=by
 unfold X6
 rw [aAk hz (by omega),←hk,aGi,List.set_append_right _ _ (Nat.le_refl _),Nat.sub_self];rfl
theorem wD(e:Int): ∀(l:List Int) (a:Int),(l.map (fun x=>x+e)).foldl max (a+e)=l.foldl max a+e
 | [],a=>rfl
 |x::l,a=>by
  simp only [List.map_cons,List.foldl_cons]
  rw [show max (a+e) (x+e)=max a x+e by omega,wD e l]
theorem wC(e:Int): ∀(l:List Int) (a:Int),(l.map (fun x=>x+e)).foldl min (a+e)=l.foldl min a+e
 | [],a=>rfl
 |x::l,a=>by
  simp only [List.map_cons,List.foldl_cons]
  rw [show min (a+e) (x+e)=min a x+e by omega,wC e l]
theorem aLj(e:Int){l:List Int}(h:l≠[]):mx (l.map (fun x=>x+e))=mx l+e:=by
 cases l with
 |nil=>exact absurd rfl h
 |cons a l=>exact wD e l a
theorem aLk(e:Int){l:List Int}(h:l≠[]):mn (l.map (fun x=>x+e))=mn l+e:=by
 cases l with
 |nil=>exact absurd rfl h
 |cons a l=>exact wC e l a
theorem aJB(a b e:Int):lQ (a+e) (b+e)=(lQ a b).map (fun v=>v+e):=by
 unfold lQ
 rw [show b+e-(a+e)=b-a by omega,List.map_map]
 refine List.map_congr_left (fun i _=> ?_)
 show a+e+(i:Int)=a+(i:Int)+e
 omega
def lpN(l:Loop):Prop:=l.lo≠[]∧l.hi≠[]
theorem aKA{b:Affine}(hb:b.coefs.length=4){k:Nat}(h0:b.coefs.getD k 0=0){p:List Int}(hk:k<p.length){l:List Affine}(hl: ∀x∈l,bL x=true):W0 (l.map (fB k b)) (X6 k b p)=W0 l p:=by
 unfold W0
 rw [List.map_map]
 exact n7 (fun x hx=>aFq (by rw [(jD (hl x hx)).1,hb]) h0 hk)
theorem aKz{b:Affine}(hb:b.coefs.length=4)(p:List Int){l:List Affine}(hl: ∀x∈l,bL x=true):W0 (l.map (fun x=>f0 x 1 b)) p=(W0 l p).map (fun y=>y+bV b p):=by
 unfold W0
 rw [List.map_map,List.map_map]
 exact n7 (fun x hx=>aJ1 (by rw [(jD (hl x hx)).1,hb]) p)
theorem vF{α β:Type}{f g:α→List β}{l:List α}(h: ∀x∈l,f x=g x):l.flatMap f=l.flatMap g:=by
 rw [List.flatMap_def,List.flatMap_def,n7 h]
theorem aKq{b:Affine}(hb:b.coefs.length=4){k:Nat}(hz:low k b): ∀(ls:List Loop) (p:List Int),(∀l∈ls,A5 l)→k<p.length→pts (ls.map (dJ (fB k b))) (X6 k b p)=(pts ls p).map (X6 k b)
 | [],p,_,_=>rfl
 |l::ls,p,h,hk=>by
  have hl:=h l List.mem_cons_self
  have e1:kO (dJ (fB k b) l) (X6 k b p)=kO l p:=by unfold kO dJ;rw [aKA hb (hz k (Nat.le_refl _)) hk hl.1.2]
  have e2:pJ (dJ (fB k b) l) (X6 k b p)=pJ l p:=by unfold pJ dJ;rw [aKA hb (hz k (Nat.le_refl _)) hk hl.2.2]
  simp only [List.map_cons,pts]
  rw [e1,e2,List.map_flatMap]
  refine vF (fun v _=> ?_)
  rw [←aJr hz hk]
  exact aKq hb hz ls (p++[v]) (fun x hx=>h x (List.mem_cons_of_mem _ hx)) (by simp;omega)
theorem aMq{b:Affine}(hb:b.coefs.length=4){k:Nat}(hz:low k b){l:Loop}(hl:A5 l)(hn:lpN l){ls:List Loop}(h: ∀l∈ls,A5 l){p:List Int}(hk:p.length=k):
  pts (dJ (fun x=>f0 x 1 b) l::ls.map (dJ (fB k b))) p=(pts (l::ls) p).map (X6 k b):=by
 have e1:kO (dJ (fun x=>f0 x 1 b) l) p=kO l p+bV b p:=by
  unfold kO dJ
  rw [aKz hb p hl.1.2,aLj _ (by unfold W0;simpa using hn.1)]
 have e2:pJ (dJ (fun x=>f0 x 1 b) l) p=pJ l p+bV b p:=by
  unfold pJ dJ
  rw [aKz hb p hl.2.2,aLk _ (by unfold W0;simpa using hn.2)]
 simp only [pts]
 rw [e1,e2,aJB,List.flatMap_map,List.map_flatMap]
 refine vF (fun v _=> ?_)
 rw [←aLc hz hk]
 exact aKq hb hz ls (p++[v]) h (by simp;omega)
theorem aKp{b:Affine}(hb:b.coefs.length=4){k:Nat}(hz:low k b){l:Loop}(hl:A5 l)(hn:lpN l){ls:List Loop}(h: ∀l∈ls,A5 l): ∀(os:List Loop) (p:List Int),p.length+os.length=k→
  pts (os++dJ (fun x=>f0 x 1 b) l::ls.map (dJ (fB k b))) p=(pts (os++l::ls) p).map (X6 k b)
 | [],p,hk=>aMq hb hz hl hn h (by simpa using hk)
 |o::os,p,hk=>by
  simp only [List.cons_append,pts]
  rw [List.map_flatMap]
  refine vF (fun v _=> ?_)
  exact aKp hb hz hl hn h os (p++[v]) (by simp at hk ⊢; omega)
theorem aHq{list:List Arr}{x:Part}(h:cC list x=true): ∀l∈x.nest,lpN l:=fun l hl=>by
 obtain⟨i,hi⟩:=List.mem_iff_getElem?.1 hl
 have:=(aDc (iG h).1).1.2 i l hi
 have h1:=(pY this.1).1
 have h2:=(pY this.2).1
 exact⟨fun e=>by rw [e] at h1;simp at h1,fun e=>by rw [e] at h2;simp at h2⟩
theorem D7{list:List Arr}{x:Part}(h:cC list x=true):dX x=pts x.nest []:=(aDc (iG h).1).2.2.2.1
theorem aF1{list:List Arr}{P:Part}(hP:cC list P=true){k:Nat}{l:Loop}(hl:P.nest[k]? =some l){b:Affine}(hb:b.coefs.length=4)(hz:low k b)(hq:cC list (nF k (fun x=>f0 x 1 b) (fB k b) P l)=true):
  dX (nF k (fun x=>f0 x 1 b) (fB k b) P l)=(dX P).map (X6 k b):=by
 obtain⟨h1,h2⟩:=mK hP
 have hk:=(List.getElem?_eq_some_iff.1 hl).1
 rw [D7 hq,D7 hP]
 have e:P.nest=P.nest.take k++l::P.nest.drop (k+1):=by rw [←lL hl,List.take_append_drop]
 have:=aKp hb hz (h2 l (List.mem_of_getElem? hl)) (aHq hP l (List.mem_of_getElem? hl)) (ls:=P.nest.drop (k+1)) (fun y hy=>h2 y (List.mem_of_mem_drop hy)) (P.nest.take k) [] (by simp;omega)
 rw [←e] at this
 exact this
def sig(i k:Nat)(b:Affine)(x:Inst):Inst:=if x.part=(i:Int) then⟨x.part,x.stmt,X6 k b x.point⟩ else x
theorem insts_set{ps:List Part}{i:Nat}{P P':Part}(hP:ps[i]? =some P){σ:Inst→Inst}(h1:instP i P'=(instP i P).map σ)(h2: ∀x,x.part≠(i:Int)→σ x=x):insts (ps.set i P')=(insts ps).map σ:=by
 unfold insts
 rw [List.map_flatMap]
 have e:(ps.set i P').zipIdx=ps.zipIdx.map (fun y=>if y.2=i then(P',i) else y):=by
  refine List.ext_getElem? (fun j=> ?_)
  rw [List.getElem?_zipIdx,List.getElem?_map,List.getElem?_zipIdx]
  by_cases hj:i=j
  ·subst hj
   rw [List.getElem?_set_self (List.getElem?_eq_some_iff.1 hP).1,hP]
   simp
  ·rw [List.getElem?_set_ne hj]
   cases ps[j]? with
   |none=>rfl
   |some y=>
    have: ¬j=i:=fun h=>hj h.symm
    simp [this]
 rw [e,List.flatMap_map]
 refine vF (fun y hy=> ?_)
 obtain⟨j,hj⟩:=List.mem_iff_getElem?.1 hy
 rw [List.getElem?_zipIdx] at hj
 cases hx:ps[j]? with
 |none=>rw [hx] at hj;cases hj
 |some x=>
  rw [hx] at hj
  simp at hj
  subst hj
  by_cases hji:j=i
  ·subst hji
   rw [hP] at hx
   cases hx
   simp [h1]
  ·simp only [if_neg hji]
   refine(aAX (fun z hz=>h2 z ?_)).symm
   unfold instP at hz
   obtain⟨q,_,hz⟩:=List.mem_flatMap.1 hz
   obtain⟨t,_,rfl⟩:=List.mem_map.1 hz
   dsimp only
   omega
theorem instP_move{i k:Nat}{b:Affine}{P P':Part}(h1:dX P'=(dX P).map (X6 k b))(h2:P'.body.length=P.body.length):instP i P'=(instP i P).map (sig i k b):=by
 unfold instP
 rw [h1,h2,List.flatMap_map,List.map_flatMap]
 refine vF (fun q _=> ?_)
 rw [List.map_map]
 refine n7 (fun t _=> ?_)
 show _=sig i k b _
 unfold sig
 rw [if_pos rfl]
theorem X7{i k:Nat}{b:Affine}: ∀x:Inst,x.part≠(i:Int)→sig i k b x=x:=fun x hx=>by unfold sig;rw [if_neg hx]
theorem aKx{f:Affine→Affine}{t q:List Int}: ∀{ss:List Affine} (ds:List Int) (acc:Int),(∀x∈ss,bV (f x) t=bV x q)→l4 (ss.map f) ds t acc=l4 ss ds q acc
 | [],ds,acc,_=>by cases ds<;>rfl
 |s::ss,[],acc,_=>rfl
 |s::ss,d::ds,acc,h=>by
  simp only [List.map_cons,l4]
  rw [h s List.mem_cons_self]
  split
  ·exact aKx ds _ (fun x hx=>h x (List.mem_cons_of_mem _ hx))
  ·rfl
theorem aEj{f:Affine→Affine}{t q:List Int}{a:Access}(h: ∀x∈a.subs,bV (f x) t=bV x q): ∀(xs:List Arr) (base:Int),dD xs (fJ f a) t base=dD xs a q base
 | [],_=>rfl
 |x::xs,base=>by
  have e1:l4 (fJ f a).subs x.dims t 0=l4 a.subs x.dims q 0:=aKx _ _ h
  have e2:(fJ f a).subs.length=a.subs.length:=by simp [fJ]
  have e3:(fJ f a).array=a.array:=rfl
  simp only [dD,e1,e2,e3,aEj h xs]
theorem aE4{d:Int}{f:Affine→Affine}: ∀{L:Nat} {e:Expr},dI L e d=true→cG L (uB f L e)=(cG L e).map (fJ f)
 |0,_,h=>by cases h
 |L+1,e,h=>by
  obtain⟨hk,ho,hs⟩:=iR h
  show(if e.kind=3 then [if e.kind=3 then fJ f e.read else⟨[],[]⟩] else [])++(e.kids.map (uB f L)).flatMap (cG L)=((if e.kind=3 then [e.read] else [])++e.kids.flatMap (cG L)).map (fJ f)
  rw [List.map_append,List.flatMap_map,List.map_flatMap]
  congr 1
  ·by_cases h3:e.kind=3
   ·simp only [if_pos h3];rfl
   ·simp only [if_neg h3];rfl
  ·exact vF (fun x hx=>aE4 (hs x hx))
theorem aGS{d:Int}{f:Affine→Affine}{t q:List Int}(h: ∀x,bL x=true→bV (f x) t=bV x q)(list:List Arr)(m:List Int): ∀{L:Nat} {e:Expr},dI L e d=true→vQ L list m (uB f L e) t=vQ L list m e q
 |0,_,_=>rfl
 |L+1,e,he=>by
  obtain⟨hk,ho,hs⟩:=iR he
  have e1:(uB f (L+1) e).kind=e.kind:=rfl
  have e2:(uB f (L+1) e).num=e.num:=rfl
  have e5:(uB f (L+1) e).kids=e.kids.map (uB f L):=rfl
  unfold vQ
  rw [e1,e2,e5]
  by_cases h1:e.kind=1
  ·rw [if_pos h1,if_pos h1]
  ·rw [if_neg h1,if_neg h1]
   by_cases h2:e.kind=2
   ·have e3:(uB f (L+1) e).index=f e.index:=by show(if e.kind=2 then f e.index else _)=_;rw [if_pos h2]
    rw [if_pos h2,if_pos h2,e3,h _ (wR ho h2).1]
   ·rw [if_neg h2,if_neg h2]
    by_cases h3:e.kind=3
    ·have e4:(uB f (L+1) e).read=fJ f e.read:=by show(if e.kind=3 then fJ f e.read else _)=_;rw [if_pos h3]
     rw [if_pos h3,if_pos h3,e4,aEj (fun x hx=>h x ((s8 (wQ ho h3).1).2.2 x hx))]
    ·rw [if_neg h3,if_neg h3]
     obtain⟨kind,num,index,read,kids⟩:=e
     dsimp only at hs⊢
     match kids,hs with
     | [],_=>rfl
     | [a],_=>rfl
     | [a,c],hs=>
      simp only [List.map_cons,List.map_nil]
      rw [aGS h list m (hs a (by simp)),aGS h list m (hs c (by simp))]
     |a::c::e::r,_=>rfl
theorem N2{p:Prog}(hv:cL p=true){i k:Nat}{P:Part}{l:Loop}(hP:p.parts[i]? =some P)(hk:k<P.nest.length){g:Affine→Affine}{b:Affine}(hb:b.coefs.length=4)(h0:b.coefs.getD k 0=0){q:Prog}(hq:q=⟨p.arrays,p.parts.set i (nF k g (fB k b) P l)⟩){x:Inst}(hx:mH p x):
  ∃s s' d,pX p x=some s∧pX q (sig i k b x)=some s'∧fN s d=true∧
   (∀a,gQ a d=true→dD q.arrays (if x.part=(i:Int) then fJ (fB k b) a else a) (sig i k b x).point 0=dD p.arrays a x.point 0)∧
   (s'.write=if x.part=(i:Int) then fJ (fB k b) s.write else s.write)∧
   (cG 5 s'.value=(cG 5 s.value).map (fun a=>if x.part=(i:Int) then fJ (fB k b) a else a))∧
   ∀m,vQ 5 q.arrays m s'.value (sig i k b x).point=vQ 5 p.arrays m s.value x.point:=by
 obtain⟨i',k',P',s,d,e1,e2,e3,e4,e5,e6,e7,e8⟩:=inst_d hv hx
 have hi:=(List.getElem?_eq_some_iff.1 hP).1
 subst hq
 by_cases hxi:x.part=(i:Int)
 ·obtain rfl:i'=i:=by omega
  rw [hP] at e3;cases e3
  have hpt:k<x.point.length:=by rw [e7.1];exact hk
  have hev: ∀y,bL y=true→bV (fB k b y) (X6 k b x.point)=bV y x.point:=fun y hy=>aFq (by rw [(jD hy).1,hb]) h0 hpt
  have hs:sig i' k b x=⟨x.part,x.stmt,X6 k b x.point⟩:=by unfold sig;rw [if_pos hxi]
  refine⟨s,t8 (fB k b) s,d,e5,?_,e6,fun a ha=> ?_,?_,?_,fun m=> ?_⟩
  ·rw [hs]
   unfold pX
   dsimp only
   rw [e1,Int.toNat_natCast,List.getElem?_set_self hi]
   show((P.body.map (t8 (fB k b)))[x.stmt.toNat]?)=_
   rw [List.getElem?_map,e2,Int.toNat_natCast,e4];rfl
  ·rw [if_pos hxi,hs]
   exact aEj (fun y hy=>hev y ((s8 ha).2.2 y hy)) _ _
  ·rw [if_pos hxi];rfl
  ·simp only [if_pos hxi]
   exact aE4 (kR e6).2.1
  ·rw [hs]
   exact aGS hev _ m (kR e6).2.1
 ·have hs:sig i k b x=x:=X7 x hxi
  refine⟨s,s,d,e5,?_,e6,fun a ha=> ?_,?_,?_,fun m=> ?_⟩
  ·rw [hs,←e5]
   unfold pX
   dsimp only
   rw [List.getElem?_set_ne (by omega)]
  ·rw [if_neg hxi,hs]
  ·rw [if_neg hxi]
  ·simp only [if_neg hxi,List.map_id']
  ·rw [hs]
theorem aF0{p:Prog}(hv:cL p=true){i k:Nat}{P:Part}{l:Loop}(hP:p.parts[i]? =some P)(hl:P.nest[k]? =some l){b:Affine}(hb:b.coefs.length=4)(hz:low k b){q:Prog}(hq:q=⟨p.arrays,p.parts.set i (nF k (fun x=>f0 x 1 b) (fB k b) P l)⟩)(hw:cL q=true):
  insts q.parts=(insts p.parts).map (sig i k b)∧(∀x∈insts p.parts,rc q (sig i k b x)=rc p x∧wc q (sig i k b x)=wc p x)∧ ∀m,kD q m (insts q.parts)=kD p m (insts p.parts):=by
 have hi:=(List.getElem?_eq_some_iff.1 hP).1
 have hk:=(List.getElem?_eq_some_iff.1 hl).1
 have hok:=(lA hv).2.2.2.1 P (List.mem_of_getElem? hP)
 have hokq:cC p.arrays (nF k (fun x=>f0 x 1 b) (fB k b) P l)=true:=by
  have:=(lA hw).2.2.2.1
  subst hq
  exact this _ (List.mem_of_getElem? (List.getElem?_set_self hi))
 have e1:insts q.parts=(insts p.parts).map (sig i k b):=by
  rw [hq]
  exact insts_set hP (instP_move (aF1 hok hl hb hz hokq) (by simp [nF])) X7
 refine⟨e1,fun x hx=> ?_,fun m=> ?_⟩
 ·obtain⟨s,s',d,s1,s2,s3,s4,s5,s6,s7⟩:=N2 hv hP hk (g:=fun x=>f0 x 1 b) hb (hz k (Nat.le_refl _)) hq (insts_mem hx)
  obtain⟨c1,_,c3,_⟩:=kR s3
  unfold rc wc
  rw [s1,s2]
  dsimp only
  rw [s5,s6,List.map_map,s4 _ c1]
  exact⟨n7 (fun a ha=>s4 a (c3 a ha)),rfl⟩
 ·unfold kD
  rw [e1,List.foldl_map]
  refine P5 (fun x hx m=> ?_)
  obtain⟨s,s',d,s1,s2,s3,s4,s5,s6,s7⟩:=N2 hv hP hk (g:=fun x=>f0 x 1 b) hb (hz k (Nat.le_refl _)) hq (insts_mem hx)
  obtain⟨c1,_,c3,_⟩:=kR s3
  unfold s9
  rw [s1,s2]
  dsimp only
  rw [s5,s4 _ c1,s7 m]
theorem aLl(s:Int)(k:Nat):low k (sA s):=fun j _=>by
 unfold sA
 rcases(show j=0∨j=1∨j=2∨j=3∨4≤j by omega) with rfl|rfl|rfl|rfl|h
 ·rfl
 ·rfl
 ·rfl
 ·rfl
 ·rw [List.getD_eq_getElem?_getD,List.getElem?_eq_none (by simpa using h)];rfl
theorem aIB{p:Prog}(hv:cL p=true){x:Inst}(hx:mH p x): ∀{Y:List Inst} {m:List Int},(∀y∈Y,mH p y)→(∀y∈Y,com p x y)→U8 p.arrays m→kD p (s9 p m x) Y=s9 p (kD p m Y) x
 | [],m,_,_,_=>rfl
 |y::Y,m,h1,h2,hm=>by
  show kD p (s9 p (s9 p m x) y) Y=s9 p (kD p (s9 p m y) Y) x
  rw [h2 y List.mem_cons_self m hm]
  exact aIB hv hx (fun z hz=>h1 z (List.mem_cons_of_mem _ hz)) (fun z hz=>h2 z (List.mem_cons_of_mem _ hz)) (aE3 hv hm (h1 y List.mem_cons_self))
theorem block{p:Prog}(hv:cL p=true): ∀{X Y:List Inst} {m:List Int},(∀x∈X,mH p x)→(∀y∈Y,mH p y)→(∀x∈X,∀y∈Y,com p x y)→U8 p.arrays m→kD p (kD p m X) Y=kD p (kD p m Y) X
 | [],Y,m,_,_,_,_=>rfl
 |x::X,Y,m,h1,h2,h3,hm=>by
  show kD p (kD p (s9 p m x) X) Y=kD p (s9 p (kD p m Y) x) X
  rw [block hv (fun z hz=>h1 z (List.mem_cons_of_mem _ hz)) h2 (fun z hz=>h3 z (List.mem_cons_of_mem _ hz)) (aE3 hv hm (h1 x List.mem_cons_self)),aIB hv (h1 x List.mem_cons_self) h2 (h3 x List.mem_cons_self) hm]
end Go.Lift
