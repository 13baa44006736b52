/- Two programs that do the same. -/
import Derived.Test.YtiplelpjhgnmoaaGreatURun1
import Derived.Test.YtiplelpjhgnmoaaGreatUDraw1
import Derived.Test.YtiplelpjhgnmoaaGreatUDrawD
set_option maxRecDepth 100000
set_option linter.unusedVariables false
namespace Go.Lift
open Go
theorem L7{α β R:Type}{l:List α}{F:α→(β→Option R)→Option R}{g:α→β}{K:List β→Option R}{Q:R→Prop}{n:Nat}(hF: ∀x∈l,∀k:β→Option R,Ev (k (g x)) Q→Ev (F x k) Q)
  {s:Nat} (hs:s≤l.length) {pre:List β} (hp:pre.length≤1000) (hl:l.length≤1000) (hn:5000≤n) (hK:Ev (K (pre++(l.drop s).map g)) Q):
  Ev (aL (fun again ((x,i):List β×Int)=>bif decide (i<(l.length:Int)) then(Option.bind (ix l i) fun y=>F y (fun z=>Option.bind (app x [z]) fun w=>again (w,wr (i+1)))) else K x) n (pre,(s:Int))) Q:=by
 refine Ev.loop (fun z:List β×Int=> ∃i:Nat,z.2=i∧s≤i∧i≤l.length∧z.1=pre++((l.drop s).take (i-s)).map g) (fun z=>l.length-z.2.toNat) ?_ n _ ⟨s,rfl,by omega,by omega,by simp⟩ (by dsimp only;omega)
 rintro again ⟨x,z⟩ ⟨i,hz,hsi,hi,hx⟩ hr
 dsimp only at hz hx⊢
 subst hz
 refine aG (fun hlt=> ?_) (fun hge=> ?_)
 ·have hg:=List.getElem?_eq_getElem (show i<l.length by omega)
  have hxl:x.length≤2000:=by rw [hx,List.length_append,List.length_map,List.length_take,List.length_drop];omega
  refine aA (aN hg) (hF _ (List.mem_of_getElem? hg) _ (aA (bM (by simp;omega)) ?_))
  rw [aK (by omega)]
  refine hr _ ⟨i+1,by dsimp only;omega,by omega,by omega,?_⟩ (by dsimp only;omega)
  dsimp only
  rw [show i+1-s=(i-s)+1 by omega,List.take_add_one,List.getElem?_drop,show s+(i-s)=i by omega,hg,hx,List.map_append,List.append_assoc];rfl
 ·have:i=l.length:=by omega
  subst this
  rw [hx,List.take_of_length_le (by rw [List.length_drop];omega)];exact hK
theorem xI{α β R:Type}{l:List α}{f:α→Option β}{g:α→β}{K:List β→Option R}{Q:R→Prop}{n:Nat}(hf: ∀x∈l,f x=some (g x))(hl:l.length≤1000)(hn:5000≤n)(hK:Ev (K (l.map g)) Q):
  Ev (aL (fun again ((x,i):List β×Int)=>bif decide (i<(l.length:Int)) then(Option.bind (ix l i) fun y=>Option.bind (f y) fun z=>Option.bind (app x [z]) fun w=>again (w,wr (i+1))) else K x) n ([],0)) Q:=
 L7 (F:=fun y k=>Option.bind (f y) k) (g:=g) (s:=0) (pre:=[]) (fun x hx k hk=>aA (hf x hx) hk) (by omega) (by simp) hl hn (by simpa using hK)
theorem aAj{α R:Type}{l:List α}{F:α→(α→Option R)→Option R}{W:List α→Option R→Option R}{m:List α→Int}{g:α→α}{K:List α→Option R}{Q:R→Prop}{n:Nat}
  (hW: ∀y o,y.length=l.length→Ev o Q→Ev (W y o) Q) (hm: ∀y:List α,y.length=l.length→m y=(l.length:Int))
  {s:Nat} (hs:s≤l.length) (hF: ∀x∈l,∀k:α→Option R,Ev (k (g x)) Q→Ev (F x k) Q) (hl:l.length≤1000) (hn:5000≤n) (hK:Ev (K (l.take s++(l.drop s).map g)) Q):
  Ev (aL (fun again ((y,i):List α×Int)=>W y (bif decide (i<m y) then(Option.bind (ix y i) fun x=>F x (fun z=>Option.bind (dW y i z) fun w=>again (w,wr (i+1)))) else K y)) n (l,(s:Int))) Q:=by
 refine Ev.loop (fun z:List α×Int=> ∃i:Nat,z.2=i∧s≤i∧i≤l.length∧z.1=l.take s++((l.drop s).take (i-s)).map g++l.drop i) (fun z=>l.length-z.2.toNat) ?_ n _ ⟨s,rfl,by omega,by omega,by simp⟩ (by dsimp only;omega)
 rintro again ⟨x,z⟩ ⟨i,hz,hsi,hi,hx⟩ hr
 dsimp only at hz hx⊢
 subst hz
 have hpl:(l.take s++((l.drop s).take (i-s)).map g).length=i:=by rw [List.length_append,List.length_map,List.length_take,List.length_take,List.length_drop];omega
 have hxl:x.length=l.length:=by rw [hx,List.length_append,hpl,List.length_drop];omega
 refine hW _ _ hxl ?_
 rw [hm _ hxl]
 refine aG (fun hlt=> ?_) (fun hge=> ?_)
 ·obtain⟨e,hg⟩: ∃e,l[i]? =some e:=⟨_,List.getElem?_eq_getElem (show i<l.length by omega)⟩
  have hgx:x[i]? =some e:=by
   rw [hx,List.getElem?_append_right (by omega),hpl,Nat.sub_self,List.getElem?_drop];exact hg
  refine aA (aN hgx) (hF _ (List.mem_of_getElem? hg) _ (aA (eM (by omega) _) ?_))
  rw [aK (by omega)]
  refine hr _ ⟨i+1,by dsimp only;omega,by omega,by omega,?_⟩ (by dsimp only;omega)
  dsimp only
  rw [hx,Int.toNat_natCast,List.set_append_right _ _ (by omega),hpl,Nat.sub_self,iA hg,List.set_cons_zero,show i+1-s=(i-s)+1 by omega,List.take_add_one,List.getElem?_drop,show s+(i-s)=i by omega,hg]
  simp
 ·have:i=l.length:=by omega
  subst this
  rw [hx,List.take_of_length_le (l:=l.drop s) (by rw [List.length_drop];omega),List.drop_length,List.append_nil];exact hK
def fW(f:Affine→Affine)(a:Access):Access:=⟨a.array,a.subs.map f⟩
def uV(f:Affine→Affine):Nat→Expr→Expr
 |0,e=>e
 |L+1,e=>⟨e.kind,e.num,if e.kind=2 then f e.index else⟨[],0⟩,if e.kind=3 then fW f e.read else⟨[],[]⟩,e.kids.map (uV f L)⟩
def S7(f:Affine→Affine)(s:Stmt):Stmt:=⟨fW f s.write,uV f 5 s.value⟩
def gT(f:Affine→Affine)(l:Loop):Loop:=⟨l.lo.map f,l.hi.map f⟩
theorem zH{e:Expr}{d:Int}(h:fP e d=true)(hk:e.kind=2):b7 e.index=true∧mI e.read=true:=by
 unfold fP bV at h
 rw [if_pos hk] at h
 simp only [Bool.and_eq_true] at h
 exact⟨h.2.2.1,h.2.1⟩
theorem zG{e:Expr}{d:Int}(h:fP e d=true)(hk:e.kind=3):gM e.read d=true∧iV e.index=true:=by
 unfold fP at h
 rw [if_neg (by omega),if_pos hk] at h
 simp only [Bool.and_eq_true] at h
 exact⟨h.2.2,h.2.1⟩
theorem aDj{e:Expr}{d:Int}(h:fP e d=true)(h2: ¬e.kind=2)(h3: ¬e.kind=3):iV e.index=true∧mI e.read=true:=by
 unfold fP at h
 rw [if_neg h2,if_neg h3] at h
 split at h<;>simp only [Bool.and_eq_true] at h<;>exact⟨h.2.1,h.2.2⟩
theorem xC{a:Affine}(h:iV a=true):a=⟨[],0⟩:=by
 obtain⟨c,k⟩:=a
 simp only [iV,Bool.and_eq_true,decide_eq_true_eq] at h
 obtain⟨h1,rfl⟩:=h
 rw [List.eq_nil_of_length_eq_zero h1]
theorem xD{a:Access}(h:mI a=true):a=⟨[],[]⟩:=by
 obtain⟨c,k⟩:=a
 simp only [mI,Bool.and_eq_true,decide_eq_true_eq] at h
 obtain⟨rfl,h1⟩:=h
 rw [List.eq_nil_of_length_eq_zero h1]
theorem tK{n:Nat}(hn:5000≤n){a:Access}{d:Int}(ha:gM a d=true){F:Affine→Option Affine}{f:Affine→Affine}(hF: ∀x,b7 x=true→F x=some (f x)):fQ n a F=some (fW f a):=by
 obtain⟨h1,h2,h3⟩:=t2 ha
 refine Ev.eq ?_
 unfold fQ
 exact xI (K:=fun x1=>some (⟨a.array,x1⟩:Access)) (fun x hx=>hF x (h3 x hx)) (by omega) hn (Ev.some rfl)
theorem xQ{d:Int}{F:Affine→Option Affine}{f:Affine→Affine}(hF: ∀x,b7 x=true→F x=some (f x)): ∀(L n:Nat) (e:Expr),5000+L≤n→dE L e d=true→i_exprMap (n+1) e F=some (uV f L e)
 |0,_,_,_,h=>by cases h
 |L+1,n,e,hn,h=>by
  obtain⟨hk,ho,hs⟩:=jB h
  obtain⟨n,rfl⟩: ∃j,n=j+1:=⟨n-1,by omega⟩
  have hkl:e.kids.length≤2:=by have:=nS e.kind;omega
  unfold i_exprMap
  refine Ev.eq (Ev.jn (fun z=>(⟨z.1,z.2.1⟩:Affine)=(if e.kind=2 then f e.index else⟨[],0⟩)∧(⟨z.2.2.1,z.2.2.2⟩:Access)=(if e.kind=3 then fW f e.read else⟨[],[]⟩)) (fun j hj=> ?_) (fun z hz=> ?_))
  ·refine aG (fun h2=> ?_) (fun h2=>aG (fun h3=> ?_) (fun h3=> ?_))
   ·exact aA (hF _ (zH ho h2).1) (hj _ ⟨by rw [if_pos h2],by rw [if_neg (by omega)]⟩)
   ·exact aA (tK (by omega) (zG ho h3).1 hF) (hj _ ⟨by rw [if_neg h2],by rw [if_pos h3]⟩)
   ·exact hj _ ⟨by rw [if_neg h2],by rw [if_neg h3]⟩
  ·obtain⟨x4,x5,x6,x7⟩:=z
   obtain⟨z1,z2⟩:=hz
   dsimp only at z1 z2⊢
   refine xI (K:=fun x8=>some (⟨e.kind,e.num,(⟨x4,x5⟩:Affine),(⟨x6,x7⟩:Access),x8⟩:Expr)) (fun x hx=>xQ hF L n x (by omega) (hs x hx)) (by omega) (by omega) (Ev.some ?_)
   rw [z1,z2];rfl
theorem xO{n:Nat}(hn:6000≤n){s:Stmt}{d:Int}(hs:fO s d=true){F:Affine→Option Affine}{f:Affine→Affine}(hF: ∀x,b7 x=true→F x=some (f x)):gJ n s F=some (S7 f s):=by
 obtain⟨h1,h2,_⟩:=lA hs
 obtain⟨n,rfl⟩: ∃j,n=j+1:=⟨n-1,by omega⟩
 unfold gJ
 rw [tK (by omega) h1 hF,xQ hF 5 n s.value (by omega) h2];rfl
theorem aAA{α:Type}{f:α→α}: ∀{l:List α},(∀x∈l,f x=x)→l.map f=l
 | [],_=>rfl
 |x::l,h=>by rw [List.map_cons,h x List.mem_cons_self,aAA (fun y hy=>h y (List.mem_cons_of_mem _ hy))]
theorem W9{f:Affine→Affine}{a:Access}{d:Int}(ha:gM a d=true)(hf: ∀x,b7 x=true→f x=x):fW f a=a:=by
 obtain⟨h1,h2,h3⟩:=t2 ha
 unfold fW
 rw [aAA (fun x hx=>hf x (h3 x hx))]
theorem aEP{d:Int}{f:Affine→Affine}(hf: ∀x,b7 x=true→f x=x): ∀{L:Nat} {e:Expr},dE L e d=true→uV f L e=e
 |0,_,_=>rfl
 |L+1,e,h=>by
  obtain⟨hk,ho,hs⟩:=jB h
  obtain⟨kind,num,index,read,kids⟩:=e
  unfold uV
  dsimp only at hk ho hs⊢
  rw [aAA (fun x hx=>aEP hf (hs x hx))]
  by_cases h2:kind=2
  ·have e1:=zH ho h2
   dsimp only at e1
   rw [if_pos h2,if_neg (by omega),hf _ e1.1,xD e1.2]
  ·by_cases h3:kind=3
   ·have e1:=zG ho h3
    dsimp only at e1
    rw [if_neg h2,if_pos h3,W9 e1.1 hf,xC e1.2]
   ·have e1:=aDj ho h2 h3
    dsimp only at e1
    rw [if_neg h2,if_neg h3,xC e1.1,xD e1.2]
theorem aJe{f:Affine→Affine}(hf: ∀x,b7 x=true→f x=x){s:Stmt}{d:Int}(hs:fO s d=true):S7 f s=s:=by
 obtain⟨h1,h2,_⟩:=lA hs
 unfold S7
 rw [W9 h1 hf,aEP hf h2]
def L8(l:Loop):Prop:=(l.lo.length≤2∧ ∀x∈l.lo,b7 x=true)∧l.hi.length≤2∧ ∀x∈l.hi,b7 x=true
theorem aKS{nest:List Loop}(h:Fit nest): ∀l∈nest,L8 l:=fun l hl=>by
 obtain⟨i,hi⟩:=List.mem_iff_getElem?.1 hl
 have:=h.2 i l hi
 exact⟨(sG this.1).2,(sG this.2).2⟩
theorem mO{list:List Arr}{x:Part}(h:cD list x=true):x.nest.length≤4∧ ∀l∈x.nest,L8 l:=by
 have:=(aCQ (iU h).1).1
 exact⟨this.1,aKS this⟩
theorem aJ0{a:Affine}(h:b7 a=true):BA 4 a:=by have:=(iJ h).1;unfold BA;omega
theorem aA7{l:List Affine}(h1:l.length≤2)(h2: ∀x∈l,b7 x=true):BAs 4 l:=⟨by omega,fun a ha=>aJ0 (h2 a ha)⟩
theorem aJZ{d:Int}: ∀{L:Nat} {e:Expr},dE L e d=true→BE 4 L e
 |0,_,h=>by cases h
 |L+1,e,h=>by
  obtain⟨hk,ho,hs⟩:=jB h
  have:=nS e.kind
  refine⟨by omega,?_,?_,fun k hk=>aJZ (hs k hk)⟩
  ·by_cases h2:e.kind=2
   ·exact aJ0 (zH ho h2).1
   ·by_cases h3:e.kind=3
    ·rw [xC (zG ho h3).2];unfold BA;simp
    ·rw [xC (aDj ho h2 h3).1];unfold BA;simp
  ·by_cases h3:e.kind=3
   ·have:=t2 (zG ho h3).1
    exact aA7 this.2.1 this.2.2
   ·by_cases h2:e.kind=2
    ·rw [xD (zH ho h2).2];exact⟨by simp,fun x hx=>by cases hx⟩
    ·rw [xD (aDj ho h2 h3).2];exact⟨by simp,fun x hx=>by cases hx⟩
theorem aLX{s:Stmt}{d:Int}(hs:fO s d=true):BS 4 s:=by
 obtain⟨h1,h2,_⟩:=lA hs
 have:=t2 h1
 exact⟨aA7 this.2.1 this.2.2,aJZ h2⟩
theorem aK6{list:List Arr}{x:Part}(h:cD list x=true):BPt 4 x:=by
 obtain⟨h1,h2⟩:=mO h
 obtain⟨_,h4,h5,_⟩:=iU h
 exact⟨⟨h1,fun l hl=>⟨aA7 (h2 l hl).1.1 (h2 l hl).1.2,aA7 (h2 l hl).2.1 (h2 l hl).2.2⟩⟩,h4.2,fun s hs=>aLX (h5 s hs)⟩
theorem aLY{l:List Arr}(h1:l.length≤4)(h2:jH l):BR 4 l:=⟨h1,fun x hx=>by
 have:=h2 x hx
 simp only [iN,Bool.and_eq_true,decide_eq_true_eq] at this
 omega⟩
theorem H1{B:Nat}{l:List Affine}{f:Affine→Affine}(h:l.length≤B)(hf: ∀x∈l,BA B (f x)):BAs B (l.map f):=⟨by rw [List.length_map];exact h,fun a ha=>by
 obtain⟨x,hx,rfl⟩:=List.mem_map.1 ha
 exact hf x hx⟩
theorem aIa{d:Int}{f:Affine→Affine}(hf: ∀x,b7 x=true→BA 4 (f x)): ∀{L:Nat} {e:Expr},dE L e d=true→BE 4 L (uV f L e)
 |0,_,h=>by cases h
 |L+1,e,h=>by
  obtain⟨hk,ho,hs⟩:=jB h
  have:=nS e.kind
  unfold uV BE
  refine⟨by dsimp only;rw [List.length_map];omega,?_,?_,fun k hk=> ?_⟩
  ·dsimp only
   by_cases h2:e.kind=2
   ·rw [if_pos h2];exact hf _ (zH ho h2).1
   ·rw [if_neg h2];unfold BA;simp
  ·dsimp only
   by_cases h3:e.kind=3
   ·rw [if_pos h3]
    have:=t2 (zG ho h3).1
    exact H1 (by omega) (fun x hx=>hf x (this.2.2 x hx))
   ·rw [if_neg h3];exact⟨by simp,fun x hx=>by cases hx⟩
  ·obtain⟨x,hx,rfl⟩:=List.mem_map.1 hk
   exact aIa hf (hs x hx)
theorem aK5{f:Affine→Affine}(hf: ∀x,b7 x=true→BA 4 (f x)){s:Stmt}{d:Int}(hs:fO s d=true):BS 4 (S7 f s):=by
 obtain⟨h1,h2,_⟩:=lA hs
 have:=t2 h1
 exact⟨H1 (by omega) (fun x hx=>hf x (this.2.2 x hx)),aIa hf h2⟩
theorem aJD{f:Affine→Affine}(hf: ∀x,b7 x=true→BA 4 (f x)){l:Loop}(h:L8 l):BAs 4 (gT f l).lo∧BAs 4 (gT f l).hi:=
 ⟨H1 (by have:=h.1.1;omega) (fun x hx=>hf x (h.1.2 x hx)),H1 (by have:=h.2.1;omega) (fun x hx=>hf x (h.2.2 x hx))⟩
theorem aFB(n:Nat){a:Affine}(h:a.coefs.length≤1000):cU n a=some a:=by
 unfold cU m_ownClone
 rw [if_pos (by omega)];rfl
theorem zI(n:Nat): ∀x,b7 x=true→cU n x=some x:=fun x hx=>aFB n (by have:=(iJ hx).1;omega)
theorem K7{n:Nat}(hn:5000≤n){l:List Affine}(h1:l.length≤2)(h2: ∀x∈l,b7 x=true):eP n l=some l:=by
 unfold eP
 refine Ev.eq (xI (g:=fun x=>x) (K:=fun x1=>some x1) (fun x hx=>zI n x (h2 x hx)) (by omega) hn (Ev.some ?_))
 simp
theorem aDk{n:Nat}(hn:5000≤n){nest:List Loop}(h1:nest.length≤4)(h2: ∀l∈nest,L8 l):lK n nest=some nest:=by
 unfold lK
 refine Ev.eq ?_
 refine L7 (β:=Loop) (l:=nest) (n:=n) (F:=fun x5 k=>Option.bind (eP n x5.lo) fun x6=>Option.bind (eP n x5.hi) fun x7=>k (⟨x6,x7⟩:Loop)) (g:=fun x=>x) (s:=0) (pre:=[]) (K:=fun x1=>some x1) ?_ (by omega) (by simp) (by omega) hn (Ev.some (by simp))
 exact fun x hx k hk=>aA (K7 hn (h2 x hx).1.1 (h2 x hx).1.2) (aA (K7 hn (h2 x hx).2.1 (h2 x hx).2.2) hk)
theorem aDh{n:Nat}(hn:6000≤n){s:Stmt}{d:Int}(hs:fO s d=true):pU n s=some s:=by
 unfold pU
 rw [xO hn hs (F:=fun q0=>cU n q0) (f:=fun x=>x) (zI n),aJe (fun _ _=>rfl) hs];rfl
theorem aDi{n:Nat}(hn:6000≤n){list:List Arr}{x:Part}(h:cD list x=true):jX n x=some x:=by
 obtain⟨h1,h2⟩:=mO h
 obtain⟨_,h4,h5,_⟩:=iU h
 unfold jX
 refine Ev.eq (aA (aDk (by omega) h1 h2) (xI (g:=fun x=>x) (K:=fun x2=>some (⟨x.nest,x2⟩:Part)) (fun s hs=>aDh hn (h5 s hs)) (by omega) (by omega) (Ev.some ?_)))
 simp
theorem aDg{n:Nat}(hn:6000≤n){p:Prog}(h:bQ p=true):dZ n p=some p:=by
 obtain⟨h1,h2,h3,h4,_⟩:=fV h
 unfold dZ
 refine Ev.eq (L7 (F:=fun x5 k=>Option.bind (m_ownClone x5.dims) fun x6=>k (⟨x5.name,x6⟩:Arr)) (g:=fun x=>x) (s:=0) (pre:=[]) (K:=fun x1=>aL (fun again11 ((x8,x9):(List Part)×Int)=>
    bif decide (x9<(p.parts.length:Int)) then(
     Option.bind (ix p.parts x9) fun x12=>
     Option.bind (jX n x12) fun x13=>
     Option.bind (app x8 [x13]) fun x14=>
     again11 (x14,wr (x9+1))
    ) else(
     some (⟨x1,x8⟩:Prog)
    )
   ) n ([],0)) (fun x hx k hk=>aA (x:=x.dims) ?_ hk) (by omega) (by simp) (by omega) (by omega) ?_)
 ·have:=(aLY h1 h2).2 x hx
  unfold m_ownClone
  rw [if_pos (by omega)]
 ·refine xI (g:=fun x=>x) (K:=fun x8=>some (⟨_,x8⟩:Prog)) (fun x hx=>aDi hn (h4 x hx)) (by omega) (by omega) (Ev.some ?_)
  simp
theorem gO{α:Type}{a b:List α}(h:b.length=a.length):jC a b=some ():=by unfold jC;rw [if_pos h]
theorem S8{n:Nat}(hn:5000≤n){l:Loop}(hl:L8 l){F:Affine→Option Affine}{f:Affine→Affine}(hF: ∀x,b7 x=true→F x=some (f x)):i8 n l F=some (gT f l):=by
 obtain⟨⟨a1,a2⟩,b1,b2⟩:=hl
 unfold i8
 refine Ev.eq (Ev.loop (fun z:Loop×Int=>(z.2=0∧z.1=l)∨(z.2=1∧z.1=⟨l.lo.map f,l.hi⟩)∨(z.2=2∧z.1=gT f l)) (fun z=>3-z.2.toNat) ?_ n _ (.inl ⟨rfl,rfl⟩) (by dsimp only;omega))
 rintro again ⟨x,i⟩ hz hr
 dsimp only at hz hr⊢
 rcases hz with ⟨rfl,rfl⟩|⟨rfl,rfl⟩|⟨rfl,rfl⟩
 ·refine aA (gO rfl) (aA (gO rfl) (aG (fun _=>aG (fun _=> ?_) (fun h=>(h rfl).elim)) (fun h=>absurd h (by omega))))
  refine aAj (F:=fun x k=>Option.bind (F x) k) (W:=fun _ o=>o) (m:=fun _=>(x.lo.length:Int)) (g:=f) (s:=0) (K:=fun y=>again ((⟨y,x.hi⟩:Loop),wr (0+1))) (fun _ _ _ h=>h) (fun _ _=>rfl) (by omega) (fun x hx k hk=>aA (hF x (a2 x hx)) hk) (by omega) hn ?_
  rw [aK (by omega)]
  exact hr _ (.inr (.inl ⟨by dsimp only;omega,by simp⟩)) (by dsimp only;omega)
 ·refine aA (gO (by simp)) (aA (gO rfl) (aG (fun _=>aG (fun h=>absurd h (by omega)) (fun _=>aG (fun _=> ?_) (fun h=>(h rfl).elim))) (fun h=>absurd h (by omega))))
  refine aAj (F:=fun x k=>Option.bind (F x) k) (W:=fun _ o=>o) (m:=fun _=>(l.hi.length:Int)) (g:=f) (s:=0) (K:=fun y=>again ((⟨l.lo.map f,y⟩:Loop),wr (1+1))) (fun _ _ _ h=>h) (fun _ _=>rfl) (by omega) (fun x hx k hk=>aA (hF x (b2 x hx)) hk) (by omega) hn ?_
  rw [aK (by omega)]
  exact hr _ (.inr (.inr ⟨by dsimp only;omega,by simp [gT]⟩)) (by dsimp only;omega)
 ·refine aA (gO (by simp [gT])) (aA (gO (by simp [gT])) (aG (fun h=>absurd h (by omega)) (fun _=>Ev.some rfl)))
theorem S6{n:Nat}(hn:6000≤n){nest:List Loop}{body:List Stmt}{s:Nat}(hs:s≤nest.length)(h1:nest.length≤4)(h2: ∀l∈nest.drop s,L8 l){d:Int}(h3:body.length≤4)(h4: ∀s∈body,fO s d=true){F:Affine→Option Affine}{f:Affine→Affine}(hF: ∀x,b7 x=true→F x=some (f x)):
  iZ n ⟨nest,body⟩ (s:Int) F=some ⟨nest.take s++(nest.drop s).map (gT f),body.map (S7 f)⟩:=by
 have key: ∀(nest2:List Loop),Ev (aL (fun again2 ((y,j):(List Stmt)×Int)=>
    Option.bind (jC body y) fun x5=>
    bif decide (j<(body.length:Int)) then(
     Option.bind (ix y j) fun x6=>
     Option.bind (gJ n x6 F) fun x7=>
     Option.bind (dW y j x7) fun x8=>
     again2 (x8,wr (j+1))
    ) else(
     some (⟨nest2,y⟩:Part)
    )
   ) n (body,0)) (fun r=>r=⟨nest2,body.map (S7 f)⟩):=fun nest2=>
  aAj (F:=fun x k=>Option.bind (gJ n x F) k) (W:=fun y o=>Option.bind (jC body y) fun _=>o) (m:=fun _=>(body.length:Int)) (g:=S7 f) (s:=0) (K:=fun y=>some (⟨nest2,y⟩:Part)) (fun y o h ho=>aA (gO h) ho) (fun _ _=>rfl) (by omega) (fun x hx k hk=>aA (xO hn (h4 x hx) hF) hk) (by omega) (by omega) (Ev.some (by simp))
 unfold iZ
 refine Ev.eq ?_
 -- the loops ahead stay: only those behind are changed
 refine Ev.loop (fun z:List Loop×Int=> ∃i:Nat,z.2=i∧s≤i∧i≤nest.length∧z.1=nest.take s++((nest.drop s).take (i-s)).map (gT f)++nest.drop i) (fun z=>nest.length-z.2.toNat) ?_ n _ ⟨s,rfl,by omega,by omega,by simp⟩ (by dsimp only;omega)
 rintro again ⟨x,z⟩ ⟨i,hz,hsi,hi,hx⟩ hr
 dsimp only at hz hx⊢
 subst hz
 have hpl:(nest.take s++((nest.drop s).take (i-s)).map (gT f)).length=i:=by rw [List.length_append,List.length_map,List.length_take,List.length_take,List.length_drop];omega
 have hxl:x.length=nest.length:=by rw [hx,List.length_append,hpl,List.length_drop];omega
 refine aA (gO hxl) (aG (fun hlt=> ?_) (fun hge=> ?_))
 ·obtain⟨e,hg⟩: ∃e,nest[i]? =some e:=⟨_,List.getElem?_eq_getElem (show i<nest.length by omega)⟩
  have hgx:x[i]? =some e:=by
   rw [hx,List.getElem?_append_right (by omega),hpl,Nat.sub_self,List.getElem?_drop];exact hg
  have he:e∈nest.drop s:=List.mem_iff_getElem?.2 ⟨i-s,by rw [List.getElem?_drop,show s+(i-s)=i by omega];exact hg⟩
  refine aA (aN hgx) (aA (S8 (by omega) (h2 _ he) hF) (aA (eM (by omega) _) ?_))
  rw [aK (by omega)]
  refine hr _ ⟨i+1,by dsimp only;omega,by omega,by omega,?_⟩ (by dsimp only;omega)
  dsimp only
  rw [hx,Int.toNat_natCast,List.set_append_right _ _ (by omega),hpl,Nat.sub_self,iA hg,List.set_cons_zero,show i+1-s=(i-s)+1 by omega,List.take_add_one,List.getElem?_drop,show s+(i-s)=i by omega,hg]
  simp
 ·have:i=nest.length:=by omega
  subst this
  rw [hx,List.take_of_length_le (l:=nest.drop s) (by rw [List.length_drop];omega),List.drop_length,List.append_nil]
  exact key _
def eH(p:Prog)(part loop:Int):Bool:=bQ p&&match ix p.parts part with
 |some x=>decide (0≤loop∧loop<(x.nest.length:Int))
 |none=>false
theorem aEU{α:Type}{l:List α}{i:Int}(h: ¬(0≤i∧i<(l.length:Int))):ix l i=none:=by
 cases hx:ix l i with
 |none=>rfl
 |some x=>
  obtain⟨h1,h2⟩:=qV hx
  have:=(List.getElem?_eq_some_iff.1 h2).1
  exact absurd ⟨h1,by omega⟩ h
theorem aKJ{α:Type}{l:List α}{i:Int}{x:α}(h:ix l i=some x): ∃k:Nat,i=k∧k<l.length∧l[k]? =some x:=by
 obtain⟨h1,h2⟩:=qV h
 exact⟨i.toNat,by omega,(List.getElem?_eq_some_iff.1 h2).1,h2⟩
theorem uK(n:Nat){p:Prog}(h:p.parts.length≤1000)(part:Int):d7 n p part=some (decide (0≤part∧part<(p.parts.length:Int))):=by
 unfold d7
 rw [dN,aK (by omega)]
 exact congrArg some (decide_eq_decide.2 (by omega))
theorem aH9{n:Nat}(hn:7000≤n){p:Prog}(hp:BG 1000 p)(part loop:Int)(hl:loop≠ -1):mS n p part loop=some (if eH p part loop=true then(p,true) else(⟨[],[]⟩,false)):=by
 unfold mS
 refine Ev.eq (Ev.jn (fun z=>z= !eH p part loop) (fun j hj=> ?_) (fun z hz=> ?_))
 ·refine aA (kO hn hp.sm) (Ev.cond (fun h=> ?_) (fun h=> ?_))
  ·refine hj _ ?_
   unfold eH
   rw [show bQ p=false by simpa using h];rfl
  ·have hv:bQ p=true:=by simpa using h
   refine aA (uK n hp.2.1 part) ?_
   by_cases hi:0≤part∧part<(p.parts.length:Int)
   ·obtain⟨x,hx,hx2⟩:=gW hi.1 hi.2
    rw [decide_eq_true hi]
    refine bT (dP (fun _=>aA (x:=eH p part loop) ?_ (hj _ rfl)) (fun h=>absurd h hl))
    unfold cP
    refine Ev.eq (Ev.jn (fun z=>z=eH p part loop) (fun j hj=> ?_) (fun z hz=>Ev.some hz))
    rw [uK n hp.2.1 part,decide_eq_true hi]
    refine aA rfl (bW (aA hx ?_))
    have:=(hp.2.2 x (List.mem_of_getElem? hx2)).1.1
    rw [aK (by omega),dN]
    refine aA rfl (hj _ ?_)
    unfold eH
    rw [hv,hx]
    exact decide_eq_decide.2 (by omega)
   ·rw [decide_eq_false hi]
    refine bW (hj _ ?_)
    unfold eH
    rw [aEU hi,Bool.and_false];rfl
 ·subst hz
  by_cases hc:eH p part loop=true
  ·rw [hc]
   have hv:bQ p=true:=by unfold eH at hc;rw [Bool.and_eq_true] at hc;exact hc.1
   obtain⟨x,hx⟩: ∃x,ix p.parts part=some x:=by
    cases hx:ix p.parts part with
    |some x=>exact⟨x,rfl⟩
    |none=>unfold eH at hc;rw [hx,Bool.and_false] at hc;cases hc
   exact bT (aA (aDg (by omega) hv) (aA hx (Ev.some rfl)))
  ·rw [show eH p part loop=false by simpa using hc]
   exact bW (Ev.some rfl)
def zZ(q:Prog):Prog×Bool:=if bQ q=true then(q,true) else(⟨[],[]⟩,false)
theorem aB7{n:Nat}(hn:7000≤n){p:Prog}(hp:BG 1000 p):nU n p=some (zZ p):=by
 unfold nU zZ
 refine Ev.eq (aA (kO hn hp.sm) (Ev.cond (fun h=>Ev.some ?_) (fun h=> ?_)))
 ·rw [if_neg (by simpa using h)]
 ·have hv:bQ p=true:=by simpa using h
  rw [if_pos hv]
  exact aA (aDg (by omega) hv) (Ev.some rfl)
theorem aKP{n:Nat}(hn:7000≤n){p:Prog}(hp:BG 1000 p)(part loop:Int):wW n p part loop=some (eH p part loop):=by
 unfold wW
 refine Ev.eq (Ev.jn (fun z=>z=eH p part loop) (fun j hj=> ?_) (fun z hz=>Ev.some hz))
 refine aA (kE hn hp.sm) (Ev.cond (fun hv=> ?_) (fun hv=>hj _ (by unfold eH;rw [hv];rfl)))
 refine aG (fun h1=>aG (fun h2=> ?_) (fun h2=> ?_)) (fun h1=> ?_)
 ·obtain⟨x,hx,hx2⟩:=gW h1 h2
  refine aG (fun h3=>aA hx (hj _ ?_)) (fun h3=>hj _ ?_)
  ·unfold eH
   rw [hv,hx]
   exact decide_eq_decide.2 (by omega)
  ·unfold eH
   rw [hv,hx]
   exact(decide_eq_false (by omega)).symm
 ·exact hj _ (by unfold eH;rw [aEU (by omega),Bool.and_false])
 ·exact hj _ (by unfold eH;rw [aEU (by omega),Bool.and_false])
def bB(m:Int)(a:Affine):Prop:=a.coefs.length=4∧qX m a.const∧ ∀c∈a.coefs,qX m c
theorem bB.mono{m m':Int}{a:Affine}(h:bB m a)(hm:m≤m'):bB m' a:=⟨h.1,⟨by have:=h.2.1.1;omega,by have:=h.2.1.2;omega⟩,fun c hc=>⟨by have:=(h.2.2 c hc).1;omega,by have:=(h.2.2 c hc).2;omega⟩⟩
theorem aKz{l:List Int}(h:l.length=4): ∃a b c d,l=[a,b,c,d]:=by
 match l,h with
 | [a,b,c,d],_=>exact⟨a,b,c,d,rfl⟩
def noP:Prog×Bool:=(⟨[],[]⟩,false)
theorem zU{p:Prog}{part loop:Int}(h:eH p part loop=true):bQ p=true∧ ∃(i k:Nat) (P:Part) (l:Loop),part=i∧loop=k∧p.parts[i]? =some P∧P.nest[k]? =some l∧i<p.parts.length∧k<P.nest.length∧cD p.arrays P=true∧k<4:=by
 unfold eH at h
 rw [Bool.and_eq_true] at h
 obtain⟨hv,h⟩:=h
 refine⟨hv,?_⟩
 cases hx:ix p.parts part with
 |none=>rw [hx] at h;cases h
 |some P=>
  rw [hx] at h
  obtain⟨i,rfl,hi,hP⟩:=aKJ hx
  obtain⟨h1,h2⟩:=of_decide_eq_true h
  obtain⟨l,hl,hl2⟩:=gW h1 h2
  have hok:=(fV hv).2.2.2.1 P (List.mem_of_getElem? hP)
  have:=(mO hok).1
  exact⟨i,loop.toNat,P,l,rfl,by omega,hP,hl2,hi,by omega,hok,by omega⟩
theorem aH8{p:Prog}(hp:BG 1000 p)(i:Nat){y:Part}(hy:BPt 4 y):BG 1000 ⟨p.arrays,p.parts.set i y⟩:=⟨hp.1,by dsimp only;rw [List.length_set];exact hp.2.1,wV hp.2.2 (hy.mono (by omega))⟩
theorem aHi{p:Prog}{part loop:Int}(h:loop<0):eH p part loop=false:=by
 cases hc:eH p part loop with
 |false=>rfl
 |true=>obtain⟨_,i,k,P,l,_,hk,_⟩:=zU hc;omega
theorem aJp{q:Prog}(h:BG 1000 q):BG 1000 (zZ q).1:=by
 unfold zZ
 split
 ·exact h
 ·exact⟨⟨by simp,fun x hx=>by cases hx⟩,by simp,fun x hx=>by cases hx⟩
theorem aG1:BG 1000 noP.1:=⟨⟨by simp [noP],fun x hx=>by cases hx⟩,by simp [noP],fun x hx=>by cases hx⟩
def kA(k:Nat)(s:Int):Affine:=⟨[0,0,0,0].set k s,0⟩
theorem aKR{B:Option Bool}{a b:Int}(h:b≤1048576→Ev B (fun r=>r=true)):Ev (jn (fun(x2:Bool)=>bif x2 then(some true) else B) (fun j1=>bif decide ((1048576:Int)<a) then(j1 true) else(j1 (decide ((1048576:Int)<b))))) (fun r=>r=true):=by
 exact Ev.jn (fun z=>z=false→b≤1048576) (fun j hj=>aG (fun _=>hj _ (fun h=>by cases h)) (fun _=>hj _ (fun h=>by have:=of_decide_eq_false h;omega))) (fun z hz=>Ev.cond (fun _=>Ev.some rfl) (fun h0=>h (hz h0)))
theorem pO{α β:Type}{f g:α→β}: ∀{l:List α},(∀x∈l,f x=g x)→l.map f=l.map g
 | [],_=>rfl
 |x::l,h=>by rw [List.map_cons,List.map_cons,h x List.mem_cons_self,pO (fun y hy=>h y (List.mem_cons_of_mem _ hy))]
theorem aKT{p q:Prog}(h:zZ p=(q,true)):q=p∧bQ p=true:=by
 unfold zZ at h
 split at h
 ·rename_i hv;cases h;exact⟨rfl,hv⟩
 ·cases h
def low(k:Nat)(b:Affine):Prop:= ∀j,k≤j→b.coefs.getD j 0=0
theorem aFS{α:Type}{l:List α}{v d:α}:(l++[v]).getD l.length d=v:=by
 rw [List.getD_eq_getElem?_getD,List.getElem?_append_right (Nat.le_refl _),Nat.sub_self];rfl
theorem aFR{α:Type}{l:List α}{k:Nat}{v d:α}(h:k<l.length):(l++[v]).getD k d=l.getD k d:=by
 rw [List.getD_eq_getElem?_getD,List.getElem?_append_left h,List.getD_eq_getElem?_getD]
theorem q6{α β:Type}{f g:α→List β}{l:List α}(h: ∀x∈l,f x=g x):l.flatMap f=l.flatMap g:=by
 rw [List.flatMap_def,List.flatMap_def,pO h]
theorem C5{list:List Arr}{x:Part}(h:cD list x=true):dF x=pts x.nest []:=(aCQ (iU h).1).2.2.2.1
theorem insts_set{ps:List Part}{i:Nat}{P P':Part}(hP:ps[i]? =some P){σ:Inst→Inst}(h1:instP i P'=(instP i P).map σ)(h2: ∀x,x.part≠(i:Int)→σ x=x):insts (ps.set i P')=(insts ps).map σ:=by
 unfold insts
 rw [List.map_flatMap]
 have e:(ps.set i P').zipIdx=ps.zipIdx.map (fun y=>if y.2=i then(P',i) else y):=by
  refine List.ext_getElem? (fun j=> ?_)
  rw [List.getElem?_zipIdx,List.getElem?_map,List.getElem?_zipIdx]
  by_cases hj:i=j
  ·subst hj
   rw [List.getElem?_set_self (List.getElem?_eq_some_iff.1 hP).1,hP]
   simp
  ·rw [List.getElem?_set_ne hj]
   cases ps[j]? with
   |none=>rfl
   |some y=>
    have: ¬j=i:=fun h=>hj h.symm
    simp [this]
 rw [e,List.flatMap_map]
 refine q6 (fun y hy=> ?_)
 obtain⟨j,hj⟩:=List.mem_iff_getElem?.1 hy
 rw [List.getElem?_zipIdx] at hj
 cases hx:ps[j]? with
 |none=>rw [hx] at hj;cases hj
 |some x=>
  rw [hx] at hj
  simp at hj
  subst hj
  by_cases hji:j=i
  ·subst hji
   rw [hP] at hx
   cases hx
   simp [h1]
  ·simp only [if_neg hji]
   refine(aAA (fun z hz=>h2 z ?_)).symm
   unfold instP at hz
   obtain⟨q,_,hz⟩:=List.mem_flatMap.1 hz
   obtain⟨t,_,rfl⟩:=List.mem_map.1 hz
   dsimp only
   omega
theorem aJT{f:Affine→Affine}{t q:List Int}: ∀{ss:List Affine} (ds:List Int) (acc:Int),(∀x∈ss,cJ (f x) t=cJ x q)→lJ (ss.map f) ds t acc=lJ ss ds q acc
 | [],ds,acc,_=>by cases ds<;>rfl
 |s::ss,[],acc,_=>rfl
 |s::ss,d::ds,acc,h=>by
  simp only [List.map_cons,lJ]
  rw [h s List.mem_cons_self]
  split
  ·exact aJT ds _ (fun x hx=>h x (List.mem_cons_of_mem _ hx))
  ·rfl
theorem aDY{f:Affine→Affine}{t q:List Int}{a:Access}(h: ∀x∈a.subs,cJ (f x) t=cJ x q): ∀(xs:List Arr) (base:Int),cQ xs (fW f a) t base=cQ xs a q base
 | [],_=>rfl
 |x::xs,base=>by
  have e1:lJ (fW f a).subs x.dims t 0=lJ a.subs x.dims q 0:=aJT _ _ h
  have e2:(fW f a).subs.length=a.subs.length:=by simp [fW]
  have e3:(fW f a).array=a.array:=rfl
  simp only [cQ,e1,e2,e3,aDY h xs]
theorem aEG{d:Int}{f:Affine→Affine}: ∀{L:Nat} {e:Expr},dE L e d=true→b9 L (uV f L e)=(b9 L e).map (fW f)
 |0,_,h=>by cases h
 |L+1,e,h=>by
  obtain⟨hk,ho,hs⟩:=jB h
  show(if e.kind=3 then [if e.kind=3 then fW f e.read else⟨[],[]⟩] else [])++(e.kids.map (uV f L)).flatMap (b9 L)=((if e.kind=3 then [e.read] else [])++e.kids.flatMap (b9 L)).map (fW f)
  rw [List.map_append,List.flatMap_map,List.map_flatMap]
  congr 1
  ·by_cases h3:e.kind=3
   ·simp only [if_pos h3];rfl
   ·simp only [if_neg h3];rfl
  ·exact q6 (fun x hx=>aEG (hs x hx))
theorem aGs{d:Int}{f:Affine→Affine}{t q:List Int}(h: ∀x,b7 x=true→cJ (f x) t=cJ x q)(list:List Arr)(m:List Int): ∀{L:Nat} {e:Expr},dE L e d=true→uU L list m (uV f L e) t=uU L list m e q
 |0,_,_=>rfl
 |L+1,e,he=>by
  obtain⟨hk,ho,hs⟩:=jB he
  have e1:(uV f (L+1) e).kind=e.kind:=rfl
  have e2:(uV f (L+1) e).num=e.num:=rfl
  have e5:(uV f (L+1) e).kids=e.kids.map (uV f L):=rfl
  unfold uU
  rw [e1,e2,e5]
  by_cases h1:e.kind=1
  ·rw [if_pos h1,if_pos h1]
  ·rw [if_neg h1,if_neg h1]
   by_cases h2:e.kind=2
   ·have e3:(uV f (L+1) e).index=f e.index:=by show(if e.kind=2 then f e.index else _)=_;rw [if_pos h2]
    rw [if_pos h2,if_pos h2,e3,h _ (zH ho h2).1]
   ·rw [if_neg h2,if_neg h2]
    by_cases h3:e.kind=3
    ·have e4:(uV f (L+1) e).read=fW f e.read:=by show(if e.kind=3 then fW f e.read else _)=_;rw [if_pos h3]
     rw [if_pos h3,if_pos h3,e4,aDY (fun x hx=>h x ((t2 (zG ho h3).1).2.2 x hx))]
    ·rw [if_neg h3,if_neg h3]
     obtain⟨kind,num,index,read,kids⟩:=e
     dsimp only at hs⊢
     match kids,hs with
     | [],_=>rfl
     | [a],_=>rfl
     | [a,c],hs=>
      simp only [List.map_cons,List.map_nil]
      rw [aGs h list m (hs a (by simp)),aGs h list m (hs c (by simp))]
     |a::c::e::r,_=>rfl
def isP(p:Prog)(a:Int):Bool:=decide (0≤a∧a<(p.parts.length:Int))
theorem aDp{b:Bool}(h:(!b)=true):b=false:=by cases b with
 |false=>rfl
 |true=>cases h
theorem aDq{b:Bool}(h:(!b)=false):b=true:=by cases b with
 |false=>cases h
 |true=>rfl
theorem aH6{p:Prog}(hv:bQ p=true){x:Inst}(hx:iO p x): ∀{Y:List Inst} {m:List Int},(∀y∈Y,iO p y)→(∀y∈Y,com p x y)→R9 p.arrays m→jM p (rU p m x) Y=rU p (jM p m Y) x
 | [],m,_,_,_=>rfl
 |y::Y,m,h1,h2,hm=>by
  show jM p (rU p (rU p m x) y) Y=rU p (jM p (rU p m y) Y) x
  rw [h2 y List.mem_cons_self m hm]
  exact aH6 hv hx (fun z hz=>h1 z (List.mem_cons_of_mem _ hz)) (fun z hz=>h2 z (List.mem_cons_of_mem _ hz)) (aEE hv hm (h1 y List.mem_cons_self))
theorem block{p:Prog}(hv:bQ p=true): ∀{X Y:List Inst} {m:List Int},(∀x∈X,iO p x)→(∀y∈Y,iO p y)→(∀x∈X,∀y∈Y,com p x y)→R9 p.arrays m→jM p (jM p m X) Y=jM p (jM p m Y) X
 | [],Y,m,_,_,_,_=>rfl
 |x::X,Y,m,h1,h2,h3,hm=>by
  show jM p (jM p (rU p m x) X) Y=jM p (rU p (jM p m Y) x) X
  rw [block hv (fun z hz=>h1 z (List.mem_cons_of_mem _ hz)) h2 (fun z hz=>h3 z (List.mem_cons_of_mem _ hz)) (aEE hv hm (h1 x List.mem_cons_self)),aH6 hv (h1 x List.mem_cons_self) h2 (h3 x List.mem_cons_self) hm]
def L9:List Int→List Int→Bool
 |a::as,b::bs=>if a=b then L9 as bs else decide (a<b)
 | [],_::_=>true
 |_,[]=>false
theorem aGP{n:Nat}{p q:List Int}(hn:p.length<n)(hp:p.length≤1000)(hq:q.length≤1000):pL n p q=some (L9 p q):=by
 unfold pL
 refine Ev.eq (Ev.loop (fun x:Int=> ∃i:Nat,x=i∧i≤p.length∧i≤q.length∧L9 (p.drop i) (q.drop i)=L9 p q) (fun x=>p.length-x.toNat) ?_ n 0 ⟨0,rfl,by omega,by omega,rfl⟩ (by omega))
 rintro again x ⟨i,rfl,h1,h2,hs⟩ hr
 refine Ev.jn (fun z=>z=decide (i<p.length∧i<q.length)) (fun j hj=>aG (fun h=>hj _ ?_) (fun h=>hj _ ?_)) (fun z hz=> ?_)
 ·rw [Bool.eq_iff_iff];simp only [decide_eq_true_eq];omega
 ·exact(decide_eq_false (by omega)).symm
 ·subst hz
  refine aG (fun h=> ?_) (fun h=>Ev.some ?_)
  ·have ha1:=List.getElem?_eq_getElem h.1
   have hb1:=List.getElem?_eq_getElem h.2
   rw [List.drop_eq_getElem_cons h.1,List.drop_eq_getElem_cons h.2] at hs
   simp only [L9] at hs
   refine aA (aN ha1) (aA (aN hb1) (dP (fun hne=>Ev.some ?_) (fun he=> ?_)))
   ·rw [if_neg hne] at hs;exact hs
   ·rw [if_pos he] at hs
    rw [aK (by omega)]
    exact hr _ ⟨i+1,by omega,by omega,by omega,hs⟩ (by omega)
  ·rw [←hs]
   by_cases e:i<p.length
   ·have e2:q.drop i=[]:=List.drop_eq_nil_of_le (by omega)
    rw [e2,List.drop_eq_getElem_cons e]
    simp only [L9]
    exact decide_eq_false (by omega)
   ·have e1:p.drop i=[]:=List.drop_eq_nil_of_le (by omega)
    rw [e1]
    by_cases e3:i<q.length
    ·rw [List.drop_eq_getElem_cons e3]
     simp only [L9]
     exact decide_eq_true (by omega)
    ·rw [List.drop_eq_nil_of_le (show q.length≤i by omega)]
     simp only [L9]
     exact decide_eq_false (by omega)
theorem aF3{n:Nat}(hn:7000≤n){p:Prog}(hp:BG 1000 p)(part:Int):mS n p part (-1)=some (if bQ p=true∧isP p part=true then(p,true) else noP):=by
 unfold mS
 refine Ev.eq (Ev.jn (fun z=>z= !(bQ p&&isP p part)) (fun j hj=> ?_) (fun z hz=> ?_))
 ·refine aA (kO hn hp.sm) (Ev.cond (fun h=>hj _ (by rw [aDp h];rfl)) (fun h=> ?_))
  have hv:=aDq h
  refine aA (uK n hp.2.1 part) (Ev.cond (fun h2=>hj _ ?_) (fun h2=>dP (fun h=>(h rfl).elim) (fun _=>hj _ ?_)))
  ·rw [hv,show isP p part=false from aDp h2];rfl
  ·rw [hv,show isP p part=true from aDq h2];rfl
 ·subst hz
  refine Ev.cond (fun h=>Ev.some ?_) (fun h=> ?_)
  ·have:=aDp h
   rw [if_neg (fun hc=>by rw [hc.1,hc.2] at this;cases this)];rfl
  ·have:=aDq h
   simp only [Bool.and_eq_true] at this
   obtain⟨hv,hi⟩:=this
   rw [if_pos ⟨hv,hi⟩]
   have hi':0≤part∧part<(p.parts.length:Int):=of_decide_eq_true hi
   obtain⟨x,hx,_⟩:=gW hi'.1 hi'.2
   exact aA (aDg (by omega) hv) (aA hx (Ev.some rfl))
def mQ(k:Nat)(x:Affine):Affine:=⟨(x.coefs.take k++0::x.coefs.drop k).take 4,x.const⟩
def zA(c:Int):Affine:=⟨[0,0,0,0],c⟩
def vA(k:Nat)(s c:Int):Affine:=⟨[0,0,0,0].set k s,c⟩
theorem aEZ(k:Nat): ∀x,b7 x=true→BA 4 (mQ k x):=fun x hx=>by
 unfold BA mQ
 rw [List.length_take];omega
theorem aFt{n:Nat}(hn:5000≤n){k:Nat}(hk:k<3): ∀x,b7 x=true→eZ n x (k:Int)=some (mQ k x):=fun x hx=>by
 obtain⟨h1,_,_⟩:=iJ hx
 obtain⟨a,b,c,d,e⟩:=aKz h1
 unfold eZ
 rw [zI n x hx]
 obtain⟨cs,k0⟩:=x
 dsimp only at e
 subst e
 rcases(show k=0∨k=1∨k=2 by omega) with rfl|rfl|rfl<;>rfl
def C7(l:List Affine):Bool:=l.all (fun a=>decide (dL a.coefs=0))
def tL(l:Loop):Bool:=decide (l.lo.length=1)&&(decide (l.hi.length=1)&&(C7 l.lo&&C7 l.hi))
def kL(l:List Affine):Int:=(l.headD ⟨[],0⟩).const
theorem M5{n:Nat}(hn:5000≤n){l:List Affine}(h1:l.length≤2)(h2: ∀x∈l,b7 x=true):nE n l=some (C7 l):=by
 unfold nE
 rw [mG (p:=fun a=>decide (0<(dL a.coefs:Int))) (fun x hx=>by
  unfold l7
  rw [vZ hn (show x.coefs.length≤1000 by have:=(iJ (h2 x hx)).1;omega)];rfl) (by omega) (by omega)]
 show some (!l.any _)=_
 congr 1
 unfold C7
 rw [List.not_any_eq_all_not]
 congr 1
 funext a
 by_cases h:dL a.coefs=0
 ·simp [h]
 ·have:0<(dL a.coefs:Int):=by omega
  simp [h];omega
theorem aHo{n:Nat}(hn:5000≤n){l:Loop}(h:L8 l):kQ n l=some (if tL l=true then(kL l.lo,kL l.hi,true) else(0,0,false)):=by
 obtain⟨⟨h1,h2⟩,h3,h4⟩:=h
 unfold kQ
 refine Ev.eq (Ev.jn (fun z=>z= !tL l) (fun j hj=> ?_) (fun z hz=> ?_))
 ·refine dP (fun h=>hj _ ?_) (fun h=>dP (fun h'=>hj _ ?_) (fun h'=>aA (M5 hn h1 h2) (Ev.cond (fun h5=>hj _ ?_) (fun h5=>aA (M5 hn h3 h4) (hj _ ?_)))))
  ·unfold tL;rw [decide_eq_false (show¬l.lo.length=1 by omega)];rfl
  ·unfold tL;rw [decide_eq_false (show¬l.hi.length=1 by omega),Bool.false_and,Bool.and_false];rfl
  ·unfold tL;rw [show C7 l.lo=false by simpa using h5];simp
  ·unfold tL;rw [show C7 l.lo=true by simpa using h5,decide_eq_true (show l.lo.length=1 by omega),decide_eq_true (show l.hi.length=1 by omega)];rfl
 ·subst hz
  cases hf:tL l with
  |false=>exact bW (Ev.some rfl)
  |true=>
   refine bT ?_
   unfold tL at hf
   simp only [Bool.and_eq_true,decide_eq_true_eq] at hf
   obtain⟨e1,e2,_⟩:=hf
   obtain⟨x,hx⟩:=List.length_eq_one_iff.1 e1
   obtain⟨y,hy⟩:=List.length_eq_one_iff.1 e2
   rw [hx,hy]
   exact aA (x:=x) rfl (aA (x:=y) rfl (Ev.some rfl))
def wD(lo hi s:Int):Int:=Int.tdiv (max 0 (hi-lo)+s-1) s
def eX(k:Nat)(s:Int)(P:Part)(l:Loop):Part:=
 ⟨P.nest.take k++(⟨[zA 0],[zA (wD (kL l.lo) (kL l.hi) s)]⟩:Loop)::(⟨[zA (kL l.lo),vA k s (kL l.lo)],[zA (kL l.hi),vA k s (kL l.lo+s)]⟩:Loop)::(P.nest.drop (k+1)).map (gT (mQ k)),P.body.map (S7 (mQ k))⟩
def yZ(p:Prog)(part loop s:Int):Prog×Bool:=
 match ix p.parts part with
 |some P=>match ix P.nest loop with
  |some l=>if eH p part loop=true∧P.nest.length<4∧(1≤s∧s≤6)∧tL l=true then zZ ⟨p.arrays,p.parts.set part.toNat (eX loop.toNat s P l)⟩ else noP
  |none=>noP
 |none=>noP
theorem yX{p:Prog}{part loop s:Int}(h:eH p part loop≠true):yZ p part loop s=noP:=by
 unfold yZ
 split
 ·split
  ·rw [if_neg (fun hc=>h hc.1)]
  ·rfl
 ·rfl
theorem yY{p:Prog}{i k:Nat}{P:Part}{l:Loop}(hP:p.parts[i]? =some P)(hl:P.nest[k]? =some l)(s:Int):
  yZ p (i:Int) (k:Int) s=if eH p (i:Int) (k:Int)=true∧P.nest.length<4∧(1≤s∧s≤6)∧tL l=true then zZ ⟨p.arrays,p.parts.set i (eX k s P l)⟩ else noP:=by
 unfold yZ
 rw [aN hP]
 dsimp only
 rw [aN hl]
 rfl
theorem aB5{l:Loop}(h:L8 l)(hf:tL l=true): ∃a b,l=⟨[a],[b]⟩∧a=zA (kL l.lo)∧b=zA (kL l.hi)∧qX 99 (kL l.lo)∧qX 99 (kL l.hi):=by
 obtain⟨⟨h1,h2⟩,h3,h4⟩:=h
 unfold tL at hf
 simp only [Bool.and_eq_true,decide_eq_true_eq] at hf
 obtain⟨e1,e2,f1,f2⟩:=hf
 obtain⟨lo,hi⟩:=l
 dsimp only at*
 obtain⟨x,hx⟩:=List.length_eq_one_iff.1 e1
 obtain⟨y,hy⟩:=List.length_eq_one_iff.1 e2
 subst hx;subst hy
 have key: ∀z:Affine,b7 z=true→C7 [z]=true→z=zA z.const:=fun z hz hf=>by
  obtain⟨g1,_,_⟩:=iJ hz
  obtain⟨a,b,c,d,e⟩:=aKz g1
  obtain⟨cs,k0⟩:=z
  dsimp only at e
  subst e
  unfold C7 at hf
  simp only [List.all_cons,List.all_nil,Bool.and_true,decide_eq_true_eq] at hf
  have h0:=mC (l:=[a,b,c,d]) (i:=0) rfl (by omega)
  have h1:=mC (l:=[a,b,c,d]) (i:=1) rfl (by omega)
  have h2:=mC (l:=[a,b,c,d]) (i:=2) rfl (by omega)
  have h3:=mC (l:=[a,b,c,d]) (i:=3) rfl (by omega)
  rw [h0,h1,h2,h3];rfl
 exact⟨x,y,rfl,key x (h2 x (by simp)) f1,key y (h4 y (by simp)) f2,(iJ (h2 x (by simp))).2.1,(iJ (h4 y (by simp))).2.1⟩
theorem aLV{lo hi s:Int}(h1:qX 99 lo)(h2:qX 99 hi)(hs:1≤s∧s≤6):0≤wD lo hi s∧wD lo hi s≤198:=by
 unfold qX at h1 h2
 unfold wD
 rw [Int.tdiv_eq_ediv_of_nonneg (by omega)]
 refine⟨Int.ediv_nonneg (by omega) (by omega),?_⟩
 refine Int.le_trans (Int.ediv_le_ediv (a:=max 0 (hi-lo)+s-1) (b:=198*s) (by omega) ?_) (by rw [Int.mul_ediv_cancel _ (by omega)];omega)
 have:0≤(198-max 0 (hi-lo))*(s-1):=Int.mul_nonneg (by omega) (by omega)
 have e:(198-max 0 (hi-lo))*(s-1)=198*s-198-max 0 (hi-lo)*(s-1):=by
  rw [Int.sub_mul,Int.mul_sub];omega
 have e2:max 0 (hi-lo)*(s-1)≥0:=Int.mul_nonneg (by omega) (by omega)
 rcases(show s=1∨s=2∨s=3∨s=4∨s=5∨s=6 by omega) with rfl|rfl|rfl|rfl|rfl|rfl<;>omega
theorem aBy{list:List Arr}{P:Part}(hP:cD list P=true){k:Nat}{l:Loop}(h4:P.nest.length<4)(hk:k<P.nest.length)(s:Int):BPt 4 (eX k s P l):=by
 obtain⟨h1,h2⟩:=mO hP
 obtain⟨_,h5,h6,_⟩:=iU hP
 refine⟨⟨by simp only [eX,List.length_append,List.length_cons,List.length_map,List.length_take,List.length_drop];omega,fun y hy=> ?_⟩,by simp only [eX,List.length_map];exact h5.2,fun s hs=> ?_⟩
 ·have hz: ∀c,BA 4 (zA c):=fun c=>by unfold BA zA;simp
  have hv: ∀s c,BA 4 (vA k s c):=fun s c=>by unfold BA vA;simp
  rcases List.mem_append.1 hy with hy|hy
  ·exact((aK6 hP).1.2 y (List.mem_of_mem_take hy))
  ·rcases List.mem_cons.1 hy with rfl|hy
   ·exact⟨⟨by simp,fun a ha=>by simp at ha;subst ha;exact hz _⟩,by simp,fun a ha=>by simp at ha;subst ha;exact hz _⟩
   ·rcases List.mem_cons.1 hy with rfl|hy
    ·exact⟨⟨by simp,fun a ha=>by simp at ha;rcases ha with rfl|rfl;exact hz _;exact hv _ _⟩,by simp,fun a ha=>by simp at ha;rcases ha with rfl|rfl;exact hz _;exact hv _ _⟩
    ·obtain⟨z,hz,rfl⟩:=List.mem_map.1 hy
     exact aJD (aEZ k) (h2 z (List.mem_of_mem_drop hz))
 ·obtain⟨z,hz,rfl⟩:=List.mem_map.1 hs
  exact aK5 (aEZ k) (h6 z hz)
theorem aFs{p:Prog}(hp:BG 1000 p)(part loop s:Int):BG 1000 (yZ p part loop s).1:=by
 by_cases hc:eH p part loop=true
 ·obtain⟨hv,i,k,P,l,rfl,rfl,hP,hl,hi,hkl,hok,hk⟩:=zU hc
  rw [yY hP hl]
  split
  ·rename_i h
   exact aJp (aH8 hp i (aBy hok h.2.1 hkl s))
  ·exact aG1
 ·rw [yX hc];exact aG1
theorem X7(n:Nat){k:Nat}(hk:k<4)(s:Int):nT n (k:Int) s=some (vA k s 0):=by
 rcases(show k=0∨k=1∨k=2∨k=3 by omega) with rfl|rfl|rfl|rfl<;>rfl
theorem uQ(n:Nat)(c:Int):gZ n c=some (zA c):=rfl
theorem aK1{lo hi s:Int}(h1:qX 99 lo)(h2:qX 99 hi)(hs:1≤s∧s≤6):wr (Int.tdiv (wr ((wr ((max 0 (wr (hi-lo)))+s))-1)) s)=wD lo hi s:=by
 obtain⟨c1,c2⟩:=aLV h1 h2 hs
 unfold qX at h1 h2
 rw [aK (n:=hi-lo) (by omega),aK (n:=max 0 (hi-lo)+s) (by omega),aK (n:=max 0 (hi-lo)+s-1) (by omega)]
 exact aK (by unfold wD at c1 c2;omega)
theorem aKN{n:Nat}{l:List Loop}{k:Nat}(hk:k≤l.length)(hl:l.length≤1000)(v:Loop):gI n l (k:Int) [v]=some (l.take k++[v]++l.drop k):=by
 unfold gI
 rw [decide_eq_true (show(0:Int)≤(k:Int) by omega),decide_eq_true (show(k:Int)≤(l.length:Int) by omega)]
 rw [Int.toNat_natCast]
 exact bM (by simp;omega)
theorem aDB{n:Nat}(hn:7000≤n){p:Prog}(hp:BG 1000 p)(part loop s:Int):l8 n p part loop s=some (yZ p part loop s):=by
 unfold l8
 by_cases hneg:loop= -1
 ·subst hneg
  rw [yX (by rw [aHi (by omega)];simp)]
  refine Ev.eq (aA (aF3 hn hp part) ?_)
  by_cases hc:bQ p=true∧isP p part=true
  ·rw [if_pos hc]
   have hi:=hc.2
   unfold isP at hi
   simp only [decide_eq_true_eq] at hi
   obtain⟨x,hx,_⟩:=gW hi.1 hi.2
   exact bW (aA hx (Ev.jn (fun z=>z=true) (fun j hj=>aG (fun _=>hj _ rfl) (fun h=>absurd (show(-1:Int)<0 by omega) h)) (fun z hz=>by rw [hz];exact bW (Ev.some rfl))))
  ·rw [if_neg hc]
   exact bT (Ev.some rfl)
 refine Ev.eq (aA (aH9 hn hp part loop hneg) ?_)
 by_cases hb:eH p part loop=true
 ·rw [if_pos hb]
  obtain⟨hv,i,k,P,l,rfl,rfl,hP,hl,hi,hkl,hok,hk⟩:=zU hb
  obtain⟨h1,h2⟩:=mO hok
  obtain⟨_,h4,h5,_⟩:=iU hok
  have hlp:=h2 l (List.mem_of_getElem? hl)
  rw [yY hP hl]
  refine bW (aA (aN hP) (Ev.jn (fun z=>z= !(decide (P.nest.length<4)&&decide (1≤s∧s≤6))) (fun j hj=> ?_) (fun z hz=> ?_)))
  ·refine aG (fun h=>absurd h (by omega)) (fun _=>aG (fun h=>hj _ ?_) (fun h=>aA (dN n s 1 6) (hj _ ?_)))
   ·rw [decide_eq_false (show¬P.nest.length<4 by omega)];rfl
   ·rw [decide_eq_true (show P.nest.length<4 by omega)];rfl
  ·subst hz
   by_cases h4n:P.nest.length<4
   ·by_cases hs:1≤s∧s≤6
    ·rw [decide_eq_true h4n,decide_eq_true hs]
     refine bT (aA (aN hl) (aA (aHo (by omega) hlp) ?_))
     by_cases hf:tL l=true
     ·rw [if_pos hf,if_pos ⟨hb,h4n,hs,hf⟩]
      obtain⟨a,b,_,_,_,b1,b2⟩:=aB5 hlp hf
      have hch:=S6 (n:=n) (by omega) (nest:=P.nest) (body:=P.body) (s:=k) (by omega) h1 (fun y hy=>h2 y (List.mem_of_mem_drop hy)) h4.2 h5 (F:=fun q0=>eZ n q0 (k:Int)) (aFt (by omega) (by omega))
      have hx8:(P.nest.take k++(P.nest.drop k).map (gT (mQ k)))[k]? =some (gT (mQ k) l):=by
       rw [iA hl,List.getElem?_append_right (by rw [List.length_take];omega),List.length_take,Nat.min_eq_left (by omega),Nat.sub_self];rfl
      refine bW (aA hch (aA (eM (by dsimp only;omega) _) (aA (x:=()) (by unfold nzc;rw [if_neg (by omega)]) (aA (X7 n hk s) (aA (X7 n hk s) (aA (uQ n _) (aA (uQ n _) (aA (aN hx8) (aA (eM (by simp;omega) _) (aA (uQ n 0) (aA (uQ n _) (aA (aKN (by simp;omega) (by simp;omega) _) (aA (eM (by simp;omega) _) ?_)))))))))))))
      dsimp only
      unfold qX at b1 b2
      rw [Int.toNat_natCast,Int.toNat_natCast,List.set_set,aK (n:=kL l.lo+s) (by omega),aK1 ⟨by omega,by omega⟩ ⟨by omega,by omega⟩ hs]
      have hd:P.nest.drop k=l::P.nest.drop (k+1):=iA hl
      have hlen:(P.nest.take k).length=k:=by rw [List.length_take];omega
      have hm: ∀R S:Loop,(((P.nest.take k++(P.nest.drop k).map (gT (mQ k))).set k R).take k++[S]++((P.nest.take k++(P.nest.drop k).map (gT (mQ k))).set k R).drop k)=P.nest.take k++S::R::(P.nest.drop (k+1)).map (gT (mQ k)):=fun R S=>by
       rw [hd,List.map_cons,List.set_append_right _ _ (by omega),hlen,Nat.sub_self,List.set_cons_zero,List.take_append_of_le_length (by omega),List.take_of_length_le (by omega),List.drop_append_of_le_length (by omega),List.drop_of_length_le (by omega)]
       simp
      rw [hm]
      exact aA (aB7 hn (aH8 hp i (aBy hok h4n hkl s))) (Ev.some rfl)
     ·rw [if_neg hf,if_neg (fun h=>hf h.2.2.2)]
      exact bT (Ev.some rfl)
    ·rw [if_neg (fun h=>hs h.2.2.1),decide_eq_false hs,Bool.and_false]
     exact bW (Ev.some rfl)
   ·rw [if_neg (fun h=>h4n h.2.1),decide_eq_false h4n]
    exact bW (Ev.some rfl)
 ·rw [if_neg hb,yX hb]
  exact bT (Ev.some rfl)
theorem aAO(c:Int)(p:List Int):cJ (zA c) p=c:=by
 unfold cJ zA
 match p with
 | []=>simp [yU]
 | [a]=>simp [yU]
 | [a,b]=>simp [yU]
 | [a,b,d]=>simp [yU]
 |a::b::d::e::r=>simp [yU]
theorem aHr{k:Nat}(hk:k<4){p:List Int}(hp:p.length=k)(s c t:Int):cJ (vA k s c) (p++[t])=c+s*t:=by
 unfold cJ vA
 rcases(show k=0∨k=1∨k=2∨k=3 by omega) with rfl|rfl|rfl|rfl
 ·obtain rfl:=List.length_eq_zero_iff.1 hp
  simp [yU]
 ·obtain⟨a,rfl⟩:=List.length_eq_one_iff.1 hp
  simp [yU]
 ·match p,hp with
  | [a,b],_=>simp [yU]
 ·match p,hp with
  | [a,b,d],_=>simp [yU]
def sg(k:Nat)(lo s:Int)(p:List Int):List Int:=p.take k++(p.getD k 0-lo) / s::p.drop k
theorem aKx{k:Nat}{lo s:Int}{p:List Int}(hk:k<p.length)(v:Int):sg k lo s (p++[v])=sg k lo s p++[v]:=by
 unfold sg
 rw [List.take_append_of_le_length (by omega),aFR hk,List.drop_append_of_le_length (by omega)]
 simp
theorem aLB{k:Nat}{lo s:Int}{p:List Int}(hk:p.length=k){v t:Int}(h1:lo+s*t≤v)(h2:v<lo+s*t+s):sg k lo s (p++[v])=p++[t]++[v]:=by
 subst hk
 unfold sg
 rw [List.take_append_of_le_length (Nat.le_refl _),List.take_length,aFS,List.drop_append_of_le_length (Nat.le_refl _),List.drop_length]
 have e:(v-lo) / s=t:=by
  rw [show v-lo=(v-lo-s*t)+s*t by omega,Int.add_mul_ediv_left _ _ (by omega),Int.ediv_eq_zero_of_lt (by omega) (by omega)]
  omega
 rw [e];simp
theorem aE5{k:Nat}{lo s:Int}{x:Affine}(hx:b7 x=true){p:List Int}(hk:k<p.length)(h3:p.length≤3):cJ (mQ k x) (sg k lo s p)=cJ x p:=by
 obtain⟨a,b,c,d,e⟩:=aKz (iJ hx).1
 obtain⟨cs,k0⟩:=x
 dsimp only at e
 subst e
 unfold cJ mQ sg
 match p,hk,h3 with
 | [u],hk,_=>
  obtain rfl:k=0:=by simp at hk;omega
  simp [yU]
 | [u,v],hk,_=>
  rcases(show k=0∨k=1 by simp at hk;omega) with rfl|rfl<;>simp [yU]
 | [u,v,w],hk,_=>
  rcases(show k=0∨k=1∨k=2 by simp at hk;omega) with rfl|rfl|rfl<;>simp [yU]
theorem aEF{a b:Int}(h1:a≤b): ∀n:Nat,iM a b++iM b (b+n)=iM a (b+n)
 |0=>by rw [show b+((0:Nat):Int)=b by omega,eN (Int.le_refl b),List.append_nil]
 |n+1=>by
  rw [show b+((n+1:Nat):Int)=b+n+1 by omega,iS (show b≤b+(n:Int) by omega),iS (show a≤b+(n:Int) by omega),←List.append_assoc,aEF h1 n]
theorem aGS{a b c:Int}(h1:a≤b)(h2:b≤c):iM a b++iM b c=iM a c:=by
 have:=aEF h1 (c-b).toNat
 rwa [show b+(((c-b).toNat:Nat):Int)=c by omega] at this
theorem J9{lo hi s:Int}(hs:0<s): ∀n:Nat,(iM 0 (n:Int)).flatMap (fun t=>iM (lo+s*t) (min hi (lo+s*t+s)))=iM lo (min hi (lo+s*(n:Int)))
 |0=>by
  have h9:s*((0:Nat):Int)=0:=Int.mul_zero s
  rw [eN (by omega),eN (by omega)];rfl
 |n+1=>by
  have h0:0≤s*(n:Int):=Int.mul_nonneg (by omega) (by omega)
  have e1:s*((n+1:Nat):Int)=s*(n:Int)+s:=by rw [show((n+1:Nat):Int)=(n:Int)+1 by omega,Int.mul_add,Int.mul_one]
  rw [show((n+1:Nat):Int)=(n:Int)+1 by omega,iS (by omega),List.flatMap_append,J9 hs n]
  simp only [List.flatMap_cons,List.flatMap_nil,List.append_nil]
  rw [show s*((n:Int)+1)=s*(n:Int)+s by rw [Int.mul_add,Int.mul_one]]
  by_cases h:hi≤lo+s*(n:Int)
  ·rw [eN (show min hi (lo+s*(n:Int)+s)≤lo+s*(n:Int) by omega),List.append_nil]
   congr 1;omega
  ·rw [show min hi (lo+s*(n:Int))=lo+s*(n:Int) by omega,aGS (by omega) (by omega)]
   congr 1;omega
theorem aFz{lo hi s:Int}(hs:1≤s):iM lo hi=(iM 0 (wD lo hi s)).flatMap (fun t=>iM (lo+s*t) (min hi (lo+s*t+s))):=by
 have hq:wD lo hi s=(max 0 (hi-lo)+s-1) / s:=by unfold wD;exact Int.tdiv_eq_ediv_of_nonneg (by omega)
 have h0:0≤wD lo hi s:=by rw [hq];exact Int.ediv_nonneg (by omega) (by omega)
 have h1:=Int.lt_ediv_add_one_mul_self (max 0 (hi-lo)+s-1) (show 0<s by omega)
 rw [←hq,Int.add_mul,Int.one_mul,Int.mul_comm] at h1
 have:=J9 (lo:=lo) (hi:=hi) (show 0<s by omega) (wD lo hi s).toNat
 rw [show(((wD lo hi s).toNat:Nat):Int)=wD lo hi s by omega] at this
 rw [this]
 congr 1;omega
theorem aJN{k:Nat}{lo s:Int}: ∀(ls:List Loop) (p:List Int),(∀l∈ls,L8 l)→k<p.length→p.length+ls.length≤3→pts (ls.map (gT (mQ k))) (sg k lo s p)=(pts ls p).map (sg k lo s)
 | [],p,_,_,_=>rfl
 |l::ls,p,h,hk,h3=>by
  have hl:=h l List.mem_cons_self
  have h3':p.length+(ls.length+1)≤3:=by simpa using h3
  have ev: ∀{as:List Affine},(∀x∈as,b7 x=true)→Y4 (as.map (mQ k)) (sg k lo s p)=Y4 as p:=fun ha=>by
   unfold Y4
   rw [List.map_map]
   exact pO (fun x hx=>aE5 (ha x hx) hk (by omega))
  have e1:jV (gT (mQ k) l) (sg k lo s p)=jV l p:=by unfold jV gT;rw [ev hl.1.2]
  have e2:nX (gT (mQ k) l) (sg k lo s p)=nX l p:=by unfold nX gT;rw [ev hl.2.2]
  simp only [List.map_cons,pts]
  rw [e1,e2,List.map_flatMap]
  refine q6 (fun v _=> ?_)
  rw [←aKx hk]
  exact aJN ls (p++[v]) (fun x hx=>h x (List.mem_cons_of_mem _ hx)) (by simp;omega) (by simp;omega)
theorem aI4{k:Nat}{lo hi s:Int}(hs:1≤s){ls:List Loop}(h: ∀l∈ls,L8 l){p:List Int}(hk:p.length=k)(h3:k+1+ls.length≤3):
  pts ((⟨[zA 0],[zA (wD lo hi s)]⟩:Loop)::(⟨[zA lo,vA k s lo],[zA hi,vA k s (lo+s)]⟩:Loop)::ls.map (gT (mQ k))) p=(pts ((⟨[zA lo],[zA hi]⟩:Loop)::ls) p).map (sg k lo s):=by
 have z1: ∀(c:Int) (q:List Int) (x:List Affine),jV ⟨[zA c],x⟩ q=c:=fun c q x=>by unfold jV Y4;simp [mx,aAO]
 have z2: ∀(c:Int) (q:List Int) (x:List Affine),nX ⟨x,[zA c]⟩ q=c:=fun c q x=>by unfold nX Y4;simp [mn,aAO]
 simp only [pts,z1,z2]
 rw [List.map_flatMap,aFz (lo:=lo) (hi:=hi) hs,List.flatMap_assoc]
 refine q6 (fun t ht=> ?_)
 have ht:=(aAt.1 ht).1
 have h0:0≤s*t:=Int.mul_nonneg (by omega) ht
 have y1:jV ⟨[zA lo,vA k s lo],[zA hi,vA k s (lo+s)]⟩ (p++[t])=lo+s*t:=by
  unfold jV Y4
  simp only [List.map_cons,List.map_nil,mx,List.foldl_cons,List.foldl_nil,aAO,aHr (show k<4 by omega) hk]
  omega
 have y2:nX ⟨[zA lo,vA k s lo],[zA hi,vA k s (lo+s)]⟩ (p++[t])=min hi (lo+s*t+s):=by
  unfold nX Y4
  simp only [List.map_cons,List.map_nil,mn,List.foldl_cons,List.foldl_nil,aAO,aHr (show k<4 by omega) hk]
  omega
 rw [y1,y2]
 refine q6 (fun v hv=> ?_)
 obtain⟨v1,v2⟩:=aAt.1 hv
 rw [←aLB hk v1 (by omega)]
 exact aJN ls (p++[v]) h (by simp;omega) (by simp;omega)
theorem aEI{k:Nat}{lo hi s:Int}(hs:1≤s){ls:List Loop}(h: ∀l∈ls,L8 l)(h3:k+1+ls.length≤3): ∀(os:List Loop) (p:List Int),p.length+os.length=k→
  pts (os++(⟨[zA 0],[zA (wD lo hi s)]⟩:Loop)::(⟨[zA lo,vA k s lo],[zA hi,vA k s (lo+s)]⟩:Loop)::ls.map (gT (mQ k))) p=(pts (os++(⟨[zA lo],[zA hi]⟩:Loop)::ls) p).map (sg k lo s)
 | [],p,hk=>aI4 hs h (by simpa using hk) h3
 |o::os,p,hk=>by
  simp only [List.cons_append,pts]
  rw [List.map_flatMap]
  refine q6 (fun v _=> ?_)
  exact aEI hs h h3 os (p++[v]) (by simp at hk ⊢; omega)
theorem aFp{list:List Arr}{P:Part}(hP:cD list P=true){k:Nat}{l:Loop}(hl:P.nest[k]? =some l){s:Int}(hs:1≤s)(h4:P.nest.length<4)(hf:tL l=true)(hq:cD list (eX k s P l)=true):
  dF (eX k s P l)=(dF P).map (sg k (kL l.lo) s):=by
 obtain⟨h1,h2⟩:=mO hP
 have hk:=(List.getElem?_eq_some_iff.1 hl).1
 obtain⟨a,b,e0,e1,e2,_,_⟩:=aB5 (h2 l (List.mem_of_getElem? hl)) hf
 rw [C5 hq,C5 hP]
 have e:P.nest=P.nest.take k++l::P.nest.drop (k+1):=by rw [←iA hl,List.take_append_drop]
 have:=aEI (k:=k) (lo:=kL l.lo) (hi:=kL l.hi) hs (ls:=P.nest.drop (k+1)) (fun y hy=>h2 y (List.mem_of_mem_drop hy)) (by rw [List.length_drop];omega) (P.nest.take k) [] (by simp;omega)
 have el:(⟨[zA (kL l.lo)],[zA (kL l.hi)]⟩:Loop)=l:=by rw [←e1,←e2];exact e0.symm
 rw [el,←e] at this
 exact this
def oW(i k:Nat)(lo s:Int)(x:Inst):Inst:=if x.part=(i:Int) then⟨x.part,x.stmt,sg k lo s x.point⟩ else x
theorem I7{i k:Nat}{lo s:Int}: ∀x:Inst,x.part≠(i:Int)→oW i k lo s x=x:=fun x hx=>by unfold oW;rw [if_neg hx]
theorem instP_strip{i k:Nat}{lo s:Int}{P P':Part}(h1:dF P'=(dF P).map (sg k lo s))(h2:P'.body.length=P.body.length):instP i P'=(instP i P).map (oW i k lo s):=by
 unfold instP
 rw [h1,h2,List.flatMap_map,List.map_flatMap]
 refine q6 (fun q _=> ?_)
 rw [List.map_map]
 refine pO (fun t _=> ?_)
 show _=oW i k lo s _
 unfold oW
 rw [if_pos rfl]
theorem I5{p:Prog}(hv:bQ p=true){i k:Nat}{P:Part}{l:Loop}(hP:p.parts[i]? =some P)(hk:k<P.nest.length)(h4:P.nest.length<4){lo s:Int}{q:Prog}(hq:q=⟨p.arrays,p.parts.set i (eX k s P l)⟩){x:Inst}(hx:iO p x):
  ∃st st' d,oU p x=some st∧oU q (oW i k lo s x)=some st'∧fO st d=true∧
   (∀a,gM a d=true→cQ q.arrays (if x.part=(i:Int) then fW (mQ k) a else a) (oW i k lo s x).point 0=cQ p.arrays a x.point 0)∧
   (st'.write=if x.part=(i:Int) then fW (mQ k) st.write else st.write)∧
   (b9 5 st'.value=(b9 5 st.value).map (fun a=>if x.part=(i:Int) then fW (mQ k) a else a))∧
   ∀m,uU 5 q.arrays m st'.value (oW i k lo s x).point=uU 5 p.arrays m st.value x.point:=by
 obtain⟨i',k',P',st,d,e1,e2,e3,e4,e5,e6,e7,e8⟩:=inst_d hv hx
 have hi:=(List.getElem?_eq_some_iff.1 hP).1
 subst hq
 by_cases hxi:x.part=(i:Int)
 ·obtain rfl:i'=i:=by omega
  rw [hP] at e3;cases e3
  have hpt:x.point.length=P.nest.length:=e7.1
  have hev: ∀y,b7 y=true→cJ (mQ k y) (sg k lo s x.point)=cJ y x.point:=fun y hy=>aE5 hy (by omega) (by omega)
  have hs:oW i' k lo s x=⟨x.part,x.stmt,sg k lo s x.point⟩:=by unfold oW;rw [if_pos hxi]
  refine⟨st,S7 (mQ k) st,d,e5,?_,e6,fun a ha=> ?_,?_,?_,fun m=> ?_⟩
  ·rw [hs]
   unfold oU
   dsimp only
   rw [e1,Int.toNat_natCast,List.getElem?_set_self hi]
   show((P.body.map (S7 (mQ k)))[x.stmt.toNat]?)=_
   rw [List.getElem?_map,e2,Int.toNat_natCast,e4];rfl
  ·rw [if_pos hxi,hs]
   exact aDY (fun y hy=>hev y ((t2 ha).2.2 y hy)) _ _
  ·rw [if_pos hxi];rfl
  ·simp only [if_pos hxi]
   exact aEG (lA e6).2.1
  ·rw [hs]
   exact aGs hev _ m (lA e6).2.1
 ·have hs:oW i k lo s x=x:=I7 x hxi
  refine⟨st,st,d,e5,?_,e6,fun a ha=> ?_,?_,?_,fun m=> ?_⟩
  ·rw [hs,←e5]
   unfold oU
   dsimp only
   rw [List.getElem?_set_ne (by omega)]
  ·rw [if_neg hxi,hs]
  ·rw [if_neg hxi]
  ·simp only [if_neg hxi,List.map_id']
  ·rw [hs]
theorem aFo{p:Prog}(hv:bQ p=true){i k:Nat}{P:Part}{l:Loop}(hP:p.parts[i]? =some P)(hl:P.nest[k]? =some l){s:Int}(hs:1≤s)(h4:P.nest.length<4)(hf:tL l=true){q:Prog}(hq:q=⟨p.arrays,p.parts.set i (eX k s P l)⟩)(hw:bQ q=true):
  insts q.parts=(insts p.parts).map (oW i k (kL l.lo) s)∧(∀x∈insts p.parts,rc q (oW i k (kL l.lo) s x)=rc p x∧wc q (oW i k (kL l.lo) s x)=wc p x)∧ ∀m,jM q m (insts q.parts)=jM p m (insts p.parts):=by
 have hi:=(List.getElem?_eq_some_iff.1 hP).1
 have hk:=(List.getElem?_eq_some_iff.1 hl).1
 have hok:=(fV hv).2.2.2.1 P (List.mem_of_getElem? hP)
 have hokq:cD p.arrays (eX k s P l)=true:=by
  have:=(fV hw).2.2.2.1
  subst hq
  exact this _ (List.mem_of_getElem? (List.getElem?_set_self hi))
 have e1:insts q.parts=(insts p.parts).map (oW i k (kL l.lo) s):=by
  rw [hq]
  exact insts_set hP (instP_strip (aFp hok hl hs h4 hf hokq) (by simp [eX])) I7
 refine⟨e1,fun x hx=> ?_,fun m=> ?_⟩
 ·obtain⟨st,st',d,s1,s2,s3,s4,s5,s6,s7⟩:=I5 hv hP hk h4 (lo:=kL l.lo) (s:=s) hq (insts_mem hx)
  obtain⟨c1,_,c3,_⟩:=lA s3
  unfold rc wc
  rw [s1,s2]
  dsimp only
  rw [s5,s6,List.map_map,s4 _ c1]
  exact⟨pO (fun a ha=>s4 a (c3 a ha)),rfl⟩
 ·unfold jM
  rw [e1,List.foldl_map]
  refine N7 (fun x hx m=> ?_)
  obtain⟨st,st',d,s1,s2,s3,s4,s5,s6,s7⟩:=I5 hv hP hk h4 (lo:=kL l.lo) (s:=s) hq (insts_mem hx)
  obtain⟨c1,_,c3,_⟩:=lA s3
  unfold rU
  rw [s1,s2]
  dsimp only
  rw [s5,s4 _ c1,s7 m]
end Go.Lift
