/- Maps over programs: the program's own changes and the reference's. -/
import Derived.Test.YtcnponfkbblhpaaGreatADraw1
set_option maxRecDepth 100000
set_option linter.unusedVariables false
namespace Go.Lift
open Go
theorem sH{α β R:Type}{l:List α}{F:α→(β→Option R)→Option R}{g:α→β}{K:List β→Option R}{Q:R→Prop}{n:Nat}(hF: ∀x∈l,∀k:β→Option R,Ev (k (g x)) Q→Ev (F x k) Q)
  {s:Nat} (hs:s≤l.length) {pre:List β} (hp:pre.length≤1000) (hl:l.length≤1000) (hn:5000≤n) (hK:Ev (K (pre++(l.drop s).map g)) Q):
  Ev (aM (fun again ((x,i):List β×Int)=>bif decide (i<(l.length:Int)) then(Option.bind (ix l i) fun y=>F y (fun z=>Option.bind (app x [z]) fun w=>again (w,wr (i+1)))) else K x) n (pre,(s:Int))) Q:=by
 refine Ev.loop (fun z:List β×Int=> ∃i:Nat,z.2=i∧s≤i∧i≤l.length∧z.1=pre++((l.drop s).take (i-s)).map g) (fun z=>l.length-z.2.toNat) ?_ n _ ⟨s,rfl,by omega,by omega,by simp⟩ (by dsimp only;omega)
 rintro again ⟨x,z⟩ ⟨i,hz,hsi,hi,hx⟩ hr
 dsimp only at hz hx⊢
 subst hz
 refine aI (fun hlt=> ?_) (fun hge=> ?_)
 ·have hg:=List.getElem?_eq_getElem (show i<l.length by omega)
  have hxl:x.length≤2000:=by rw [hx,List.length_append,List.length_map,List.length_take,List.length_drop];omega
  refine aB (aU hg) (hF _ (List.mem_of_getElem? hg) _ (aB (b9 (by simp;omega)) ?_))
  rw [aP (by omega)]
  refine hr _ ⟨i+1,by dsimp only;omega,by omega,by omega,?_⟩ (by dsimp only;omega)
  dsimp only
  rw [show i+1-s=(i-s)+1 by omega,List.take_add_one,List.getElem?_drop,show s+(i-s)=i by omega,hg,hx,List.map_append,List.append_assoc];rfl
 ·have:i=l.length:=by omega
  subst this
  rw [hx,List.take_of_length_le (by rw [List.length_drop];omega)];exact hK
theorem mF{α β R:Type}{l:List α}{f:α→Option β}{g:α→β}{K:List β→Option R}{Q:R→Prop}{n:Nat}(hf: ∀x∈l,f x=some (g x))(hl:l.length≤1000)(hn:5000≤n)(hK:Ev (K (l.map g)) Q):
  Ev (aM (fun again ((x,i):List β×Int)=>bif decide (i<(l.length:Int)) then(Option.bind (ix l i) fun y=>Option.bind (f y) fun z=>Option.bind (app x [z]) fun w=>again (w,wr (i+1))) else K x) n ([],0)) Q:=
 sH (F:=fun y k=>Option.bind (f y) k) (g:=g) (s:=0) (pre:=[]) (fun x hx k hk=>aB (hf x hx) hk) (by omega) (by simp) hl hn (by simpa using hK)
theorem R1{α R:Type}{l:List α}{F:α→(α→Option R)→Option R}{W:List α→Option R→Option R}{m:List α→Int}{g:α→α}{K:List α→Option R}{Q:R→Prop}{n:Nat}
  (hW: ∀y o,y.length=l.length→Ev o Q→Ev (W y o) Q) (hm: ∀y:List α,y.length=l.length→m y=(l.length:Int))
  {s:Nat} (hs:s≤l.length) (hF: ∀x∈l,∀k:α→Option R,Ev (k (g x)) Q→Ev (F x k) Q) (hl:l.length≤1000) (hn:5000≤n) (hK:Ev (K (l.take s++(l.drop s).map g)) Q):
  Ev (aM (fun again ((y,i):List α×Int)=>W y (bif decide (i<m y) then(Option.bind (ix y i) fun x=>F x (fun z=>Option.bind (dC y i z) fun w=>again (w,wr (i+1)))) else K y)) n (l,(s:Int))) Q:=by
 refine Ev.loop (fun z:List α×Int=> ∃i:Nat,z.2=i∧s≤i∧i≤l.length∧z.1=l.take s++((l.drop s).take (i-s)).map g++l.drop i) (fun z=>l.length-z.2.toNat) ?_ n _ ⟨s,rfl,by omega,by omega,by simp⟩ (by dsimp only;omega)
 rintro again ⟨x,z⟩ ⟨i,hz,hsi,hi,hx⟩ hr
 dsimp only at hz hx⊢
 subst hz
 have hpl:(l.take s++((l.drop s).take (i-s)).map g).length=i:=by rw [List.length_append,List.length_map,List.length_take,List.length_take,List.length_drop];omega
 have hxl:x.length=l.length:=by rw [hx,List.length_append,hpl,List.length_drop];omega
 refine hW _ _ hxl ?_
 rw [hm _ hxl]
 refine aI (fun hlt=> ?_) (fun hge=> ?_)
 ·obtain⟨e,hg⟩: ∃e,l[i]? =some e:=⟨_,List.getElem?_eq_getElem (show i<l.length by omega)⟩
  have hgx:x[i]? =some e:=by
   rw [hx,List.getElem?_append_right (by omega),hpl,Nat.sub_self,List.getElem?_drop];exact hg
  refine aB (aU hgx) (hF _ (List.mem_of_getElem? hg) _ (aB (eJ (by omega) _) ?_))
  rw [aP (by omega)]
  refine hr _ ⟨i+1,by dsimp only;omega,by omega,by omega,?_⟩ (by dsimp only;omega)
  dsimp only
  rw [hx,Int.toNat_natCast,List.set_append_right _ _ (by omega),hpl,Nat.sub_self,lY hg,List.set_cons_zero,show i+1-s=(i-s)+1 by omega,List.take_add_one,List.getElem?_drop,show s+(i-s)=i by omega,hg]
  simp
 ·have:i=l.length:=by omega
  subst this
  rw [hx,List.take_of_length_le (l:=l.drop s) (by rw [List.length_drop];omega),List.drop_length,List.append_nil];exact hK
def iG(f:Affine→Affine)(a:Access):Access:=⟨a.array,a.subs.map f⟩
def pA(f:Affine→Affine):Nat→Expr→Expr
 |0,e=>e
 |L+1,e=>⟨e.kind,e.num,if e.kind=2 then f e.index else⟨[],0⟩,if e.kind=3 then iG f e.read else⟨[],[]⟩,e.kids.map (pA f L)⟩
def jV(f:Affine→Affine)(s:Stmt):Stmt:=⟨iG f s.write,pA f 5 s.value⟩
def cE(f:Affine→Affine)(l:Loop):Loop:=⟨l.lo.map f,l.hi.map f⟩
theorem t2{e:Expr}{d:Int}(h:fV e d=true)(hk:e.kind=2):bH e.index=true∧l9 e.read=true:=by
 unfold fV bP at h
 rw [if_pos hk] at h
 simp only [Bool.and_eq_true] at h
 exact⟨h.2.2.1,h.2.1⟩
theorem t1{e:Expr}{d:Int}(h:fV e d=true)(hk:e.kind=3):f0 e.read d=true∧iK e.index=true:=by
 unfold fV at h
 rw [if_neg (by omega),if_pos hk] at h
 simp only [Bool.and_eq_true] at h
 exact⟨h.2.2,h.2.1⟩
theorem aBi{e:Expr}{d:Int}(h:fV e d=true)(h2: ¬e.kind=2)(h3: ¬e.kind=3):iK e.index=true∧l9 e.read=true:=by
 unfold fV at h
 rw [if_neg h2,if_neg h3] at h
 split at h<;>simp only [Bool.and_eq_true] at h<;>exact⟨h.2.1,h.2.2⟩
theorem vH{a:Affine}(h:iK a=true):a=⟨[],0⟩:=by
 obtain⟨c,k⟩:=a
 simp only [iK,Bool.and_eq_true,decide_eq_true_eq] at h
 obtain⟨h1,rfl⟩:=h
 rw [List.eq_nil_of_length_eq_zero h1]
theorem vJ{a:Access}(h:l9 a=true):a=⟨[],[]⟩:=by
 obtain⟨c,k⟩:=a
 simp only [l9,Bool.and_eq_true,decide_eq_true_eq] at h
 obtain⟨rfl,h1⟩:=h
 rw [List.eq_nil_of_length_eq_zero h1]
theorem sL{n:Nat}(hn:5000≤n){a:Access}{d:Int}(ha:f0 a d=true){F:Affine→Option Affine}{f:Affine→Affine}(hF: ∀x,bH x=true→F x=some (f x)):fJ n a F=some (iG f a):=by
 obtain⟨h1,h2,h3⟩:=sX ha
 refine Ev.eq ?_
 unfold fJ
 exact mF (K:=fun x1=>some (⟨a.array,x1⟩:Access)) (fun x hx=>hF x (h3 x hx)) (by omega) hn (Ev.some rfl)
theorem vU{d:Int}{F:Affine→Option Affine}{f:Affine→Affine}(hF: ∀x,bH x=true→F x=some (f x)): ∀(L n:Nat) (e:Expr),5000+L≤n→dF L e d=true→i_exprMap (n+1) e F=some (pA f L e)
 |0,_,_,_,h=>by cases h
 |L+1,n,e,hn,h=>by
  obtain⟨hk,ho,hs⟩:=jK h
  obtain⟨n,rfl⟩: ∃j,n=j+1:=⟨n-1,by omega⟩
  have hkl:e.kids.length≤2:=by have:=lU e.kind;omega
  unfold i_exprMap
  refine Ev.eq (Ev.jn (fun z=>(⟨z.1,z.2.1⟩:Affine)=(if e.kind=2 then f e.index else⟨[],0⟩)∧(⟨z.2.2.1,z.2.2.2⟩:Access)=(if e.kind=3 then iG f e.read else⟨[],[]⟩)) (fun j hj=> ?_) (fun z hz=> ?_))
  ·refine aI (fun h2=> ?_) (fun h2=>aI (fun h3=> ?_) (fun h3=> ?_))
   ·exact aB (hF _ (t2 ho h2).1) (hj _ ⟨by rw [if_pos h2],by rw [if_neg (by omega)]⟩)
   ·exact aB (sL (by omega) (t1 ho h3).1 hF) (hj _ ⟨by rw [if_neg h2],by rw [if_pos h3]⟩)
   ·exact hj _ ⟨by rw [if_neg h2],by rw [if_neg h3]⟩
  ·obtain⟨x4,x5,x6,x7⟩:=z
   obtain⟨z1,z2⟩:=hz
   dsimp only at z1 z2⊢
   refine mF (K:=fun x8=>some (⟨e.kind,e.num,(⟨x4,x5⟩:Affine),(⟨x6,x7⟩:Access),x8⟩:Expr)) (fun x hx=>vU hF L n x (by omega) (hs x hx)) (by omega) (by omega) (Ev.some ?_)
   rw [z1,z2];rfl
theorem vR{n:Nat}(hn:6000≤n){s:Stmt}{d:Int}(hs:eZ s d=true){F:Affine→Option Affine}{f:Affine→Affine}(hF: ∀x,bH x=true→F x=some (f x)):gB n s F=some (jV f s):=by
 obtain⟨h1,h2,_⟩:=rB hs
 obtain⟨n,rfl⟩: ∃j,n=j+1:=⟨n-1,by omega⟩
 unfold gB
 rw [sL (by omega) h1 hF,vU hF 5 n s.value (by omega) h2];rfl
theorem aBt{α:Type}{f:α→α}: ∀{l:List α},(∀x∈l,f x=x)→l.map f=l
 | [],_=>rfl
 |x::l,h=>by rw [List.map_cons,h x List.mem_cons_self,aBt (fun y hy=>h y (List.mem_cons_of_mem _ hy))]
theorem N5{f:Affine→Affine}{a:Access}{d:Int}(ha:f0 a d=true)(hf: ∀x,bH x=true→f x=x):iG f a=a:=by
 obtain⟨h1,h2,h3⟩:=sX ha
 unfold iG
 rw [aBt (fun x hx=>hf x (h3 x hx))]
theorem aCI{d:Int}{f:Affine→Affine}(hf: ∀x,bH x=true→f x=x): ∀{L:Nat} {e:Expr},dF L e d=true→pA f L e=e
 |0,_,_=>rfl
 |L+1,e,h=>by
  obtain⟨hk,ho,hs⟩:=jK h
  obtain⟨kind,num,index,read,kids⟩:=e
  unfold pA
  dsimp only at hk ho hs⊢
  rw [aBt (fun x hx=>aCI hf (hs x hx))]
  by_cases h2:kind=2
  ·have e1:=t2 ho h2
   dsimp only at e1
   rw [if_pos h2,if_neg (by omega),hf _ e1.1,vJ e1.2]
  ·by_cases h3:kind=3
   ·have e1:=t1 ho h3
    dsimp only at e1
    rw [if_neg h2,if_pos h3,N5 e1.1 hf,vH e1.2]
   ·have e1:=aBi ho h2 h3
    dsimp only at e1
    rw [if_neg h2,if_neg h3,vH e1.1,vJ e1.2]
theorem aGA{f:Affine→Affine}(hf: ∀x,bH x=true→f x=x){s:Stmt}{d:Int}(hs:eZ s d=true):jV f s=s:=by
 obtain⟨h1,h2,_⟩:=rB hs
 unfold jV
 rw [N5 h1 hf,aCI hf h2]
theorem Z6(f g:Affine→Affine): ∀(L:Nat) (e:Expr),pA g L (pA f L e)=pA (fun x=>g (f x)) L e
 |0,_=>rfl
 |L+1,e=>by
  show(⟨e.kind,e.num,if e.kind=2 then g (if e.kind=2 then f e.index else⟨[],0⟩) else⟨[],0⟩,if e.kind=3 then iG g (if e.kind=3 then iG f e.read else⟨[],[]⟩) else⟨[],[]⟩,(e.kids.map (pA f L)).map (pA g L)⟩:Expr)
   =⟨e.kind,e.num,if e.kind=2 then g (f e.index) else⟨[],0⟩,if e.kind=3 then iG (fun x=>g (f x)) e.read else⟨[],[]⟩,e.kids.map (pA (fun x=>g (f x)) L)⟩
  rw [List.map_map,show(pA g L ∘ pA f L)=pA (fun x=>g (f x)) L from funext (Z6 f g L)]
  by_cases h2:e.kind=2
  ·have h3: ¬e.kind=3:=by omega
   simp only [if_pos h2,if_neg h3]
  ·by_cases h3:e.kind=3
   ·simp only [if_neg h2,if_pos h3,iG,List.map_map];rfl
   ·simp only [if_neg h2,if_neg h3]
theorem aEC(f g:Affine→Affine)(s:Stmt):jV g (jV f s)=jV (fun x=>g (f x)) s:=by
 unfold jV
 rw [Z6]
 simp only [iG,List.map_map];rfl
theorem N3(f g:Affine→Affine)(l:Loop):cE g (cE f l)=cE (fun x=>g (f x)) l:=by
 simp only [cE,List.map_map];rfl
def S7(l:Loop):Prop:=(l.lo.length≤2∧ ∀x∈l.lo,bH x=true)∧l.hi.length≤2∧ ∀x∈l.hi,bH x=true
theorem aH1{nest:List Loop}(h:Fit nest): ∀l∈nest,S7 l:=fun l hl=>by
 obtain⟨i,hi⟩:=List.mem_iff_getElem?.1 hl
 have:=h.2 i l hi
 exact⟨(rE this.1).2,(rE this.2).2⟩
theorem pZ{list:List Arr}{x:Part}(h:cD list x=true):x.nest.length≤4∧ ∀l∈x.nest,S7 l:=by
 have:=(aG1 (lT h).1).1
 exact⟨this.1,aH1 this⟩
end Go.Lift
