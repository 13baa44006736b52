/- Tools. -/
import Derived.Test.YtbgbodhagkdffaaGreatDoorSLawDraw
set_option maxRecDepth 100000
set_option linter.unusedVariables false
namespace Go.Lift
open Go
open Option renaming some -> Y, none -> al, bind -> ad
open Bool renaming true -> I, false -> ao, and_eq_true -> cJ
open Decidable renaming decide -> ak
open List renaming length_append -> fH, all_eq_true -> hP, length_cons -> fP, length_take -> mv, length_drop -> nT, length_nil -> ho, replicate -> en, map_cons -> jn, length -> U
section
open aR renaming mk -> du
open bW renaming mk -> fz
open b4 renaming mk -> dD
open cq renaming mk -> cV
theorem LU{k:Type}{n:Int}(h:0<=n/\n<=1000000000)(x:k):mk n x=Y (en n.toNat x):=by unfold mk;rw[bk h]
variable {k n i L many:Nat}{p:bx}{x y P:cq}{h R:Type}{l:b4}{F:aR->aL aR}{K:List h->aL R}{Q:R->Prop}{s d a v c:Int}{f:aR->aR}{e:bW}{o nest:List b4}{r:List de}{b:aR}{q:bo}{ys:List cq}
theorem af6(a:cS p=I):0<=jf p.a7/\jf p.a7<=144:=by
 obtain⟨d,c,_⟩:=gf a
 have:=ahc c;omega
theorem WN(c:cS p=I){x:dz}(e:iN p x):U x.dS<=4:=by
 obtain⟨i,k,P,s,d,h,l,m,n,o,q,a,r⟩:=yO c e
 have:=a.1;have:=a.2.1;omega
theorem Ar{β:Type}{l:List h}{F:h->(β->aL R)->aL R}{g:h->β}{K:List β->aL R}(e: ∀x∈l,∀k:β->aL R,cG (k (g x)) Q->cG (F x k) Q)
  {s:Nat} (C:s<=U l) {pre:List β} (G:U pre<=1000) (H:U l<=1000) (L:5000<=n) (m:cG (K (pre++(l.drop s).map g)) Q):
  cG (bH (λa ((x,i):List β×Int)=>bif ak (i<(U l:Int)) then(ad (aC l i) λy=>F y λz=>ad (app x [z]) λw=>a (w,wr (i+1))) else K x) n (pre,(s:Int))) Q:=by
 refine cK (λz:List β×Int=> ∃i:Nat,z.2=i/\s<=i/\i<=U l/\z.1=pre++((l.drop s).take (i-s)).map g) (λz=>U l-z.2.toNat) ?_ n _ ⟨s,rfl,O,O,aZ⟩ Z;rintro a ⟨x,z⟩ ⟨i,d,o,W,c⟩ q;dsimp only at d c⊢;subst d;refine aS (λr=>?_) λA=>?_
 ·have b9:=bO (O:i<U l);have B:U x<=2000:=by rw[c,ea,er,dW,hY];omega
  refine ah (bF b9) (e _ (ca b9) _ (ah (dO bV) ?_));rw[bt O];refine q _ ⟨i+1,Z,O,O,?_⟩ Z;dsimp only;rw[show i+1-s=(i-s)+1 by omega,fs,iS,show s+(i-s)=i by omega,b9,c,jl,hM];rfl
 have:i=U l:=O
 subst this;rw[c,lO (by rw[hY];omega)];exact m
theorem qV{H:Type}{l:List H}{f:H->aL h}{g:H->h}(c: ∀x∈l,f x=Y (g x))(d:U l<=1000)(e:5000<=n)(m:cG (K (l.map g)) Q):
  cG (bH (λa ((x,i):List h×Int)=>bif ak (i<(U l:Int)) then(ad (aC l i) λy=>ad (f y) λz=>ad (app x [z]) λw=>a (w,wr (i+1))) else K x) n ([],0)) Q:=
 Ar (F:=λy k=>ad (f y) k) (g:=g) (s:=0) (pre:=[]) (λx o k q=>ah (c x o) q) O aZ d e (by simpa using m)
theorem C'{l:List h}{F:h->(h->aL R)->aL R}{W:List h->aL R->aL R}{m:List h->Int}{g:h->h}
  (C: ∀y o,U y=U l->cG o Q->cG (W y o) Q) (G: ∀y:List h,U y=U l->m y=(U l:Int))
  {s:Nat} (p:s<=U l) (H: ∀x∈l,∀k:h->aL R,cG (k (g x)) Q->cG (F x k) Q) (t:U l<=1000) (u:5000<=n) (L:cG (K (l.take s++(l.drop s).map g)) Q):
  cG (bH (λa ((y,i):List h×Int)=>W y (bif ak (i<m y) then(ad (aC y i) λx=>F x λz=>ad (cW y i z) λw=>a (w,wr (i+1))) else K y)) n (l,(s:Int))) Q:=by
 refine cK (λz:List h×Int=> ∃i:Nat,z.2=i/\s<=i/\i<=U l/\z.1=l.take s++((l.drop s).take (i-s)).map g++l.drop i) (λz=>U l-z.2.toNat) ?_ n _ ⟨s,rfl,O,O,aZ⟩ Z;rintro a ⟨x,z⟩ ⟨i,B,X,v,q⟩ b;dsimp only at B q⊢;subst B;have c:U (l.take s++((l.drop s).take (i-s)).map g)=i:=by rw[ea,er,dW,dW,hY];omega
 have d:U x=U l:=by rw[q,ea,c,hY];omega
 refine C _ _ d ?_;rw[G _ d];refine aS (λf=>?_) λj=>?_
 ·obtain⟨e,r⟩: ∃e,l[i]? =Y e:=⟨_,bO (O:i<U l)⟩
  have A:x[i]? =Y e:=by
   grind
  refine ah (bF A) (H _ (ca r) _ (ah (eS O _) ?_));rw[bt O];refine b _ ⟨i+1,Z,O,O,?_⟩ Z;dsimp only;rw[q,eb,p6 _ _ O,c,pq,nz r,Dc,show i+1-s=(i-s)+1 by omega,fs,iS,show s+(i-s)=i by omega,r];simp
 have:i=U l:=O
 subst this;rw[q,lO (l:=l.drop s) (by rw[hY];omega),pr,jj];exact L
def sC(f:aR->aR)(a:dr):dr:=⟨a.ew,a.b7.map f⟩
def sW(f:aR->aR):Nat->bW->bW
 |0,e=>e
 |L+1,e=>⟨e.aU,e.cA,if e.aU=2 then f e.dp else⟨[],0⟩,if e.aU=3 then sC f e.dL else⟨[],[]⟩,e.bS.map (sW f L)⟩
def kj(f:aR->aR)(s:cT):cT:=⟨sC f s.dI,sW f 5 s.cz⟩
def fI(f:aR->aR)(l:b4):b4:=⟨l.bD.map f,l.aO.map f⟩
theorem sA(h:fE e d=I)(a:e.aU=2):dy e.dp=I/\lj e.dL=I:=by
 unfold fE gl at h
 grind
theorem u5(h:fE e d=I)(a:e.aU=3):gh e.dL d=I/\j8 e.dp=I:=by
 unfold fE at h
 grind
theorem A1(h:fE e d=I)(a: ¬e.aU=2)(c: ¬e.aU=3):j8 e.dp=I/\lj e.dL=I:=by
 unfold fE at h
 grind
theorem w1{a:aR}(h:j8 a=I):a=⟨[],0⟩:=by
 obtain⟨c,k⟩:=a;simp only[j8,cJ,decide_eq_true_eq] at h
 grind
theorem w2{a:dr}(h:lj a=I):a=⟨[],[]⟩:=by
 obtain⟨c,k⟩:=a;simp only[lj,cJ,decide_eq_true_eq] at h
 grind
theorem Pj(c:5000<=n){a:dr}(e:gh a d=I)(h: ∀x,dy x=I->F x=Y (f x)):wc n a F=Y (sC f a):=by obtain⟨m,o,i⟩:=px e;refine bR ?_;unfold wc;exact qV (K:=λk=>Y (⟨a.ew,k⟩:dr)) (λx l=>h x (i x l)) O c (aJ rfl)
theorem P5{d:Int}{F:aR->aL aR}{f:aR->aR}(i: ∀x,dy x=I->F x=Y (f x)): ∀(L n:Nat) (e:bW),5000+L<=n->dZ L e d=I->oA (n+1) e F=Y (sW f L e)
 |0,_,_,_,h=>by cases h
 |L+1,n,e,Q,h=>by
  obtain⟨R,l,q⟩:=jI h;obtain⟨n,rfl⟩: ∃j,n=j+1:=⟨n-1,O⟩
  have r:U e.bS<=2:=by have:=rZ e.aU;omega
  unfold oA;refine bR (bU (λz=>(du z.1 z.2.1)=(if e.aU=2 then f e.dp else⟨[],0⟩)/\(⟨z.2.2.1,z.2.2.2⟩:dr)=(if e.aU=3 then sC f e.dL else⟨[],[]⟩)) (λj k=>?_) λz w=>?_)
  ·refine aS (λa=>?_) λa=>aS (λc=>?_) λc=>?_
   ·exact ah (i _ (sA l a).1) (k _ ⟨by rw[bk a],by rw[bh O]⟩)
   ·exact ah (Pj O (u5 l c).1 i) (k _ ⟨by rw[bh a],by rw[bk c]⟩)
   exact k _ ⟨by rw[bh a],by rw[bh c]⟩
  obtain⟨y,A,B,C⟩:=z;obtain⟨m,o⟩:=w;dsimp only at m o⊢;refine qV (K:=λG=>Y (fz e.aU e.cA (du y A) (⟨B,C⟩:dr) G)) (λx H=>P5 i L n x O (q x H)) O O (aJ ?_);rw[m,o];rfl
theorem P3(i:6000<=n){s:cT}(c:ff s d=I)(a: ∀x,dy x=I->F x=Y (f x)):rV n s F=Y (kj f s):=by
 obtain⟨e,h,_⟩:=mV c;obtain⟨n,rfl⟩: ∃j,n=j+1:=⟨n-1,O⟩
 unfold rV;rw[Pj O e a,P5 a 5 n s.cz O h];rfl
theorem LV{k:Type}{f:k->k}: ∀{l:List k},(∀x∈l,f x=x)->l.map f=l
 | [],_=>rfl
 |x::l,h=>by rw[si,h x fi,LV λy a=>h y (eT _ a)]
theorem RE{a:dr}(c:gh a d=I)(e: ∀x,dy x=I->f x=x):sC f a=a:=by obtain⟨k,l,h⟩:=px c;unfold sC;rw[LV λx i=>e x (h x i)]
theorem T9{d:Int}{f:aR->aR}(l: ∀x,dy x=I->f x=x): ∀{L:Nat} {e:bW},dZ L e d=I->sW f L e=e
 |0,_,_=>rfl
 |L+1,e,h=>by
  obtain⟨o,i,m⟩:=jI h;obtain⟨kind,num,index,read,n⟩:=e;unfold sW;dsimp only at o i m⊢;rw[LV λx q=>T9 l (m x q)];by_cases c:kind=2
  ·have a:=sA i c;dsimp only at a;rw[bk c,bh O,l _ a.1,w2 a.2]
  by_cases k:kind=3
  ·have a:=u5 i k;dsimp only at a;rw[bh c,bk k,RE a.1 l,w1 a.2]
  have a:=A1 i c k;dsimp only at a;rw[bh c,bh k,w1 a.1,w2 a.2]
theorem ah'(a: ∀x,dy x=I->f x=x){s:cT}(c:ff s d=I):kj f s=s:=by obtain⟨e,h,_⟩:=mV c;unfold kj;rw[RE e a,T9 a h]
def mD(l:b4):Prop:=(U l.bD<=2/\ ∀x∈l.bD,dy x=I)/\(U l.aO)<=2/\ ∀x∈l.aO,dy x=I
theorem ai3(h:Fit o): ∀l∈o,mD l:=λl a=>by
 obtain⟨i,c⟩:=mY.1 a
 have:=h.2 i l c;exact⟨(sx this.1).2,(sx this.2).2⟩
theorem kq(h:gb r x=I):U x.a6<=4/\ ∀l∈x.a6,mD l:=by have:=(vr (ix h).1).1;exact⟨this.1,ai3 this⟩
theorem VF{a:aR}(h:dy a=I):eF 4 a:=by have:=(h8 h).1;unfold eF;omega
theorem F2{l:List aR}(e:U l<=2)(c: ∀x∈l,dy x=I):gB 4 l:=⟨O,λa d=>VF (c a d)⟩
theorem VE{d:Int}: ∀{L:Nat} {e:bW},dZ L e d=I->kg 4 L e
 |0,_,h=>by cases h
 |L+1,e,h=>by
  obtain⟨m,a,n⟩:=jI h
  have:=rZ e.aU;refine⟨O,?_,?_,λk m=>VE (n k m)⟩
  ·by_cases c:e.aU=2
   ·exact VF (sA a c).1
   by_cases i:e.aU=3
   ·rw[w1 (u5 a i).2];unfold eF;simp
   rw[w1 (A1 a c i).1];unfold eF;simp
  by_cases i:e.aU=3
  ·have:=px (u5 a i).1;exact F2 this.2.1 this.2.2
  by_cases c:e.aU=2
  ·rw[w2 (sA a c).2];exact⟨aZ,λx l=>by cases l⟩
  rw[w2 (A1 a c i).2];exact⟨aZ,λx l=>by cases l⟩
theorem VL{s:cT}(a:ff s d=I):kD 4 s:=by
 obtain⟨c,e,_⟩:=mV a
 have:=px c;exact⟨F2 this.2.1 this.2.2,VE e⟩
theorem xM(h:gb r x=I):hR 4 x:=by obtain⟨d,a⟩:=kq h;obtain⟨_,e,i,_⟩:=ix h;exact⟨⟨d,λl c=>⟨F2 (a l c).1.1 (a l c).1.2,F2 (a l c).2.1 (a l c).2.2⟩⟩,e.2,λs k=>VL (i s k)⟩
theorem VD{l:List de}(a:U l<=4)(c:mU l):uP 4 l:=⟨a,λx d=>by have:=c x d;simp only[lD,cJ,decide_eq_true_eq] at this;omega⟩
theorem ob(h:cS p=I):eo 4 p:=by obtain⟨a,c,d,e,_⟩:=gf h;exact⟨VD a c,d,λx i=>xM (e x i)⟩
theorem FI{B:Nat}{l:List aR}(h:U l<=B)(c: ∀x∈l,eF B (f x)):gB B (l.map f):=⟨by rw[er];exact h,λa d=>by obtain⟨x,e,rfl⟩:=fh.1 d;exact c x e⟩
theorem Vg{d:Int}{f:aR->aR}(c: ∀x,dy x=I->eF 4 (f x)): ∀{L:Nat} {e:bW},dZ L e d=I->kg 4 L (sW f L e)
 |0,_,h=>by cases h
 |L+1,e,h=>by
  obtain⟨m,n,o⟩:=jI h
  have:=rZ e.aU;unfold sW kg;refine⟨by dsimp only;rw[er];omega,?_,?_,λk m=>?_⟩
  ·dsimp only;by_cases i:e.aU=2
   ·rw[bk i];exact c _ (sA n i).1
   rw[bh i];unfold eF;simp
  ·dsimp only;by_cases l:e.aU=3
   ·rw[bk l]
    have:=px (u5 n l).1;exact FI O λx a=>c x (this.2.2 x a)
   rw[bh l];exact⟨aZ,λx a=>by cases a⟩
  obtain⟨x,a,rfl⟩:=fh.1 m;exact Vg c (o x a)
theorem F1(a: ∀x,dy x=I->eF 4 (f x)){s:cT}(c:ff s d=I):kD 4 (kj f s):=by
 obtain⟨e,h,_⟩:=mV c
 have:=px e;exact⟨FI O λx i=>a x (this.2.2 x i),Vg a h⟩
theorem AO(c: ∀x,dy x=I->eF 4 (f x))(h:mD l):gB 4 (fI f l).bD/\gB 4 (fI f l).aO:=
 ⟨FI (by have:=h.1.1;omega) λx a=>c x (h.1.2 x a),FI (by have:=h.2.1;omega) λx a=>c x (h.2.2 x a)⟩
theorem RY(n:Nat){a:aR}(h:U a.bg<=1000):oj n a=Y a:=by unfold oj lE;rw[bk O];rfl
theorem Ek(n:Nat): ∀x,dy x=I->oj n x=Y x:=λx a=>RY n (by have:=(h8 a).1;omega)
theorem QO(a:5000<=n){l:List aR}(h:U l<=2)(c: ∀x∈l,dy x=I):tK n l=Y l:=by unfold tK;refine bR (qV (g:=λx=>x) (K:=λd=>Y d) (λx e=>Ek n x (c x e)) O a (aJ ?_));simp
theorem QN(d:5000<=n)(q:U nest<=4)(a: ∀l∈nest,mD l):wC n nest=Y nest:=by unfold wC;refine bR ?_;refine Ar (β:=b4) (l:=nest) (n:=n) (F:=λe k=>ad (tK n e.bD) λh=>ad (tK n e.aO) λi=>k (dD h i)) (g:=λx=>x) (s:=0) (pre:=[]) (K:=λm=>Y m) ?_ O aZ O d (aJ aZ);exact λx c k o=>ah (QO d (a x c).1.1 (a x c).1.2) (ah (QO d (a x c).2.1 (a x c).2.2) o)
theorem W9(c:6000<=n){s:cT}(a:ff s d=I):zV n s=Y s:=by unfold zV;rw[P3 c a (F:=λe=>oj n e) (f:=λx=>x) (Ek n),ah' (λ_ _=>rfl) a];rfl
theorem QM(a:6000<=n)(h:gb r x=I):tY n x=Y x:=by obtain⟨c,d⟩:=kq h;obtain⟨_,l,e,_⟩:=ix h;unfold tY;refine bR (ah (QN O c d) (qV (g:=λx=>x) (K:=λi=>Y (cV x.a6 i)) (λs k=>W9 a (e s k)) O O (aJ ?_)));simp
theorem wj(q:6000<=n)(h:cS p=I):rr n p=Y p:=by
 obtain⟨r,w,C,y,_⟩:=gf h;unfold rr;refine bR (Ar (F:=λo k=>ad (lE o.cr) λz=>k (⟨o.ed,z⟩:de)) (g:=λx=>x) (s:=0) (pre:=[]) (K:=λA=>bH (λa ((c,d):(List cq)×Int)=>
    bif ak (d<(U p.aq:Int)) then(
     ad (aC p.aq d) λe=>
     ad (tY n e) λi=>
     ad (app c [i]) λl=>
     a (l,wr (d+1))
    ) else(
     Y (⟨A,c⟩:bx)
    )
   ) n ([],0)) (λx m k B=>ah (x:=x.cr) ?_ B) O aZ O O ?_)
 ·have:=(VD r w).2 x m;unfold lE
  grind
 refine qV (g:=λx=>x) (K:=λc=>Y (⟨_,c⟩:bx)) (λx m=>QM q (y x m)) O O (aJ ?_);simp
theorem qX{k:Type}{a b:List k}(h:U b=U a):l7 a b=Y ():=by unfold l7;rw[bk h]
theorem ON(q:5000<=n)(A:mD l)(r: ∀x,dy x=I->F x=Y (f x)):vW n l F=Y (fI f l):=by
 obtain⟨⟨aW,a2⟩,C,B⟩:=A;unfold vW;refine bR (cK (λz:b4×Int=>(z.2=0/\z.1=l)\/(z.2=1/\z.1=⟨l.bD.map f,l.aO⟩)\/(z.2=2/\z.1=fI f l)) (λz=>3-z.2.toNat) ?_ n _ (.inl ⟨rfl,rfl⟩) Z);rintro a ⟨x,i⟩ w c;dsimp only at w c⊢;rcases w with ⟨rfl,rfl⟩|⟨rfl,rfl⟩|⟨rfl,rfl⟩
 ·refine ah (qX rfl) (ah (qX rfl) (aS (λ_=>aS (λ_=>?_) λh=>(h rfl).elim) λh=>bu h O));refine C' (F:=λx k=>ad (F x) k) (W:=λ_ o=>o) (m:=λ_=>(U x.bD:Int)) (g:=f) (s:=0) (K:=λy=>a ((dD y x.aO),wr (0+1))) (λ_ _ _ h=>h) (λ_ _=>rfl) O (λx d k e=>ah (r x (a2 x d)) e) O q ?_;rw[bt O];exact c _ (.inr (.inl ⟨Z,aZ⟩)) Z
 ·refine ah (qX aZ) (ah (qX rfl) (aS (λ_=>aS (λh=>bu h O) λ_=>aS (λ_=>?_) λh=>(h rfl).elim) λh=>bu h O));refine C' (F:=λx k=>ad (F x) k) (W:=λ_ o=>o) (m:=λ_=>(U l.aO:Int)) (g:=f) (s:=0) (K:=λy=>a ((dD (l.bD.map f) y),wr (1+1))) (λ_ _ _ h=>h) (λ_ _=>rfl) O (λx d k e=>ah (r x (B x d)) e) O q ?_;rw[bt O];exact c _ (.inr (.inr ⟨Z,by simp[fI]⟩)) Z
 refine ah (qX (by simp[fI])) (ah (qX (by simp[fI])) (aS (λh=>bu h O) λ_=>aJ rfl))
def sO(k:Nat)(g f:aR->aR)(x:cq)(l:b4):cq:=⟨x.a6.take k++fI g l::(x.a6.drop (k+1)).map (fI f),x.a'.map (kj f)⟩
theorem Cy(R:6000<=n){body:List cT}{s:Nat}(V:s<=U nest)(h1:U nest<=4)(X: ∀l∈nest.drop s,mD l)(h3:U body<=4)(b: ∀s∈body,ff s d=I)(L: ∀x,dy x=I->F x=Y (f x)):
  rs n ⟨nest,body⟩ (s:Int) F=Y ⟨nest.take s++(nest.drop s).map (fI f),body.map (kj f)⟩:=by
 have B: ∀(a:List b4),cG (bH (λc ((y,j):(List cT)×Int)=>
    ad (l7 body y) λgR=>
    bif ak (j<(U body:Int)) then(
     ad (aC y j) λp=>
     ad (rV n p F) λt=>
     ad (cW y j t) λu=>
     c (u,wr (j+1))
    ) else(
     Y (cV a y)
    )
   ) n (body,0)) (λr=>r=⟨a,body.map (kj f)⟩):=λa=>
  C' (F:=λx k=>ad (rV n x F) k) (W:=λy o=>ad (l7 body y) λ_=>o) (m:=λ_=>(U body:Int)) (g:=kj f) (s:=0) (K:=λy=>Y (cV a y)) (λy o h v=>ah (qX h) v) (λ_ _=>rfl) O (λx q k E=>ah (P3 R (b x q) L) E) O O (aJ aZ)
 unfold rs;refine bR ?_
 -- the loops ahead stay: only those behind are changed
 refine cK (λz:List b4×Int=> ∃i:Nat,z.2=i/\s<=i/\i<=U nest/\z.1=nest.take s++((nest.drop s).take (i-s)).map (fI f)++nest.drop i) (λz=>U nest-z.2.toNat) ?_ n _ ⟨s,rfl,O,O,aZ⟩ Z;rintro C ⟨x,z⟩ ⟨i,Q,M,aO,q⟩ N;dsimp only at Q q⊢;subst Q;have w:U (nest.take s++((nest.drop s).take (i-s)).map (fI f))=i:=by rw[ea,er,dW,dW,hY];omega
 have G:U x=U nest:=by rw[q,ea,w,hY];omega
 refine ah (qX G) (aS (λP=>?_) λS=>?_)
 ·obtain⟨e,A⟩: ∃e,nest[i]? =Y e:=⟨_,bO (O:i<U nest)⟩
  have H:x[i]? =Y e:=by
   rw[q,lk O,w,pq,iS];exact A
  have T:e∈nest.drop s:=mY.2 ⟨i-s,by rw[iS,show s+(i-s)=i by omega];exact A⟩;refine ah (bF H) (ah (ON O (X _ T) L) (ah (eS O _) ?_));rw[bt O];refine N _ ⟨i+1,Z,O,O,?_⟩ Z;dsimp only;rw[q,eb,p6 _ _ O,w,pq,nz A,Dc,show i+1-s=(i-s)+1 by omega,fs,iS,show s+(i-s)=i by omega,A];simp
 have:i=U nest:=O
 subst this;rw[q,lO (l:=nest.drop s) (by rw[hY];omega),pr,jj];exact B _
theorem Lj(c:5000<=n){l:List aR}(k:U l<=2)(d: ∀x∈l,dy x=I)(e: ∀x,dy x=I->lA n x a v b=Y (f x)):xb n l a v b=Y (l.map f):=by unfold xb;exact bR (qV (K:=λh=>Y h) (λx i=>e x (d x i)) O c (aJ rfl))
theorem afj(d:5000<=n)(c:mD l)(e: ∀x,dy x=I->lA n x a v b=Y (f x)):Ag n l a v b=Y (fI f l):=by unfold Ag;rw[Lj d c.1.1 c.1.2 e,Lj d c.2.1 c.2.2 e];rfl
theorem QE(e:5000<=n){a:dr}(h:gh a d=I)(i: ∀x,dy x=I->lA n x c v b=Y (f x)):zj n a c v b=Y (sC f a):=by have:=px h;unfold zj;rw[Lj e this.2.1 this.2.2 i];rfl
theorem RI{d a v:Int}{b:aR}{f:aR->aR}(l: ∀n,5000<=n-> ∀x,dy x=I->lA n x a v b=Y (f x)): ∀(L n:Nat) (e:bW),5000+L<=n->dZ L e d=I->uk (n+1) e a v b=Y (sW f L e)
 |0,_,_,_,h=>by cases h
 |L+1,n,e,Q,h=>by
  obtain⟨R,m,r⟩:=jI h;obtain⟨n,rfl⟩: ∃j,n=j+1:=⟨n-1,O⟩
  have w:U e.bS<=2:=by have:=rZ e.aU;omega
  unfold uk;refine bR (bU (λz=>(du z.1 z.2)=(if e.aU=2 then f e.dp else⟨[],0⟩)) (λj c=>?_) λz o=>bU (λy=>(⟨y.1,y.2⟩:dr)=(if e.aU=3 then sC f e.dL else⟨[],[]⟩)) (λj c=>?_) λy q=>?_)
  ·exact aS (λi=>ah (l _ O _ (sA m i).1) (c _ (by rw[bk i]))) λi=>c _ (by rw[bh i])
  ·exact aS (λk=>ah (QE O (u5 m k).1 (l _ O)) (c _ (by rw[bk k]))) λk=>c _ (by rw[bh k])
  obtain⟨A,B⟩:=z;obtain⟨C,F⟩:=y;dsimp only at o q⊢;refine qV (K:=λG=>Y (fz e.aU e.cA (du A B) (⟨C,F⟩:dr) G)) (λx H=>RI l L n x O (r x H)) O O (aJ ?_);rw[o,q];rfl
theorem afl(y:6000<=n){l:List cT}(e:U l<=4)(c: ∀s∈l,ff s d=I)(h: ∀n,5000<=n-> ∀x,dy x=I->lA n x a v b=Y (f x)):ET n l a v b=Y (l.map (kj f)):=by
 obtain⟨n,rfl⟩: ∃j,n=j+1:=⟨n-1,O⟩
 unfold ET;refine bR ?_;refine Ar (β:=cT) (l:=l) (n:=n+1) (F:=λi k=>ad (zj (n+1) i.dI a v b) λm=>ad (uk (n+1) i.cz a v b) λo=>k (⟨m,o⟩:cT)) (g:=kj f) (s:=0) (pre:=[]) (K:=λq=>Y q) (λx r k w=>?_) O aZ O O (aJ aZ);obtain⟨e,c,_⟩:=mV (c x r);exact ah (QE O e (h _ O)) (ah (RI h 5 n x.cz O c) w)
theorem DR(c:6000<=n){s:Nat}(w:s+1<=U x.a6)(y:U x.a6<=4)(e: ∀l∈x.a6,mD l)(h:U x.a'<=4)(i: ∀s∈x.a',ff s d=I){way:Int}(a: ∀n,5000<=n-> ∀x,dy x=I->lA n x way v b=Y (f x)):
  wA n x (s:Int) way v b=Y ⟨x.a6.take (s+1)++(x.a6.drop (s+1)).map (fI f),x.a'.map (kj f)⟩:=by unfold wA;rw[bt O];refine bR (ah (g' O O O) ?_);rw[show((s:Int)+1).toNat=s+1 by omega,show(0:Int).toNat=0 from rfl,sf];refine ah (x:=x.a6.take (s+1)) (dO bV) (ah (afl c h i a) ?_);exact Ar (F:=λm k=>ad (Ag n m way v b) k) (g:=fI f) (s:=s+1) (pre:=x.a6.take (s+1)) (K:=λo=>Y (cV o (x.a'.map (kj f)))) (λl q k r=>ah (afj O (e l q) (a _ O)) r) O bV O O (aJ rfl)
theorem R0(n:Nat){a:aR}(h:eF 1000 a):Cn n a=Y a:=by unfold Cn;rw[pM _ h];rfl
theorem JN(a:5000<=n){l:List aR}(h:gB 1000 l):f9 n l=Y l:=by unfold f9;exact bR (uv (K:=λc=>Y c) (λx d=>R0 n (h.2 x d)) h.1 a (aJ rfl))
theorem R1(c:5000<=n){a:dr}(h:gB 1000 a.b7):Co n a=Y a:=by unfold Co;rw[JN c h];rfl
theorem QQ: ∀(L n:Nat) (e:bW),5000+L<=n->kg 1000 L e->r4 (n+1) e=Y e
 |0,_,_,_,h=>h.elim
 |L+1,n,e,m,h=>by
  obtain⟨a,c,d,i⟩:=h;obtain⟨n,rfl⟩: ∃j,n=j+1:=⟨n-1,O⟩
  unfold r4 N3;rw[R0 _ c,R1 O d];refine bR (ah rfl (ah rfl (ah (x:=e.bS) ?_ (aJ (by cases e;rfl)))));exact bR (uv (f:=r4 (n+1)) (K:=λk=>Y k) (λx l=>QQ L n x O (i x l)) a O (aJ rfl))
theorem adn(a:6000<=n){s:cT}(h:kD 1000 s):H8 n s=Y s:=by
 obtain⟨n,rfl⟩: ∃j,n=j+1:=⟨n-1,O⟩
 unfold H8;rw[R1 O h.1,QQ 5 n s.cz O h.2];rfl
theorem ado(e:6000<=n)(h:hR 1000 x):H9 n x=Y x:=by
 obtain⟨⟨i,d⟩,k,m⟩:=h;have o:G' n x.a6=Y x.a6:=by
  unfold G';refine bR (uv (K:=λc=>Y c) (λl a=>?_) i O (aJ rfl));unfold H1;rw[JN O (d l a).1,JN O (d l a).2];rfl
 have q:G8 n x.a'=Y x.a':=by
  unfold G8;exact bR (uv (K:=λc=>Y c) (λl a=>adn e (m l a)) k O (aJ rfl))
 unfold H9;rw[o,q];rfl
theorem nD(d:6000<=n)(h:eo 1000 p):mI n p=Y p:=by
 obtain⟨⟨e,i⟩,k,m⟩:=h;have o:G3 n p.a7=Y p.a7:=by
  unfold G3;refine bR (uv (K:=λa=>Y a) (λl c=>?_) e O (aJ rfl));unfold OL;rw[pM _ (i l c)];rfl
 have q:G9 n p.aq=Y p.aq:=by
  unfold G9;exact bR (uv (K:=λa=>Y a) (λl c=>ado d (m l c)) k O (aJ rfl))
 unfold mI;rw[o,q];rfl
theorem xa{k:Type}{f:k->k->aL Bool}{l:List k}(o: ∀x∈l,f x x=Y I)(A:U l<n)(B:U l<=1000000):
  (bif !decide ((U l:Int)=(U l:Int)) then(Y ao) else(bH (λa (c:Int)=>bif ak (c<(U l:Int)) then(ad (aC l c) λq=>ad (aC l c) λr=>ad (f q r) λw=>bif !w then(Y ao) else(a (wr (c+1)))) else(Y I)) n 0))=Y I:=by
 refine bR (fu (λh=>(h rfl).elim) λ_=>?_);refine cK (λx:Int=> ∃i:Nat,x=i/\i<=U l) (λx=>U l-x.toNat) ?_ n 0 ⟨0,rfl,O⟩ O;rintro d x ⟨i,rfl,C⟩ y;refine aS (λz=>?_) λ_=>aJ rfl;obtain⟨e,m⟩: ∃e,l[i]? =Y e:=⟨_,bO (O:i<U l)⟩
 refine ah (bF m) (ah (bF m) (ah (o e (ca m)) (cx ?_)));rw[bt O];exact y _ ⟨i+1,O,O⟩ O
theorem Sb{a:bo}(m:U a<n)(o:U a<=1000000):wb n a a=Y I:=by
 unfold wb;refine bR (fu (λh=>(h rfl).elim) λ_=>?_);refine cK (λx:Int=> ∃i:Nat,x=i/\i<=U a) (λx=>U a-x.toNat) ?_ n 0 ⟨0,rfl,O⟩ O;rintro c x ⟨i,rfl,q⟩ k;refine aS (λl=>?_) λ_=>aJ rfl;obtain⟨e,d⟩: ∃e,a[i]? =Y e:=⟨_,bO (O:i<U a)⟩
 refine ah (bF d) (ah (bF d) (fu (λh=>(h rfl).elim) λ_=>?_));rw[bt O];exact k _ ⟨i+1,O,O⟩ O
theorem UK(e:5000<=n){a:aR}(h:eF 1000 a):lZ n a a=Y I:=by unfold eF at h;unfold lZ;refine bR (bU (λz=>z=I) (λj c=>ah (Sb O O) (cB (c _ (cj rfl)))) λz d=>aJ d)
theorem K6(a:5000<=n){l:List aR}(h:gB 1000 l):ta n l l (λc d=>lZ n c d)=Y I:=by have:=h.1;unfold ta;exact xa (λx e=>UK a (h.2 x e)) O O
theorem UM(c:5000<=n){a:dr}(h:gB 1000 a.b7):CJ n a a=Y I:=by unfold CJ;refine bR (bU (λz=>z=I) (λj d=>?_) λz e=>aJ e);exact aS (λ_=>ah (K6 c h) (d _ rfl)) λh=>(h rfl).elim
theorem S1: ∀(L n:Nat) (e:bW),5000+L<=n->kg 1000 L e->tA (n+1) e e=Y I
 |0,_,_,_,h=>h.elim
 |L+1,n,e,m,h=>by
  obtain⟨o,a,c,d⟩:=h;obtain⟨n,rfl⟩: ∃j,n=j+1:=⟨n-1,O⟩
  unfold tA;refine bR (bU (λz=>z=I) (λj i=>?_) λz k=>aJ k);refine aS (λ_=>aS (λ_=>ah (UK O a) (cB (ah (UM O c) (cB (ah (x:=I) ?_ (i _ rfl)))))) λh=>(h rfl).elim) λh=>(h rfl).elim;unfold N8;exact xa (λx l=>S1 L n x O (d x l)) O O
theorem aga(d:6000<=n){s:cT}(h:kD 1000 s):Dk n s s=Y I:=by
 obtain⟨n,rfl⟩: ∃j,n=j+1:=⟨n-1,O⟩
 unfold Dk;refine bR (bU (λz=>z=I) (λj a=>?_) λz c=>aJ c);exact ah (UM O h.1) (cB (ah (S1 5 n s.cz O h.2) (a _ rfl)))
theorem af0(a:5000<=n)(h:my 1000 o):wv n o o=Y I:=by
 have:=h.1;unfold wv m9;rw[xa (λl c=>?_) O O]
 ·rfl
 unfold y';refine bR (bU (λz=>z=I) (λj d=>?_) λz e=>aJ e);exact ah (K6 a (h.2 l c).1) (cB (ah (K6 a (h.2 l c).2) (d _ rfl)))
theorem afV(a:6000<=n)(h:hR 1000 x):Ce n x x=Y I:=by have:=h.2.1;unfold Ce;refine bR (bU (λz=>z=I) (λj c=>?_) λz d=>aJ d);refine ah (af0 O h.1) (cB (ah (x:=I) ?_ (c _ rfl)));unfold N6;exact xa (λs e=>aga a (h.2.2 s e)) O O
theorem afT(e:6000<=n)(h:eo 1000 p):CB n p p=Y I:=by
 obtain⟨⟨l,i⟩,m,k⟩:=h;unfold CB;refine bR (bU (λz=>z=I) (λj a=>?_) λz c=>aJ c);refine ah (x:=I) ?_ (cB (ah (x:=I) ?_ (a _ rfl)))
 ·unfold N1;refine xa (λx d=>?_) O O;unfold Cf;refine bR (bU (λz=>z=I) (λj a=>?_) λz c=>aJ c)
  have:=i x d;exact aS (λ_=>ah (Sb O O) (a _ rfl)) λh=>(h rfl).elim
 unfold N7;exact xa (λx d=>afV e (k x d)) O O
def d9(p:bx)(c a:Int):Bool:=cS p&&match aC p.aq c with
 |some x=>decide (0<=a/\a<(U x.a6:Int))
 |none=>ao
theorem Ba{k:Type}{l:List k}{i:Int}(h: ¬(0<=i/\i<(U l:Int))):aC l i=al:=by
 cases a:aC l i with
 |none=>rfl
 |some x=>
  obtain⟨c,d⟩:=pc a
  have:=(cI.1 d).1;exact bu ⟨c,O⟩ h
theorem aiV{l:List R}{i:Int}{x:R}(h:aC l i=Y x): ∃k:Nat,i=k/\k<U l/\l[k]? =Y x:=by
 obtain⟨a,c⟩:=pc h
 grind
theorem tI(n:Nat)(h:U p.aq<=1000)(a:Int):ns n p a=Y (ak (0<=a/\a<(U p.aq:Int))):=by
 unfold ns;rw[k3,bt O]
 grind
theorem AA(r:7000<=n)(l:eo 1000 p)(a c:Int)(w:c≠ -1):l8 n p a c=Y (if d9 p a c=I then(p,I) else(⟨[],[]⟩,ao)):=by
 unfold l8;refine bR (bU (λz=>z= !d9 p a c) (λj i=>?_) λz m=>?_)
 ·refine ah (vy r l.sm) (dM (λh=>?_) λh=>?_)
  ·refine i _ ?_;unfold d9
   grind
  have q:cS p=I:=by simpa using h
  refine ah (tI n l.2.1 a) ?_;by_cases e:0<=a/\a<(U p.aq:Int)
  ·obtain⟨x,k,o⟩:=hE e.1 e.2;rw[cj e];refine cx (fu (λ_=>ah (x:=d9 p a c) ?_ (i _ rfl)) λh=>bu h w);unfold N9;refine bR (bU (λz=>z=d9 p a c) (λj i=>?_) λz m=>aJ m);rw[tI n l.2.1 a,cj e];refine ah rfl (cB (ah k ?_))
   have:=(l.2.2 x (ca o)).1.1;rw[bt O,k3];refine ah rfl (i _ ?_);unfold d9
   grind
  rw[cc e];refine cB (i _ ?_);unfold d9;rw[Ba e,mn];rfl
 subst m;by_cases d:d9 p a c=I
 ·rw[d];have q:cS p=I:=by unfold d9 at d;rw[sn] at d;exact d.1
  obtain⟨x,k⟩: ∃x,aC p.aq a=Y x:=by
   cases k:aC p.aq a with
   |some x=>exact⟨x,rfl⟩
   |none=>unfold d9 at d;rw[k,mn] at d;cases d
  exact cx (ah (wj O q) (ah k (aJ rfl)))
 rw[show d9 p a c=ao by simpa using d];exact cB (aJ rfl)
def j6(q:bx):bx×Bool:=if cS q=I then(q,I) else(⟨[],[]⟩,ao)
theorem tP(c:7000<=n)(d:eo 1000 p):oo n p=Y (j6 p):=by
 unfold oo j6;refine bR (ah (vy c d.sm) (dM (λh=>aJ ?_) λh=>?_))
 ·rw[bh (by simpa using h)]
 have a:cS p=I:=by simpa using h
 rw[bk a];exact ah (wj O a) (aJ rfl)
theorem pk(k:7000<=n)(l:eo 1000 p)(a c:Int):p2 n p a c=Y (d9 p a c):=by
 unfold p2;refine bR (bU (λz=>z=d9 p a c) (λj d=>?_) λz m=>aJ m);refine ah (mH k l.sm) (dM (λe=>?_) λe=>d _ (by unfold d9;rw[e];rfl));refine aS (λh=>aS (λi=>?_) λi=>?_) λh=>?_
 ·obtain⟨x,o,q⟩:=hE h i;refine aS (λr=>ah o (d _ ?_)) λr=>d _ ?_
  ·unfold d9
   grind
  unfold d9
  grind
 ·exact d _ (by unfold d9;rw[Ba O,mn])
 exact d _ (by unfold d9;rw[Ba O,mn])
theorem AF(e:7000<=n)(a:eo 1000 p)(k:i<U p.aq)(l:hR 1000 y):lz n p (i:Int) 1 [y]=Y (j6 ⟨p.a7,p.aq.set i y⟩):=by
 have c:=a.2.1;have d:eo 1000 ⟨p.a7,p.aq.set i y⟩:=⟨a.1,by dsimp only;rw[gH];exact c,r8 a.2.2 l⟩
 unfold lz j6;refine bR (ah (qy O a) (ah (g' O O O) ?_));rw[eb,show(0:Int).toNat=0 from rfl,sf];refine ah (x:=p.aq.take i) (dO bV) (ah (x:=p.aq.take i++[y]) (dO bV) ?_);rw[bt O];refine ah (g' O O O) ?_;rw[eb,eB,show((i:Int)+1).toNat=i+1 by omega];refine ah (x:=p.aq.set i y) ?_ (ah (mH e d.sm) (dM (λh=>aJ ?_) λh=>?_))
 ·rw[dO bV,List.set_eq_take_append_cons_drop,bk k,hM];rfl
 ·rw[bh (by simpa using h)]
 rw[bk (by simpa using h)];exact ah (qy O d) (aJ rfl)
def gL(a:aR)(k:Int)(b:aR):aR:=⟨List.zipWith (λx y=>x+k*y) a.bg b.bg,a.cv+k*b.cv⟩
def jw(k:Nat):aR:=⟨[0,0,0,0].set k 1,0⟩
def jH(k:Nat)(b x:aR):aR:=gL x (-(x.bg.getD k 0)) b
def gZ(m:Int)(a:aR):Prop:=U a.bg=4/\dN m a.cv/\ ∀c∈a.bg,dN m c
theorem gZ.mono{m b:Int}{a:aR}(h:gZ m a)(e:m<=b):gZ b a:=⟨h.1,⟨by have:=h.2.1.1;omega,by have:=h.2.1.2;omega⟩,λc d=>⟨by have:=(h.2.2 c d).1;omega,by have:=(h.2.2 c d).2;omega⟩⟩
theorem oZ{l:bo}(h:U l=4): ∃a b c d,l=[a,b,c,d]:=by
 match l,h with
 | [a,b,c,d],_=>exact⟨a,b,c,d,rfl⟩
theorem qd{a:aR}(h:dy a=I):gZ 99 a:=by obtain⟨i,k,d⟩:=h8 h;exact⟨i,k,λc e=>⟨by have:=(d c e).1;omega,by have:=(d c e).2;omega⟩⟩
theorem uR(a:k<4):gZ 6 (jw k):=by rcases(O:k=0\/k=1\/k=2\/k=3) with rfl|rfl|rfl|rfl<;>(unfold gZ dN jw;simp)
theorem mB{k b:Int}(a:dN 1000 k)(c:dN 1000 b):dN 1000000 (k*b):=Ge O O a c
theorem Dw{x:Int}(c:dN 1000 a)(d:dN 1000000 x):wr (a+wr x)=a+x:=by unfold dN at c d;rw[bt (n:=x) O,bt O]
theorem ai1(m:Nat)(a c d e ac k h i l n o:Int):vc (m+6) ⟨[a,c,d,e],ac⟩ k ⟨[h,i,l,n],o⟩=
  Y ⟨[wr (a+wr (k*h)),wr (c+wr (k*i)),wr (d+wr (k*l)),wr (e+wr (k*n))],wr (ac+wr (k*o))⟩:=J
theorem Fm(A:5000<=n){a:aR}(q:gZ 1000 a)(r:gZ 1000 b){k:Int}(c:dN 1000 k):vc n a k b=Y (gL a k b):=by
 obtain⟨m,rfl⟩: ∃m,n=m+6:=⟨n-6,O⟩
 obtain⟨ac,a⟩:=a;obtain⟨B,b⟩:=b;obtain⟨h,i,d⟩:=q;obtain⟨l,o,e⟩:=r;dsimp only at h i d l o e;obtain⟨a0,aW,a2,a3,rfl⟩:=oZ h;obtain⟨w,x,y,z,rfl⟩:=oZ l;rw[ai1,Dw (d a0 aZ) (mB c (e w aZ)),Dw (d aW aZ) (mB c (e x aZ)),Dw (d a2 aZ) (mB c (e y aZ)),Dw (d a3 aZ) (mB c (e z aZ)),Dw i (mB c o)];rfl
def qu(a:aR)(x:Int)(b:aR)(y:Int):aR:=⟨List.zipWith (λp q=>x*p+y*q) a.bg b.bg,x*a.cv+y*b.cv⟩
theorem ajj(m:Nat)(a c d e ac x h i k l n y:Int):kp (m+6) ⟨[a,c,d,e],ac⟩ x ⟨[h,i,k,l],n⟩ y=
  Y ⟨[wr (wr (x*a)+wr (y*h)),wr (wr (x*c)+wr (y*i)),wr (wr (x*d)+wr (y*k)),wr (wr (x*e)+wr (y*l))],wr (wr (x*ac)+wr (y*n))⟩:=J
theorem Dx{x:Int}(c:dN 1000000 a)(d:dN 1000000 x):wr (wr a+wr x)=a+x:=by unfold dN at c d;rw[bt (n:=x) O,bt (n:=a) O,bt O]
theorem wY(C:5000<=n){a:aR}(q:gZ 1000 a)(r:gZ 1000 b){x y:Int}(c:dN 1000 x)(d:dN 1000 y):kp n a x b y=Y (qu a x b y):=by
 obtain⟨m,rfl⟩: ∃m,n=m+6:=⟨n-6,O⟩
 obtain⟨ac,a⟩:=a;obtain⟨F,b⟩:=b;obtain⟨i,k,e⟩:=q;obtain⟨l,o,h⟩:=r;dsimp only at i k e l o h;obtain⟨a0,aW,a2,a3,rfl⟩:=oZ i;obtain⟨w,z,A,B,rfl⟩:=oZ l;rw[ajj,Dx (mB c (e a0 aZ)) (mB d (h w aZ)),Dx (mB c (e aW aZ)) (mB d (h z aZ)),Dx (mB c (e a2 aZ)) (mB d (h A aZ)),Dx (mB c (e a3 aZ)) (mB d (h B aZ)),Dx (mB c k) (mB d o)];rfl
theorem Lq(a b:aR)(k:Int):qu a 1 b k=gL a k b:=by
 unfold qu gL
 grind
theorem Vh(a b:aR)(k:Int)(c:U a.bg=4)(d:U b.bg=4):U (gL a k b).bg=4:=by
 unfold gL
 grind
def x5(a:aR)(k:Nat)(b:aR):aR:=gL ⟨a.bg.set k 0,a.cv⟩ (a.bg.getD k 0) b
theorem TS{a:aR}(h:gZ 1000 a)(k:Nat):gZ 1000 ⟨a.bg.set k 0,a.cv⟩:=⟨by dsimp only;rw[gH];exact h.1,h.2.1,r8 h.2.2 ⟨O,O⟩⟩
theorem UC{a:aR}(h:gZ 1000 a)(d:k<4):a.bg[k]? =Y (a.bg.getD k 0)/\dN 1000 (a.bg.getD k 0):=by
 have c:k<U a.bg:=by rw[h.1];exact d
 have e:=bO c;have i:a.bg.getD k 0=a.bg[k]:=by rw[fZ,e];rfl
 rw[i];exact⟨e,h.2.2 _ (gd c)⟩
theorem JE(e:5000<=n){a:aR}(c:gZ 1000 a)(h:gZ 1000 b)(d:k<4):xx n a (k:Int) b=Y (x5 a k b):=by
 obtain⟨i,l⟩:=UC c d;have m:k<U a.bg:=by rw[c.1];exact d
 unfold xx;rw[RY n (by have:=c.1;omega)];refine bR (ah rfl (ah (bF i) (ah (eS O _) (ah (Fm e (TS c k) h l) (aJ rfl)))))
theorem Q0(h:5000<=n){a:aR}(c:gZ 1000 a)(i:gZ 1000 b)(d:k<4):Ea n a (k:Int) b=Y (x5 a k b):=by
 obtain⟨e,l⟩:=UC c d;have m:k<U a.bg:=by rw[c.1];exact d
 unfold Ea;rw[pM _ (by have:=c.1;omega)];refine bR (ah rfl (ah (bF e) (ah (eS O _) (ah (bF e) (ah (wY h (TS c k) i ⟨O,O⟩ l) (aJ ?_))))));rw[Lq];rfl
theorem Fl(n:Nat)(a:k<4):pV n (k:Int) 1=Y (jw k):=by rcases(O:k=0\/k=1\/k=2\/k=3) with rfl|rfl|rfl|rfl<;>rfl
theorem EP(n:Nat)(a:k<4):oB n (k:Int)=Y (jw k):=by rcases(O:k=0\/k=1\/k=2\/k=3) with rfl|rfl|rfl|rfl<;>rfl
def p5(k:Nat)(b:aR):aR:=gL (jw k) (-1) b
theorem L1{a:aR}(d:U a.bg=4)(e:U b.bg=4)(h:k<4)(c:b.bg.getD k 0=0):x5 a k (p5 k b)=jH k b a:=by
 obtain⟨a,ac⟩:=a;obtain⟨b,i⟩:=b;dsimp only at d e c;obtain⟨a0,aW,a2,a3,rfl⟩:=oZ d;obtain⟨l,m,n,o,rfl⟩:=oZ e;rcases(O:k=0\/k=1\/k=2\/k=3) with rfl|rfl|rfl|rfl<;>
  (simp only[List.getD_cons_zero,List.getD_cons_succ] at c;subst c;simp[x5,p5,jH,gL,jw,Int.mul_neg,Int.neg_mul])
def fO:bx×Bool:=(⟨[],[]⟩,ao)
def y6(p:bx)(a c:Int)(g f:aR->aR):bx×Bool:=
 match aC p.aq a with
 |some P=>match aC P.a6 c with
  |some l=>j6 ⟨p.a7,p.aq.set a.toNat (sO c.toNat g f P l)⟩
  |none=>fO
 |none=>fO
theorem mf{b:Int}(h:d9 p a b=I):cS p=I/\ ∃(i k:Nat) (P:cq) (l:b4),a=i/\b=k/\p.aq[i]? =Y P/\P.a6[k]? =Y l/\i<U p.aq/\k<U P.a6/\gb p.a7 P=I/\k<4:=by
 unfold d9 at h;rw[sn] at h;obtain⟨m,h⟩:=h;refine⟨m,?_⟩;cases d:aC p.aq a with
 |none=>rw[d] at h;cases h
 |some P=>
  rw[d] at h;obtain⟨i,rfl,o,n⟩:=aiV d;obtain⟨q,r⟩:=gu h;obtain⟨l,w,e⟩:=hE q r;have c:=(gf m).2.2.2.1 P (ca n)
  have:=(kq c).1;exact⟨i,b.toNat,P,l,rfl,O,n,e,o,O,c,O⟩
theorem Fy(c:gb r P=I)(e:P.a6[k]? =Y l){g:aR->aR}(m: ∀x,dy x=I->eF 4 (g x))(h: ∀x,dy x=I->eF 4 (f x)):hR 4 (sO k g f P l):=by
 obtain⟨w,i⟩:=kq c;obtain⟨_,n,o,_⟩:=ix c;have A:=(cI.1 e).1;refine⟨⟨by simp only[sO,fH,fP,List.length_map,mv,nT];omega,λy a=>?_⟩,by simp only[sO,List.length_map];exact n.2,λs q=>?_⟩
 ·rcases fy.1 a with a|a
  ·exact((xM c).1.2 y (hi a))
  rcases eN.1 a with rfl|a
  ·exact AO m (i l (ca e))
  obtain⟨z,d,rfl⟩:=fh.1 a;exact AO h (i z (hl d))
 obtain⟨z,d,rfl⟩:=fh.1 q;exact F1 h (o z d)
theorem A9(a:eo 1000 p)(i:Nat)(c:hR 4 y):eo 1000 ⟨p.a7,p.aq.set i y⟩:=⟨a.1,by dsimp only;rw[gH];exact a.2.1,r8 a.2.2 (c.mono O)⟩
theorem AP{k:Int}(a:U b.bg=4): ∀x,dy x=I->eF 4 (gL x k b):=λx c=>by have:=Vh x b k (h8 c).1 a;unfold eF;omega
theorem Gi(a:U b.bg=4): ∀x,dy x=I->eF 4 (jH k b x):=λx c=>AP a x c
theorem L0(x:k<4)(h:gZ 6 b):gZ 1000 (p5 k b):=by
 obtain⟨b,y⟩:=b;obtain⟨d,e,a⟩:=h;dsimp only at d e a;obtain⟨i,l,m,n,rfl⟩:=oZ d;have o:=a i aZ;have q:=a l aZ;have r:=a m aZ;have w:=a n aZ;unfold dN at e o q r w;rcases(O:k=0\/k=1\/k=2\/k=3) with rfl|rfl|rfl|rfl<;>
  (refine⟨rfl,?_,λc z=>?_⟩<;>unfold dN<;>simp[p5,jw,gL] at* <;>omega)
theorem aia(a:k<4)(c:gZ 6 b)(e:b.bg.getD k 0=0): ∀n,5000<=n-> ∀x,dy x=I->lA n x 1 (k:Int) (p5 k b)=Y (jH k b x):=λn h x d=>by unfold lA;rw[Q0 h ((qd d).mono O) (L0 a c) a,L1 (qd d).1 c.1 a e];rfl
theorem take_set{l r:List R}{x y:R}(h:l[k]? =Y x):(l.take (k+1)++r).set k y=l.take k++y::r:=by have a:=(cI.1 h).1;rw[fs,h,hM,p6 _ _ bV,dW,Nat.min_eq_left O,pq];rfl
theorem T6(G:6000<=n)(B:gb r P=I)(m:P.a6[k]? =Y l)(o:k<4)(q:gZ 6 b)(H:b.bg.getD k 0=0):
  Af n P (k:Int) b=Y (sO k (λx=>gL x 1 b) (jH k b) P l):=by
 obtain⟨L,C⟩:=kq B;obtain⟨_,Q,R,_⟩:=ix B;have W:=(cI.1 m).1;have c:=C l (ca m);have F: ∀x,dy x=I->kp n x 1 b 1=Y (gL x 1 b):=λx e=>by
  rw[wY O ((qd e).mono O) (q.mono O) ⟨O,O⟩ ⟨O,O⟩,Lq]
 unfold Af;simp only[bF m,Option.bind_some];refine bR (ah (EP n o) (ah (wY O ((uR o).mono O) (q.mono O) ⟨O,O⟩ ⟨O,O⟩) ?_));rw[Lq];refine ah (DR G O L C Q.2 R (aia o q H)) ?_;refine qV (n:=n) (l:=l.bD) (f:=λx=>kp n x 1 b 1) (K:=λX=>bH (λa ((d,h):(List aR)×Int)=>
    bif ak (h<(U l.aO:Int)) then(
     ad (aC l.aO h) λw=>
     ad (kp n w 1 b 1) λy=>
     ad (app d [y]) λz=>
     a (z,wr (h+1))
    ) else(
     ad (aC (P.a6.take (k+1)++(P.a6.drop (k+1)).map (fI (jH k b))) (k:Int)) λA=>
     ad (cW (P.a6.take (k+1)++(P.a6.drop (k+1)).map (fI (jH k b))) (k:Int) (dD X d)) λi=>
     Y (cV i (P.a'.map (kj (jH k b))))
    )
   ) n ([],0)) (λx e=>F x (c.1.2 x e)) (by have:=c.1.1;omega) O ?_
 refine qV (n:=n) (l:=l.aO) (f:=λx=>kp n x 1 b 1) (g:=λx=>gL x 1 b) (K:=λd=>ad (aC (P.a6.take (k+1)++(P.a6.drop (k+1)).map (fI (jH k b))) (k:Int)) λA=>ad (cW (P.a6.take (k+1)++(P.a6.drop (k+1)).map (fI (jH k b))) (k:Int) (dD (l.bD.map λx=>gL x 1 b) d)) λi=>Y (cV i (P.a'.map (kj (jH k b))))) (λx e=>F x (c.2.2 x e)) (by have:=c.2.1;omega) O ?_;have e:(P.a6.take (k+1)++(P.a6.drop (k+1)).map (fI (jH k b)))[k]? =Y l:=by
  grind
 refine ah (bF e) (ah (eS bV _) (aJ ?_));rw[eb,take_set m];rfl
def lG(s:Int):aR:=⟨[0,0,0,0],s⟩
theorem Gc(h: -6<=s/\s<=6):gZ 6 (lG s):=by unfold lG gZ dN;simp;omega
theorem Pz(s:Int)(a:k<4):(lG s).bg.getD k 0=0:=by rcases(O:k=0\/k=1\/k=2\/k=3) with rfl|rfl|rfl|rfl<;>rfl
def zq(p:bx)(d a c:Int):bx×Bool:=
 if d9 p d a=I/\(-6<=c/\c<=6) then y6 p d a (λx=>gL x 1 (lG c)) (jH a.toNat (lG c)) else fO
theorem RL(n:Nat)(s:Int):Av n s=Y (ak (-6<=s/\s<=6)):=by unfold Av;rw[k3];rfl
theorem ur{b:Int}(h:a<0):d9 p b a=ao:=by
 cases c:d9 p b a with
 |false=>rfl
 |true=>obtain⟨_,i,k,P,l,_,d,_⟩:=mf c;omega
theorem Em(a:p.aq[i]? =Y P)(c:P.a6[k]? =Y l)(g f:aR->aR):y6 p (i:Int) (k:Int) g f=j6 ⟨p.a7,p.aq.set i (sO k g f P l)⟩:=by unfold y6;rw[bF a];dsimp only;rw[bF c];rfl
theorem am2(r:7000<=n)(o:eo 1000 p)(a c d:Int):Iv n p a c d=Y (zq p a c d):=by
 unfold Iv zq;refine bR (ah (nD O o) (bU (λz=>z= !(d9 p a c&&ak (-6<=d/\d<=6))) (λj w=>?_) λz A=>?_))
 ·refine ah (pk r o a c) (dM (λh=>w _ ?_) λh=>ah (CU n d 6 O) (w _ ?_))
  ·rw[show d9 p a c=ao by simpa using h];rfl
  rw[show d9 p a c=I by simpa using h];rfl
 subst A;by_cases e:d9 p a c=I/\(-6<=d/\d<=6)
 ·rw[bk e,e.1,cj e.2];refine cx ?_;obtain⟨H,i,k,P,l,rfl,rfl,x,q,B,C,m,y⟩:=mf e.1;refine ah (bF x) (ah (jG n d) (ah (T6 O m q y (Gc e.2) (Pz _ y)) (ah (AF r o B ((Fy m q (AP (Gc e.2).1) (Gi (Gc e.2).1)).mono O)) (aJ ?_))));rw[Em x q];rfl
 rw[bh e,show(d9 p a c&&ak (-6<=d/\d<=6))=ao by
  cases F:d9 p a c with
  |false=>rfl
  |true=>exact cc λG=>e ⟨F,G⟩]
 exact cB (aJ rfl)
theorem aeL(c:5000<=n)(h: -6<=s/\s<=6): ∀x,dy x=I->CA n x s=Y (gL x 1 (lG s)):=λx a=>by unfold CA;have d:pW n 1=Y ⟨[0,0,0,0],1⟩:=rfl;rw[d];refine bR (ah rfl (ah (Fm c ((qd a).mono O) (b:=⟨[0,0,0,0],1⟩) (by unfold gZ dN;simp) ⟨O,O⟩) (aJ ?_)));unfold gL lG;obtain⟨a0,aW,a2,a3,e⟩:=oZ (h8 a).1;rw[e];simp
theorem aeK(d:5000<=n)(a:k<4)(h: -6<=s/\s<=6): ∀x,dy x=I->y3 n x (k:Int) (du ((jw k).bg) (wr (0-s)))=Y (jH k (lG s) x):=λx c=>by
 have e:(du ((jw k).bg) (wr (0-s)))=p5 k (lG s):=by
  rw[bt O];rcases(O:k=0\/k=1\/k=2\/k=3) with rfl|rfl|rfl|rfl<;>(unfold jw p5 lG gL jw;simp)
 unfold y3;rw[e,JE d ((qd c).mono O) (L0 a (Gc h)) a,L1 (qd c).1 rfl a (Pz _ a)];rfl
theorem EA(i:7000<=n)(e:eo 1000 p)(a:Int):cG (l8 n p a (-1)) (λr=>r.2=ao->r=fO):=by
 unfold l8;refine bU (λz=>z=ao->cS p=I/\(0<=a/\a<(U p.aq:Int))) (λj c=>?_) λz k=>?_
 ·refine ah (vy i e.sm) (dM (λh=>c _ λh=>by cases h) λh=>?_);refine ah (tI n e.2.1 a) (dM (λh=>c _ λh=>by cases h) λd=>fu (λh=>(h rfl).elim) λ_=>c _ λ_=>⟨by simpa using h,by simpa using d⟩)
 refine dM (λ_=>aJ λ_=>rfl) λh=>?_;obtain⟨l,m,d⟩:=k h;obtain⟨x,o,q⟩:=hE m d;exact ah (wj O l) (ah o (aJ λh=>by cases h))
theorem amb(w:7000<=n)(A:eo 1000 p)(c d a:Int):IE n p c d a=Y (zq p c d a):=by
 unfold IE zq;by_cases e:d= -1
 ·subst e;rw[bh λh=>by rw[ur O] at h;cases h.1];refine bR (dh (EA w A c) λt R=>dM (λ_=>bU (λz=>z=I) (λj B=>aS (λ_=>B _ rfl) λh=>bu (show(-1:Int)<0 by omega) h) λz C=>by rw[C];exact cB (aJ rfl)) λ_=>aJ rfl)
 refine bR (ah (AA w A c d e) ?_);by_cases m:d9 p c d=I
 ·rw[bk m];refine cB (bU (λz=>z= !decide (-6<=a/\a<=6)) (λj B=>?_) λz C=>?_)
  ·refine aS (λh=>?_) λ_=>ah (RL n a) (B _ rfl);rw[ur h] at m;cases m
  subst C;by_cases q: -6<=a/\a<=6
  ·rw[bk ⟨m,q⟩,cj q];refine cx ?_;obtain⟨u,i,k,P,l,rfl,rfl,H,r,v,W,o,K⟩:=mf m;obtain⟨R,L⟩:=kq o;obtain⟨_,X,b,_⟩:=ix o;refine ah (bF H) (ah (bF r) (ah (ON O (L l (ca r)) (aeL O q)) (ah (eS O _) (ah (eS Z _) (ah (Fl n K) ?_)))));rw[bt (n:=(k:Int)+1) O];have G:=Cy (n:=n) O (nest:=P.a6.set k (fI (λx=>gL x 1 (lG a)) l)) (body:=P.a') (s:=k+1) bV bV (λy Q=>by
    rw[sl O] at Q;exact L y (hl Q)) X.2 b (F:=λf=>y3 n f (k:Int) (du ((jw k).bg) (wr (0-a)))) (aeK O K q)
   rw[eb,eb];refine ah G (ah (eS bV _) ?_);rw[eb,List.set_set];have g:(cV ((P.a6.set k (fI (λx=>gL x 1 (lG a)) l)).take (k+1)++((P.a6.set k (fI (λx=>gL x 1 (lG a)) l)).drop (k+1)).map (fI (jH k (lG a)))) (P.a'.map (kj (jH k (lG a)))))=sO k (λx=>gL x 1 (lG a)) (jH k (lG a)) P l:=by
    rw[sl O,fs,lN O,List.take_set_of_le (dV k),hM];rfl
   rw[g];refine ah (tP w (A9 A i (Fy o r (AP rfl) (Gi rfl)))) (aJ ?_);rw[Em H r]
  rw[bh λh=>q h.2,cc q];exact cB (aJ rfl)
 rw[bh m,bh λh=>m h.1];exact cx (aJ rfl)
theorem am8{k:Type}{l:List k}{x:k}(h:l[i]? =Y x):l.set i x=l:=by
 refine List.ext_getElem? (λj=>?_)
 grind
theorem amF:eo 1000 fO.1:=⟨⟨by simp[fO],λx a=>by cases a⟩,by simp[fO],λx a=>by cases a⟩
def hG(k:Nat)(s:Int):aR:=⟨[0,0,0,0].set k s,0⟩
theorem va(k:Nat)(h: -6<=s/\s<=6):gZ 6 (hG k s):=by refine⟨by simp[hG],⟨by simp[hG],by simp[hG]⟩,r8 (λc a=>?_) ⟨h.1,h.2⟩⟩;simp at a;subst a;exact⟨O,O⟩
theorem PD(s:Int)(a:k+1<4):(hG k s).bg.getD (k+1) 0=0:=by rcases(O:k=0\/k=1\/k=2) with rfl|rfl|rfl<;>rfl
def zr(p:bx)(c a s:Int):bx×Bool:=
 if d9 p c a=I/\d9 p c (a+1)=I/\(-6<=s/\s<=6) then y6 p c (a+1) (λx=>gL x 1 (hG a.toNat s)) (jH (a.toNat+1) (hG a.toNat s)) else fO
theorem aiH(a:k<4)(s:Int):qu (jw k) s ⟨[0,0,0,0],0⟩ 0=hG k s:=by rcases(O:k=0\/k=1\/k=2\/k=3) with rfl|rfl|rfl|rfl<;>simp[qu,jw,hG]
theorem Yn(d:k<4)(s:Int){a:aR}(c:U a.bg=4):gL a s (jw k)=gL a 1 (hG k s):=by obtain⟨a0,aW,a2,a3,e⟩:=oZ c;rcases(O:k=0\/k=1\/k=2\/k=3) with rfl|rfl|rfl|rfl<;>simp[gL,jw,hG,e]
theorem YB(a:k+1<4)(s:Int):gL (jw (k+1)) (-s) (jw k)=p5 (k+1) (hG k s):=by rcases(O:k=0\/k=1\/k=2) with rfl|rfl|rfl<;>simp[p5,gL,jw,hG]
theorem am3(r:7000<=n)(o:eo 1000 p)(a c s:Int):DK n p a c s=Y (zr p a c s):=by
 unfold DK zr;refine bR (ah (nD O o) (bU (λz=>z= !(d9 p a c&&(d9 p a (c+1)&&ak (-6<=s/\s<=6)))) (λj w=>?_) λz F=>?_))
 ·refine ah (pk r o a c) (dM (λh=>w _ ?_) λh=>?_)
  ·rw[show d9 p a c=ao by simpa using h];rfl
  have m:d9 p a c=I:=by simpa using h
  obtain⟨G,i,k,P,l,rfl,rfl,y,q,C,A,e,B⟩:=mf m;rw[bt O];refine ah (pk r o _ _) (dM (λh=>w _ ?_) λh=>ah (CU n s 6 O) (w _ ?_))
  ·rw[m,show d9 p (i:Int) ((k:Int)+1)=ao by simpa using h];rfl
  rw[m,show d9 p (i:Int) ((k:Int)+1)=I by simpa using h];rfl
 subst F;by_cases d:d9 p a c=I/\d9 p a (c+1)=I/\(-6<=s/\s<=6)
 ·rw[bk d,d.1,d.2.1,cj d.2.2];refine cx ?_;obtain⟨G,i,H,P,l,rfl,K,y,q,C,A,e,B⟩:=mf d.2.1;obtain⟨_,W,k,X,b,L,rfl,_⟩:=mf d.1;obtain rfl:H=k+1:=O
  refine ah (EP n O) (ah (x:=⟨[0,0,0,0],0⟩) rfl (ah (wY O ((uR O).mono O) (by unfold gZ dN;simp) ⟨O,O⟩ ⟨O,O⟩) ?_));rw[aiH O,bt O];refine ah (bF y) (ah (T6 O e q B (va k d.2.2) (PD s B)) (ah (AF r o C ((Fy e q (AP (va k d.2.2).1) (Gi (va k d.2.2).1)).mono O)) (aJ ?_)));show j6 _=_;rw[show((k:Int)+1)=((k+1:Nat):Int) by omega,Em y q];rfl
 rw[bh d,show(d9 p a c&&(d9 p a (c+1)&&ak (-6<=s/\s<=6)))=ao by
  cases m:d9 p a c with
  |false=>rfl
  |true=>cases Q:d9 p a (c+1) with
   |false=>rfl
   |true=>exact cc λR=>d ⟨m,Q,R⟩]
 exact cB (aJ rfl)
theorem age(d:5000<=n)(a:k<4)(e: -6<=s/\s<=6): ∀x,dy x=I->CL n x s (k:Int)=Y (gL x 1 (hG k s)):=λx c=>by unfold CL;rw[Fl n a];refine bR (ah rfl (ah (Fm d ((qd c).mono O) ((uR a).mono O) ⟨O,O⟩) (aJ (Yn a s (h8 c).1))))
theorem agd(e:5000<=n)(a:k+1<4)(c: -6<=s/\s<=6): ∀x,dy x=I->y9 n x (k:Int) (p5 (k+1) (hG k s))=Y (jH (k+1) (hG k s) x):=λx d=>by unfold y9;rw[bt O,show((k:Int)+1)=((k+1:Nat):Int) by omega,JE e ((qd d).mono O) (L0 a (va k c)) a,L1 (qd d).1 (va k c).1 a (PD s a)];rfl
theorem amc(C:7000<=n)(G:eo 1000 p)(a c s:Int):DY n p a c s=Y (zr p a c s):=by
 unfold DY zr;by_cases e:c= -1
 ·subst e;rw[bh λh=>by rw[ur O] at h;cases h.1];refine bR (dh (EA C G a) λE W=>dM (λ_=>bU (λz=>z=I) (λj w=>aS (λ_=>w _ rfl) λh=>bu (show(-1:Int)<0 by omega) h) λz H=>by rw[H];exact cB (aJ rfl)) λ_=>aJ rfl)
 refine bR (ah (AA C G a c e) ?_);by_cases q:d9 p a c=I
 ·rw[bk q];obtain⟨X,i,k,P,M,rfl,rfl,A,b,N,f,o,K⟩:=mf q;obtain⟨W,Q⟩:=kq o;obtain⟨_,g,t,_⟩:=ix o;have r:d9 p (i:Int) ((k:Int)+1)=ak (k+1<U P.a6):=by
   unfold d9;rw[X,bF A];exact decide_eq_decide.2 O
  refine cB (bU (λz=>z= !(ak (k+1<U P.a6)&&ak (-6<=s/\s<=6))) (λj w=>?_) λz H=>?_)
  ·refine aS (λh=>bu h O) λ_=>ah (bF A) ?_;rw[bt O];refine aS (λh=>w _ ?_) λh=>ah (RL n s) (w _ ?_)
   ·rw[cc (show¬k+1<U P.a6 by omega)];rfl
   rw[cj (O:k+1<U P.a6)];rfl
  subst H;by_cases d:k+1<U P.a6
  ·by_cases m: -6<=s/\s<=6
   ·rw[bk ⟨q,by rw[r,cj d],m⟩,cj m,cj d];refine cx ?_;obtain⟨l,B⟩: ∃l,P.a6[k+1]? =Y l:=⟨_,bO d⟩
    rw[bt (n:=(k:Int)+1) O,bt (n:=(k:Int)+2) O,bt (n:=0-s) O,show((k:Int)+1)=((k+1:Nat):Int) by omega,show((k:Int)+2)=((k+1+1:Nat):Int) by omega,show 0-s= -s by omega];refine ah (bF A) (ah (bF B) (ah (ON O (Q l (ca B)) (age O K m)) (ah (eS O _) (ah (eS Z _) (ah (Fl n O) (ah (Fl n K) (ah (Fm O ((uR O).mono O) ((uR K).mono O) ⟨O,O⟩) ?_)))))));rw[YB O];have L:=Cy (n:=n) O (nest:=P.a6.set (k+1) (fI (λx=>gL x 1 (hG k s)) l)) (body:=P.a') (s:=k+1+1) bV bV (λy R=>by
     rw[sl O] at R;exact Q y (hl R)) g.2 t (F:=λu=>y9 n u (k:Int) (p5 (k+1) (hG k s))) (agd O O m)
    rw[eb,eb];refine ah L (ah (eS bV _) ?_);rw[eb,List.set_set];have v:(cV ((P.a6.set (k+1) (fI (λx=>gL x 1 (hG k s)) l)).take (k+1+1)++((P.a6.set (k+1) (fI (λx=>gL x 1 (hG k s)) l)).drop (k+1+1)).map (fI (jH (k+1) (hG k s)))) (P.a'.map (kj (jH (k+1) (hG k s)))))=sO (k+1) (λx=>gL x 1 (hG k s)) (jH (k+1) (hG k s)) P l:=by
     rw[sl O,fs,lN O,List.take_set_of_le (dV _),hM];rfl
    rw[v];refine ah (tP C (A9 G i (Fy o B (AP (va k m).1) (Gi (va k m).1)))) (aJ ?_);rw[Em A B];rfl
   rw[bh λh=>m h.2.2,cc m,mn];exact cB (aJ rfl)
  rw[bh (λh=>by rw[r,cc d] at h;cases h.2.1),cc d];exact cB (aJ rfl)
 rw[bh q,bh λh=>q h.1];exact cx (aJ rfl)
def low(k:Nat)(b:aR):Prop:= ∀j,k<=j->b.bg.getD j 0=0
def nn(n:Int):bW:=⟨1,n,⟨[],0⟩,⟨[],[]⟩,[]⟩
def je(e:bW)(n:Int):Bool:=ak (e.aU=1)&&ak (e.cA=n)
def jz(k x y:Int):Int:=if k=5 then x-y else if k=6 then x*y else x+y
def kM(e:bW):bW:=
 if e.aU=2/\gQ e.dp.bg=0/\0<=e.dp.cv then nn e.dp.cv
 else match e.bS with
  | [a,b]=>
   if a.aU=1/\b.aU=1 then(if 0<=jz e.aU a.cA b.cA/\jz e.aU a.cA b.cA<=99 then nn (jz e.aU a.cA b.cA) else e)
   else if(¬e.aU=6/\je b 0=I)\/(e.aU=6/\je b 1=I) then a
   else if(e.aU=4/\je a 0=I)\/(e.aU=6/\je a 1=I) then b
   else if e.aU=6/\(je a 0=I\/je b 0=I) then nn 0
   else e
  |_=>e
def nO(e:bW)(a:List bW):bW:=⟨e.aU,e.cA,e.dp,e.dL,a⟩
def h':Nat->bW->bW
 |0,e=>e
 |L+1,e=>kM (nO e (e.bS.map (h' L)))
theorem SQ{d:Int}: ∀{L:Nat} {e:bW},dZ L e d=I->dZ (L+1) e d=I
 |0,_,h=>by cases h
 |L+1,e,h=>by obtain⟨c,i,l⟩:=jI h;show(ak (gJ e.aU=U e.bS)&&(fE e d&&e.bS.all λk=>dZ (L+1) k d))=I;rw[cj c,i,ic,ic];exact hL.2 λk a=>SQ (l k a)
theorem Of(a:gJ e.aU=U e.bS)(c:fE e d=I)(h: ∀k∈e.bS,dZ L k d=I):dZ (L+1) e d=I:=by
 show(ak (gJ e.aU=U e.bS)&&(fE e d&&e.bS.all λk=>dZ L k d))=I
 grind
theorem U7{d:Int}: ∀{L:Nat} {e:bW},dZ L e d=I->eO (L+1) e=eO L e
 |0,_,h=>by cases h
 |L+1,e,h=>by obtain⟨i,l,c⟩:=jI h;show 1+(e.bS.map (eO (L+1))).sum=1+(e.bS.map (eO L)).sum;rw[show e.bS.map (eO (L+1))=e.bS.map (eO L) from Ih λk a=>U7 (c k a)]
theorem Tc{d:Int}: ∀{L:Nat} {e:bW},dZ L e d=I->fv (L+1) e=fv L e
 |0,_,h=>by cases h
 |L+1,e,h=>by obtain⟨i,l,c⟩:=jI h;show(if e.aU=3 then [e.dL] else [])++e.bS.flatMap (fv (L+1))=(if e.aU=3 then [e.dL] else [])++e.bS.flatMap (fv L);rw[List.flatMap_def,List.flatMap_def,show e.bS.map (fv (L+1))=e.bS.map (fv L) from Ih λk a=>Tc (c k a)]
theorem K9(l:fE e d=I):kM e=e\/(∃n,kM e=nn n/\0<=n/\n<=99)\/ ∃k∈e.bS,kM e=k:=by
 obtain⟨kind,num,index,read,i⟩:=e;unfold kM;dsimp only;split
 ·rename_i h
  have:=(h8 (sA l h.1).1).2.1;exact .inr (.inl ⟨_,rfl,h.2.2,this.2⟩)
 match i with
 | []=>exact .inl rfl
 | [a]=>exact .inl rfl
 | [a,b]=>
  dsimp only;split
  ·split
   ·rename_i h;exact .inr (.inl ⟨_,rfl,h⟩)
   exact .inl rfl
  split
  ·exact .inr (.inr ⟨a,aZ,rfl⟩)
  split
  ·exact .inr (.inr ⟨b,aZ,rfl⟩)
  split
  ·exact .inr (.inl ⟨0,rfl,O,O⟩)
  exact .inl rfl
 |a::b::c::r=>exact .inl rfl
theorem aew(L:Nat){n:Int}(h:0<=n/\n<=99)(d:Int):dZ (L+1) (nn n) d=I:=by
 refine Of (by simp[nn,gJ]) ?_ λk a=>by cases a
 unfold fE nn j8 lj;simp;omega
theorem Ko(h:fE e d=I)(a:List bW):fE (nO e a) d=I:=h
theorem td{d:Int}: ∀{L:Nat} {e:bW},dZ L e d=I->dZ L (h' L e) d=I
 |0,_,h=>by cases h
 |L+1,e,h=>by
  obtain⟨o,l,m⟩:=jI h;have q:dZ (L+1) (nO e (e.bS.map (h' L))) d=I:=Of (by simp only[nO,List.length_map];exact o) l (λk a=>by
   obtain⟨y,i,rfl⟩:=fh.1 a;exact td (m y i))
  show dZ (L+1) (kM (nO e (e.bS.map (h' L)))) d=I;rcases K9 (Ko l (e.bS.map (h' L))) with c|⟨n,c,r⟩|⟨k,a,c⟩
  ·rw[c];exact q
  ·rw[c];exact aew L r d
  rw[c];obtain⟨y,i,rfl⟩:=fh.1 a;exact SQ (td (m y i))
theorem Uo{k:Type}(f:k->Int)(c: ∀x,0<=f x): ∀{l:List k} {x:k},x∈l->f x<=(l.map f).sum
 |y::l,x,h=>by
  have d: ∀l:List k,0<=(l.map f).sum:=λl=>by
   induction l with
   |nil=>simp
   |cons a l e=>simp only[jn,List.sum_cons];have:=c a;omega
  simp only[jn,List.sum_cons];rcases eN.1 h with rfl|h
  ·have:=d l;omega
  have:=Uo f c h;have:=c y;omega
theorem SL{k:Type}(f g:k->Int): ∀{l:List k},(∀x∈l,f x<=g x)->(l.map f).sum<=(l.map g).sum
 | [],_=>iT _
 |x::l,h=>by
  simp only[jn,List.sum_cons]
  have:=h x fi
  have:=SL f g λy a=>h y (eT _ a);omega
theorem VU{d:Int}: ∀{L:Nat} {e:bW},dZ L e d=I->eO L (h' L e)<=eO L e
 |0,_,h=>by cases h
 |L+1,e,h=>by
  obtain⟨r,o,i⟩:=jI h;have m:eO (L+1) (nO e (e.bS.map (h' L)))<=eO (L+1) e:=by
   show 1+((e.bS.map (h' L)).map (eO L)).sum<=1+(e.bS.map (eO L)).sum;rw[List.map_map]
   have:=SL (eO L ∘ h' L) (eO L) (l:=e.bS) λk a=>VU (i k a);omega
  show eO (L+1) (kM (nO e (e.bS.map (h' L))))<=eO (L+1) e;rcases K9 (Ko o (e.bS.map (h' L))) with c|⟨n,c,w⟩|⟨k,a,c⟩
  ·rw[c];exact m
  ·rw[c];exact uJ (L+1) e
  rw[c];refine Int.le_trans ?_ m;obtain⟨y,q,rfl⟩:=fh.1 a;rw[U7 (td (i y q))];have z:eO L (h' L y)<=((e.bS.map (h' L)).map (eO L)).sum:=Uo (eO L) (λx=>by have:=uJ L x;omega) a;show _<=1+((e.bS.map (h' L)).map (eO L)).sum;omega
theorem VV{d:Int}: ∀{L:Nat} {e:bW},dZ L e d=I-> ∀a∈fv L (h' L e),a∈fv L e
 |0,_,h=>by cases h
 |L+1,e,h=>by
  obtain⟨A,x,q⟩:=jI h;have r: ∀a∈fv (L+1) (nO e (e.bS.map (h' L))),a∈fv (L+1) e:=λa c=>by
   have c:a∈(if e.aU=3 then [e.dL] else [])++(e.bS.map (h' L)).flatMap (fv L):=c;show a∈(if e.aU=3 then [e.dL] else [])++e.bS.flatMap (fv L);rcases fy.1 c with c|c
   ·exact q0 _ c
   refine uC _ ?_;obtain⟨y,m,o⟩:=Df.1 c;obtain⟨z,w,rfl⟩:=fh.1 m;exact Df.2 ⟨z,w,VV (q z w) a o⟩
  intro a c;have c:a∈fv (L+1) (kM (nO e (e.bS.map (h' L)))):=c;rcases K9 (Ko x (e.bS.map (h' L))) with i|⟨n,i,B⟩|⟨k,l,i⟩
  ·rw[i] at c;exact r a c
  ·rw[i] at c;simp[fv,nn] at c
  rw[i] at c;obtain⟨y,m,rfl⟩:=fh.1 l;rw[Tc (td (q y m))] at c;refine r a ?_;show a∈(if e.aU=3 then [e.dL] else [])++(e.bS.map (h' L)).flatMap (fv L);exact uC _ (Df.2 ⟨_,l,c⟩)
theorem aeM(h:dZ L e d=I): ∃K,L=K+1:=by
 cases L with
 |zero=>cases h
 |succ K=>exact⟨K,rfl⟩
theorem ac6(n:Nat)(e:bW)(k:Int):kI n e k=Y (je e k):=by unfold kI je;cases ak (e.aU=1)<;>rfl
theorem adI(n:Nat)(e:bW)(k:Int):r9 n e k=Y (je e k):=by unfold r9 je;cases ak (e.aU=1)<;>rfl
def Gw(a:bW):Prop:=a.aU=1->0<=a.cA/\a.cA<=99
theorem Mj(h:dZ L e d=I):Gw e:=λc=>by obtain⟨K,rfl⟩:=aeM h;obtain⟨_,a,_⟩:=jI h;unfold fE at a;rw[bh O,bh O,bk c] at a;simp only[cJ,decide_eq_true_eq] at a;exact a.1
theorem Vu{b:Int}(d:0<=a/\a<=99)(c:0<=b/\b<=99):0<=a*b/\a*b<=9801:=by
 refine⟨q3 d.1 c.1,?_⟩
 have:=uz d.2 c.2 c.1 (by omega:(0:Int)<=99);omega
theorem ai0(n:Nat)(X:c=4\/c=5\/c=6){a b:bW}(g:Gw a)(j:Gw b):
  bl (fun(x:Bool)=>
      bif x then(
       bl (fun(r:Int)=>
        ad (gO n r 0 99) λd=>
        bif d then(
         ad (qq n r) λe=>
         Y e
        ) else(
         Y (fz c 0 (du [] 0) (⟨[],[]⟩:dr) [a,b])
        )
       ) (λl=>
        bif ak (c=5) then(
         l (wr (a.cA-b.cA))
        ) else(
         bif ak (c=6) then(
          l (wr (a.cA*b.cA))
         ) else(
          l (wr (a.cA+b.cA))
         )
        )
       )
      ) else(
       bl (fun(y:Bool)=>
        bif y then(
         Y a
        ) else(
         bl (fun(A:Bool)=>
          bif A then(
           Y b
          ) else(
           bl (fun(B:Bool)=>
            bif B then(
             ad (qq n 0) λC=>
             Y C
            ) else(
             Y (fz c 0 (du [] 0) (⟨[],[]⟩:dr) [a,b])
            )
           ) (λm=>
            bif ak (c=6) then(
             ad (kI n a 0) λF=>
             bif F then(
              m I
             ) else(
              ad (kI n b 0) λG=>
              m G
             )
            ) else(
             m ao
            )
           )
          )
         ) (λi=>
          bif ak (c=4) then(
           ad (kI n a 0) λH=>
           bif H then(
            i I
           ) else(
            bif ak (c=6) then(
             ad (kI n a 1) λK=>
             i K
            ) else(
             i ao
            )
           )
          ) else(
           bif ak (c=6) then(
            ad (kI n a 1) λL=>
            i L
           ) else(
            i ao
           )
          )
         )
        )
       ) (λk=>
        bif !(ak (c=6)) then(
         ad (kI n b 0) λQ=>
         bif Q then(
          k I
         ) else(
          bif ak (c=6) then(
           ad (kI n b 1) λR=>
           k R
          ) else(
           k ao
          )
         )
        ) else(
         bif ak (c=6) then(
          ad (kI n b 1) λW=>
          k W
         ) else(
          k ao
         )
        )
       )
      )
     ) (λw=>
      bif ak (a.aU=1) then(
       w (ak (b.aU=1))
      ) else(
       w ao
      )
     )=Y (kM ⟨c,0,⟨[],0⟩,⟨[],[]⟩,[a,b]⟩):=by
 have p: ¬(c=2/\gQ ([]:bo)=0/\(0:Int)<=0):=λh=>O
 unfold kM;dsimp only;rw[bh p];simp only[ac6,Option.bind_some,bl];by_cases o:a.aU=1/\b.aU=1
 ·have s:=g o.1;have t:=j o.2;have N:=Vu s t;rw[bk o,cj o.1,cj o.2];simp only[cond_true];have u:(bif ak (c=5) then(ad (gO n (wr (a.cA-b.cA)) 0 99) λd=>bif d then(ad (qq n (wr (a.cA-b.cA))) λe=>Y e) else(Y (fz c 0 ⟨[],0⟩ ⟨[],[]⟩ [a,b])))
    else bif ak (c=6) then(ad (gO n (wr (a.cA*b.cA)) 0 99) λd=>bif d then(ad (qq n (wr (a.cA*b.cA))) λe=>Y e) else(Y (fz c 0 ⟨[],0⟩ ⟨[],[]⟩ [a,b])))
    else(ad (gO n (wr (a.cA+b.cA)) 0 99) λd=>bif d then(ad (qq n (wr (a.cA+b.cA))) λe=>Y e) else(Y (fz c 0 ⟨[],0⟩ ⟨[],[]⟩ [a,b]))))
    =ad (gO n (jz c a.cA b.cA) 0 99) λd=>bif d then(ad (qq n (jz c a.cA b.cA)) λe=>Y e) else(Y (fz c 0 ⟨[],0⟩ ⟨[],[]⟩ [a,b])):=by
   rw[bt (n:=a.cA-b.cA) O,bt (n:=a.cA*b.cA) O,bt (n:=a.cA+b.cA) O];unfold jz;rcases X with rfl|rfl|rfl<;>rfl
  refine u.trans ?_;rw[k3,Option.bind_some];by_cases q:0<=jz c a.cA b.cA/\jz c a.cA b.cA<=99
  ·rw[bk q,cj q];rfl
  rw[bh q,cc q];rfl
 rw[bh o];have P:(bif ak (a.aU=1) then ak (b.aU=1) else ao)=ao:=by
  cases v:ak (a.aU=1) with
  |false=>rfl
  |true=>
   have: ¬b.aU=1:=λh=>o ⟨gu v,h⟩;rw[cc this];rfl
 have q: ∀{f:Bool->aL bW},(bif ak (a.aU=1) then f (ak (b.aU=1)) else f ao)=f ao:=fun {f}=>by
  grind
 refine(q (f:=λz=>bif z then _ else _)).trans ?_;generalize je a 0=a0;generalize je a 1=aW;generalize je b 0=E;generalize je b 1=M;rcases X with rfl|rfl|rfl<;>cases a0<;>cases aW<;>cases E<;>cases M<;>rfl
theorem afw(n:Nat)(k:Int):uY n k=Y (ak (4<=k/\k<=6)):=by unfold uY;rw[k3];rfl
theorem Lu(h:gJ e.aU=U e.bS):((e.aU=1\/e.aU=2\/e.aU=3)/\e.bS=[])\/((e.aU=4\/e.aU=5\/e.aU=6)/\ ∃a b,e.bS=[a,b]):=by
 unfold gJ at h;split at h
 ·rename_i d;exact .inl ⟨d,oJ O⟩
 split at h
 ·rename_i d;refine .inr ⟨d,?_⟩
  match i:e.bS,h with
  | [a,b],_=>exact⟨a,b,rfl⟩
  | [],h=>simp at h
  | [a],h=>simp at h
  |a::b::c::r,h=>simp at h;omega
 omega
theorem aiN(a:fE e d=I)(h:e.aU=4\/e.aU=5\/e.aU=6):e.cA=0/\e.dp=⟨[],0⟩/\e.dL=⟨[],[]⟩:=by have c:=A1 a O O;unfold fE at a;rw[bh O,bh O,bh O] at a;simp only[cJ,decide_eq_true_eq] at a;exact⟨a.1,w1 c.1,w2 c.2⟩
theorem FZ(a:fE e d=I):lr e.dp/\mG e.dL.b7:=by
 by_cases h:e.aU=2
 ·have:=sA a h;refine⟨by have:=(h8 this.1).1;unfold lr;omega,?_⟩;rw[w2 this.2];exact⟨aZ,λx c=>by cases c⟩
 by_cases i:e.aU=3
 ·have:=u5 a i;have k:=px this.1;refine⟨?_,UO k.2.1 k.2.2⟩;rw[w1 this.2];unfold lr;simp
 have:=A1 a h i;refine⟨?_,?_⟩
 ·rw[w1 this.1];unfold lr;simp
 rw[w2 this.2];exact⟨aZ,λx c=>by cases c⟩
def pn(e:bW):Bool:=ak (e.aU=2)&&(ak (gQ e.dp.bg=0)&&ak (0<=e.dp.cv))
theorem Ra(e:bW):pn e=I↔e.aU=2/\gQ e.dp.bg=0/\0<=e.dp.cv:=by unfold pn;simp
theorem QR(h:pn e=I):kM e=nn e.dp.cv:=by unfold kM;rw[bk ((Ra e).1 h)]
theorem R2(h:pn e=ao)(a:e.bS=[]):kM e=e:=by unfold kM;rw[bh (λc=>by rw[(Ra e).2 c] at h;cases h),a]
theorem ND{d:Int}: ∀(L n:Nat) (e:bW),6000+L<=n->dZ L e d=I->tC (n+1) e=Y (h' L e)
 |0,_,_,_,h=>by cases h
 |L+1,n,e,X,h=>by
  obtain⟨w,y,A⟩:=jI h;obtain⟨n,rfl⟩: ∃j,n=j+1:=⟨n-1,O⟩
  unfold tC;refine bR (bU (λz=>z=pn e) (λj m=>?_) λz F=>?_)
  ·refine aS (λo=>ah (DW O (FZ y).1) (aS (λG=>m _ ?_) λG=>m _ ?_)) λo=>m _ ?_
   ·unfold pn;rw[cj o,cj (O:gQ e.dp.bg=0)];rfl
   ·unfold pn;rw[cc (show¬gQ e.dp.bg=0 by omega),Bool.false_and,mn]
   unfold pn;rw[cc o];rfl
  subst F;have q:h' (L+1) e=kM (nO e (e.bS.map (h' L))):=rfl;refine dM (λr=>?_) λr=>?_
  ·refine ah (x:=nn e.dp.cv) rfl (aJ ?_);rw[q];exact(QR (e:=nO e (e.bS.map (h' L))) r).symm
  refine ah (afw _ _) (fu (λl=>aJ ?_) λl=>?_)
  ·rcases Lu w with ⟨_,k⟩|⟨i,_⟩
   ·rw[q,k]
    have:nO e []=e:=by cases e;cases k;rfl
    show e=kM (nO e []);rw[this];exact(R2 r k).symm
   exact bu O l
  rcases Lu w with ⟨i,_⟩|⟨i,a,b,c⟩
  ·omega
  have B:=A a (by rw[c];simp);have C:=A b (by rw[c];simp);have H:aC e.bS 0=Y a:=by rw[c];rfl
  have K:aC e.bS 1=Y b:=by rw[c];rfl
  refine ah H (ah (ND L n a O B) (ah K (ah (ND L n b O C) (xm (ai0 (n+1) i (Mj (td B)) (Mj (td C))) ?_))));obtain⟨Q,R,W⟩:=aiN y i;rw[q,c];unfold nO;rw[Q,R,W];rfl
theorem agf(n:Nat)(o:e.aU=4\/e.aU=5\/e.aU=6){x y:Int}(l:0<=x/\x<=99)(m:0<=y/\y<=99):E5 n e x y=Y (if 0<=jz e.aU x y/\jz e.aU x y<=99 then nn (jz e.aU x y) else e):=by
 have q:=Vu l m;unfold E5;refine bR (bU (λz=>z=jz e.aU x y) (λj a=>?_) λz d=>?_)
 ·rw[bt (n:=x+y) O,bt (n:=x-y) O,bt (n:=x*y) O];refine aS (λh=>a _ ?_) λh=>aS (λi=>a _ ?_) λi=>a _ ?_
  ·unfold jz;rw[bh O,bh O]
  ·unfold jz;rw[bk i]
  unfold jz;rw[bh i,bk O]
 subst d;refine bU (λz=>z= !decide (0<=jz e.aU x y/\jz e.aU x y<=99)) (λj a=>aS (λh=>a _ ?_) λh=>a _ ?_) λz d=>?_
 ·rw[cc O];rfl
 ·by_cases k:(99:Int)<jz e.aU x y
  ·rw[cj k,cc O];rfl
  rw[cc k,cj O];rfl
 subst d;by_cases c:0<=jz e.aU x y/\jz e.aU x y<=99
 ·rw[cj c,bk c];exact cx (ah rfl (aJ rfl))
 rw[cc c,bh c];exact cB (aJ rfl)
theorem aeO(W:5000<=n)(C:lr e.dp)(F:gJ e.aU=U e.bS)(A: ∀k∈e.bS,Gw k):zS n e=Y (kM e):=by
 unfold zS;refine bR (bU (λz=>z=pn e) (λj l=>?_) λz r=>?_)
 ·refine aS (λG=>ah (Dn O C) (aS (λH=>l _ ?_) λH=>l _ ?_)) λG=>l _ ?_
  ·unfold pn
   grind
  ·unfold pn
   grind
  unfold pn
  grind
 subst r;refine dM (λw=>ah (x:=nn e.dp.cv) rfl (aJ (QR w).symm)) λw=>?_;rcases Lu F with ⟨_,o⟩|⟨d,a,b,c⟩
 ·refine aS (λ_=>aJ (R2 w o).symm) λh=>bu (by rw[o];rfl) h
 have K:=A a (by rw[c];simp);have L:=A b (by rw[c];simp);refine aS (λh=>by rw[c] at h;simp at h) λ_=>ah (show aC e.bS 0=Y a by rw[c];rfl) (ah (show aC e.bS 1=Y b by rw[c];rfl) ?_);have i:kM e=(if a.aU=1/\b.aU=1 then(if 0<=jz e.aU a.cA b.cA/\jz e.aU a.cA b.cA<=99 then nn (jz e.aU a.cA b.cA) else e)
   else if(¬e.aU=6/\je b 0=I)\/(e.aU=6/\je b 1=I) then a
   else if(e.aU=4/\je a 0=I)\/(e.aU=6/\je a 1=I) then b
   else if e.aU=6/\(je a 0=I\/je b 0=I) then nn 0
   else e):=by
  unfold kM;rw[bh (λh=>O),c]
 rw[i];refine bU (λz=>z=ak (a.aU=1/\b.aU=1)) (λj l=>aS (λh=>l _ ?_) λh=>l _ ?_) λz r=>?_
 ·by_cases q:b.aU=1
  ·rw[cj q,cj ⟨h,q⟩]
  rw[cc q,cc λy=>q y.2]
 ·rw[cc λy=>h y.1]
 subst r;by_cases m:a.aU=1/\b.aU=1
 ·rw[cj m,bk m];exact cB (ah (agf n d (K m.1) (L m.2)) (aJ rfl))
 rw[cc m,bh m];refine cx ?_;simp only[adI,Option.bind_some,bl];generalize je a 0=a0;generalize je a 1=aW;generalize je b 0=Q;generalize je b 1=R;obtain⟨kind,num,index,read,B⟩:=e;dsimp only at d⊢;rcases d with rfl|rfl|rfl<;>cases a0<;>cases aW<;>cases Q<;>cases R<;>exact aJ rfl
theorem Xi{d:Int}: ∀(L n:Nat) (e:bW),6000+L<=n->dZ L e d=I->ue (n+1) e=Y (h' L e)
 |0,_,_,_,h=>by cases h
 |L+1,n,e,z,h=>by
  obtain⟨m,a,l⟩:=jI h;obtain⟨n,rfl⟩: ∃j,n=j+1:=⟨n-1,O⟩
  have o:U e.bS<=2:=by have:=rZ e.aU;omega
  unfold ue;refine bR (ah (D0 _ (FZ a).1) (ah (Dy O (FZ a).2) ?_));refine qV (f:=ue (n+1)) (g:=h' L) (K:=λq=>ad (zS (n+1) (fz e.aU e.cA e.dp e.dL q)) λc=>Y c) (λx r=>Xi L n x O (l x r)) O O ?_;refine ah (aeO O (FZ a).1 (by simpa using m) λk i=>?_) (aJ rfl);obtain⟨y,w,rfl⟩:=fh.1 i;exact Mj (td (l y w))
def lC(l:List dz)(p:bx)(a:Int)(c:Nat):Prop:= ∃x∈l,x.cf=a/\eu p x=c
def mT(l:List dz)(p:bx)(a:Int)(c:Nat):Prop:= ∃x∈l,x.cf=a/\(c:Int)∈rc p x
theorem As{l:List dz}{c:Nat}{x:dz}:lC (l++[x]) p a c↔lC l p a c\/(x.cf=a/\eu p x=c):=by
 unfold lC
 grind
theorem Au{l:List dz}{c:Nat}{x:dz}:mT (l++[x]) p a c↔mT l p a c\/(x.cf=a/\(c:Int)∈rc p x):=by
 unfold mT
 grind
def jZ(T:Nat)(f:List Bool)(S:Nat->Prop):Prop:=U f=T/\ ∀c,c<T->(f.getD c ao=I↔S c)
theorem KW(T:Nat):jZ T (en T ao) (λ_=>False):=⟨Db,λc a=>by rw[fZ,wS];split<;>simp⟩
theorem Ly{T:Nat}{f:List Bool}{S:Nat->Prop}(h:jZ T f S){d:Nat}(a:d<T):jZ T (f.set d I) (λc=>S c\/c=d):=⟨by rw[gH];exact h.1,λc i=>by
 by_cases e:d=c
 ·subst e;rw[fZ,lN (by rw[h.1];exact a)];simp
 rw[fZ,oK e,<-fZ,h.2 c i];constructor
 ·exact .inl
 rintro(h|h)
 ·exact h
 exact bu h.symm e⟩
theorem oD{T:Nat}{f:List Bool}{S X:Nat->Prop}(h:jZ T f S)(d: ∀c,c<T->(S c↔X c)):jZ T f X:=⟨h.1,λc a=>(h.2 c a).trans (d c a)⟩
theorem uZ{T:Nat}{f:List Bool}{S:Nat->Prop}(h:jZ T f S){c:Nat}(d:c<T):aC f (c:Int)=Y (f.getD c ao):=by
 have a:c<U f:=by rw[h.1];exact d
 rw[bF (bO a),fZ,bO a];rfl
theorem Sj(C:5000<=n){T:Nat}{cs:bo}(F:U cs<=1000)(m: ∀c∈cs,0<=c/\c<(T:Int)){K:List Bool->aL R}{f:List Bool}{S:Nat->Prop}(o:jZ T f S)(q: ∀g,jZ T g (λc=>S c\/(c:Int)∈cs)->cG (K g) Q):
  cG (bH (λa (z:(List Bool)×Int)=>bif ak (z.2<(U cs:Int)) then(ad (aC cs z.2) λx=>ad (aC z.1 x) λ_=>ad (cW z.1 x I) λy=>a (y,wr (z.2+1))) else(K z.1)) n (f,0)) Q:=by
 refine cK (λz:List Bool×Int=> ∃i:Nat,z.2=i/\i<=U cs/\jZ T z.1 λc=>S c\/(c:Int)∈cs.take i) (λz=>U cs-z.2.toNat) ?_ n _ ⟨0,rfl,O,oD o λc _=>aZ⟩ Z;rintro a ⟨x,z⟩ ⟨i,l,G,h⟩ r;dsimp only at l h⊢;subst l;refine aS (λw=>?_) λA=>?_
 ·obtain⟨c,k⟩: ∃c,cs[i]? =Y c:=⟨_,bO (O:i<U cs)⟩
  have br:=m c (ca k);have B:=h.1;refine ah (bF k) (ah (Bb br.1 O) (ah (KI br.1 O I) ?_));rw[bt O];refine r _ ⟨i+1,Z,O,oD (Ly h (d:=c.toNat) O) λe H=>?_⟩ Z;rw[iI k,fy,q1]
  grind
 have e:i=U cs:=O
 refine q x (oD h λc _=>?_)
 grind
theorem AQ(a:cS p=I):((ky p:Nat):Int)=jf p.a7/\ky p<=144:=by
 have:=af6 a
 grind
theorem Re(dc:7100<=n)(A:cS p=I)(a:Int):cG (Ca n (iB p) a) (λr=>jZ (ky p) r.1 (mT (b2 p.aq) p a)/\jZ (ky p) r.2 (lC (b2 p.aq) p a)):=by
 obtain⟨R,W,_,_,b⟩:=gf A;have fB:=AQ A;unfold Ca;refine ah (Rt (p:=p) O R W) (ah (LU ⟨O,O⟩ ao) (ah (Rt (p:=p) O R W) (ah (LU ⟨O,O⟩ ao) ?_)));show cG (bH _ n (en (ky p) ao,en (ky p) ao,0)) _;refine cK (λz:List Bool×List Bool×Int=> ∃i:Nat,z.2.2=i/\i<=U (b2 p.aq)/\jZ (ky p) z.1 (mT ((b2 p.aq).take i) p a)/\jZ (ky p) z.2.1 (lC ((b2 p.aq).take i) p a)) (λz=>U (b2 p.aq)-z.2.2.toNat) ?_ n _ ⟨0,rfl,O,oD (KW _) (λc _=>by simp[mT]),oD (KW _) λc _=>by simp[lC]⟩ Z;rintro B ⟨x,y,z⟩ ⟨i,m,aO,C,o⟩ s;dsimp only at m C o⊢;subst m;have l:(iB p).list=b2 p.aq:=rfl;rw[l];refine aS (λt=>?_) λv=>aJ ?_
 ·obtain⟨u,k⟩: ∃u,(b2 p.aq)[i]? =Y u:=⟨_,bO (O:i<U (b2 p.aq))⟩
  have E:=kJ (ca k);obtain⟨jR,M,aoR,_⟩:=tG A E;have F:(iB p).reads[i]? =Y (rc p u):=nB k;have G:(iB p).kP[i]? =Y (eu p u:Int):=nB (f:=λx=>(eu p x:Int)) k;refine bU (λz:List Bool×List Bool×Int×Int×bo=>jZ (ky p) z.1 (mT ((b2 p.aq).take (i+1)) p a)/\jZ (ky p) z.2.1 (lC ((b2 p.aq).take (i+1)) p a)) (λj X=>?_) λz m=>?_
  ·refine ah (bF k) (fu (λq=>X _ ⟨oD C λc _=>?_,oD o λc _=>?_⟩) λhe=>ah (bF F) ?_)
   ·rw[iI k,Au];exact⟨.inl,λh=>h.elim id λh=>bu h.1 q⟩
   ·rw[iI k,As];exact⟨.inl,λh=>h.elim id λh=>bu h.1 q⟩
   refine Sj (T:=ky p) O (cs:=rc p u) O (λc N=>by have:=M c N;omega) (K:=λH=>ad (aC (iB p).kP (i:Int)) λw=>ad (aC y w) λP=>ad (cW y w I) λL=>j (H,L,u.cf,u.stmt,u.dS)) C λg Q=>?_;refine ah (bF G) (ah (uZ o O) (ah (KI O (by rw[o.1];omega) I) (X _ ⟨oD Q λc _=>?_,?_⟩)))
   ·rw[iI k,Au]
    grind
   refine oD (Ly o (d:=eu p u) O) λc _=>?_;rw[iI k,As]
   grind
  obtain⟨S,V,oQ,mr,qb⟩:=z;dsimp only at m⊢;rw[bt O];exact s _ ⟨i+1,Z,O,m.1,m.2⟩ Z
 have e:i=U (b2 p.aq):=O
 grind
theorem DJ(Q:7100<=n)(o:cS p=I)(a:Int)(w:Bool):cG (wh n p a w) (λr=>U r<=144/\ ∀c:Int,c∈r↔0<=c/\c.toNat<ky p/\(if w=I then lC (b2 p.aq) p a c.toNat else mT (b2 p.aq) p a c.toNat)):=by
 obtain⟨R,W,_,_,X⟩:=gf o;have P:=AQ o;unfold wh;refine ah (QZ O R W) (ah (LU ⟨O,O⟩ ao) (ah (yQ O o) (ah (Ks Q o) ?_)));show cG (bH _ n (en (ky p) ao,0)) _;refine cK (λz:List Bool×Int=> ∃i:Nat,z.2=i/\i<=U (b2 p.aq)/\jZ (ky p) z.1 λc=>if w=I then lC ((b2 p.aq).take i) p a c else mT ((b2 p.aq).take i) p a c) (λz=>U (b2 p.aq)-z.2.toNat) ?_ n _ ⟨0,rfl,O,oD (KW _) λc _=>by simp[mT,lC]⟩ Z;rintro A ⟨x,z⟩ ⟨i,y,S,l⟩ b;dsimp only at y l⊢;subst y;refine aS (λk=>?_) λs=>?_
 ·obtain⟨u,m⟩: ∃u,(b2 p.aq)[i]? =Y u:=⟨_,bO (O:i<U (b2 p.aq))⟩
  have t:=kJ (ca m);obtain⟨V,v,aoR,_⟩:=tG o t;have q:(nW p)[i]? =Y (⟨rc p u,(eu p u:Int)⟩:nk):=nB (f:=λx=>(⟨rc p x,(eu p x:Int)⟩:nk)) m;refine bU (λz:List Bool=>jZ (ky p) z λc=>if w=I then lC ((b2 p.aq).take (i+1)) p a c else mT ((b2 p.aq).take (i+1)) p a c) (λj B=>?_) λz y=>?_
  ·refine ah (bF m) (fu (λE=>B _ (oD l λc _=>?_)) λL=>?_)
   ·rw[iI m,As,Au]
    grind
   cases w with
   |true=>
    refine cB (ah (bF q) (ah (uZ l O) (ah (KI (by(try dsimp only);omega) (by rw[l.1];(try dsimp only);omega) I) (B _ ?_))));refine oD (Ly l (d:=eu p u) O) λc _=>?_;rw[iI m,As,Au];exact or_congr Iff.rfl ⟨λh=>⟨L,h.symm⟩,λh=>h.2.symm⟩
   |false=>
    refine cx ?_;simp only[bF q,Option.bind_some];refine Sj (T:=ky p) O (cs:=rc p u) O (λc M=>by have:=v c M;omega) (K:=λC=>j C) l λg F=>B _ (oD F λc _=>?_);rw[iI m,As,Au];exact or_congr Iff.rfl ⟨λh=>⟨L,h⟩,λh=>h.2⟩
  rw[bt O];exact b _ ⟨i+1,Z,O,y⟩ Z
 have e:i=U (b2 p.aq):=O
 rw[e,eB] at l;have N:=l.1;refine ah (Qe O O) (aJ ⟨by have:=Qh x;omega,λc=>?_⟩);rw[Jp];constructor
 ·rintro⟨G,H⟩;have k:c.toNat<ky p:=by
   grind
  exact⟨G,k,(l.2 _ k).1 H⟩
 rintro⟨G,k,H⟩;exact⟨G,(l.2 _ k).2 H⟩
theorem Ld(w:5000<=n){a b:bo}(x:U a<=1000)(m:U b<=1000):zM n a b=Y (a.any λc=>decide (c∈b)):=by
 refine bR ?_;unfold zM;refine cK (λz:Int=> ∃i:Nat,z=i/\i<=U a/\(a.take i).any (λc=>decide (c∈b))=ao) (λz=>U a-z.toNat) ?_ n 0 ⟨0,rfl,O,aZ⟩ O;rintro d z ⟨i,rfl,y,k⟩ o;refine aS (λq=>?_) λr=>aJ ?_
 ·obtain⟨c,l⟩: ∃c,a[i]? =Y c:=⟨_,bO (O:i<U a)⟩
  refine ah (bF l) (ah (KN O m c) (dM (λh=>aJ ?_) λh=>?_))
  ·exact(kA.2 ⟨c,ca l,h⟩).symm
  rw[bt O];refine o _ ⟨i+1,O,O,?_⟩ O;rw[iI l,wP,k]
  grind
 have e:i=U a:=O
 grind
def Gs(p:bx)(a b:Int):Prop:= ∀x∈b2 p.aq,∀y∈b2 p.aq,x.cf=a->y.cf=b-> ¬Pu p x y
noncomputable def vn(p:bx)(a b:Int):Bool:= @decide (Gs p a b) (Classical.propDecidable _)
theorem NG{b:Int}:vn p a b=I↔Gs p a b:=by unfold vn;exact @decide_eq_true_iff _ (Classical.propDecidable _)
theorem QL(n:cS p=I){b:Int}:Gs p a b↔ ∀c,c<ky p-> ¬(lC (b2 p.aq) p a c/\(mT (b2 p.aq) p b c\/lC (b2 p.aq) p b c))/\ ¬(lC (b2 p.aq) p b c/\mT (b2 p.aq) p a c):=by
 have o:=AQ n;constructor
 ·intro h c _;refine⟨?_,?_⟩
  ·rintro⟨⟨x,l,e,m⟩,⟨y,k,d,i⟩|⟨y,k,d,i⟩⟩
   ·exact h x l y k e d (.inl (by rw[m];exact i))
   exact h x l y k e d (.inr (.inr (by rw[m,i])))
  rintro⟨⟨y,k,d,i⟩,⟨x,l,e,m⟩⟩;exact h x l y k e d (.inr (.inl (by rw[i];exact m)))
 intro h x l y k e d ch;have q:=(tG n (kJ l)).1;have r:=(tG n (kJ k)).1;rcases ch with ch|ch|ch
 ·exact(h (eu p x) O).1 ⟨⟨x,l,e,rfl⟩,.inl ⟨y,k,d,ch⟩⟩
 ·exact(h (eu p y) O).2 ⟨⟨y,k,d,rfl⟩,⟨x,l,e,ch⟩⟩
 exact(h (eu p x) O).1 ⟨⟨x,l,e,rfl⟩,.inr ⟨y,k,d,ch.symm⟩⟩
def fN(p:bx)(a:Int):Bool:=ak (0<=a/\a<(U p.aq:Int))
noncomputable def l5(p:bx)(a b:Int):Bool:=cS p&&(fN p a&&(fN p b&&(!decide (a=b)&&vn p a b)))
theorem wg{b:Bool}(h:(!b)=I):b=ao:=by cases b with
 |false=>rfl
 |true=>cases h
theorem tW{b:Bool}(h:(!b)=ao):b=I:=by cases b with
 |false=>cases h
 |true=>rfl
theorem ac7(dc:5000<=n){T:Nat}(k7:T<=1000){K N P L:List Bool}{y o q k:Nat->Prop}(F:jZ T K y)(Q:jZ T N o)(R:jZ T P q)(A:jZ T L k){v:Bool}(S:v=I↔ ∀c,c<T-> ¬(o c/\(q c\/k c))/\ ¬(k c/\y c)):
  cG (bH (λl (e:Int)=>
     bif ak (e<(U K:Int)) then(
      bl (fun(W:Bool)=>
       bif W then(
        Y ao
       ) else(
        l (wr (e+1))
       )
      ) (λm=>
       ad (aC N e) λX=>
       bif X then(
        ad (aC P e) λb=>
        bif b then(
         m I
        ) else(
         ad (aC L e) λf=>
         bif f then(
          m I
         ) else(
          m ao
         )
        )
       ) else(
        ad (aC L e) λg=>
        bif g then(
         ad (aC K e) λp=>
         m p
        ) else(
         m ao
        )
       )
      )
     ) else(
      Y I
     )
    ) n 0) (λr=>r=v):=by
 have B: ∀c,c<T->((o c/\(q c\/k c))\/(k c/\y c))->v=ao:=λc s h=>by
  cases t:v with
  |false=>rfl
  |true=>
   have:=S.1 t c s;rcases h with h|h
   ·exact bu h this.1
   exact bu h this.2
 have u:=F.1;refine cK (λz:Int=> ∃i:Nat,z=i/\i<=T/\ ∀c,c<i-> ¬(o c/\(q c\/k c))/\ ¬(k c/\y c)) (λz=>T-z.toNat) ?_ n 0 ⟨0,rfl,O,λc h=>O⟩ O;rintro E z ⟨i,rfl,aO,M⟩ cC;rw[u];refine aS (λhlt=>?_) λjt=>aJ ?_
 ·have a:i<T:=O
  refine bU (λz=>(z=I->(o i/\(q i\/k i))\/(k i/\y i))/\(z=ao-> ¬(o i/\(q i\/k i))/\ ¬(k i/\y i))) (λj C=>?_) λz fo=>dM (λh=>aJ (B i a (fo.1 h)).symm) λh=>?_
  ·refine ah (uZ Q a) (dM (λG=>?_) λG=>?_)
   ·have w:=(Q.2 i a).1 G;refine ah (uZ R a) (dM (λH=>C _ ⟨λ_=> .inl ⟨w,.inl ((R.2 i a).1 H)⟩,λh=>(by cases h)⟩) λH=>ah (uZ A a) (dM (λd=>C _ ⟨λ_=> .inl ⟨w,.inr ((A.2 i a).1 d)⟩,λh=>(by cases h)⟩) λd=>C _ ⟨λh=>(by cases h),λ_=>?_⟩));have ao2: ¬q i:=λh=>by rw[(R.2 i a).2 h] at H;cases H
    have aob: ¬k i:=λh=>by rw[(A.2 i a).2 h] at d;cases d
    grind
   have V: ¬o i:=λh=>by rw[(Q.2 i a).2 h] at G;cases G
   refine ah (uZ A a) (dM (λd=>ah (uZ F a) (C _ ⟨λh=> .inr ⟨(A.2 i a).1 d,(F.2 i a).1 h⟩,λh=>⟨λx=>V x.1,λx=>by rw[(F.2 i a).2 x.2] at h;cases h⟩⟩)) λd=>C _ ⟨λh=>(by cases h),λ_=>⟨λx=>V x.1,λx=>by rw[(A.2 i a).2 x.1] at d;cases d⟩⟩)
  rw[bt O];refine cC _ ⟨i+1,O,O,λc s=>?_⟩ O
  grind
 exact(S.2 λc s=>M c O).symm
theorem agI(i:7100<=n)(m:kW p)(a b:Int):G1 n p a b=Y (l5 p a b):=by
 unfold G1;refine bR (ah (Ds i m) ?_);by_cases c:cS p=I
 ·rw[bk c];have C:=AQ c;have d:=m.2.1;refine cB (bU (λz=>z= !(fN p a&&(fN p b&& !decide (a=b)))) (λj e=>cx (ah (tI n d a) (dM (λh=>e _ ?_) λh=>ah (tI n d b) (dM (λk=>e _ ?_) λk=>e _ ?_)))) λz l=>?_)
  ·have:fN p a=ao:=wg h
   grind
  ·have o:fN p a=I:=tW h;have q:fN p b=ao:=wg k
   grind
  ·have o:fN p a=I:=tW h;have q:fN p b=I:=tW k
   grind
  subst l;unfold l5;rw[c];cases o:fN p a with
  |false=>exact cB (aJ rfl)
  |true=>
   cases q:fN p b with
   |false=>exact cB (aJ rfl)
   |true=>
    cases F:ak (a=b) with
    |true=>exact cB (aJ rfl)
    |false=>
     refine cx (dh (Re i c a) λr ⟨w,x⟩=>dh (Re i c b) λs ⟨y,A⟩=>?_);exact(ac7 O (T:=ky p) O w x y A (v:=vn p a b) (by rw[NG,QL c])).mono λr B=>B
 rw[bh c];refine cx (bU (λz=>z=I) (λj e=>cB (e _ rfl)) λz l=>?_);rw[l];refine cB (aJ ?_);unfold l5
 grind
theorem agi(C:7100<=n)(s:kW p)(a b:Int):GZ n p a b=Y (l5 p a b):=by
 unfold GZ;refine bR (bU (λz=>z= !(cS p&&(fN p a&&(fN p b&& !decide (a=b))))) (λj i=>?_) λz H=>?_)
 ·refine ah (mH O s) (dM (λh=>i _ ?_) λh=>?_)
  ·rw[show cS p=ao by simpa using h];rfl
  have l:cS p=I:=by simpa using h
  rw[l] at i;refine aS (λW=>i _ ?_) λW=>aS (λt=>i _ ?_) λt=>aS (λX=>i _ ?_) λX=>aS (λu=>i _ ?_) λu=>i _ ?_
  ·rw[show fN p a=ao from cc O];rfl
  ·rw[show fN p b=ao from cc O];simp
  ·rw[show fN p a=ao from cc O];rfl
  ·rw[show fN p b=ao from cc O];simp
  rw[show fN p a=I from cj O,show fN p b=I from cj O];simp
 subst H;unfold l5;by_cases l:cS p=I
 ·rw[l];have M:=AQ l;cases W:fN p a with
  |false=>exact cB (aJ rfl)
  |true=>
   cases X:fN p b with
   |false=>exact cB (aJ rfl)
   |true=>
    cases N:ak (a=b) with
    |true=>exact cB (aJ rfl)
    |false=>
     have m:=NG.trans (QL l (a:=a) (b:=b));have k: ∀c,c<ky p->((lC (b2 p.aq) p a c/\(mT (b2 p.aq) p b c\/lC (b2 p.aq) p b c))\/(lC (b2 p.aq) p b c/\mT (b2 p.aq) p a c))->vn p a b=ao:=λc o h=>by
      cases K:vn p a b with
      |false=>rfl
      |true=>
       have:=m.1 K c o;rcases h with h|h
       ·exact bu h this.1
       exact bu h this.2
     refine cx (dh (DJ C l a I) λq ⟨P,F⟩=>dh (DJ C l b I) λr ⟨S,G⟩=>bU (λz=>z=vn p a b) (λj i=>?_) λz H=>aJ H);refine ah (Ld O O O) (dM (λh=>?_) λh=>i _ ?_)
     ·have v: ∀c,c∈q->c∈r->False:=λc e d=>by
       have:q.any (λc=>decide (c∈r))=I:=kA.2 ⟨c,e,cj d⟩;rw[this] at h;cases h
      refine dh (DJ C l b ao) λL ⟨T,f⟩=>ah (Ld O O O) (dM (λh=>?_) λh=>i _ ?_)
      ·have E: ∀c,c∈q->c∈L->False:=λc e d=>by
        have:q.any (λc=>decide (c∈L))=I:=kA.2 ⟨c,e,cj d⟩;rw[this] at h;cases h
       refine dh (DJ C l a ao) λw ⟨l10,x⟩=>ah (Ld O O O) (i _ ?_);cases Q:r.any (λc=>decide (c∈w)) with
       |true=>
        obtain⟨c,e,d⟩:=kA.1 Q;obtain⟨g,y,A⟩:=(G c).1 e;obtain⟨_,_,B⟩:=(x c).1 (gu d);exact(k c.toNat y (.inr ⟨A,B⟩)).symm
       |false=>
        refine(m.2 λc o=>⟨?_,?_⟩).symm
        ·rintro⟨e,d|d⟩
         ·exact E (c:Int) ((F _).2 ⟨O,o,e⟩) ((f _).2 ⟨O,o,d⟩)
         exact v (c:Int) ((F _).2 ⟨O,o,e⟩) ((G _).2 ⟨O,o,d⟩)
        rintro⟨e,d⟩
        have:r.any (λc=>decide (c∈w))=I:=kA.2 ⟨(c:Int),(G _).2 ⟨O,o,e⟩,cj ((x _).2 ⟨O,o,d⟩)⟩;rw[this] at Q;cases Q
      have R:q.any (λc=>decide (c∈L))=I:=by simpa using h
      obtain⟨c,e,d⟩:=kA.1 R;obtain⟨g,y,A⟩:=(F c).1 e;obtain⟨_,_,B⟩:=(f c).1 (gu d);exact(k c.toNat y (.inl ⟨A,.inl B⟩)).symm
     have R:q.any (λc=>decide (c∈r))=I:=by simpa using h
     obtain⟨c,e,d⟩:=kA.1 R;obtain⟨g,y,A⟩:=(F c).1 e;obtain⟨_,_,B⟩:=(G c).1 (gu d);exact(k c.toNat y (.inl ⟨A,.inr B⟩)).symm
 rw[show cS p=ao by simpa using l];exact cB (aJ rfl)
def nX{k:Type}(l:List k)(i:Nat)(a b:k):List k:=l.take i++b::a::l.drop (i+2)
theorem LZ{k:Type}{l:List k}{a b:k}(c:l[i]? =Y a)(d:l[i+1]? =Y b):l=l.take i++a::b::l.drop (i+2):=by have e:l.drop i=a::l.drop (i+1):=nz c;have h:l.drop (i+1)=b::l.drop (i+2):=nz d;rw[<-h,<-e,zy]
noncomputable def qZ(p:bx)(a:Int):bx×Bool:=
 if l5 p a (a+1)=I then
  (match aC p.aq a,aC p.aq (a+1) with
  |some c,Y d=>(⟨p.a7,nX p.aq a.toNat c d⟩,I)
  |_,_=>fO)
 else fO
theorem yM{b:Int}(h:l5 p a b=I):cS p=I/\(0<=a/\a<(U p.aq:Int))/\(0<=b/\b<(U p.aq:Int))/\Gs p a b:=by unfold l5 at h;simp only[cJ] at h;exact⟨h.1,gu h.2.1,gu h.2.2.1,NG.1 h.2.2.2.2⟩
theorem NH(h:l5 p a (a+1)=I): ∃(i:Nat) (c d:cq),a=i/\p.aq[i]? =Y c/\p.aq[i+1]? =Y d/\i+1<U p.aq:=by
 obtain⟨e,k,l,_⟩:=yM h;obtain⟨i,rfl⟩: ∃i:Nat,a=i:=⟨a.toNat,O⟩
 exact⟨i,_,_,rfl,bO O,bO O,O⟩
theorem Og(h:l5 p (i:Int) ((i:Int)+1)=I)(a:p.aq[i]? =Y x)(c:p.aq[i+1]? =Y P):qZ p (i:Int)=(⟨p.a7,nX p.aq i x P⟩,I):=by unfold qZ;rw[bk h,bF a,show((i:Int)+1)=((i+1:Nat):Int) by omega,bF c];rfl
theorem aeH{k:Type}{l:List k}{a b:k}(c:l[i]? =Y a)(d:l[i+1]? =Y b){x:k}:x∈nX l i a b↔x∈l:=by
 conv=>rhs;rw[LZ c d]
 unfold nX
 grind
theorem aeI{k:Type}{l:List k}{a b:k}(h:i+1<U l):U (nX l i a b)=U l:=by
 unfold nX
 grind
theorem aeG{k:Type}{l:List k}{a b:k}(e:l[i]? =Y a)(c:l[i+1]? =Y b):(l.set i b).set (i+1) a=nX l i a b:=by
 have aO:=(cI.1 c).1;have d:U (l.take i)=i:=by rw[dW];omega
 conv=>lhs;rw[LZ e c]
 rw[p6 _ _ O,d,pq,Dc,p6 _ _ O,d,show i+1-i=1 by omega];rfl
theorem Oh(a:cS p=I){s:cq}(d:p.aq[i]? =Y P)(c:p.aq[i+1]? =Y s):cS ⟨p.a7,nX p.aq i P s⟩=I:=by
 have aO:=(cI.1 c).1;unfold cS lL at a⊢;simp only[cJ,decide_eq_true_eq,hP] at a⊢;obtain⟨⟨aW,a2,a3⟩,a4⟩:=a;refine⟨⟨aW,by rw[aeI aO];exact a2,λx h=>a3 x ((aeH d c).1 h)⟩,?_⟩;have e:=LZ d c
 have:(p.aq.map d7).sum=((nX p.aq i P s).map d7).sum:=by
  conv=>lhs;rw[e]
  unfold nX
  grind
 grind
theorem Uk(a:cS p=I)(c:p.aq[i]? =Y x)(d:p.aq[i+1]? =Y P):eo 1000 ⟨p.a7,nX p.aq i x P⟩:=(ob (Oh a c d)).mono O
theorem amf(m:7100<=n)(o:eo 1000 p)(w: -1<=a/\a<=9):C1 n p a=Y (qZ p a):=by
 unfold C1;rw[bt (n:=a+1) O];refine bR (bU (λz=>z= !l5 p a (a+1)) (λj e=>?_) λz q=>?_)
 ·refine aS (λh=>e _ ?_) λh=>aS (λd=>e _ ?_) λd=>ah (agI m o.sm a (a+1)) (e _ rfl)
  ·cases c:l5 p a (a+1) with
   |false=>rfl
   |true=>have:=yM c;omega
  cases c:l5 p a (a+1) with
  |false=>rfl
  |true=>have:=yM c;omega
 subst q;cases c:l5 p a (a+1) with
 |false=>
  refine cB (aJ ?_);unfold qZ;rw[bh (by rw[c];simp)];rfl
 |true=>
  refine cx ?_;obtain⟨i,x,l,rfl,k,d,y⟩:=NH c;rw[Og c k d,show((i:Int)+1)=((i+1:Nat):Int) by omega];refine ah (wj O (yM c).1) (ah (bF d) (ah (bF k) (ah (eS O _) ?_)));rw[eb];have r:(p.aq.set i l)[i+1]? =Y l:=by rw[oK O];exact d
  refine ah (bF r) (ah (eS (by rw[gH];omega) _) (aJ ?_));rw[eb,aeG k d]
theorem am6(m:7100<=n)(e:eo 1000 p)(q: -1<=a/\a<=9):CW n p a=Y (qZ p a):=by
 unfold CW;rw[bt (n:=a+1) O];refine bR (ah (nD O e) (ah (agi m e.sm a (a+1)) ?_));cases h:l5 p a (a+1) with
 |false=>
  refine cB (aJ ?_);unfold qZ;rw[bh (by rw[h];simp)];rfl
 |true=>
  refine cx ?_;obtain⟨i,k,l,rfl,c,d,r⟩:=NH h;have b0:=(yM h).1;have o:=e.2.1;rw[Og h c d,show((i:Int)+1)=((i+1:Nat):Int) by omega];refine ah (bF d) (ah (bF c) (ah (x:=(⟨p.a7,nX p.aq i k l⟩,I)) (bR ?_) (aJ rfl)));unfold lz;refine ah (qy O e) (ah (g' O O O) ?_);rw[eb,show(0:Int).toNat=0 from rfl,sf];refine ah (x:=p.aq.take i) (dO bV) (ah (x:=p.aq.take i++[l,k]) (dO bV) ?_);rw[bt O];refine ah (g' O O O) ?_;rw[eb,eB,show((i:Int)+2).toNat=i+2 by omega];refine ah (x:=nX p.aq i k l) ?_ (ah (mH O (Uk b0 c d).sm) ?_)
  ·rw[dO bV,hM];rfl
  rw[Oh b0 c d];exact cx (ah (qy O (Uk b0 c d)) (aJ rfl))
theorem Vf{p:bx}(d:cS p=I){x:dz}(k:iN p x): ∀{a:List dz} {m:bo},(∀y∈a,iN p y)->(∀y∈a,Br p x y)->vm p.a7 m->t6 p (kN p m x) a=kN p (t6 p m a) x
 | [],m,_,_,_=>rfl
 |y::a,m,e,h,i=>by show t6 p (kN p (kN p m x) y) a=kN p (t6 p (kN p m y) a) x;rw[h y fi m i];exact Vf d k (λz c=>e z (eT _ c)) (λz c=>h z (eT _ c)) (TU d i (e y fi))
theorem block{p:bx}(c:cS p=I): ∀{X a:List dz} {m:bo},(∀x∈X,iN p x)->(∀y∈a,iN p y)->(∀x∈X,∀y∈a,Br p x y)->vm p.a7 m->t6 p (t6 p m X) a=t6 p (t6 p m a) X
 | [],a,m,_,_,_,_=>rfl
 |x::X,a,m,d,h,i,k=>by show t6 p (t6 p (kN p m x) X) a=t6 p (kN p (t6 p m a) x) X;rw[block c (λz e=>d z (eT _ e)) h (λz e=>i z (eT _ e)) (TU c k (d x fi)),Vf c (d x fi) h (i x fi) k]
def qt(a b:b4):Bool:=q9 a.bD b.bD&&q9 a.aO b.aO
def sB(a b:List b4):Bool:=m' qt a b
theorem aaO(d:5000<=n){a b:List b4}(c:sE a):wv n a b=Y (sB a b):=by unfold wv m9;refine bR (ah (KJ (p:=qt) (f:=λk l=>y' n k l) (λx h y _=>?_) (by have:=c.1;omega) (by have:=c.1;omega)) (aJ rfl));unfold y' qt;refine bR (bU (λz=>z=(q9 x.bD y.bD&&q9 x.aO y.aO)) (λj i=>ah (PN d (c.2 x h).1) (dM (λe=>ah (PN d (c.2 x h).2) (i _ (by rw[e];rfl))) λe=>i _ (by rw[e];rfl))) λz m=>aJ m)
theorem aaA(m:5000<=n){a b:List b4}(o:sE a):DL n a b=Y (sB a b):=by
 unfold DL sB;have dm:=o.1;refine bR (fu (λh=>aJ ?_) λh=>?_)
 ·cases c:m' qt a b with
  |false=>rfl
  |true=>exact bu (by rw[Kr c]) h
 refine cK (λx:Int=> ∃i:Nat,x=i/\i<=U a/\m' qt (a.drop i) (b.drop i)=m' qt a b) (λx=>U a-x.toNat) ?_ n 0 ⟨0,rfl,O,rfl⟩ O;rintro k x ⟨i,rfl,L,c⟩ B;refine aS (λC=>?_) λF=>aJ ?_
 ·have q:i<U a:=O
  have r:i<U b:=O
  have d:=bO q;have l:=bO r;have w:=o.2 _ (ca d);rw[lM q,lM r] at c;simp only[m'] at c;refine bU (λz=>z= !qt a[i] b[i]) (λj y=>?_) λz G=>?_
  ·refine ah (bF d) (ah (bF l) (ah (PK m w.1) (dM (λe=>y _ ?_) λe=>ah (PK m w.2) (y _ ?_))))
   ·unfold qt;rw[wg e];rfl
   unfold qt;rw[tW e];rfl
  subst G;cases A:qt a[i] b[i] with
  |false=>rw[A] at c;exact cB (aJ c)
  |true=>
   rw[A,ic] at c;refine cx ?_;rw[bt O];exact B _ ⟨i+1,O,O,c⟩ O
 have H:a.drop i=[]:=mX O;have K:b.drop i=[]:=mX O;rw[H,K] at c;exact c
def kl:bo->bo->Bool
 |a::as,b::c=>if a=b then kl as c else ak (a<b)
 | [],_::_=>I
 |_,[]=>ao
theorem Sz{p:bo}(C:U p<n)(F:U p<=1000)(G:U q<=1000):zT n p q=Y (kl p q):=by
 unfold zT;refine bR (cK (λx:Int=> ∃i:Nat,x=i/\i<=U p/\i<=U q/\kl (p.drop i) (q.drop i)=kl p q) (λx=>U p-x.toNat) ?_ n 0 ⟨0,rfl,O,O,rfl⟩ O);rintro c x ⟨i,rfl,H,K,a⟩ o;refine bU (λz=>z=ak (i<U p/\i<U q)) (λj m=>aS (λh=>m _ ?_) λh=>m _ ?_) λz r=>?_
 ·rw[jk];simp only[decide_eq_true_eq];omega
 ·exact(cc O).symm
 subst r;refine aS (λh=>?_) λh=>aJ ?_
 ·have d:=bO h.1;have k:=bO h.2;rw[lM h.1,lM h.2] at a;simp only[kl] at a;refine ah (bF d) (ah (bF k) (fu (λl=>aJ ?_) λw=>?_))
  ·rw[bh l] at a;exact a
  rw[bk w] at a;rw[bt O];exact o _ ⟨i+1,O,O,O,a⟩ O
 rw[<-a];by_cases e:i<U p
 ·have y:q.drop i=[]:=mX O;rw[y,lM e];simp only[kl]
  grind
 have A:p.drop i=[]:=mX O;rw[A];by_cases B:i<U q
 ·rw[lM B];simp only[kl]
  grind
 rw[mX (O:U q<=i)];simp only[kl]
 grind
theorem adS(n:Nat)(x y:Int):G2 n x y=Y (if x<y then-1 else if y<x then 1 else 0):=by
 unfold G2 Hn
 grind
theorem agK{p:bo}(G:U p<n)(H:U p<=1000)(K:U q<=1000):Es n p q=Y (kl p q):=by
 unfold Es OO;refine bR (dh (P:=λc:Int=>decide (c<0)=kl p q) ?_ λc z=>aJ z);refine cK (λx:Int=> ∃i:Nat,x=i/\i<=U p/\i<=U q/\kl (p.drop i) (q.drop i)=kl p q) (λx=>U p-x.toNat) ?_ n 0 ⟨0,rfl,O,O,rfl⟩ O;rintro d x ⟨i,rfl,L,Q,a⟩ A;refine aS (λB=>?_) λC=>?_
 ·have e:i<U p:=O
  have k:=bO e;refine ah (bF k) (aS (λh=>aJ ?_) λh=>?_)
  ·rw[<-a,mX (O:U q<=i),lM e];simp[kl]
  have r:i<U q:=O
  have l:=bO r;rw[lM e,lM r] at a;simp only[kl] at a;refine ah (bF l) (ah (adS n _ _) ?_);by_cases w:p[i]<q[i]
  ·rw[bk w];refine fu (λ_=>aJ ?_) (λm=>bu m O)
   grind
  rw[bh w];by_cases y:q[i]<p[i]
  ·rw[bk y];refine fu (λ_=>aJ ?_) (λm=>bu m O)
   grind
  rw[bh y];refine fu (λo=>bu rfl o) λ_=>?_;rw[bk O] at a;rw[bt O];exact A _ ⟨i+1,O,O,O,a⟩ O
 have F:p.drop i=[]:=mX O;rw[F] at a;refine aS (λh=>aJ ?_) λh=>aJ ?_
 ·rw[<-a,lM (O:i<U q)];rfl
 rw[<-a,mX (O:U q<=i)];rfl
def nm(p:bx)(i many:Nat)(a:List cq):bx:=⟨p.a7,p.aq.take i++a++p.aq.drop (i+many)⟩
theorem Fx(a:eo 900 p)(k:U ys<=4)(d: ∀y∈ys,hR 1000 y):eo 1000 (nm p i many ys):=by
 have e:=a.2.1;refine⟨(a.mono (O:900<=1000)).1,?_,λx c=>?_⟩
 ·show(U (p.aq.take i++ys++p.aq.drop (i+many)))<=1000
  grind
 have c:x∈p.aq.take i++ys++p.aq.drop (i+many):=c;simp only[List.mem_append] at c;rcases c with (h|h)|h
 ·exact(a.mono (O:900<=1000)).2.2 x (hi h)
 ·exact d x h
 exact(a.mono (O:900<=1000)).2.2 x (hl h)
theorem KB(e:7000<=n)(a:eo 900 p)(o:i+many<=U p.aq)(k:U ys<=4)(l: ∀y∈ys,hR 1000 y):lz n p (i:Int) (many:Int) ys=Y (j6 (nm p i many ys)):=by
 have m:=a.2.1;have c:=a.mono (O:900<=1000);have d:=Fx a (i:=i) (many:=many) k l;unfold lz j6;refine bR (ah (qy O c) (ah (g' O O O) ?_));rw[eb,show(0:Int).toNat=0 from rfl,sf];refine ah (x:=p.aq.take i) (dO bV) (ah (x:=p.aq.take i++ys) (dO bV) ?_);rw[bt O];refine ah (g' O O O) ?_;rw[eb,eB,show((i:Int)+(many:Int)).toNat=i+many by omega];refine ah (x:=(nm p i many ys).aq) ?_ ?_;rotate_left;show cG (ad (nu n (nm p i many ys)) _) _;refine(ah (mH e d.sm) (dM (λh=>aJ ?_) λh=>?_))
 ·rw[bh (by simpa using h)]
 ·rw[bk (by simpa using h)];exact ah (qy O d) (aJ rfl)
 rw[dO bV];rfl
def pH(p:bx)(c:Int)(d:hr):Bool:=match (b2 p.aq)[d.gi.toNat]?,(b2 p.aq)[d.gj.toNat]? with
 |some a,Y b=>decide (a.cf=c)&&(ak (b.cf=c+1)&&kl b.dS a.dS)
 |_,_=>ao
def vh(a c:cq):cq:=⟨a.a6,a.a'++c.a'⟩
abbrev qs(p:bx):List hr:=iA p (b2 p.aq) (U (b2 p.aq))
def Mu(p:bx)(a:Int)(c d:cq):Bool:=sB c.a6 d.a6&& !(qs p).any (pH p a)
def tf(p:bx)(a:Int):bx×Bool:=
 if cS p=I/\fN p a=I then
  (match aC p.aq a,aC p.aq (a+1) with
  |some c,Y d=>if Mu p a c d=I then j6 (nm p a.toNat 2 [vh c d]) else fO
  |_,_=>fO)
 else fO
theorem FF(c:cS p=I){d:hr}(i:d∈qs p): ∃(s t:Nat) (a b:dz),d.gi=s/\d.gj=t/\(b2 p.aq)[s]? =Y a/\(b2 p.aq)[t]? =Y b/\s<t/\(U a.dS)<=4/\(U b.dS)<=4:=by obtain⟨s,t,k,l,_,rfl⟩:=Tl.1 i;have e:=bO (O:s<U (b2 p.aq));have h:=bO l;exact⟨s,t,_,_,rfl,rfl,e,h,k,WN c (kJ (ca e)),WN c (kJ (ca h))⟩
theorem Ew(c:cS p=I):U (qs p)<=14400:=by
 have d:=z8 p (b2 p.aq) (U (b2 p.aq));have a:=(gf c).2.2.2.2;have e:U (b2 p.aq)*U (b2 p.aq)<=120*120:=p8 a a
 grind
theorem EB(m:7000<=n)(i:eo 1000 p)(a:Int):l8 n p a (-1)=Y (if cS p=I/\fN p a=I then(p,I) else fO):=by
 unfold l8;refine bR (bU (λz=>z= !(cS p&&fN p a)) (λj d=>?_) λz o=>?_)
 ·refine ah (vy m i.sm) (dM (λh=>d _ (by rw[wg h];rfl)) λh=>?_);have b0:=tW h;refine ah (tI n i.2.1 a) (dM (λe=>d _ ?_) λe=>fu (λh=>(h rfl).elim) λ_=>d _ ?_)
  ·rw[b0,show fN p a=ao from wg e];rfl
  rw[b0,show fN p a=I from tW e];rfl
 subst o;refine dM (λh=>aJ ?_) λh=>?_
 ·have:=wg h;rw[bh λk=>by rw[k.1,k.2] at this;cases this];rfl
 have:=tW h;simp only[cJ] at this;obtain⟨b0,l⟩:=this;rw[bk ⟨b0,l⟩];have c:0<=a/\a<(U p.aq:Int):=gu l;obtain⟨x,q,_⟩:=hE c.1 c.2;exact ah (wj O b0) (ah q (aJ rfl))
theorem ahT{s:List cq}{j:Nat}(a:i<j)(c:j<=U s): ∃r,yV n s (i:Int) (j:Int)=Y r/\r.2.take r.1=s.take i++s.drop j:=by
 refine⟨(gq s i j,lX s i j (cV [] [])),?_,?_⟩
 ·unfold yV
  grind
 dsimp only;have d:U (s.take (i:Int).toNat++s.drop (j:Int).toNat)=gq s i j:=by
  unfold gq
  grind
 unfold lX
 grind
theorem S9(c:cS p=I)(d:x∈p.aq)(e:P∈p.aq):hR 1000 (vh x P):=by
 obtain⟨_,_,a⟩:=ob c;obtain⟨aW,a2,a3⟩:=a x d;obtain⟨l,m,i⟩:=a P e;refine⟨aW.mono O,?_,λs k=>?_⟩
 ·show(U (x.a'++P.a'))<=1000
  grind
 rcases fy.1 (show s∈x.a'++P.a' from k) with h|h
 ·exact(a3 s h).mono O
 exact(i s h).mono O
theorem al'(dc:20000<=n)(K:eo 1000 p)(br: -1<=c/\c<=9):C4 n p c=Y (tf p c):=by
 unfold C4 tf;refine bR (ah (EB O K c) ?_);by_cases B:cS p=I/\fN p c=I
 ·rw[bk B,bk B];obtain⟨o,aO⟩:=B;have vG:0<=c/\c<(U p.aq:Int):=gu aO;obtain⟨i,rfl⟩: ∃i:Nat,c=i:=⟨c.toNat,O⟩
  have e:=bO (O:i<U p.aq);have L:=bF e;generalize akf:p.aq[i]=l at L e;have BQ:=(gf o).2.2.1;refine cB (ah L ?_);rw[bt (n:=(i:Int)+1) O,bt (n:=(i:Int)+2) O,L];by_cases C:i+1<U p.aq
  ·have w:=bO C;generalize akg:p.aq[i+1]=m at w;have Q:aC p.aq ((i:Int)+1)=Y m:=bF w;have m1:=ca e;have E:=ca w;rw[Q];dsimp only;refine bU (λz=>z= !sB l.a6 m.a6) (λj q=>aS (λh=>bu h O) λ_=>ah rfl (ah (aaO O (K.sm.2.2 l m1).1) (q _ rfl))) λz F=>?_;subst F;unfold Mu;cases hne:sB l.a6 m.a6 with
   |false=>exact cB (aJ rfl)
   |true=>
    refine cx (ah (Ds O K.sm) ?_);rw[bk o];refine cB (ah (Km O o) ?_);have R:=Ew o;have W: ∀d∈qs p,d∈qs p:=λ_ h=>h;show cG (bH _ n 0) _;rw[ic];generalize M:qs p=A at R W;rw[show iA p (b2 p.aq) (U (b2 p.aq))=A from M];refine cK (λx:Int=> ∃k:Nat,x=k/\k<=U A/\(A.take k).any (pH p (i:Int))=ao) (λx=>U A-x.toNat) ?_ n 0 ⟨0,rfl,O,rfl⟩ O;rintro X x ⟨k,rfl,hk,f⟩ cC;refine aS (λhlt=>?_) λjt=>?_
    ·have cN:=bO (O:k<U A);generalize M':A[k]=d at cN;obtain⟨s,t,a,b,N,P,S,T,rH,NN,NR⟩:=FF o (M▸ca cN);refine ah (bF cN) (ah (x:=a) (by rw[N];exact bF S) (ah (x:=b) (by rw[P];exact bF T) ?_));have G:pH p (i:Int) d=(ak (a.cf=(i:Int))&&(ak (b.cf=(i:Int)+1)&&kl b.dS a.dS)):=by
      unfold pH;rw[N,P,Int.toNat_natCast,Int.toNat_natCast,S,T]
     refine bU (λz=>z=pH p (i:Int) d) (λj q=>?_) λz F=>?_
     ·rw[G] at q;refine aS (λH=>aS (λC=>ah (agK O O O) (q _ ?_)) λC=>q _ ?_) λH=>q _ ?_
      ·rw[cj H,cj C];rfl
      ·rw[cj H,cc C];rfl
      rw[cc H];rfl
     subst F;refine dM (λh=>aJ ?_) λh=>?_
     ·rw[bh]; · rfl
      have:A.any (pH p (i:Int))=I:=kA.2 ⟨d,ca cN,h⟩;rw[this];simp
     rw[bt O];exact cC _ ⟨k+1,O,O,by rw[iI cN,wP,f];simp[h]⟩ O
    rw[lO O] at f;rw[f,bk (by rfl)];have dR:=Fx (i:=i) (many:=2) (ys:=[vh l m]) ((ob o).mono (O:4<=900)) aZ λy V=>by rw[q1] at V;subst V;exact S9 o m1 E
    obtain⟨_,_,h3⟩:=ob o;have dQ:=(h3 l m1).2.1;have dG:=(h3 m E).2.1;obtain⟨r,g,u⟩:=ahT (n:=n) (s:=p.aq.set i (vh l m)) (i:=i+1) (j:=i+2) O (by rw[gH];omega);refine ah rfl (ah (x:=l.a'++m.a') (dO O) (ah (x:=p.aq.set i (vh l m)) (eS O _) (ah (x:=r) g ?_)));have v:(⟨p.a7,r.2.take r.1⟩:bx)=nm p i 2 [vh l m]:=by
     unfold nm;rw[u];congr 1;rw[List.take_set,sl O,fs,e,p6 _ _ (by rw[dW];omega)]
     have:i-U (p.aq.take i)=0:=by rw[dW];omega
     rw[this];rfl
    rw[v,eb];exact ah (tP O dR) (aJ rfl)
  have Q:aC p.aq ((i:Int)+1)=al:=Ba O;rw[Q];refine bU (λz=>z=I) (λj q=>aS (λ_=>q _ rfl) λh=>bu (show(U p.aq:Int)<=(i:Int)+1 by omega) h) λz F=>?_;rw[F];exact cB (aJ rfl)
 rw[bh B,bh B];exact cx (aJ rfl)
theorem am0(dc:20000<=n)(A:eo 1000 p)(br: -1<=c/\c<=9):CX n p c=Y (tf p c):=by
 unfold CX tf;refine bR (ah (nD O A) ?_);by_cases G:cS p=I/\fN p c=I
 ·rw[bk G];obtain⟨e,X⟩:=G;have T:0<=c/\c<(U p.aq:Int):=gu X;obtain⟨i,rfl⟩: ∃i:Nat,c=i:=⟨c.toNat,O⟩
  have m:=bO (O:i<U p.aq);have f:=bF m;generalize V:p.aq[i]=o at f m;have K:=(gf e).2.2.1;rw[bt (n:=(i:Int)+1) O,bt (n:=(U p.aq:Int)-1) O,f];by_cases C:i+1<U p.aq
  ·have q:=bO C;generalize akg:p.aq[i+1]=B at q;have L:aC p.aq ((i:Int)+1)=Y B:=bF q;have m1:=ca m;have g:=ca q;rw[L];dsimp only;refine bU (λz=>z= !sB o.a6 B.a6) (λj l=>ah (mH O A.sm) ?_) λz r=>?_
   ·rw[e];refine cx (aS (λh=>bu h O) λ_=>aS (λh=>bu h O) λ_=>ah rfl (ah rfl (ah (aaA O (A.sm.2.2 o m1).1) (l _ rfl))))
   subst r;unfold Mu;cases hne:sB o.a6 B.a6 with
   |false=>exact cB (aJ rfl)
   |true=>
    refine cx (ah (yQ O e) (ah (Ku O e) ?_));have Q:=Ew e;rw[ic];generalize u:qs p=w at Q;rw[show iA p (b2 p.aq) (U (b2 p.aq))=w from u];refine cK (λx:Int=> ∃k:Nat,x=k/\k<=U w/\(w.take k).any (pH p (i:Int))=ao) (λx=>U w-x.toNat) ?_ n 0 ⟨0,rfl,O,rfl⟩ O;rintro R x ⟨k,rfl,hk,W⟩ cC;refine aS (λhlt=>?_) λjt=>?_
    ·have cN:=bO (O:k<U w);generalize M':w[k]=d at cN;obtain⟨s,t,a,b,v,E,M,N,rH,NN,NR⟩:=FF e (u▸ca cN);refine ah (bF cN) (ah (x:=a) (by rw[v];exact bF M) (ah (x:=b) (by rw[E];exact bF N) ?_));have F:pH p (i:Int) d=(ak (a.cf=(i:Int))&&(ak (b.cf=(i:Int)+1)&&kl b.dS a.dS)):=by
      unfold pH;rw[v,E,Int.toNat_natCast,Int.toNat_natCast,M,N]
     refine bU (λz=>z=pH p (i:Int) d) (λj l=>?_) λz r=>?_
     ·rw[F] at l;refine aS (λH=>aS (λC=>ah (Sz O O O) (l _ ?_)) λC=>l _ ?_) λH=>l _ ?_
      ·rw[cj H,cj C];rfl
      ·rw[cj H,cc C];rfl
      rw[cc H];rfl
     subst r;refine dM (λh=>aJ ?_) λh=>?_
     ·rw[bh]; · rfl
      have:w.any (pH p (i:Int))=I:=kA.2 ⟨d,ca cN,h⟩;rw[this];simp
     rw[bt O];exact cC _ ⟨k+1,O,O,by rw[iI cN,wP,W];simp[h]⟩ O
    rw[lO O] at W;rw[W,bk (by rfl)];obtain⟨_,_,P⟩:=ob e;have dQ:=(P o m1).2.1;have dG:=(P B g).2.1;refine ah rfl (ah (x:=o.a') (dO bV) (ah rfl (ah (x:=o.a'++B.a') (dO O) ?_)));have hw:=KB (n:=n) O ((ob e).mono (O:4<=900)) (i:=i) (many:=2) O (ys:=[vh o B]) aZ λy S=>by rw[q1] at S;subst S;exact S9 e m1 g
    rw[eb];exact ah hw (aJ rfl)
  have L:aC p.aq ((i:Int)+1)=al:=Ba O;rw[L];refine bU (λz=>z=I) (λj l=>ah (mH O A.sm) ?_) λz r=>?_
  ·rw[e]
   grind
  rw[r];exact cB (aJ rfl)
 rw[bh G];refine bU (λz=>z=I) (λj l=>ah (mH O A.sm) ?_) λz r=>by rw[r];exact cB (aJ rfl)
 by_cases e:cS p=I
 ·have X: ¬(0<=c/\c<(U p.aq:Int)):=λh=>G ⟨e,cj h⟩;rw[e];have K:=A.2.1;rw[bt (n:=(U p.aq:Int)-1) O]
  grind
 rw[show cS p=ao by simpa using e]
 grind
def pI(p:bx)(c k:Int)(d:hr):Bool:=match (b2 p.aq)[d.gi.toNat]?,(b2 p.aq)[d.gj.toNat]? with
 |some a,Y b=>decide (a.cf=c)&&(ak (b.cf=c)&&(ak (k<=a.stmt)&&ak (b.stmt<k)))
 |_,_=>ao
def Mk(p:bx)(a k:Int)(P:cq):Bool:=ak (1<=k/\k<(U P.a':Int))&& !(qs p).any (pI p a k)
def qn(P:cq)(k:Nat):cq:=⟨P.a6,P.a'.take k⟩
def vg(P:cq)(k:Nat):cq:=⟨P.a6,P.a'.drop k⟩
def s9(p:bx)(a k:Int):bx×Bool:=
 if cS p=I/\fN p a=I then
  (match aC p.aq a with
  |some P=>if Mk p a k P=I then j6 (nm p a.toNat 1 [qn P k.toNat,vg P k.toNat]) else fO
  |none=>fO)
 else fO
theorem TD(d:cS p=I)(e:P∈p.aq)(k:Nat): ∀y∈[qn P k,vg P k],hR 1000 y:=by
 obtain⟨_,_,h⟩:=ob d;obtain⟨aW,a2,a3⟩:=h P e;intro y c;simp only[List.mem_cons,List.not_mem_nil,or_false] at c;rcases c with rfl|rfl
 ·refine⟨aW.mono O,?_,λs a=>(a3 s (hi a)).mono O⟩;show(U (P.a'.take k))<=1000
  grind
 refine⟨aW.mono O,?_,λs a=>(a3 s (hl a)).mono O⟩;show(U (P.a'.drop k))<=1000
 grind
theorem TM{s:List cq}{v:List cq}(a:i<=U s)(c:U s+U v<=1000000000):yT n s (i:Int) v=Y (s.take i++v++s.drop i):=by unfold yT;rw[cj (show(0:Int)<=(i:Int) by omega),cj (show(i:Int)<=(U s:Int) by omega),cond_true,cond_true,eb];exact dO (by simp only[fH,mv,nT];omega)
theorem al9(dc:20000<=n)(g:eo 1000 p){k:Int}(br: -1<=c/\c<=9):Cb n p c k=Y (s9 p c k):=by
 unfold Cb s9;refine bR (ah (EB O g c) ?_);by_cases r:cS p=I/\fN p c=I
 ·rw[bk r,bk r];obtain⟨l,V⟩:=r;have vG:0<=c/\c<(U p.aq:Int):=gu V;obtain⟨i,rfl⟩: ∃i:Nat,c=i:=⟨c.toNat,O⟩
  have e:=bO (O:i<U p.aq);have A:=bF e;generalize akf:p.aq[i]=P at A e;have BQ:=(gf l).2.2.1;have m1:=ca e;have w:=(gf l).2.2.2.1 P m1;obtain⟨B,C⟩:=kq w;obtain⟨_,GI,M6,_⟩:=ix w;refine cB (ah A ?_);rw[bt (n:=(i:Int)+1) O,bt (n:=(U P.a':Int)-1) O,A];dsimp only;refine bU (λz=>z= !decide (1<=k/\k<(U P.a':Int))) (λj v=>ah (k3 n k 1 _) (v _ ?_)) λz F=>?_
  ·congr 1
   grind
  subst F;unfold Mk;cases G:ak (1<=k/\k<(U P.a':Int)) with
  |false=>exact cB (aJ rfl)
  |true=>
   have hk:=gu G;obtain⟨t,rfl⟩: ∃t:Nat,k=t:=⟨k.toNat,O⟩
   refine cx (ah (Ds O g.sm) ?_);rw[bk l];refine cB (ah (Km O l) ?_);have H:=Ew l;show cG (bH _ n 0) _;rw[ic];generalize E:qs p=m at H;rw[show iA p (b2 p.aq) (U (b2 p.aq))=m from E];refine cK (λx:Int=> ∃j:Nat,x=j/\j<=U m/\(m.take j).any (pI p (i:Int) (t:Int))=ao) (λx=>U m-x.toNat) ?_ n 0 ⟨0,rfl,O,rfl⟩ O;rintro K x ⟨j,rfl,v,L⟩ cC;refine aS (λhlt=>?_) λjt=>?_
   ·have cN:=bO (O:j<U m);generalize M':m[j]=d at cN;obtain⟨s,u,a,b,M,N,S,T,rH,NN,NR⟩:=FF l (E▸ca cN);refine ah (bF cN) (ah (x:=a) (by rw[M];exact bF S) (ah (x:=b) (by rw[N];exact bF T) ?_));have y:pI p (i:Int) (t:Int) d=(ak (a.cf=(i:Int))&&(ak (b.cf=(i:Int))&&(ak ((t:Int)<=a.stmt)&&ak (b.stmt<(t:Int))))):=by
     unfold pI;rw[M,N,Int.toNat_natCast,Int.toNat_natCast,S,T]
    refine bU (λz=>z=pI p (i:Int) (t:Int) d) (λq o=>?_) λz F=>?_
    ·rw[y] at o;refine aS (λQ=>aS (λR=>aS (λW=>o _ ?_) λW=>o _ ?_) λR=>o _ ?_) λQ=>o _ ?_
     ·rw[cj Q,cj R,cj W];simp
     ·rw[cc W];simp
     ·rw[cc R];simp
     rw[cc Q];rfl
    subst F;refine dM (λh=>aJ ?_) λh=>?_
    ·rw[bh]; · rfl
     have:m.any (pI p (i:Int) (t:Int))=I:=kA.2 ⟨d,ca cN,h⟩;rw[this];simp
    rw[bt O];exact cC _ ⟨j+1,O,O,by rw[iI cN,wP,L];simp[h]⟩ O
   rw[lO O] at L;rw[L,bk (by rfl)];have o:=Fx (i:=i) (many:=1) (ys:=[qn P t,vg P t]) ((ob l).mono (O:4<=900)) aZ (TD l m1 t);refine ah (QN O B C) (ah (g' O O O) ?_);rw[eb,eb,eB];refine ah (x:=P.a'.drop t) ?_ (ah (g' O O O) ?_)
   ·unfold I1
    have:(P.a'.drop t).isEmpty=ao:=by
     cases X:P.a'.drop t with
     |nil=>
      have:=congrArg U X;rw[hY,ho] at this;omega
     |cons=>rfl
    rw[this,cond_false];rw[dO bV];rfl
   rw[eb,show(0:Int).toNat=0 from rfl,sf];refine ah (x:=p.aq.set i (qn P t)) (eS O _) (ah (TM (i:=i+1) (by rw[gH];omega) (by rw[gH];simp;omega)) ?_);have f:(⟨p.a7,(p.aq.set i (qn P t)).take (i+1)++[vg P t]++(p.aq.set i (qn P t)).drop (i+1)⟩:bx)=nm p i 1 [qn P t,vg P t]:=by
    unfold nm;congr 1;rw[List.take_set,sl O,fs,e,p6 _ _ (by rw[dW];omega)]
    have:i-U (p.aq.take i)=0:=by rw[dW];omega
    rw[this];simp
   show cG (ad (oo n (⟨p.a7,(p.aq.set i (qn P t)).take (i+1)++[vg P t]++(p.aq.set i (qn P t)).drop (i+1)⟩:bx)) _) _;rw[f];simp only[Int.toNat_natCast];exact ah (tP O o) (aJ rfl)
 rw[bh r,bh r];exact cx (aJ rfl)
theorem amZ(dc:20000<=n)(A:eo 1000 p){k:Int}(br: -1<=c/\c<=9):B' n p c k=Y (s9 p c k):=by
 unfold B' s9;refine bR (ah (nD O A) ?_);by_cases y:cS p=I/\fN p c=I
 ·rw[bk y];obtain⟨e,R⟩:=y;have N:0<=c/\c<(U p.aq:Int):=gu R;obtain⟨i,rfl⟩: ∃i:Nat,c=i:=⟨c.toNat,O⟩
  have l:=bO (O:i<U p.aq);have W:=bF l;generalize S:p.aq[i]=P at W l;have T:=(gf e).2.2.1;have m1:=ca l;have B:=(gf e).2.2.2.1 P m1;obtain⟨_,V,M6,_⟩:=ix B;rw[W];dsimp only;refine bU (λz=>z= !decide (1<=k/\k<(U P.a':Int))) (λj X=>ah (mH O A.sm) ?_) λz o=>?_
  ·rw[e]
   grind
  subst o;unfold Mk;cases C:ak (1<=k/\k<(U P.a':Int)) with
  |false=>exact cB (aJ rfl)
  |true=>
   have hk:=gu C;obtain⟨t,rfl⟩: ∃t:Nat,k=t:=⟨k.toNat,O⟩
   refine cx (ah (yQ O e) (ah (Ku O e) ?_));have F:=Ew e;rw[ic];generalize f:qs p=m at F;rw[show iA p (b2 p.aq) (U (b2 p.aq))=m from f];refine cK (λx:Int=> ∃j:Nat,x=j/\j<=U m/\(m.take j).any (pI p (i:Int) (t:Int))=ao) (λx=>U m-x.toNat) ?_ n 0 ⟨0,rfl,O,rfl⟩ O;rintro G x ⟨j,rfl,X,H⟩ cC;refine aS (λhlt=>?_) λjt=>?_
   ·have cN:=bO (O:j<U m);generalize M':m[j]=d at cN;obtain⟨s,u,a,b,g,v,E,M,rH,NN,NR⟩:=FF e (f▸ca cN);refine ah (bF cN) (ah (x:=a) (by rw[g];exact bF E) (ah (x:=b) (by rw[v];exact bF M) ?_));have r:pI p (i:Int) (t:Int) d=(ak (a.cf=(i:Int))&&(ak (b.cf=(i:Int))&&(ak ((t:Int)<=a.stmt)&&ak (b.stmt<(t:Int))))):=by
     unfold pI;rw[g,v,Int.toNat_natCast,Int.toNat_natCast,E,M]
    refine bU (λz=>z=pI p (i:Int) (t:Int) d) (λq w=>?_) λz o=>?_
    ·rw[r] at w;refine aS (λK=>aS (λL=>aS (λQ=>w _ ?_) λQ=>w _ ?_) λL=>w _ ?_) λK=>w _ ?_
     ·rw[cj K,cj L,cj Q];simp
     ·rw[cc Q];simp
     ·rw[cc L];simp
     rw[cc K];rfl
    subst o;refine dM (λh=>aJ ?_) λh=>?_
    ·rw[bh]; · rfl
     have:m.any (pI p (i:Int) (t:Int))=I:=kA.2 ⟨d,ca cN,h⟩;rw[this];simp
    rw[bt O];exact cC _ ⟨j+1,O,O,by rw[iI cN,wP,H];simp[h]⟩ O
   rw[lO O] at H;rw[H,bk (by rfl)];refine ah rfl (ah (g' O O O) (ah (g' O O O) ?_));rw[eb,eb,eB,show(0:Int).toNat=0 from rfl,sf,eb];have hw:=KB (n:=n) O ((ob e).mono (O:4<=900)) (i:=i) (many:=1) O (ys:=[qn P t,vg P t]) aZ (TD e m1 t);exact ah hw (aJ rfl)
 rw[bh y];refine bU (λz=>z=I) (λj X=>ah (mH O A.sm) ?_) λz o=>by rw[o];exact cB (aJ rfl)
 by_cases e:cS p=I
 ·have R: ¬(0<=c/\c<(U p.aq:Int)):=λh=>y ⟨e,cj h⟩
  grind
 rw[show cS p=ao by simpa using e]
 grind
def lV(k:Nat)(x:aR):aR:=⟨(x.bg.take k++0::x.bg.drop k).take 4,x.cv⟩
def iu(c:Int):aR:=⟨[0,0,0,0],c⟩
def po(k:Nat)(s c:Int):aR:=⟨[0,0,0,0].set k s,c⟩
theorem TO(k:Nat): ∀x,dy x=I->eF 4 (lV k x):=λx a=>by unfold eF lV;rw[dW];omega
theorem aeJ(l:5000<=n)(m:k<3): ∀x,dy x=I->y2 n x (k:Int)=Y (lV k x):=λx h=>by obtain⟨i,_,_⟩:=h8 h;obtain⟨a,b,c,d,e⟩:=oZ i;unfold y2;rw[Ek n x h];obtain⟨cs,o⟩:=x;dsimp only at e;subst e;rcases(O:k=0\/k=1\/k=2) with rfl|rfl|rfl<;>rfl
theorem YD(m:Nat)(a b c d e:Int)(B:aR)(h:k<3):lA (m+6) ⟨[a,b,c,d],e⟩ 2 (k:Int) B=Y (lV k ⟨[a,b,c,d],e⟩):=by rcases(O:k=0\/k=1\/k=2) with rfl|rfl|rfl<;>rfl
theorem af2(h:k<3)(B:aR): ∀n,5000<=n-> ∀x,dy x=I->lA n x 2 (k:Int) B=Y (lV k x):=λn q x i=>by
 obtain⟨m,rfl⟩: ∃m,n=m+6:=⟨n-6,O⟩
 obtain⟨l,_,_⟩:=h8 i;obtain⟨a,b,c,d,e⟩:=oZ l;obtain⟨cs,o⟩:=x;dsimp only at e;subst e;exact YD m a b c d o B h
def lJ(l:List aR):Bool:=l.all λa=>decide (gQ a.bg=0)
def gp(l:b4):Bool:=ak (U l.bD=1)&&(ak (U l.aO=1)&&(lJ l.bD&&lJ l.aO))
def eA(l:List aR):Int:=(l.headD ⟨[],0⟩).cv
theorem QK(c:5000<=n){l:List aR}(h:U l<=2)(d: ∀x∈l,dy x=I):zW n l=Y (lJ l):=by
 unfold zW;rw[Ck (p:=λa=>decide (0<(gQ a.bg:Int))) (λx e=>by
  unfold IB;rw[DW c (show U x.bg<=1000 by have:=(h8 (d x e)).1;omega)];rfl) O O]
 show Y (!l.any _)=_;congr 1;unfold lJ
 grind
theorem KX(e:5000<=n)(h:mD l):za n l=Y (if gp l=I then(eA l.bD,eA l.aO,I) else(0,0,ao)):=by
 obtain⟨⟨i,k⟩,m,o⟩:=h;unfold za;refine bR (bU (λz=>z= !gp l) (λj a=>?_) λz q=>?_)
 ·refine fu (λh=>a _ ?_) λh=>fu (λr=>a _ ?_) λr=>ah (QK e i k) (dM (λc=>a _ ?_) λc=>ah (QK e m o) (a _ ?_))
  ·unfold gp;rw[cc (show¬U l.bD=1 by omega)];rfl
  ·unfold gp;rw[cc (show¬U l.aO=1 by omega),Bool.false_and,mn];rfl
  ·unfold gp;rw[show lJ l.bD=ao by simpa using c];simp
  unfold gp;rw[show lJ l.bD=I by simpa using c,cj (O:U l.bD=1),cj (O:U l.aO=1)];rfl
 subst q;cases d:gp l with
 |false=>exact cB (aJ rfl)
 |true=>
  refine cx ?_;unfold gp at d;simp only[cJ,decide_eq_true_eq] at d;obtain⟨w,A,_⟩:=d;obtain⟨x,B⟩:=zF.1 w;obtain⟨y,C⟩:=zF.1 A;rw[B,C];exact ah (x:=x) rfl (ah (x:=y) rfl (aJ rfl))
theorem ahK(A:5000<=n)(h:mD l):EJ n l=Y (lJ l.bD&&lJ l.aO):=by
 obtain⟨⟨G,B⟩,H,C⟩:=h;have y: ∀x,dy x=I->qL n x=Y (gQ x.bg:Int):=λx c=>Dn A (show U x.bg<=1000 by have:=(h8 c).1;omega);have d: ∀(l:List aR) (i:Nat) (x:aR),l[i]? =Y x->gQ x.bg=0->lJ (l.take i)=I->lJ (l.take (i+1))=I:=λl i x c o k=>by
  unfold lJ at k⊢;rw[fs,c,List.all_append,k];simp[o]
 have q: ∀(l:List aR) (i:Nat) (x:aR),l[i]? =Y x-> ¬gQ x.bg=0->lJ l=ao:=λl i x c o=>by
  unfold lJ
  grind
 unfold EJ;refine bR (cK (λz:Int=> ∃i:Nat,z=i/\i<=U l.bD/\lJ (l.bD.take i)=I) (λz=>U l.bD-z.toNat) ?_ n _ ⟨0,rfl,O,rfl⟩ O);rintro m z ⟨i,rfl,F,k⟩ r;refine aS (λa=>?_) λw=>?_
 ·have a:i<U l.bD:=O
  have c:=bO a;refine ah (bF c) (ah (y _ (B _ (gd a))) (aS (λo=>aJ ?_) λo=>?_))
  ·rw[q l.bD i _ c O];rfl
  rw[bt O];exact r _ ⟨i+1,O,O,d _ _ _ c O k⟩ O
 have e:i=U l.bD:=O
 subst e;rw[eB] at k;rw[k,ic];refine cK (λz:Int=> ∃i:Nat,z=i/\i<=U l.aO/\lJ (l.aO.take i)=I) (λz=>U l.aO-z.toNat) ?_ n _ ⟨0,rfl,O,rfl⟩ O;rintro m z ⟨i,rfl,F,k⟩ r;refine aS (λa=>?_) λw=>aJ ?_
 ·have a:i<U l.aO:=O
  have c:=bO a;refine ah (bF c) (ah (y _ (C _ (gd a))) (aS (λo=>aJ ?_) λo=>?_))
  ·exact(q l.aO i _ c O).symm
  rw[bt O];exact r _ ⟨i+1,O,O,d _ _ _ c O k⟩ O
 have e:i=U l.aO:=O
 grind
theorem J9(d:5000<=n)(h:mD l):zI n l=Y (if gp l=I then(eA l.bD,eA l.aO,I) else(0,0,ao)):=by
 unfold zI;refine bR (bU (λz=>z= !gp l) (λj a=>?_) λz e=>?_)
 ·refine fu (λi=>a _ ?_) λi=>fu (λk=>a _ ?_) λk=>ah (ahK d h) (a _ ?_)
  ·unfold gp;rw[cc (show¬U l.bD=1 by omega)];rfl
  ·unfold gp;rw[cc (show¬U l.aO=1 by omega),Bool.false_and,mn];rfl
  unfold gp;rw[cj (O:U l.bD=1),cj (O:U l.aO=1)];rfl
 subst e;cases c:gp l with
 |false=>exact cB (aJ rfl)
 |true=>
  refine cx ?_;unfold gp at c;simp only[cJ,decide_eq_true_eq] at c;obtain⟨m,o,_⟩:=c;obtain⟨x,q⟩:=zF.1 m;obtain⟨y,r⟩:=zF.1 o;rw[q,r];exact ah (x:=x) rfl (ah (x:=y) rfl (aJ rfl))
def s3(a c s:Int):Int:=Int.tdiv (max 0 (c-a)+s-1) s
def AU(k:Nat)(s:Int)(P:cq)(l:b4):cq:=
 ⟨P.a6.take k++(dD [iu 0] [iu (s3 (eA l.bD) (eA l.aO) s)])::(dD [iu (eA l.bD),po k s (eA l.bD)] [iu (eA l.aO),po k s (eA l.bD+s)])::(P.a6.drop (k+1)).map (fI (lV k)),P.a'.map (kj (lV k))⟩
def uo(p:bx)(a c s:Int):bx×Bool:=
 match aC p.aq a with
 |some P=>match aC P.a6 c with
  |some l=>if d9 p a c=I/\(U P.a6)<4/\(1<=s/\s<=6)/\gp l=I then j6 ⟨p.a7,p.aq.set a.toNat (AU c.toNat s P l)⟩ else fO
  |none=>fO
 |none=>fO
theorem Kp{b:Int}(h:d9 p a b≠I):uo p a b s=fO:=by
 unfold uo
 grind
theorem R6(a:p.aq[i]? =Y P)(c:P.a6[k]? =Y l)(s:Int):
  uo p (i:Int) (k:Int) s=if d9 p (i:Int) (k:Int)=I/\(U P.a6)<4/\(1<=s/\s<=6)/\gp l=I then j6 ⟨p.a7,p.aq.set i (AU k s P l)⟩ else fO:=by unfold uo;rw[bF a];dsimp only;rw[bF c];rfl
theorem KY(h:mD l)(k:gp l=I): ∃a b,l=⟨[a],[b]⟩/\a=iu (eA l.bD)/\b=iu (eA l.aO)/\dN 99 (eA l.bD)/\dN 99 (eA l.aO):=by
 obtain⟨⟨o,n⟩,q,r⟩:=h;unfold gp at k;simp only[cJ,decide_eq_true_eq] at k;obtain⟨w,A,B,C⟩:=k;obtain⟨bD,Q⟩:=l;dsimp only at*;obtain⟨x,F⟩:=zF.1 w;obtain⟨y,G⟩:=zF.1 A;subst F;subst G;have m: ∀z:aR,dy z=I->lJ [z]=I->z=iu z.cv:=λz H k=>by
  obtain⟨K,_,_⟩:=h8 H;obtain⟨a,b,c,d,e⟩:=oZ K;obtain⟨cs,R⟩:=z;dsimp only at e;subst e;unfold lJ at k;simp only[List.all_cons,List.all_nil,Bool.and_true,decide_eq_true_eq] at k;have L:=C5 (l:=[a,b,c,d]) (i:=0) rfl O;have o:=C5 (l:=[a,b,c,d]) (i:=1) rfl O;have n:=C5 (l:=[a,b,c,d]) (i:=2) rfl O;have q:=C5 (l:=[a,b,c,d]) (i:=3) rfl O;rw[L,o,n,q];rfl
 exact⟨x,y,rfl,m x (n x aZ) B,m y (r y aZ) C,(h8 (n x aZ)).2.1,(h8 (r y aZ)).2.1⟩
theorem VB{x:Int}(d:dN 99 c)(e:dN 99 x)(h:1<=s/\s<=6):0<=s3 c x s/\s3 c x s<=198:=by
 unfold dN at d e;unfold s3;rw[Int.tdiv_eq_ediv_of_nonneg O];refine⟨Int.ediv_nonneg O O,?_⟩;refine Int.le_trans (Int.ediv_le_ediv (a:=max 0 (x-c)+s-1) (b:=198*s) O ?_) (by rw[Int.mul_ediv_cancel _ O];omega)
 grind
theorem SM(i:gb r P=I)(x:U P.a6<4)(A:k<U P.a6)(s:Int):hR 4 (AU k s P l):=by
 obtain⟨B,n⟩:=kq i;obtain⟨_,o,q,_⟩:=ix i;refine⟨⟨by simp only[AU,fH,fP,List.length_map,mv,nT];omega,λy e=>?_⟩,by simp only[AU,List.length_map];exact o.2,λs w=>?_⟩
 ·have h: ∀c,eF 4 (iu c):=λc=>by unfold eF iu;simp
  have m: ∀s c,eF 4 (po k s c):=λs c=>by unfold eF po;simp
  rcases fy.1 e with e|e
  ·exact((xM i).1.2 y (hi e))
  rcases eN.1 e with rfl|e
  ·exact⟨⟨aZ,λa d=>by simp at d;subst d;exact h _⟩,aZ,λa d=>by simp at d;subst d;exact h _⟩
  rcases eN.1 e with rfl|e
  ·exact⟨⟨aZ,λa d=>by simp at d;rcases d with rfl|rfl;exact h _;exact m _ _⟩,aZ,λa d=>by simp at d;rcases d with rfl|rfl;exact h _;exact m _ _⟩
  obtain⟨z,h,rfl⟩:=fh.1 e;exact AO (TO k) (n z (hl h))
 obtain⟨z,h,rfl⟩:=fh.1 w;exact F1 (TO k) (q z h)
theorem Se(n:Nat)(a:k<4)(s:Int):pV n (k:Int) s=Y (po k s 0):=by rcases(O:k=0\/k=1\/k=2\/k=3) with rfl|rfl|rfl|rfl<;>rfl
theorem Ey(n:Nat)(c:Int):pW n c=Y (iu c):=rfl
theorem U6{b:Int}(c:dN 99 a)(d:dN 99 b)(e:1<=s/\s<=6):wr (Int.tdiv (wr ((wr ((max 0 (wr (b-a)))+s))-1)) s)=s3 a b s:=by obtain⟨h,i⟩:=VB c d e;unfold dN at c d;rw[bt (n:=b-a) O,bt (n:=max 0 (b-a)+s) O,bt (n:=max 0 (b-a)+s-1) O];exact bt (by unfold s3 at h i;omega)
theorem aiY{l:List b4}(a:k<=U l)(c:U l<=1000)(v:b4):yU n l (k:Int) [v]=Y (l.take k++[v]++l.drop k):=by unfold yU;rw[cj (show(0:Int)<=(k:Int) by omega),cj (show(k:Int)<=(U l:Int) by omega)];rw[eb];exact dO bV
theorem ame(G:7000<=n)(H:eo 1000 p)(c d s:Int):IC n p c d s=Y (uo p c d s):=by
 unfold IC;by_cases m:d= -1
 ·subst m;rw[Kp (by rw[ur O];simp)];refine bR (ah (EB G H c) ?_);by_cases K:cS p=I/\fN p c=I
  ·rw[bk K];have aO:=K.2;unfold fN at aO;simp only[decide_eq_true_eq] at aO;obtain⟨x,v,_⟩:=hE aO.1 aO.2;exact cB (ah v (bU (λz=>z=I) (λj B=>aS (λ_=>B _ rfl) λh=>bu (show(-1:Int)<0 by omega) h) λz L=>by rw[L];exact cB (aJ rfl)))
  rw[bh K];exact cx (aJ rfl)
 refine bR (ah (AA G H c d m) ?_);by_cases q:d9 p c d=I
 ·rw[bk q];obtain⟨b0,i,k,P,l,rfl,rfl,f,C,aO,Q,o,g⟩:=mf q;obtain⟨E,t⟩:=kq o;obtain⟨_,M,N,_⟩:=ix o;have r:=t l (ca C);rw[R6 f C];refine cB (ah (bF f) (bU (λz=>z= !(ak (U P.a6<4)&&ak (1<=s/\s<=6))) (λj B=>?_) λz L=>?_))
  ·refine aS (λh=>bu h O) λ_=>aS (λh=>B _ ?_) λh=>ah (k3 n s 1 6) (B _ ?_)
   ·rw[cc (show¬U P.a6<4 by omega)];rfl
   rw[cj (O:U P.a6<4)];rfl
  subst L;by_cases e:U P.a6<4
  ·by_cases w:1<=s/\s<=6
   ·rw[cj e,cj w];refine cx (ah (bF C) (ah (KX O r) ?_));by_cases A:gp l=I
    ·rw[bk A,bk ⟨q,e,w,A⟩];obtain⟨a,b,_,_,_,T,V⟩:=KY r A;have W:=Cy (n:=n) O (nest:=P.a6) (body:=P.a') (s:=k) O E (λy hy=>t y (hl hy)) M.2 N (F:=λrY=>y2 n rY (k:Int)) (aeJ O O);have X:(P.a6.take k++(P.a6.drop k).map (fI (lV k)))[k]? =Y (fI (lV k) l):=by
      grind
     refine cB (ah W (ah (eS Z _) (ah (x:=()) (by unfold oG;rw[bh O]) (ah (Se n g s) (ah (Se n g s) (ah (Ey n _) (ah (Ey n _) (ah (bF X) (ah (eS bV _) (ah (Ey n 0) (ah (Ey n _) (ah (aiY bV bV _) (ah (eS bV _) ?_)))))))))))));dsimp only;unfold dN at T V;rw[eb,eb,List.set_set,bt (n:=eA l.bD+s) O,U6 ⟨O,O⟩ ⟨O,O⟩ w];have cN:P.a6.drop k=l::P.a6.drop (k+1):=nz C;have u:U (P.a6.take k)=k:=by rw[dW];omega
     have hm: ∀R S:b4,(((P.a6.take k++(P.a6.drop k).map (fI (lV k))).set k R).take k++[S]++((P.a6.take k++(P.a6.drop k).map (fI (lV k))).set k R).drop k)=P.a6.take k++S::R::(P.a6.drop (k+1)).map (fI (lV k)):=λR S=>by
      grind
     rw[hm];exact ah (tP G (A9 H i (SM o e Q s))) (aJ rfl)
    rw[bh A,bh λh=>A h.2.2.2];exact cx (aJ rfl)
   rw[bh λh=>w h.2.2.1,cc w,mn];exact cB (aJ rfl)
  rw[bh λh=>e h.2.1,cc e];exact cB (aJ rfl)
 rw[bh q,Kp q];exact cx (aJ rfl)
theorem YY(a:k<4)(s c:Int):qu (jw k) s (iu c) 1=po k s c:=by rcases(O:k=0\/k=1\/k=2\/k=3) with rfl|rfl|rfl|rfl<;>simp[qu,jw,iu,po]
theorem Yw(a:k<4)(s c e:Int):qu (po k s c) 1 (iu e) 1=po k s (c+e):=by rcases(O:k=0\/k=1\/k=2\/k=3) with rfl|rfl|rfl|rfl<;>simp[qu,iu,po]
theorem Pr(h:dN 1000 c):gZ 1000 (iu c):=⟨rfl,h,λx a=>by simp[iu] at a;subst a;exact⟨O,O⟩⟩
theorem a17(d:dN 1000 s)(h:dN 1000 c):gZ 1000 (po k s c):=by refine⟨by simp[po],h,r8 (λc a=>?_) d⟩;simp at a;subst a;exact⟨O,O⟩
theorem am5(F:7000<=n)(A:eo 1000 p)(c d s:Int):It n p c d s=Y (uo p c d s):=by
 unfold It;refine bR (ah (nD O A) ?_);by_cases B:d9 p c d=I
 ·obtain⟨M,i,k,P,l,rfl,rfl,G,H,f,K,m,C⟩:=mf B;obtain⟨g,L⟩:=kq m;obtain⟨_,t,u,_⟩:=ix m;have r:=L l (ca H);rw[R6 G H];refine bU (λz=>z= !(ak (U P.a6<4)&&ak (1<=s/\s<=6))) (λj o=>?_) λz w=>?_
  ·refine ah (x:=I) (by rw[pk F A _ _,B]) ?_;refine cx (ah (bF G) (aS (λh=>o _ ?_) λh=>aS (λv=>o _ ?_) λv=>o _ ?_))
   ·rw[cc (show¬U P.a6<4 by omega)];rfl
   ·rw[cc (show¬(1<=s/\s<=6) by omega),mn];rfl
   rw[cj (O:U P.a6<4),ic]
   grind
  subst w;by_cases e:U P.a6<4
  ·by_cases q:1<=s/\s<=6
   ·rw[cj e,cj q];refine cx (ah (bF G) (ah (bF H) (ah (J9 O r) ?_)));by_cases y:gp l=I
    ·rw[bk y,bk ⟨B,e,q,y⟩];obtain⟨a,b,_,_,_,Q,W⟩:=KY r y;obtain⟨N,T⟩:=VB Q W q;unfold dN at Q W;refine cx (bU (λz=>z=s3 (eA l.bD) (eA l.aO) s) (λj o=>aS (λh=>ah (x:=()) (by unfold oG;rw[bh O]) (o _ ?_)) λh=>o _ ?_) λz w=>?_)
     ·dsimp only at h⊢;rw[<-U6 ⟨O,O⟩ ⟨O,O⟩ q,bt (n:=eA l.aO-eA l.bD) O,show max 0 (eA l.aO-eA l.bD)=eA l.aO-eA l.bD by omega]
     ·dsimp only at h⊢;unfold s3;rw[show max 0 (eA l.aO-eA l.bD)=0 by omega,Int.tdiv_eq_ediv_of_nonneg O];exact(Int.ediv_eq_zero_of_lt O O).symm
     subst w;have X:U (P.a6.take k)=k:=by rw[dW];omega
     refine ah (DR O O g L t.2 u (af2 O _)) (ah (EP n C) (ah (jG n _) (ah (wY O ((uR C).mono O) (Pr ⟨Z,Z⟩) ⟨O,O⟩ ⟨O,O⟩) ?_)));dsimp only;rw[YY C];refine ah (jG n _) (ah (jG n _) (ah (jG n _) (ah (wY O (a17 ⟨O,O⟩ ⟨O,O⟩) (Pr ⟨O,O⟩) ⟨O,O⟩ ⟨O,O⟩) ?_)));rw[Yw C];refine ah (g' O O bV) (ah (dO bV) (ah (show qP n=Y (iu 0) from rfl) (ah (jG n _) (ah (dO bV) ?_))));rw[bt O];refine ah (g' O bV aZ) (ah (dO bV) ?_);have E: ∀R S:b4,([]++((P.a6.take (k+1)++(P.a6.drop (k+1)).map (fI (lV k))).take (k:Int).toNat).drop (0:Int).toNat++[S,R]++((P.a6.take (k+1)++(P.a6.drop (k+1)).map (fI (lV k))).take (U (P.a6.take (k+1)++(P.a6.drop (k+1)).map (fI (lV k))):Int).toNat).drop ((k:Int)+1).toNat)=P.a6.take k++S::R::(P.a6.drop (k+1)).map (fI (lV k)):=λR S=>by
      have V:U (P.a6.take (k+1))=k+1:=by rw[dW];omega
      rw[eb,eb,show((k:Int)+1).toNat=k+1 by omega,show(0:Int).toNat=0 from rfl,sf,eB,wQ O,List.take_take,Nat.min_eq_left O,Ov O,List.drop_of_length_le O];simp
     rw[E];exact ah (AF F A f ((SM m e K s).mono O)) (aJ rfl)
    rw[bh y,bh λh=>y h.2.2.2];exact cB (aJ rfl)
   rw[bh λh=>q h.2.2.1,cc q,mn];exact cB (aJ rfl)
  rw[bh λh=>e h.2.1,cc e];exact cB (aJ rfl)
 rw[Kp B];refine bU (λz=>z=I) (λj o=>ah (pk F A _ _) ?_) (λz w=>by rw[w];exact cB (aJ rfl))
 grind
def H0(k:Nat)(a s:Int)(p:bo):bo:=p.take k++(p.getD k 0-a) / s::p.drop k
def mW(P:cq)(a b:Int):cq:=⟨(dD [iu a] [iu b])::P.a6.drop 1,P.a'⟩
def um(p:bx)(a c:Int):bx×Bool:=
 match aC p.aq a with
 |some P=>match aC P.a6 0 with
  |some l=>if d9 p a 0=I/\gp l=I/\eA l.bD<=c/\c<=eA l.aO then j6 (nm p a.toNat 1 [mW P (eA l.bD) c,mW P c (eA l.aO)]) else fO
  |none=>fO
 |none=>fO
theorem Kq(h:d9 p a 0≠I):um p a c=fO:=by
 unfold um
 grind
theorem B6{k:Type}{l:List k}{x:k}(h:l[0]? =Y x):aC l 0=Y x:=bF h
theorem R'(a:p.aq[i]? =Y P)(d:P.a6[0]? =Y l)(c:Int):
  um p (i:Int) c=if d9 p (i:Int) 0=I/\gp l=I/\eA l.bD<=c/\c<=eA l.aO then j6 (nm p i 1 [mW P (eA l.bD) c,mW P c (eA l.aO)]) else fO:=by unfold um;rw[bF a];dsimp only;rw[B6 d];rfl
theorem Vo(k:gb r P=I)(a b:Int):hR 4 (mW P a b):=by
 obtain⟨h,l,m⟩:=xM k;have i: ∀c,eF 4 (iu c):=λc=>by unfold eF iu;simp
 have:=h.1;refine⟨⟨by simp only[mW,fP,nT];omega,λy e=>?_⟩,l,m⟩;rcases eN.1 e with rfl|e
 ·exact⟨⟨aZ,λa d=>by simp at d;subst d;exact i _⟩,aZ,λa d=>by simp at d;subst d;exact i _⟩
 exact h.2 y (hl e)
theorem R9(e:gb r P=I)(a b c d:Int): ∀y∈[mW P a b,mW P c d],hR 1000 y:=by
 intro y h;simp only[List.mem_cons,List.not_mem_nil,or_false] at h;rcases h with rfl|rfl
 ·exact(Vo e a b).mono O
 exact(Vo e c d).mono O
theorem ahE(a:cS p=I)(c:p.aq[i]? =Y P):d9 p (i:Int) 0=ak (0<U P.a6):=by
 unfold d9;rw[a,bF c,ic]
 grind
theorem afS(a:i<U p.aq)(A B:cq):(⟨p.a7,(p.aq.set i A).take (i+1)++[B]++(p.aq.set i A).drop (i+1)⟩:bx)=nm p i 1 [A,B]:=by
 unfold nm;congr 1;rw[List.take_set,sl O,fs,bO a,p6 _ _ (by rw[dW];omega)]
 have:i-U (p.aq.take i)=0:=by rw[dW];omega
 grind
theorem amd(u:20000<=n)(G:eo 1000 p)(d c:Int):ID n p d c=Y (um p d c):=by
 unfold ID;refine bR (ah (EB O G d) ?_);by_cases z:cS p=I/\fN p d=I
 ·rw[bk z];obtain⟨m,C⟩:=z;have K:0<=d/\d<(U p.aq:Int):=gu C;obtain⟨i,rfl⟩: ∃i:Nat,d=i:=⟨d.toNat,O⟩
  have q:=bO (O:i<U p.aq);generalize Q:p.aq[i]=P at q;have W:=(gf m).2.2.1;have e:=(gf m).2.2.2.1 P (ca q);obtain⟨X,B⟩:=kq e;have gU:=ahE m q;refine cB (ah (bF q) (aS (λA=>aJ ?_) λA=>?_))
  ·rw[Kq (by rw[gU,cc O];simp)];rfl
  have A:0<U P.a6:=O
  rw[cj A] at gU;have o:=bO A;generalize P.a6[0]=l at o;have r:=B l (ca o);rw[R' q o];refine ah (B6 o) (ah (KX O r) ?_);by_cases w:gp l=I
  ·rw[bk w];refine cB (ah (k3 n c _ _) ?_);by_cases y:eA l.bD<=c/\c<=eA l.aO
   ·rw[bk ⟨gU,w,y.1,y.2⟩];dsimp only;rw[cj y];obtain⟨a,b,f,g,j,v,E⟩:=KY r w;have s:=Fx (i:=i) (many:=1) (ys:=[mW P (eA l.bD) c,mW P c (eA l.aO)]) ((ob m).mono (O:4<=900)) aZ (R9 e _ _ _ _);generalize eA l.bD=L at*;generalize eA l.aO=H at*;subst g;subst j;subst f;have M:P.a6=(dD [iu L] [iu H])::P.a6.drop 1:=by
     have:=nz o
     grind
    have F: ∀R:b4,P.a6.set (0:Int).toNat R=R::P.a6.drop 1:=λR=>by
     grind
    refine cB (ah (QM O e) (ah (x:=iu H) rfl (ah (x:=[iu c]) rfl (ah (eS O _) (ah (eS O _) (ah (B6 o) (ah (x:=iu L) rfl (ah (x:=[iu c]) rfl (ah (eS O _) ?_)))))))));rw[F,F,bt O,eb];refine ah (TM (i:=i+1) (by rw[gH];omega) (by rw[gH];simp;omega)) ?_;show cG (ad (oo n (⟨p.a7,(p.aq.set i (mW P L c)).take (i+1)++[mW P c H]++(p.aq.set i (mW P L c)).drop (i+1)⟩:bx)) _) _;rw[afS O];exact ah (tP O s) (aJ rfl)
   rw[bh λh=>y ⟨h.2.2.1,h.2.2.2⟩];dsimp only;rw[cc y];exact cx (aJ rfl)
  rw[bh w,bh λh=>w h.2.1];exact cx (aJ rfl)
 rw[bh z,Kq λt=>z ?_]
 ·exact cx (aJ rfl)
 obtain⟨m,i,k,P,l,rfl,_,N,_,C,_⟩:=mf t;exact⟨m,cj O⟩
theorem am4(K:20000<=n)(B:eo 1000 p)(a c:Int):Iu n p a c=Y (um p a c):=by
 unfold Iu;refine bR (ah (nD O B) (ah (pk O B a 0) ?_));cases q:d9 p a 0 with
 |false=>
  rw[Kq (by rw[q];simp)];exact cB (aJ rfl)
 |true=>
  obtain⟨F,i,k,P,l,rfl,G,C,r,L,Q,d,R⟩:=mf q;obtain rfl:k=0:=O
  obtain⟨H,w⟩:=kq d;have x:=w l (ca r);rw[R' C r];refine cx (ah (bF C) (ah (B6 r) (ah (J9 O x) ?_)));by_cases m:gp l=I
  ·rw[bk m];dsimp only;refine bU (λz=>z= !decide (eA l.bD<=c/\c<=eA l.aO)) (λj o=>cx (aS (λh=>o _ ?_) λh=>o _ ?_)) λz y=>?_
   ·rw[cc O];rfl
   ·rw[jk];simp only[Bool.not_eq_true',decide_eq_true_eq,decide_eq_false_iff_not];omega
   subst y;by_cases e:eA l.bD<=c/\c<=eA l.aO
   ·rw[bk ⟨q,m,e.1,e.2⟩,cj e];refine cx (ah (jG n _) (ah (jG n _) (ah (g' O O O) (ah (dO bV) (ah (jG n _) (ah (jG n _) (ah (g' O O O) (ah (dO bV) ?_))))))));rw[eb,eB];have A:=KB (n:=n) O ((ob F).mono (O:4<=900)) (i:=i) (many:=1) O (ys:=[mW P (eA l.bD) c,mW P c (eA l.aO)]) aZ (R9 d _ _ _ _);exact ah A (aJ rfl)
   rw[bh λh=>e ⟨h.2.2.1,h.2.2.2⟩,cc e];exact cB (aJ rfl)
  rw[bh m,bh λh=>m h.2.1];exact bU (λz=>z=I) (λj o=>cB (o _ rfl)) λz y=>by rw[y];exact cB (aJ rfl)
end
section
def nP(s:cT):cT:=⟨s.dI,h' 5 s.cz⟩
def mg(x:cq):cq:=⟨x.a6,x.a'.map nP⟩
def Gh(p:bx):bx:=⟨p.a7,p.aq.map mg⟩
variable {n:Nat}{s:cT}{d e:Int}{p:bx}{r:List de}
theorem acq(c:7000<=n)(a:ff s d=I):xk n s=Y (nP s):=by
 obtain⟨n,rfl⟩: ∃j,n=j+1:=⟨n-1,O⟩
 unfold xk;rw[W9 O a];refine bR (ah rfl (ah (ND 5 n s.cz O (mV a).2.1) (aJ rfl)))
def x0(p:bx):bx×Bool:=if cS p=I then(Gh p,I) else fO
theorem Zv(q:7000<=n)(w:eo 1000 p):HW n p=Y (x0 p):=by
 unfold HW x0;refine bR (ah (vy q w.sm) (dM (λh=>aJ ?_) λh=>?_))
 ·rw[bh (by simpa using h)];rfl
 have i:cS p=I:=by simpa using h
 rw[bk i];obtain⟨Q,R,X,y,_⟩:=gf i;refine ah (wj O i) ?_;refine C' (l:=p.aq) (n:=n) (F:=λd k=>bH (λa ((c,e):(List cT)×Int)=>
    bif ak (e<(U d.a':Int)) then(
     ad (aC c e) λz=>
     ad (xk n z) λA=>
     ad (cW c e A) λB=>
     a (B,wr (e+1))
    ) else(
     ad (l7 d.a' c) λb=>
     k (⟨d.a6,c⟩:cq)
    )
   ) n (d.a',0)) (W:=λ_ o=>o) (m:=λ_=>(U p.aq:Int)) (g:=mg) (s:=0) (K:=λC=>Y ((⟨p.a7,C⟩:bx),I)) (λ_ _ _ h=>h) (λ_ _=>rfl) O (λx G k r=>?_) O O (aJ ?_)
 ·obtain⟨_,f,H,_⟩:=ix (y x G);refine C' (l:=x.a') (n:=n) (F:=λx k=>ad (xk n x) k) (W:=λ_ o=>o) (m:=λ_=>(U x.a':Int)) (g:=nP) (s:=0) (K:=λc=>ad (l7 x.a' c) λ_=>k (⟨x.a6,c⟩:cq)) (λ_ _ _ h=>h) (λ_ _=>rfl) O (λs L k r=>ah (acq q (H s L)) r) O O ?_;refine ah (qX aZ) ?_
  have:(⟨x.a6,x.a'.take 0++(x.a'.drop 0).map nP⟩:cq)=mg x:=by simp[mg]
  grind
 simp[Gh]
theorem aaB(h:7000<=n)(i:d<=4)(a:ff s d=I)(e:ff s 4=I):DM n s=Y (nP s,I):=by
 obtain⟨n,rfl⟩: ∃j,n=j+1:=⟨n-1,O⟩
 have c:kD 4 s:=VL a;unfold DM;refine bR (ah (Oy O (c.mono (O:4<=1000)).sm 4) ?_);rw[e];refine cx (ah (Dy O ((c.mono (O:4<=1000)).1).sm) (ah (Xi 5 n s.cz O (mV a).2.1) (aJ rfl)))
theorem Tq{a:aR}(h:gl a d=I)(c:d<=e):gl a e=I:=by
 unfold gl at h⊢
 grind
theorem Vi{a:dr}(h:gh a d=I)(c:d<=e):gh a e=I:=by unfold gh at h⊢;rw[sn,hL] at h;rw[h.2,Bool.and_true];exact hL.2 λx i=>Tq (h.1 x i) c
theorem aiM{x:bW}(h:fE x d=I)(a:d<=e):fE x e=I:=by
 unfold fE at h⊢;split at h
 ·rename_i c;rw[bk c];simp only[cJ] at h⊢;exact⟨h.1,h.2.1,Tq h.2.2 a⟩
 rename_i c;rw[bh c];split at h
 ·rename_i i;rw[bk i];simp only[cJ] at h⊢;exact⟨h.1,h.2.1,Vi h.2.2 a⟩
 rename_i i
 grind
theorem Sa{d e:Int}(a:d<=e): ∀{L:Nat} {x:bW},dZ L x d=I->dZ L x e=I
 |0,_,h=>by cases h
 |L+1,x,h=>by obtain⟨i,l,m⟩:=jI h;exact Of i (aiM l a) λk c=>Sa a (m k c)
theorem agT(h:ff s d=I):ff s 4=I:=by unfold ff at h⊢;simp only[cJ,decide_eq_true_eq] at h⊢;exact⟨O,Vi h.2.1 h.1.2,Sa h.1.2 h.2.2.1,h.2.2.2⟩
theorem agV(h:ff s d=I):d<=4:=by
 unfold ff at h
 grind
theorem Zx(L:7000<=n)(r:eo 1000 p):HR n p=Y (x0 p):=by
 unfold HR x0;refine bR (ah (nD O r) (ah (mH L r.sm) (dM (λh=>aJ ?_) λh=>?_)))
 ·rw[bh (by simpa using h)];rfl
 have Q:cS p=I:=by simpa using h
 rw[bk Q];obtain⟨v,E,M,b,_⟩:=gf Q;refine ah (qy O r) ?_;refine cK (λz:List cq×Int=> ∃i:Nat,z.2=i/\i<=U p.aq/\z.1=(p.aq.take i).map mg++p.aq.drop i) (λz=>U p.aq-z.2.toNat) ?_ n _ ⟨0,rfl,O,aZ⟩ Z;rintro w ⟨x,z⟩ ⟨i,R,N,e⟩ f;dsimp only at R e⊢;subst R;have a:U ((p.aq.take i).map mg)=i:=by rw[er,dW];omega
 have A:U x=U p.aq:=by rw[e,ea,a,hY];omega
 rw[A];refine aS (λg=>?_) λt=>aJ ?_
 ·obtain⟨P,m⟩: ∃P,p.aq[i]? =Y P:=⟨_,bO (O:i<U p.aq)⟩
  have B:x[i]? =Y P:=by
   rw[e,lk O,a,pq,iS];exact m
  obtain⟨_,S,u,_⟩:=ix (b P (ca m));refine cK (λz:List cq×Int=> ∃j:Nat,z.2=j/\j<=U P.a'/\z.1=x.set i ⟨P.a6,(P.a'.take j).map nP++P.a'.drop j⟩) (λz=>U P.a'-z.2.toNat) ?_ n _ ⟨0,rfl,O,by
   dsimp only;rw[List.take_zero,List.map_nil,wO,sf];exact(am8 B).symm⟩ Z
  rintro o ⟨y,T⟩ ⟨j,k,V,l⟩ C;dsimp only at k l⊢;subst k;have F:y[i]? =Y ⟨P.a6,(P.a'.take j).map nP++P.a'.drop j⟩:=by rw[l,lN O]
  have c:U ((P.a'.take j).map nP)=j:=by rw[er,dW];omega
  have G:U ((P.a'.take j).map nP++P.a'.drop j)=U P.a':=by rw[ea,c,hY];omega
  refine ah (bF F) ?_;dsimp only;rw[G];refine aS (λW=>?_) λX=>?_
  ·obtain⟨s,q⟩: ∃s,P.a'[j]? =Y s:=⟨_,bO (O:j<U P.a')⟩
   have H:((P.a'.take j).map nP++P.a'.drop j)[j]? =Y s:=by
    rw[lk O,c,pq,iS];exact q
   have d:=u s (ca q);refine ah (bF H) (ah (aaB L (agV d) d (agT d)) (ah (eS O _) (ah (eS (by rw[l,gH];omega) _) ?_)));rw[bt O];refine C _ ⟨j+1,Z,O,?_⟩ Z;dsimp only;rw[l,eb,eb,List.set_set,p6 _ _ O,c,pq,nz q,Dc,fs,q];simp
  have K:j=U P.a':=O
  rw[bt O];refine f _ ⟨i+1,Z,O,?_⟩ Z;dsimp only;rw[l,K,eB,pr,jj,e,p6 _ _ O,a,pq,nz m,Dc,fs,m];simp[mg]
 have:i=U p.aq:=O
 rw[e,this,eB,pr,jj];rfl
theorem ahG(h:ff s d=I):ff (nP s) d=I:=by obtain⟨c,a,_⟩:=mV h;unfold ff at h⊢;simp only[cJ,decide_eq_true_eq] at h⊢;exact⟨h.1,c,td a,by have:=VU a;show eO 5 (h' 5 s.cz)<=12;omega⟩
theorem ace(c:ff s d=I){q:bo}(h:jb r s q=I):jb r (nP s) q=I:=by unfold jb at h⊢;rw[sn,hL] at h;rw[show(nP s).dI=s.dI from rfl,h.1,ic];exact hL.2 λa e=>h.2 a (VV (mV c).2.1 a e)
theorem Rw(x:cq):k8 (mg x)=k8 x:=rfl
theorem afD{x:cq}(h:gb r x=I):gb r (mg x)=I:=by
 obtain⟨e,i,d,k⟩:=ix h;unfold gb ql;rw[show(mg x).a6=x.a6 from rfl,e,Rw];have l:(mg x).a'=x.a'.map nP:=rfl;rw[l,er,cj i];simp only[Option.isSome_some,Bool.true_and,cJ,hP];refine⟨λs c=>?_,λs c q m=>?_⟩
 ·obtain⟨t,a,rfl⟩:=fh.1 c;exact ahG (d t a)
 obtain⟨t,a,rfl⟩:=fh.1 c
 have:=k t a q m;exact⟨ace (d t a) this.1,this.2⟩
theorem ahH(h:cS p=I):cS (Gh p)=I:=by
 unfold cS lL at h⊢;simp only[cJ,decide_eq_true_eq,hP] at h⊢;obtain⟨⟨a,c,d⟩,e⟩:=h;refine⟨⟨a,by simpa[Gh] using c,λx i=>?_⟩,?_⟩
 ·obtain⟨y,k,rfl⟩:=fh.1 i;exact afD (d y k)
 show((p.aq.map mg).map d7).sum<=120;rw[List.map_map,show p.aq.map (d7 ∘ mg)=p.aq.map d7 from Ih (λx _=>by
  show d7 (mg x)=d7 x;unfold d7;rw[Rw,show(U (mg x).a')=U x.a' by simp[mg]])]
 exact e
end
section
def rj(p:bx)(a:Int):Bool:=(List.range (U (b2 p.aq))).all (λi=>match (b2 p.aq)[i]? with
 |some x=> !((nb p (b2 p.aq)).getD i ao&&ak (x.cf=a))
 |none=>I)
variable {p:bx}{n:Nat}{a:Int}
theorem Ex{part:Int}:rj p part=I↔ ∀(i:Nat) x,(b2 p.aq)[i]? =Y x->(nb p (b2 p.aq)).getD i ao=I->x.cf≠part:=by
 unfold rj
 grind
theorem RG(p:bx)(l:List dz):U (nb p l)=U l:=wB p l (U l)
theorem Me(e:cS p=I)(i:Nat):cS ⟨p.a7,p.aq.take i++p.aq.drop (i+1)⟩=I:=by
 have c: ∀x∈p.aq.take i++p.aq.drop (i+1),x∈p.aq:=λx h=>by
  grind
 have d:=(gf e).2.2.2.1;have m:=(GS p.aq)
 have n: ∀l:List cq,(∀x∈l,x∈p.aq)->0<=(l.map d7).sum:=λl o=>by
  induction l with
  |nil=>simp
  |cons a l q=>
   simp only[jn,List.sum_cons]
   have:=(z' (d a (o a fi))).1
   have:=q λx h=>o x (eT _ h);omega
 unfold cS lL at e⊢;simp only[cJ,decide_eq_true_eq,hP] at e⊢;obtain⟨⟨aW,a2,a3⟩,a4⟩:=e;refine⟨⟨aW,by simp only[fH,mv,nT];omega,λx h=>a3 x (c x h)⟩,?_⟩;have r:(p.aq.map d7).sum=((p.aq.take i).map d7).sum+((p.aq.drop i).map d7).sum:=by
  conv=>lhs;rw[<-zy i p.aq]
  grind
 have w:((p.aq.drop (i+1)).map d7).sum<=((p.aq.drop i).map d7).sum:=by
  cases k:p.aq.drop i with
  |nil=>
   have:p.aq.drop (i+1)=[]:=by rw[<-List.drop_drop,k];rfl
   rw[this];simp
  |cons a l=>
   have:p.aq.drop (i+1)=l:=by rw[<-List.drop_drop,k];rfl
   rw[this];simp only[jn,List.sum_cons]
   have:=(z' (d a (hl (i:=i) (by rw[k];exact fi)))).1;omega
 grind
theorem Uy(a:cS p=I)(i:Nat):eo 1000 ⟨p.a7,p.aq.take i++p.aq.drop (i+1)⟩:=(ob (Me a i)).mono O
def sI(p:bx)(a:Int):bx×Bool:=if(cS p&&(fN p a&&rj p a))=I then(⟨p.a7,p.aq.take a.toNat++p.aq.drop (a.toNat+1)⟩,I) else fO
theorem afA(L:7100<=n)(Q:eo 1000 p)(t: -1<=a/\a<=9):Dl n p a=Y (sI p a):=by
 unfold Dl sI;refine bR (ah (Ds L Q.sm) ?_);by_cases d:cS p=I
 ·rw[bk d,d];have X:=(gf d).2.2.2.2;refine cB (bU (λz=>z= !fN p a) (λj k=>cx (ah (tI n Q.2.1 a) (k _ rfl))) λz q=>?_);subst q;cases A:fN p a with
  |false=>exact cB (aJ rfl)
  |true=>
   have B:0<=a/\a<(U p.aq:Int):=gu A;refine cx (ah (x:=nb p (b2 p.aq)) (afv L d) ?_);have C:=RG p (b2 p.aq);rw[C];refine cK (λz:Int=> ∃i:Nat,z=i/\i<=U (b2 p.aq)/\ ∀(j:Nat) x,j<i->(b2 p.aq)[j]? =Y x->(nb p (b2 p.aq)).getD j ao=I->x.cf≠a) (λz=>U (b2 p.aq)-z.toNat) ?_ n _ ⟨0,rfl,O,λj x h=>O⟩ O;rintro F z ⟨i,rfl,u,r⟩ b;refine aS (λf=>?_) λg=>?_
   ·obtain⟨x,G⟩: ∃x,(b2 p.aq)[i]? =Y x:=⟨_,bO (O:i<U (b2 p.aq))⟩
    have H:aC (nb p (b2 p.aq)) (i:Int)=Y ((nb p (b2 p.aq)).getD i ao):=by
     have c:i<U (nb p (b2 p.aq)):=O
     rw[bF (bO c),fZ,bO c];rfl
    have m:aC (iB p).list (i:Int)=Y x:=bF G;refine ah H (bU (λz=>z=((nb p (b2 p.aq)).getD i ao&&ak (x.cf=a))) (λj k=>dM (λh=>ah m (k _ (by rw[h];rfl))) λh=>k _ (by rw[h];rfl)) λz q=>?_);subst q;refine dM (λh=>aJ ?_) λh=>?_
    ·rw[sn,decide_eq_true_eq] at h
     have:rj p a=ao:=by
      cases s:rj p a with
      |false=>rfl
      |true=>exact bu h.2 (Ex.1 s i x G h.1)
     rw[this];rfl
    rw[bt O];refine b _ ⟨i+1,O,O,λj y k K w=>?_⟩ O;by_cases e:j=i
    ·subst e;rw[G] at K;cases K;rw[w,ic] at h;exact of_decide_eq_false h
    exact r j y O K w
   have o:rj p a=I:=Ex.2 λj x R w=>r j x (by have:=(cI.1 R).1;omega) R w;rw[o];refine ah (wj O d) (ah (x:=(gq p.aq a (a+1),lX p.aq a (a+1) (⟨[],[]⟩:cq))) ?_ (aJ ?_))
   ·unfold yV;rw[bt O,cj B.1,cj (O:a<=a+1),cj (O:a+1<=(U p.aq:Int)),cc (show¬a=a+1 by omega)];rfl
   show(⟨p.a7,(lX p.aq a (a+1) (⟨[],[]⟩:cq)).take (gq p.aq a (a+1))⟩,I)=((⟨p.a7,p.aq.take a.toNat++p.aq.drop (a.toNat+1)⟩:bx),I)
   have W:U (p.aq.take a.toNat++p.aq.drop (a+1).toNat)=gq p.aq a (a+1):=by
    unfold gq;simp only[fH,mv,nT];omega
   unfold lX;rw[wQ (by rw[W];exact dV _),lO (l:=p.aq.take a.toNat++p.aq.drop (a+1).toNat) (by rw[W];exact dV _),show(a+1).toNat=a.toNat+1 by omega]
 rw[bh d,show cS p=ao by simpa using d];refine cx (bU (λz=>z=I) (λj k=>cB (k _ rfl)) λz q=>?_);rw[q];exact cB (aJ rfl)
theorem aeR(X:7100<=n)(o:eo 1000 p)(N: -1<=a/\a<=9):Dp n p a=Y (sI p a):=by
 unfold Dp sI;refine bR (ah (nD O o) (bU (λz=>z= !(cS p&&fN p a)) (λj q=>?_) λz b=>?_))
 ·refine ah (mH O o.sm) (dM (λh=>q _ ?_) λh=>?_)
  ·rw[wg h];rfl
  have b0:=tW h;refine aS (λr=>q _ ?_) λr=>q _ ?_
  ·rw[b0,show fN p a=ao from cc O];rfl
  by_cases W:(U p.aq:Int)<=a
  ·rw[b0,cj W,show fN p a=ao from cc O];rfl
  rw[b0,cc W,show fN p a=I from cj O];rfl
 subst b;by_cases b0:cS p=I
 ·rw[b0];have f:=(gf b0).2.2.2.2;cases C:fN p a with
  |false=>exact cB (aJ rfl)
  |true=>
   have g:0<=a/\a<(U p.aq:Int):=gu C;refine cx (ah (Y3 X o.sm) (ah (yQ O b0) ?_));rw[bk b0];have s:=RG p (b2 p.aq);have t:=Qh (nb p (b2 p.aq));have w: ∀c∈so (nb p (b2 p.aq)),∃(i:Nat) (x:dz),c=i/\(b2 p.aq)[i]? =Y x/\(nb p (b2 p.aq)).getD i ao=I:=λc F=>by
    obtain⟨P,r⟩:=Jp.1 F;have A:c.toNat<U (b2 p.aq):=by
     by_cases h:c.toNat<U (b2 p.aq)
     ·exact h
     rw[fZ,zx O] at r;cases r
    exact⟨c.toNat,_,O,bO A,r⟩
   generalize u:so (nb p (b2 p.aq))=L at*;refine cK (λz:Int=> ∃i:Nat,z=i/\i<=U L/\ ∀c∈L.take i,∀x,(b2 p.aq)[c.toNat]? =Y x->x.cf≠a) (λz=>U L-z.toNat) ?_ n _ ⟨0,rfl,O,λc F=>by simp at F⟩ O;rintro G z ⟨i,rfl,S,e⟩ v;refine aS (λA=>?_) λE=>?_
   ·obtain⟨c,H⟩: ∃c,L[i]? =Y c:=⟨_,bO (O:i<U L)⟩
    obtain⟨k,x,rfl,B,K⟩:=w c (ca H);refine ah (bF H) (ah (bF B) (aS (λh=>aJ ?_) λh=>?_))
    ·have:rj p a=ao:=by
      cases m:rj p a with
      |false=>rfl
      |true=>exact bu h (Ex.1 m k x B K)
     rw[this];rfl
    rw[bt O];refine v _ ⟨i+1,O,O,λd m y Q=>?_⟩ O;rw[iI H,fy,q1] at m;rcases m with m|rfl
    ·exact e d m y Q
    rw[eb,B] at Q;cases Q;exact h
   have R:i=U L:=O
   rw[R,eB] at e;have l:rj p a=I:=Ex.2 (λj x B K=>by
    have q:((j:Nat):Int)∈L:=by rw[<-u];exact Jp.2 ⟨O,by rw[eb];exact K⟩
    exact e _ q x (by rw[eb];exact B))
   rw[l];obtain⟨i,rfl⟩: ∃i:Nat,a=i:=⟨a.toNat,O⟩
   refine ah (x:=(⟨p.a7,p.aq.take i++p.aq.drop (i+1)⟩,I)) (bR ?_) (aJ rfl);have M:=o.2.1;unfold lz;refine ah (qy O o) (ah (g' O O O) ?_);rw[eb,show(0:Int).toNat=0 from rfl,sf];refine ah (x:=p.aq.take i) (dO bV) (ah (x:=p.aq.take i) (by rw[dO bV,jj]) ?_);rw[bt O];refine ah (g' O O O) ?_;rw[eb,eB,show((i:Int)+1).toNat=i+1 by omega];refine ah (x:=p.aq.take i++p.aq.drop (i+1)) (dO bV) (ah (mH O (Uy b0 i).sm) ?_);rw[Me b0 i];exact cx (ah (qy O (Uy b0 i)) (aJ rfl))
 rw[show cS p=ao by simpa using b0];exact cB (aJ rfl)
end
section
theorem Ez: ∀a,cmpL a a=0
 | []=>rfl
 |x::a=>by unfold cmpL;rw[bh O,bh O];exact Ez a
theorem wF: ∀a c,cmpL c a= -cmpL a c
 | [],[]=>by simp[cmpL]
 | [],_::_=>by simp[cmpL]
 |_::_,[]=>by simp[cmpL]
 |x::a,y::c=>by
  unfold cmpL;by_cases d:x<y
  ·simp[d,show¬y<x by omega]
  by_cases e:y<x
  ·simp[d,e]
  rw[bh d,bh e,bh e,bh d];exact wF a c
theorem Ay: ∀{a c},cmpL a c=0->a=c
 | [],[],_=>rfl
 | [],_::_,h=>by simp[cmpL] at h
 |_::_,[],h=>by simp[cmpL] at h
 |x::a,y::c,h=>by
  unfold cmpL at h;by_cases d:x<y
  ·rw[bk d] at h;omega
  by_cases e:y<x
  ·rw[bh d,bk e] at h;omega
  rw[bh d,bh e] at h;rw[Ay h,show x=y by omega]
theorem AL: ∀{k l m},cmpL k l<0->cmpL l m<0->cmpL k m<0
 | [],[],_,h,_=>by simp[cmpL] at h
 | [],_::_,[],_,h=>by simp[cmpL] at h
 | [],_::_,_::_,_,_=>by simp[cmpL]
 |_::_,[],_,h,_=>by simp[cmpL] at h
 |_::_,_::_,[],_,h=>by simp[cmpL] at h
 |x::k,y::l,z::m,i,e=>by
  unfold cmpL at i e⊢;by_cases a:x<y
  ·by_cases b:y<z
   ·rw[bk O];omega
   by_cases c:z<y
   ·rw[bh b,bk c] at e;omega
   rw[bk O];omega
  by_cases b:y<x
  ·rw[bh a,bk b] at i;omega
  by_cases c:y<z
  ·rw[bk O];omega
  by_cases d:z<y
  ·rw[bh c,bk d] at e;omega
  rw[bh O,bh O];rw[bh a,bh b] at i;rw[bh c,bh d] at e;exact AL i e
theorem To: ∀a c,kl a c=ak (cmpL a c<0)
 | [],[]=>rfl
 | [],_::_=>rfl
 |_::_,[]=>rfl
 |x::a,y::c=>by
  unfold kl cmpL;by_cases h:x=y
  ·subst h;simp only[if_true,Int.lt_irrefl,if_false];exact To a c
  by_cases d:x<y
  ·simp[h,d]
  have:y<x:=O
  simp[h,d,this]
abbrev rb(l:dT):Prop:=l.Pairwise λa b=>cmpL a b<0
theorem Vn: ∀{l m:dT},rb l->rb m->(∀x,x∈l↔x∈m)->l=m
 | [],[],_,_,_=>rfl
 | [],y::m,_,_,h=>by have:=(h y).2 aZ;simp at this
 |x::l,[],_,_,h=>by have:=(h x).1 aZ;simp at this
 |x::l,y::m,A,B,h=>by
  obtain⟨r,C⟩:=uE.1 A;obtain⟨w,F⟩:=uE.1 B;have e:x=y:=by
   rcases eN.1 ((h x).1 aZ) with d|d
   ·exact d
   rcases eN.1 ((h y).2 aZ) with i|i
   ·exact i.symm
   have a:=w x d;have b:=r y i
   have:=AL a b;rw[Ez] at this;omega
  subst e;have k:x∉l:=λn=>by have:=r x n;rw[Ez] at this;omega
  have o:x∉m:=λn=>by have:=w x n;rw[Ez] at this;omega
  rw[Vn C F (λz=>⟨λc=>by
   rcases eN.1 ((h z).1 (eT _ c)) with rfl|q
   ·exact bu c k
   ·exact q,λc=>by
   rcases eN.1 ((h z).2 (eT _ c)) with rfl|q
   ·exact bu c o
   exact q⟩)]
def km:dT->bo->dT
 | [],d=>[d]
 |x::a,d=>if cmpL d x<0 then d::x::a else x::km a d
theorem KD{d z:bo}: ∀{l:dT},z∈km l d↔z=d\/z∈l
 | []=>by simp[km]
 |x::a=>by
  unfold km;split
  ·simp
  simp only[List.mem_cons,KD (l:=a)];constructor
  ·rintro(h|h|h)
   ·exact .inr (.inl h)
   ·exact .inl h
   exact .inr (.inr h)
  rintro(h|h|h)
  ·exact .inr (.inl h)
  ·exact .inl h
  exact .inr (.inr h)
theorem TN{d:bo}: ∀{l:dT},rb l->d∉l->rb (km l d)
 | [],_,_=>by simp[km]
 |x::o,c,i=>by
  obtain⟨k,m⟩:=uE.1 c;unfold km;split
  ·rename_i h;refine uE.2 ⟨λz a=>?_,c⟩;rcases eN.1 a with rfl|a
   ·exact h
   exact AL h (k z a)
  rename_i h;refine uE.2 ⟨λz a=>?_,TN m λn=>i (eT _ n)⟩;rcases KD.1 a with rfl|a
  ·have q:=wF z x;have r:cmpL z x≠0:=λe=>i (by rw[Ay e];simp);omega
  exact k z a
def jX(l:dT)(d:bo):dT:=if d∈l then l else km l d
theorem aiA{l:dT}(h:rb l)(d:bo):rb (jX l d):=by
 unfold jX;split
 ·exact h
 exact TN h ‹_›
variable {l:b4}{d a b:bo}{R:Type}{Q:R->Prop}{n k i:Nat}{p:bx}{c:Int}{P:cq}{r:List de}
theorem Tw{l:dT}{z:bo}:z∈jX l d↔z=d\/z∈l:=by
 unfold jX;split
 ·rename_i h
  grind
 exact KD
theorem Lw: ∀(a l:dT),rb l->rb (a.foldl jX l)/\ ∀z,z∈a.foldl jX l↔z∈l\/z∈a
 | [],l,h=>⟨h,λz=>aZ⟩
 |d::a,l,h=>by
  obtain⟨c,e⟩:=Lw a (jX l d) (aiA h d);refine⟨c,λz=>?_⟩;rw[zD,e z,Tw,eN];constructor
  ·rintro((h|h)|h)
   ·exact .inr (.inl h)
   ·exact .inl h
   exact .inr (.inr h)
  rintro(h|h|h)
  ·exact .inl (.inr h)
  ·exact .inl (.inl h)
  exact .inr h
def iK:dT->dT
 | []=>[]
 | [x]=>[x]
 |x::y::r=>if x=y then iK (y::r) else x::iK (y::r)
theorem I6{z:bo}: ∀{l:dT},z∈iK l↔z∈l
 | []=>by simp[iK]
 | [x]=>by simp[iK]
 |x::y::r=>by
  have a:=I6 (z:=z) (l:=y::r);unfold iK;split
  ·rename_i h;subst h;rw[a];simp
  rw[eN,a];simp
theorem Jr: ∀{l:dT},l.Pairwise (λa b=> ¬cmpL b a<0)->rb (iK l)
 | [],_=>by simp[iK]
 | [x],_=>by simp[iK]
 |x::y::r,h=>by
  obtain⟨n,i⟩:=uE.1 h;obtain⟨o,_⟩:=uE.1 i;unfold iK;split
  ·exact Jr i
  rename_i k;refine uE.2 ⟨λz m=>?_,Jr i⟩;have d:cmpL x y<0:=by
   have a:=n y aZ;have b:=wF x y;have c:cmpL x y≠0:=λe=>k (Ay e);omega
  rcases eN.1 (I6.1 m) with rfl|m
  ·exact d
  have a:=o z m;have b:=wF y z;by_cases e:cmpL y z=0
  ·rw[<-Ay e];exact d
  exact AL d O
theorem abk(l:dT):(j7 l).Pairwise (λa b=> ¬cmpL b a<0):=by
 have:=List.pairwise_mergeSort (le:=λx y=> !decide (cmpL y x<0)) (λa b c k d=>by
  simp only[Bool.not_eq_true',decide_eq_false_iff_not] at*;intro h;have i:=wF a b;have m:=wF b c;by_cases e:cmpL b a=0
  ·rw[Ay e] at d;exact d h
  ·exact d (AL h O)) (λa b=>by
  have i:=wF a b;by_cases h:cmpL b a<0
  ·have: ¬cmpL a b<0:=O
   simp[h,this]
  simp[h]) l
 refine this.imp λh=>?_;simpa using h
theorem ahR(a:dT):iK (j7 a)=a.foldl jX []:=by obtain⟨c,d⟩:=Lw a [] List.Pairwise.nil;refine Vn (Jr (abk a)) c λz=>?_;rw[I6,d z];unfold j7;rw[List.mem_mergeSort];simp
def mb(b a:bo):bo:=List.zipWith (λx y=>x-y) b a
theorem Tk(H:U a=U b)(L:U b<=1000)(W:1000<n)(l: ∀x∈a,dN 9999 x)(m: ∀x∈b,dN 9999 x){K:bo->aL R}(X:cG (K (mb b a)) Q):
  cG (bH (λc ((h,d):bo×Int)=>
   bif ak (d<(U b:Int)) then(
    ad (aC b d) λo=>
    ad (aC a d) λq=>
    ad (app h [wr (o-q)]) λr=>
    c (r,wr (d+1))
   ) else(
    K h
   )) n ([],0)) Q:=by
 refine cK (λx:bo×Int=> ∃i:Nat,x.2=i/\i<=U b/\x.1=(mb b a).take i) (λx=>U b-x.2.toNat) ?_ n _ ⟨0,rfl,O,aZ⟩ Z;rintro w ⟨x,k⟩ ⟨i,z,f,y⟩ A;dsimp only at z y⊢;subst z;have B:U (mb b a)=U b:=by unfold mb;rw[Ii];omega
 refine aS (λe=>?_) λC=>?_
 ·have e:i<U b:=O
  have F:=bO e;have G:=bO (O:i<U a);have dQ:=m _ (gd e);have dG:=l _ (gd (O:i<U a));unfold dN at dQ dG;refine ah (bF F) (ah (bF G) (ah (dO (by rw[y,dW];simp;omega)) ?_));rw[bt (n:=b[i]-a[i]) O,bt O];refine A _ ⟨i+1,Z,O,?_⟩ Z;dsimp only;rw[fs,<-y];congr 1;unfold mb
  grind
 have:i=U b:=O
 grind
theorem adg(e:U a=U b)(h:U b<=1000)(i:1000<n)(c: ∀x∈a,dN 9999 x)(d: ∀x∈b,dN 9999 x):D8 n b a=Y (mb b a):=by unfold D8;exact bR (Tk e h i c d (aJ rfl))
theorem agk(M:20000<=n){l:dT}(N:U l<=15000)(W: ∀x∈l,U x<=1000)(X:U d<=1000):FP n l d=Y (jX l d):=by
 unfold FP;refine bR (cK (λx:dT×Bool×Int=> ∃i:Nat,x.2.2=i/\i<=U l/\d∉l.take i/\(x.2.1=I->U x.1<=i+1/\km l d=x.1++l.drop i)/\(x.2.1=ao->U x.1<=i/\km l d=x.1++km (l.drop i) d)) (λx=>U l-x.2.2.toNat) ?_ n _ ⟨0,rfl,O,aZ,(λh=>by cases h),λ_=>⟨aZ,aZ⟩⟩ Z);rintro C ⟨P,e,k⟩ ⟨i,Q,S,o,R,F⟩ b;dsimp only at Q R F⊢;subst Q;refine aS (λc=>?_) λf=>?_
 ·have c:i<U l:=O
  have g:=bO c;have G:U l[i]<=1000:=W _ (gd c);refine ah (bF g) (ah (Qy O O) (aS (λp=>aJ ?_) λs=>?_))
  ·unfold jX
   grind
  have a:=lM c;have q:d∉l.take (i+1):=by
   grind
  refine bU (λz:dT×Bool=>(z.2=I->U z.1<=i+1/\km l d=z.1++l.drop i)/\(z.2=ao->U z.1<=i/\km l d=z.1++l[i]::km (l.drop (i+1)) d)) (λj m=>?_) λz r=>?_
  ·refine bU (λz:Bool=>z=(!e&&kl d l[i])) (λT w=>dM (λh=>?_) λh=>w _ ?_) λz r=>?_
   ·have h:e=ao:=by simpa using h
    exact ah (Sz O X G) (w _ (by rw[h];rfl))
   ·have h:e=I:=by simpa using h
    grind
   subst r;cases y:e with
   |true=>exact cx (m _ ⟨λ_=>R y,λh=>by cases h⟩)
   |false=>
    obtain⟨t,H⟩:=F y;rw[a] at H;rw[To];by_cases B:cmpL d l[i]<0
    ·rw[cj B];refine cB (ah (dO bV) (m _ ⟨λ_=>⟨bV,?_⟩,λh=>by cases h⟩));rw[H,a];unfold km;rw[bk B];simp
    rw[cc B];refine cx (m _ ⟨(λh=>by cases h),λ_=>⟨t,?_⟩⟩);rw[H]
    conv=>lhs;rw[km]
    rw[bh B]
  obtain⟨u,v⟩:=z;obtain⟨K,L⟩:=r;dsimp only at K L⊢;have E:U u<=i+1:=by
   cases v with
   |true=>exact(K rfl).1
   |false=>have:=(L rfl).1;omega
  refine ah (dO bV) ?_;rw[bt O];refine b _ ⟨i+1,Z,O,q,λh=>?_,λh=>?_⟩ Z
  ·obtain⟨aW,a2⟩:=K h
   grind
  obtain⟨aW,a2⟩:=L h
  grind
 have:i=U l:=O
 subst this;rw[eB] at o;have A:jX l d=km l d:=by unfold jX;rw[bh o]
 rw[A];refine bU (λz=>z=km l d) (λj m=>dM (λh=>?_) λh=>m _ ?_) λz r=>aJ r
 ·have h:e=ao:=by simpa using h
  obtain⟨aW,a2⟩:=F h;refine ah (dO bV) (m _ ?_);rw[a2,pr];rfl
 have h:e=I:=by simpa using h
 grind
theorem S3(d:bo): ∀l:dT,U (km l d)=U l+1
 | []=>rfl
 |x::a=>by
  unfold km;split
  ·rfl
  rw[nM,S3 d a];rfl
theorem Tx(l:dT)(d:bo):U (jX l d)<=U l+1:=by
 unfold jX;split
 ·omega
 rw[S3];omega
def mL(e:List dz)(c:Int)(d:hr):aL bo:=match e[d.gi.toNat]?,e[d.gj.toNat]? with
 |some a,Y b=>if a.cf=c/\b.cf=c then Y (mb b.dS a.dS) else al
 |_,_=>al
def pE(p:bx)(a:Int):dT:=(iA p (b2 p.aq) (U (b2 p.aq))).filterMap (mL (b2 p.aq) a)
theorem tH(l:cS p=I){x:dz}(m:iN p x): ∃P,p.aq[x.cf.toNat]? =Y P/\0<=x.cf/\(U x.dS)=U P.a6/\(U x.dS)<=4/\ ∀y∈x.dS,dN 9999 y:=by obtain⟨F,G,H,c,n⟩:=gf l;obtain⟨i,k,P,s,o,K,e,q,h⟩:=m;obtain⟨r,L,Q,w⟩:=ix (c P (ca e));obtain⟨R,z,d,A,B⟩:=vr r;have hs:=ca q;have a:=(w s hs _ h).2;unfold mi at a;simp only[cJ,decide_eq_true_eq,hP] at a;exact⟨P,by rw[o,eb];exact e,O,(d _ h).1,a.1,λy C=>a.2 y C⟩
theorem ahS{C:List dz}(h: ∀x∈C,U x.dS<=4){d:hr}{v:bo}(e:mL C c d=Y v):U v<=4:=by
 unfold mL at e;split at e
 ·rename_i a b i k;split at e
  ·cases e;unfold mb
   grind
  cases e
 cases e
theorem Pl{k:Type}{f:k->aL R}{l:List k}{x:k}(h:l[i]? =Y x):(l.take (i+1)).filterMap f=(l.take i).filterMap f++(f x).toList:=by
 rw[fs,h,List.filterMap_append]
 grind
theorem Q3(E:20000<=n)(hp:kW p)(A:cS p=I)(a:Int):Cv n p a=Y ((pE p a).foldl jX []):=by
 have L:=(gf A).2.2.2.2;unfold Cv;refine bR (ah (yQ O A) (ah (Ku O A) ?_));have q: ∀x∈b2 p.aq,iN p x:=λx B=>kJ B;have aoE:=K3 (p:=p) L;have br:=U5 (p:=p) (l:=b2 p.aq);unfold pE;generalize iA p (b2 p.aq) (U (b2 p.aq))=d at*;generalize b2 p.aq=e at*;have M: ∀x∈e,U x.dS<=4:=λx B=>(tH A (q x B)).choose_spec.2.2.2.1;refine cK (λx:dT×Int=> ∃i:Nat,x.2=i/\i<=U d/\x.1=((d.take i).filterMap (mL e a)).foldl jX []/\(U x.1)<=i/\ ∀y∈x.1,U y<=4) (λx=>U d-x.2.toNat) ?_ n _ ⟨0,rfl,O,aZ,aZ,aZ⟩ Z;rintro Q ⟨N,k⟩ ⟨i,u,aO,B,C,m⟩ P;dsimp only at u B C m⊢;subst u;refine aS (λr=>?_) λS=>aJ ?_
 ·have r:i<U d:=O
  have v:=bO r;obtain⟨T,d2,d3⟩:=br _ (gd r);have V:=Bb (l:=e) (c:=d[i].gi) T O;have MM:=Bb (l:=e) (c:=d[i].gj) O O;have hT:=gd (O:d[i].gi.toNat<U e);have R:=gd (O:d[i].gj.toNat<U e);have W:e[d[i].gi.toNat]? =Y e[d[i].gi.toNat]:=bO _;have X:e[d[i].gj.toNat]? =Y e[d[i].gj.toNat]:=bO _;obtain⟨Ji,F,amK,amL,amM,b⟩:=tH A (q _ hT);obtain⟨Jj,w,amN,amO,amP,f⟩:=tH A (q _ R);refine bU (λz=>z.2.2.2.2.2.2=((d.take (i+1)).filterMap (mL e a)).foldl jX []/\(U z.2.2.2.2.2.2)<=i+1/\ ∀y∈z.2.2.2.2.2.2,U y<=4) (λj g=>ah (bF v) (ah V (ah MM ?_))) λz s=>?_
  ·rw[Pl v,List.foldl_append,<-B] at g;refine bU (λz:Bool=>z=ak (e[d[i].gi.toNat].cf=a/\e[d[i].gj.toNat].cf=a)) (λkK G=>aS (λh=>G _ ?_) λh=>G _ ?_) λz s=>?_
   ·exact decide_eq_decide.2 ⟨λH=>⟨h,H⟩,λH=>H.2⟩
   ·exact(cc λH=>h H.1).symm
   subst s;have o:mL e a d[i]=if e[d[i].gi.toNat].cf=a/\e[d[i].gj.toNat].cf=a then Y (mb e[d[i].gj.toNat].dS e[d[i].gi.toNat].dS) else al:=by
    unfold mL;rw[W,X]
   refine aS (λh=>?_) λh=>g _ ?_
   ·have t:Ji=Jj:=by
     rw[h.1] at F;rw[h.2] at w;rw[F] at w;cases w;rfl
    subst t;refine ah (adg O O O b f) (ah (agk E O (λy K=>by have:=m y K;omega) (by unfold mb;rw[Ii];omega)) (g _ ?_));rw[o,bk h];dsimp only[Option.toList,List.foldl];refine⟨rfl,?_,λy K=>?_⟩
    ·have:=Tx N (mb e[d[i].gj.toNat].dS e[d[i].gi.toNat].dS);omega
    rcases Tw.1 K with rfl|K
    ·unfold mb;rw[Ii];omega
    exact m y K
   rw[o,bh h]
   grind
  obtain⟨w6,z2,z3⟩:=s;rw[bt O];exact P _ ⟨i+1,Z,O,w6,z2,z3⟩ Z
 have:i=U d:=O
 grind
theorem P7(x:bo): ∀(y:bo) (a:dT),iK ((y::a)++[x])=if(y::a).getLast aZ=x then iK (y::a) else iK (y::a)++[x]
 |y,[]=>by
  by_cases h:y=x
  ·subst h;simp[iK]
  simp[iK,h]
 |y,z::a=>by
  have d:=P7 x z a;rw[List.getLast_cons aZ];show iK (y::z::(a++[x]))=_;unfold iK;by_cases h:y=z
  ·rw[bk h,bk h];exact d
  rw[bh h,bh h];have c:iK (z::(a++[x]))=_:=d;rw[c];split<;>simp
theorem abx{s:dT}{m:Nat}(n:1<=m)(l:m<U s):iK (s.take (m+1))=if s[m-1]=s[m] then iK (s.take m) else iK (s.take m)++[s[m]]:=by
 have e:s.take (m+1)=s.take m++[s[m]]:=by rw[fs,bO l];rfl
 have d:s.take m≠[]:=by
  intro h
  have:=congrArg U h
  grind
 have c: ∀h,(s.take m).getLast h=s[m-1]:=λh=>by
  grind
 rw[e];obtain⟨y,a,k⟩: ∃y a,s.take m=y::a:=by
  cases h:s.take m with
  |nil=>exact bu h d
  |cons y a=>exact⟨y,a,rfl⟩
 have i:=c d;simp only[k] at i⊢;rw[P7,i]
def nA(d:bo):aL Nat:=d.findIdx? λx=> !decide (x=0)
def rk(d:bo):Int:=match nA d with
 |some i=>(i:Int)
 |none=> -1
theorem ac8(y:U d<=1000)(A:1000<n):H6 n d=Y (rk d):=by
 unfold H6;refine bR (ah (x:=rk d) ?_ (aJ rfl));unfold tc;refine bR (cK (λx:Int=> ∃i:Nat,x=i/\i<=U d/\ ∀j,j<i->d.getD j 0=0) (λx=>U d-x.toNat) ?_ n _ ⟨0,rfl,O,λj a=>bu a (sd _)⟩ O);rintro e z ⟨i,rfl,B,C⟩ m;have l: ∀j (a:j<U d),j<i->d[j]=0:=λj a o=>by
  grind
 refine aS (λc=>?_) λq=>aJ ?_
 ·have c:i<U d:=O
  have r:=bO c;refine ah (bF r) (ah (x:= !decide (d[i]=0)) rfl (fu (λh=>aJ ?_) λF=>?_))
  ·have:nA d=Y i:=by
    unfold nA;rw[Ou];exact⟨c,by simp[h],λj a=>by simp[l j O a]⟩
   unfold rk;rw[this]
  rw[bt O];refine m _ ⟨i+1,O,O,λj a=>?_⟩ O
  grind
 have:nA d=al:=by
  unfold nA;rw[List.findIdx?_eq_none_iff];intro x w;obtain⟨j,a⟩:=mY.1 w;obtain⟨k,rfl⟩:=cI.1 a;simp[l j k O]
 unfold rk;rw[this]
theorem afK(a:kW p)(c:p.aq[i]? =Y P):ns n p (i:Int)=Y I:=by have aO:=(cI.1 c).1;rw[tI n a.2.1,cj O]
theorem adq(a:Nat->Bool)(m:Nat):fp a (m+1)=fp a m++(if a m then [m] else []):=by
 unfold fp;rw[se,zA]
 grind
theorem Uz(l:dT): ∀m,m<=U l->(fp (nv l) m).map (λj=>l.getD j [])=iK (l.take m)
 |0,_=>rfl
 |m+1,h=>by
  have o:=Uz l m O;have c:m<U l:=O
  have d:l.getD m []=l[m]:=by rw[fZ,bO c];rfl
  rw[adq,jl,o];by_cases i:m=0
  ·subst i;have k:nv l 0=I:=by simp[nv]
   rw[k,bk rfl,List.take_zero];show iK []++[l.getD 0 []]=_;rw[d,fs,bO c];rfl
  rw[abx O c];have k:l.getD (m-1) []=l[m-1]:=by rw[fZ,bO O];rfl
  have q:nv l m= !decide (l[m-1]=l[m]):=by
   unfold nv;rw[d,k];by_cases a:l[m-1]=l[m]
   ·simp[i,a]
   have n:l[m]≠l[m-1]:=λe=>a e.symm;simp[i,a,n]
  rw[q];by_cases a:l[m-1]=l[m]
  ·rw[bk a,cj a];simp
  rw[bh a,cc a];show _++[l.getD m []]=_;rw[d]
theorem aeo(l:dT):i' l=iK l:=by have:=Uz l (U l) (dV _);rw[eB] at this;exact this
theorem acu(dc:20000<=n)(A:cS p=I)(a:Int):GW n (iB p) a=Y ((pE p a).foldl jX []):=by
 have H:=(gf A).2.2.2.2;unfold GW;refine bR (ah (Km O A) ?_);rw[show(iB p).list=b2 p.aq from rfl];have q: ∀x∈b2 p.aq,iN p x:=λx o=>kJ o;have aoE:=K3 (p:=p) H;have br:=U5 (p:=p) (l:=b2 p.aq);unfold pE;generalize iA p (b2 p.aq) (U (b2 p.aq))=e at*;generalize b2 p.aq=m at*;have L: ∀x∈m,U x.dS<=4:=λx o=>(tH A (q x o)).choose_spec.2.2.2.1;refine cK (λx:dT×Int=> ∃i:Nat,x.2=i/\i<=U e/\x.1=(e.take i).filterMap (mL m a)) (λx=>U e-x.2.toNat) ?_ n _ ⟨0,rfl,O,aZ⟩ Z;rintro Q ⟨M,k⟩ ⟨i,N,aO,o⟩ T;dsimp only at N o⊢;subst N;have P:U M<=i:=by
  grind
 refine aS (λr=>?_) λV=>?_
 ·have r:i<U e:=O
  have S:=bO r;obtain⟨d1,d2,d3⟩:=br _ (gd r);have aoA:=Bb (l:=m) (c:=e[i].gi) d1 O;have MM:=Bb (l:=m) (c:=e[i].gj) O O;have hT:=gd (O:e[i].gi.toNat<U m);have R:=gd (O:e[i].gj.toNat<U m);have W:m[e[i].gi.toNat]? =Y m[e[i].gi.toNat]:=bO _;have X:m[e[i].gj.toNat]? =Y m[e[i].gj.toNat]:=bO _;obtain⟨Ji,B,amK,amL,amM,b⟩:=tH A (q _ hT);obtain⟨Jj,w,amN,amO,amP,f⟩:=tH A (q _ R);have C:mL m a e[i]=if m[e[i].gi.toNat].cf=a/\m[e[i].gj.toNat].cf=a then Y (mb m[e[i].gj.toNat].dS m[e[i].gi.toNat].dS) else al:=by
   unfold mL;rw[W,X]
  refine bU (λz=>z.1=(e.take (i+1)).filterMap (mL m a)) (λj g=>ah (bF S) (ah aoA (ah MM ?_))) λz s=>?_
  ·rw[Pl S,<-o] at g;refine bU (λz:Bool=>z= !decide (m[e[i].gi.toNat].cf=a/\m[e[i].gj.toNat].cf=a)) (λkK F=>fu (λh=>F _ ?_) λh=>F _ ?_) λz s=>?_
   ·rw[cc λh2=>h h2.1];rfl
   ·congr 1
    grind
   subst s;refine fu (λh=>g _ ?_) λh=>?_
   ·rw[C,bh h];simp
   have t:Ji=Jj:=by
    rw[h.1] at B;rw[h.2] at w;rw[B] at w;cases w;rfl
   subst t;refine Tk (K:=λu=>ad (app M [u]) λv=>j (v,e[i].gi,e[i].gj,e[i].kinds,m[e[i].gi.toNat].cf,m[e[i].gi.toNat].stmt,m[e[i].gi.toNat].dS,m[e[i].gj.toNat].cf,m[e[i].gj.toNat].stmt,m[e[i].gj.toNat].dS)) O O O b f ?_;refine ah (dO bV) (g _ ?_)
   grind
  rw[bt O];exact T _ ⟨i+1,Z,O,s⟩ Z
 have:i=U e:=O
 subst this;rw[eB] at o;subst o;have G: ∀y∈e.filterMap (mL m a),U y<=4:=λy E=>by
  obtain⟨d,_,cN⟩:=List.mem_filterMap.1 E;exact ahS L cN
 have alF:U (j7 (e.filterMap (mL m a)))<=15000:=by unfold j7;rw[List.length_mergeSort];omega
 refine ah (x:=j7 (e.filterMap (mL m a))) (by unfold rU;rw[bk ⟨O,λy E=>by have:=G y E;omega⟩]) (aJ ?_);rw[aeo];exact ahR _
def k1(p:bx)(i:Nat):dT:=(pE p i).foldl jX []
theorem ada(d:20000<=n)(a:kW p)(c:cS p=I)(e:p.aq[i]? =Y P):HX n p (i:Int)=Y (k1 p i):=by unfold HX;refine bR (ah (Ds O a) ?_);rw[bk c];refine cB (bU (λz=>z=ao) (λj h=>cx (ah (afK a e) (h _ rfl))) λz k=>?_);rw[k];exact cx (ah (acu d c _) (aJ rfl))
theorem aiF:d∈k1 p i↔d∈pE p i:=by
 unfold k1
 have:=(Lw (pE p i) [] .nil).2 d
 grind
theorem Si: ∀(a l:dT),U (a.foldl jX l)<=U l+U a
 | [],l=>aZ
 |d::a,l=>by
  rw[zD]
  have:=Si a (jX l d)
  have:=Tx l d;rw[nM];omega
theorem Md(c:cS p=I):U (k1 p i)<=15000:=by
 have a:=(gf c).2.2.2.2;have d:=K3 (p:=p) a
 have:=Si (pE p i) [];have e:U (pE p i)<=U (iA p (b2 p.aq) (U (b2 p.aq))):=by unfold pE;exact List.length_filterMap_le _ _
 unfold k1
 grind
theorem w3(r:cS p=I)(w:p.aq[i]? =Y P)(cN:d∈k1 p i):U d=U P.a6/\ ∀x∈d,dN 99999 x:=by
 have cN:=aiF.1 cN;unfold pE at cN;obtain⟨e,_,h⟩:=List.mem_filterMap.1 cN;unfold mL at h;split at h
 ·rename_i a b B C;split at h
  ·rename_i y;cases h;have m:iN p a:=kJ (ca B);have n:iN p b:=kJ (ca C);obtain⟨H,aW,a2,a3,a4,a5⟩:=tH r m;obtain⟨K,z,L,Q,R,F⟩:=tH r n;rw[y.1,eb,w] at aW;rw[y.2,eb,w] at z;cases aW;cases z;unfold mb;refine⟨by rw[Ii];omega,λx A=>?_⟩;obtain⟨u,v,G,o,rfl⟩: ∃u v,u∈b.dS/\v∈a.dS/\x=u-v:=by
    rw[mY] at A;obtain⟨k,c⟩:=A;rw[List.getElem?_zipWith] at c;cases l:b.dS[k]? with
    |none=>rw[l] at c;cases c
    |some u=>
     cases q:a.dS[k]? with
     |none=>rw[l,q] at c;cases c
     |some v=>
      rw[l,q] at c;cases c;exact⟨u,v,ca l,ca q,rfl⟩
   have W:=F u G;have X:=a5 v o;unfold dN at*;omega
  cases h
 cases h
def jA(d:bo):Bool:=match nA d with
 |some k=>decide (0<=d.getD k 0)
 |none=>I
theorem UY(h:nA d=Y k):k<U d/\d.getD k 0≠0:=by
 unfold nA at h;rw[Ou] at h
 grind
theorem Rs(W:20000<=n)(X:kW p)(B:cS p=I)(C:p.aq[i]? =Y P){F:bo->aL bo}{f:bo->bo}(H: ∀d∈k1 p i,F d=Y (f d))(K: ∀d,U (f d)=U d):
  AK n p (i:Int) F=Y ((k1 p i).all λd=>jA (f d)):=by
 unfold AK;refine bR (ah (ada W X B C) ?_);have w:=Md B (i:=i);have y:=λd z=>(w3 B C (d:=d) z).1;have b:=(kq ((gf B).2.2.2.1 P (ca C))).1;generalize k1 p i=a at H w y;refine cK (λx:dT×Int=> ∃k:Nat,x.2=k/\k<=U a/\(U x.1)=U a/\(∀t,k<=t->x.1[t]? =a[t]?)/\ ∀d∈a.take k,jA (f d)=I) (λx=>U a-x.2.toNat) ?_ n _ ⟨0,rfl,O,rfl,λ_ _=>rfl,λd z=>by simp at z⟩ Z;rintro o ⟨m,M⟩ ⟨k,L,g,A,c,Q⟩ j;dsimp only at L A c⊢;subst L;refine aS (λl=>?_) λs=>aJ ?_
 ·have l:k<U a:=O
  have u:m[k]? =Y a[k]:=by rw[c k (dV _),bO l]
  have hm:=gd l;have v:U (f a[k])<=4:=by rw[K,y _ hm];exact b
  refine ah (bF u) (ah (H _ hm) (ah (qX (K _)) (ah (ac8 O O) (ah (eS O _) ?_))));have e: ∀(G:jA (f a[k])=ao),a.all (λd=>jA (f d))=ao:=λG=>nL.2 ⟨_,hm,by simp[G]⟩;have go:jA (f a[k])=I->cG (o (m.set (k:Int).toNat (f a[k]),wr ((k:Int)+1))) (λr=>r=a.all λd=>jA (f d)):=λG=>by
   rw[bt O,eb];refine j _ ⟨k+1,Z,O,by dsimp only;rw[gH];exact A,λt N=>?_,λd z=>?_⟩ Z
   ·dsimp only
    grind
   rw[fs,bO l] at z
   grind
  unfold rk jA at*;cases q:nA (f a[k]) with
  |none=>
   rw[q] at go e;exact aS (λh=>bu h (by show¬(0:Int)<= -1;omega)) (λ_=>go rfl)
  |some t=>
   rw[q] at go e;obtain⟨E,S⟩:=UY q;refine aS (λ_=>?_) λh=>bu (show(0:Int)<=(t:Int) by omega) h;have R:=bO E;have T:(f a[k]).getD t 0=(f a[k])[t]:=by rw[fZ,R];rfl
   refine ah (bF R) (aS (λh=>aJ ?_) λh=>go ?_)
   ·exact(e (cc O)).symm
   exact cj O
 have:k=U a:=O
 grind
theorem abW(y:U d<=1000)(A:1000<n):Ia n d=Y (rk d):=by
 unfold Ia;refine bR (cK (λx:Int=> ∃i:Nat,x=i/\i<=U d/\ ∀j,j<i->d.getD j 0=0) (λx=>U d-x.toNat) ?_ n _ ⟨0,rfl,O,λj a=>bu a (sd _)⟩ O);rintro e z ⟨i,rfl,B,C⟩ m;have l: ∀j (a:j<U d),j<i->d[j]=0:=λj a o=>by
  grind
 refine aS (λc=>?_) λq=>aJ ?_
 ·have c:i<U d:=O
  have r:=bO c;refine ah (bF r) (fu (λh=>aJ ?_) λF=>?_)
  ·have:nA d=Y i:=by
    unfold nA;rw[Ou];exact⟨c,by simp[h],λj a=>by simp[l j O a]⟩
   unfold rk;rw[this]
  rw[bt O];refine m _ ⟨i+1,O,O,λj a=>?_⟩ O
  grind
 have:nA d=al:=by
  unfold nA;rw[List.findIdx?_eq_none_iff];intro x w;obtain⟨j,a⟩:=mY.1 w;obtain⟨k,rfl⟩:=cI.1 a;simp[l j k O]
 unfold rk;rw[this]
theorem RR(i:U d<=1000)(k:1000<n):Ah n d=Y (jA d):=by
 unfold Ah;refine bR (ah (abW i k) (bU (λz:Bool=>z=jA d) (λj c=>?_) λz l=>aJ l));unfold rk jA at*;cases a:nA d with
 |none=>
  rw[a] at c;exact aS (λ_=>c _ rfl) (λh=>bu (show(-1:Int)<0 by omega) h)
 |some t=>
  rw[a] at c;obtain⟨m,o⟩:=UY a;have e:=bO m;have q:d.getD t 0=d[t]:=by rw[fZ,e];rfl
  refine aS (λh=>bu h (show¬(t:Int)<0 by omega)) λ_=>ah (bF e) (c _ ?_);exact decide_eq_decide.2 ⟨λh=>O,λh=>O⟩
def pj(k:Nat)(a:aR):aR:=⟨(a.bg.set k (a.bg.getD (k+1) 0)).set (k+1) (a.bg.getD k 0),a.cv⟩
def r6(k:Nat)(d:bo):bo:=(d.set k (d.getD (k+1) 0)).set (k+1) (d.getD k 0)
theorem Un(k:Nat)(d:bo):U (r6 k d)=U d:=by simp[r6]
theorem U3: ∀x,dy x=I->eF 4 (pj k x):=λx a=>by have:=(h8 a).1;unfold eF pj;simp;omega
theorem jJ{l:List R}(h:k<U l)(z:R):l[k]? =Y (l.getD k z):=by grind
theorem Ul{h:Type}{l:List h}(a:k+1<U l)(i:U l<=1000000)(z:h){K:List h->aL R}(m:cG (K ((l.set k (l.getD (k+1) z)).set (k+1) (l.getD k z))) Q):
  cG (ad (aC l (wr ((k:Int)+1))) λd=>ad (aC l (k:Int)) λe=>ad (cW l (k:Int) d) λc=>ad (aC c (wr ((k:Int)+1))) λo=>ad (cW c (wr ((k:Int)+1)) e) K) Q:=by
 rw[bt (n:=(k:Int)+1) O,show(k:Int)+1=((k+1:Nat):Int) by omega];refine ah (bF (jJ a z)) (ah (bF (jJ O z)) (ah (eS O _) ?_));rw[eb];refine ah (bF (jJ (l:=l.set k (l.getD (k+1) z)) (k:=k+1) (by simpa using a) z)) (ah (eS (by rw[gH];omega) _) ?_)
 grind
theorem agH(a:k+1<U d)(c:U d<=1000):yJ n d (k:Int)=Y (r6 k d):=by unfold yJ;exact bR (Ul a O 0 (aJ rfl))
theorem agG(n:Nat)(c:k+1<4): ∀x,dy x=I->yI n x (k:Int)=Y (pj k x):=λx a=>by have d:=(h8 a).1;unfold yI;refine bR (ah (Ek n x a) (Ul O O 0 (aJ rfl)))
theorem ag0(n:Nat)(d:k+1<4): ∀x,dy x=I->lA n x 0 (k:Int) ⟨[],0⟩=Y (pj k x):=λx a=>by have e:=(h8 a).1;unfold lA;refine bR (aS (λ_=>ah (x:=pj k x) ?_ (aJ rfl)) λh=>bu rfl h);unfold KK;have c:tg n x=Y x:=D0 n O;rw[bt (n:=(k:Int)+1) O,show(k:Int)+1=((k+1:Nat):Int) by omega];refine bR (ah c (ah (bF (jJ O 0)) (ah (bF (jJ O 0)) (ah (eS O _) (ah (bF (jJ O 0)) ?_)))));rw[eb];refine ah (bF (jJ (l:=x.bg.set k (x.bg.getD (k+1) 0)) (k:=k+1) bV 0)) (ah (eS (by rw[gH];omega) _) ?_);rw[eb];exact aJ rfl
def pB(k:Nat)(a:aR):Bool:= !decide (a.bg.getD k 0=0)
def xV(l:b4)(k:Nat):Bool:=l.bD.any (pB k)||l.aO.any (pB k)
theorem aco(q:5000<=n)(e:mD l)(r:k<4):IH n l (k:Int)=Y (xV l k):=by
 obtain⟨⟨w,i⟩,y,m⟩:=e;have c: ∀x,dy x=I->tm n x (k:Int)=Y (pB k x):=λx a=>by
  have:=(h8 a).1;unfold tm;exact bR (ah (bF (jJ O 0)) (aJ rfl))
 unfold IH xV;refine bR (bU (λz=>z=(l.bD.any (pB k)||l.aO.any (pB k))) (λj d=>?_) λz o=>aJ o);refine ah (Ck (λx a=>c x (i x a)) O O) (dM (λh=>d _ (by rw[h];rfl)) λh=>ah (Ck (λx a=>c x (m x a)) O O) (d _ (by rw[h];rfl)))
theorem Tu{k:Type}{f:k->Bool}{l:List k}{x:k}(h:l[i]? =Y x):(l.take (i+1)).any f=((l.take i).any f||f x):=by rw[fs,h,wP];simp
theorem ab0(B:5000<=n)(r:mD l)(C:k<4):ER n l (k:Int)=Y (xV l k):=by
 obtain⟨⟨F,w⟩,G,y⟩:=r;unfold ER xV;refine bR (cK (λx:Int=> ∃i:Nat,x=i/\i<=U l.bD/\(l.bD.take i).any (pB k)=ao) (λx=>U l.bD-x.toNat) ?_ n _ ⟨0,rfl,O,rfl⟩ O);rintro c z ⟨i,rfl,A,e⟩ m;refine aS (λa=>?_) λo=>?_
 ·have a:i<U l.bD:=O
  have h:=bO a
  have:=(h8 (w _ (gd a))).1;refine ah (bF h) (ah (bF (jJ O 0)) (fu (λd=>aJ ?_) λq=>?_))
  ·rw[kA.2 ⟨_,gd a,by unfold pB;simpa using d⟩];rfl
  rw[bt O];exact m _ ⟨i+1,O,O,by rw[Tu h,e];unfold pB;simpa using q⟩ O
 have:i=U l.bD:=O
 subst this;rw[eB] at e;rw[e,Bool.false_or];clear m;refine cK (λx:Int=> ∃i:Nat,x=i/\i<=U l.aO/\(l.aO.take i).any (pB k)=ao) (λx=>U l.aO-x.toNat) ?_ n _ ⟨0,rfl,O,rfl⟩ O;rintro c z ⟨i,rfl,A,e⟩ m;refine aS (λa=>?_) λo=>aJ ?_
 ·have a:i<U l.aO:=O
  have h:=bO a
  have:=(h8 (y _ (gd a))).1;refine ah (bF h) (ah (bF (jJ O 0)) (fu (λd=>aJ ?_) λq=>?_))
  ·rw[kA.2 ⟨_,gd a,by unfold pB;simpa using d⟩]
  rw[bt O];exact m _ ⟨i+1,O,O,by rw[Tu h,e];unfold pB;simpa using q⟩ O
 have:i=U l.aO:=O
 grind
def lH(k:Nat)(l:List b4):List b4:=(l.set k (l.getD (k+1) ⟨[],[]⟩)).set (k+1) (l.getD k ⟨[],[]⟩)
theorem AG(k:Nat)(l:List b4):U (lH k l)=U l:=by simp[lH]
def zs(k:Nat)(P:cq):cq:=⟨(lH k P.a6).take (k+2)++((lH k P.a6).drop (k+2)).map (fI (pj k)),P.a'.map (kj (pj k))⟩
def sQ(p:bx)(i k:Nat)(P:cq):Bool:= !xV (P.a6.getD (k+1) ⟨[],[]⟩) k&&(k1 p i).all λd=>jA (r6 k d)
def qf(p:bx)(a c:Int):bx×Bool:=
 if d9 p a c=I/\d9 p a (c+1)=I then
  match aC p.aq a with
  |some P=>if sQ p a.toNat c.toNat P=I then j6 ⟨p.a7,p.aq.set a.toNat (zs c.toNat P)⟩ else fO
  |none=>fO
 else fO
theorem Lg{l:List b4}(c:k+1<U l){y:b4}(a:y∈lH k l):y∈l:=by
 unfold lH at a
 grind
theorem Vm(c:gb r P=I)(e:k+1<U P.a6):hR 4 (zs k P):=by
 obtain⟨n,h⟩:=kq c;obtain⟨_,i,l,_⟩:=ix c;refine⟨⟨by simp only[zs,fH,List.length_map,mv,nT,AG];omega,λy a=>?_⟩,by simp only[zs,List.length_map];exact i.2,λs m=>?_⟩
 ·rcases fy.1 a with a|a
  ·exact(xM c).1.2 y (Lg e (hi a))
  obtain⟨z,d,rfl⟩:=fh.1 a;exact AO U3 (h z (Lg e (hl d)))
 obtain⟨z,d,rfl⟩:=fh.1 m;exact F1 U3 (l z d)
theorem TQ(a:p.aq[i]? =Y P)(h:d9 p (i:Int) ((k:Int)+1)=I):k+1<U P.a6:=by
 obtain⟨_,c,d,e,l,m,n,o,_,_,q,_⟩:=mf h
 grind
theorem Ub(a:d9 p (i:Int) (k:Int)=I)(c:d9 p (i:Int) ((k:Int)+1)=I)(d:p.aq[i]? =Y P):qf p i k=if sQ p i k P=I then j6 ⟨p.a7,p.aq.set i (zs k P)⟩ else fO:=by
 unfold qf;rw[bk ⟨a,c⟩,bF d]
 grind
theorem amg(L:20000<=n)(x:eo 1000 p)(a c:Int):HU n p a c=Y (qf p a c):=by
 unfold HU;by_cases e:c= -1
 ·subst e;unfold qf;rw[bh λh=>by rw[ur O] at h;cases h.1];exact bR (dh (EA O x a) λt Q=>dM (λ_=>aS (λ_=>aJ rfl) λh=>bu (show(-1:Int)<0 by omega) h) λ_=>aJ rfl)
 refine bR (ah (AA O x a c e) ?_);by_cases m:d9 p a c=I
 ·rw[bk m];refine cB (aS (λh=>by rw[ur h] at m;cases m) λu=>?_);obtain⟨z,i,k,P,l,rfl,rfl,o,v,E,R,q,M⟩:=mf m;obtain⟨Q,H⟩:=kq q;obtain⟨_,W,X,_⟩:=ix q;refine ah (bF o) ?_;rw[bt (n:=(k:Int)+1) O,bt (n:=(k:Int)+2) O];refine aS (λb=>aJ ?_) λg=>?_
  ·unfold qf;rw[bh λh=>by have:=TQ o h.2;omega];rfl
  have r:k+1<U P.a6:=O
  have A:d9 p (i:Int) ((k:Int)+1)=I:=by
   unfold d9;rw[z,bF o]
   grind
  rw[Ub m A o];have K:=jJ r (⟨[],[]⟩:b4);rw[show(k:Int)+1=((k+1:Nat):Int) by omega];refine ah (bF K) (ah (aco O (H _ (ca K)) O) (dM (λB=>aJ ?_) λB=>?_))
  ·rw[bh (by unfold sQ;rw[B];simp)];rfl
  refine ah (Rs L x.sm z o (F:=λC=>yJ n C (k:Int)) (f:=r6 k) (λd w=>agH (by have:=(w3 z o w).1;omega) (by have:=(w3 z o w).1;omega)) (Un k)) (dM (λw=>?_) λw=>aJ ?_)
  ·rw[bk (by unfold sQ;rw[B,w];rfl)];refine ah (bF (jJ O (⟨[],[]⟩:b4))) (ah (eS O _) (ah (eS (by rw[gH];omega) _) (ah (eS Z _) ?_)));rw[eb,eb,eb];have G:=Cy (n:=n) O (nest:=lH k P.a6) (body:=P.a') (s:=k+2) (by rw[AG];omega) (by rw[AG];omega) (λy j=>H y (Lg r (hl j))) W.2 X (F:=λC=>yI n C (k:Int)) (agG n O);rw[show(k:Int)+2=((k+2:Nat):Int) by omega];refine ah G (ah (eS bV _) ?_);rw[eb,List.set_set];exact ah (tP O (A9 x i (Vm q r))) (aJ rfl)
  rw[bh (by unfold sQ;rw[w];simp)];rfl
 unfold qf;rw[bh m,bh λh=>m h.1];exact cx (aJ rfl)
theorem Um{a b:List b4}(c:k+1<U a):lH k (a++b)=lH k a++b:=by
 have d:(a++b).getD (k+1) ⟨[],[]⟩=a.getD (k+1) ⟨[],[]⟩:=by rw[fZ,fZ,ll c]
 have e:(a++b).getD k ⟨[],[]⟩=a.getD k ⟨[],[]⟩:=by rw[fZ,fZ,ll O]
 unfold lH
 grind
theorem af9{l:List b4}(c:k+1<U l):lH k (l.take (k+2))=(lH k l).take (k+2):=by have h:=Um (k:=k) (a:=l.take (k+2)) (b:=l.drop (k+2)) (by rw[dW];omega);rw[zy] at h;rw[h,wQ (by rw[AG,dW];omega)];exact(lO (by rw[AG,dW];omega)).symm
theorem af'{l:List b4}:(lH k l).drop (k+2)=l.drop (k+2):=by unfold lH;rw[sl O,sl O]
theorem ajg(a:k+1<U P.a6)(r:List b4):lH k (P.a6.take (k+2)++r)=(lH k P.a6).take (k+2)++r:=by rw[Um (by rw[dW];omega),af9 a]
theorem am7(dc:20000<=n)(r:eo 1000 p)(a c:Int):HQ n p a c=Y (qf p a c):=by
 unfold HQ;by_cases G:d9 p a c=I;rotate_left
 ·unfold qf;rw[bh λh=>G h.1];refine bR (ah (nD O r) (bU (λz=>z=I) (λj K=>ah (pk O r a c) (dM (λ_=>K _ rfl) λh=>bu (by simpa using h) G)) λz L=>by rw[L];exact cB (aJ rfl)))
 obtain⟨g,i,k,P,l,rfl,rfl,Q,dm,aO,qE,B,hk⟩:=mf G;obtain⟨h1,S⟩:=kq B;obtain⟨_,h4,h5,_⟩:=ix B;rw[bt (n:=(k:Int)+1) O];by_cases o:d9 p (i:Int) ((k:Int)+1)=I;rotate_left
 ·unfold qf;rw[bh λh=>o h.2];refine bR (ah (nD O r) (bU (λz=>z=I) (λj K=>ah (pk O r _ _) (dM (λh=>by rw[G] at h;cases h) λ_=>ah (pk O r _ _) (dM (λ_=>K _ rfl) λh=>bu (by simpa using h) o))) λz L=>by rw[L];exact cB (aJ rfl)))
 rw[Ub G o Q];have C:=TQ Q o;have T:=jJ C (⟨[],[]⟩:b4);refine bR (ah (nD O r) (bU (λz=>z=xV (P.a6.getD (k+1) ⟨[],[]⟩) k) (λj K=>?_) λz L=>?_))
 ·refine ah (pk O r _ _) (dM (λh=>by rw[G] at h;cases h) λ_=>ah (pk O r _ _) (dM (λh=>by rw[o] at h;cases h) λ_=>ah (bF Q) ?_));rw[show(k:Int)+1=((k+1:Nat):Int) by omega];exact ah (bF T) (ah (ab0 O (S _ (ca T)) O) (K _ rfl))
 subst L;refine dM (λt=>aJ ?_) λt=>?_
 ·rw[bh (by unfold sQ;rw[t];simp)];rfl
 refine ah (x:=k1 p i) (Q3 dc r.sm g _) ?_;have R:=Md g (i:=i);have W:=λd H=>(w3 g Q (d:=d) H).1;have u:sQ p i k P=(k1 p i).all (λd=>jA (r6 k d)):=by unfold sQ;rw[t];rfl
 rw[u];generalize k1 p i=e at R W;refine cK (λx:Int=> ∃m:Nat,x=m/\m<=U e/\ ∀d∈e.take m,jA (r6 k d)=I) (λx=>U e-x.toNat) ?_ n _ ⟨0,rfl,O,λd H=>by simp at H⟩ O;rintro E z ⟨m,rfl,hm,q⟩ cC;refine aS (λF=>?_) λjt=>?_
 ·have F:m<U e:=O
  have V:=bO F;have w:=gd F;have rz:=W _ w;rw[show(k:Int)+1=((k+1:Nat):Int) by omega];refine ah (bF V) (ah (dO bV) (ah (bF (jJ O 0)) (ah (x:=e[m].getD k 0) (bF (jJ (l:=e[m]) O 0)) (ah (eS (by rw[wO];omega) _) (ah (bF (jJ O 0)) ?_)))));rw[wO,eb];refine ah (bF (jJ (l:=e[m].set k (e[m].getD (k+1) 0)) (k:=k+1) bV 0)) (ah (eS (by rw[gH];omega) _) ?_);rw[eb];refine ah (x:=jA (r6 k e[m])) (RR (d:=r6 k e[m]) (by rw[Un];omega) O) (dM (λh=>aJ ?_) λh=>?_)
  ·rw[bh λX=>?_]
   ·rfl
   have:=hL.1 X _ w;rw[this] at h;cases h
  rw[bt O];refine cC _ ⟨m+1,O,O,λd H=>?_⟩ O;rw[fs,V] at H;rcases fy.1 H with M|M
  ·exact q d M
  have:d=e[m]:=by simpa using M
  subst this;simpa using h
 have:m=U e:=O
 subst this;rw[eB] at q;rw[bk (hL.2 q)];have N:=DR (n:=n) O (x:=P) (s:=k+1) O h1 S h4.2 h5 (way:=0) (v:=(k:Int)) (b:=⟨[],0⟩) (f:=pj k) λn _ x hx=>ag0 n O x hx;rw[show(k:Int)+1=((k+1:Nat):Int) by omega];refine ah (bF Q) (ah N ?_);have rv:U (P.a6.take (k+2)++(P.a6.drop (k+2)).map (fI (pj k)))=U P.a6:=by rw[ea,er,dW,hY];omega
 have y:=ajg C ((P.a6.drop (k+2)).map (fI (pj k)));rw[show k+1+1=k+2 by omega];dsimp only;generalize P.a6.take (k+2)++(P.a6.drop (k+2)).map (fI (pj k))=A at rv y;refine ah (bF (jJ O (⟨[],[]⟩:b4))) (ah (bF (jJ O (⟨[],[]⟩:b4))) (ah (eS O _) ?_));rw[eb];refine ah (bF (jJ (l:=A.set k (A.getD (k+1) ⟨[],[]⟩)) (k:=k+1) (by rw[gH];omega) (⟨[],[]⟩:b4))) (ah (eS (by rw[gH];omega) _) ?_);rw[eb];have pP:(⟨(A.set k (A.getD (k+1) ⟨[],[]⟩)).set (k+1) (A.getD k ⟨[],[]⟩),P.a'.map (kj (pj k))⟩:cq)=zs k P:=by
  have:(A.set k (A.getD (k+1) ⟨[],[]⟩)).set (k+1) (A.getD k ⟨[],[]⟩)=lH k A:=rfl;rw[this,y,<-af'];rfl
 rw[pP];exact ah (AF O r aO ((Vm B C).mono O)) (aJ rfl)
def Hc(i:Nat)(a:bo->bo)(x:dz):dz:=if x.cf=(i:Int) then⟨x.cf,x.stmt,a x.dS⟩ else x
structure ans (p q:bx) (i:Nat) (q8:bo->bo):Prop where
 arr:q.a7=p.a7
 perm:(b2 q.aq).Perm ((b2 p.aq).map (Hc i q8))
 cells: ∀x∈b2 p.aq,rc q (Hc i q8 x)=rc p x/\eu q (Hc i q8 x)=eu p x
 run: ∀x∈b2 p.aq,∀m,kN q m (Hc i q8 x)=kN p m x
structure Kept (p:bx) (i:Nat) (P:cq) (q8 f:bo->bo):Prop where
 pos:(k1 p i).all (λd=>jA (f d))=I
 anD: ∀a b:bo,U a=U P.a6->U b=U P.a6->f (mb b a)=mb (q8 b) (q8 a)
 len: ∀a:bo,U a=U P.a6->U (q8 a)=U P.a6
 inj: ∀a b:bo,U a=U P.a6->U b=U P.a6->q8 a=q8 b->a=b
def pD(k:Nat)(c:Int):aR:=⟨[0,0,0,0].set k (-1),c⟩
def sU(k:Nat)(c:Int)(x:aR):aR:=x5 x k (pD k c)
def nZ(k:Nat)(d:bo):bo:=d.set k (0-d.getD k 0)
def pC(l:b4):Int:=eA l.bD+eA l.aO-1
def Bg(k:Nat)(c:Int)(P:cq):cq:=⟨P.a6.take (k+1)++(P.a6.drop (k+1)).map (fI (sU k c)),P.a'.map (kj (sU k c))⟩
def vd(p:bx)(i k:Nat)(l:b4):Bool:=gp l&&(k1 p i).all λd=>jA (nZ k d)
def r2(p:bx)(a c:Int):bx×Bool:=
 if d9 p a c=I then
  match aC p.aq a with
  |some P=>match aC P.a6 c with
   |some l=>if vd p a.toNat c.toNat l=I then j6 ⟨p.a7,p.aq.set a.toNat (Bg c.toNat (pC l) P)⟩ else fO
   |none=>fO
  |none=>fO
 else fO
theorem Tb(k:Nat)(d:bo):U (nZ k d)=U d:=by simp[nZ]
theorem TV(h:d9 p (i:Int) (k:Int)=I)(a:p.aq[i]? =Y P)(c:P.a6[k]? =Y l):r2 p i k=if vd p i k l=I then j6 ⟨p.a7,p.aq.set i (Bg k (pC l) P)⟩ else fO:=by
 unfold r2;rw[bk h,bF a];dsimp only;rw[bF c]
 grind
theorem TW(d:k<4)(a:dN 999 c):gZ 1000 (pD k c):=by unfold dN at a;rcases(O:k=0\/k=1\/k=2\/k=3) with rfl|rfl|rfl|rfl<;>(unfold gZ dN pD;simp;omega)
theorem TX(k:Nat)(c:Int): ∀x,dy x=I->eF 4 (sU k c x):=λx a=>by have:=Vh ⟨x.bg.set k 0,x.cv⟩ (pD k c) (x.bg.getD k 0) (by dsimp only;rw[gH];exact(h8 a).1) (by simp[pD]);unfold eF sU x5;omega
theorem xE{l:List aR}(h: ∀x∈l,dy x=I):dN 99 (eA l):=by
 unfold eA;cases l with
 |nil=>unfold dN;simp
 |cons x t=>exact(h8 (h x fi)).2.1
theorem LP(h:mD l):dN 999 (pC l):=by have a:=xE h.1.2;have c:=xE h.2.2;unfold dN at*;unfold pC;omega
theorem afu(n:Nat)(a:k<U d)(c: ∀x∈d,dN 99999 x):yH n d (k:Int)=Y (nZ k d):=by have e:=jJ a (0:Int);have br:=c _ (ca e);unfold dN at br;unfold yH;refine bR (ah (bF e) ?_);rw[bt O];refine ah (eS O _) (aJ ?_);rw[eb];rfl
theorem aha(n:Nat)(a:k<4):pV n (k:Int) (-1)=Y ⟨[0,0,0,0].set k (-1),0⟩:=by rcases(O:k=0\/k=1\/k=2\/k=3) with rfl|rfl|rfl|rfl<;>rfl
theorem aft(d:5000<=n)(a:k<4)(e:dN 999 c): ∀x,dy x=I->yG n x (k:Int) (pD k c)=Y (sU k c x):=λx h=>by unfold yG;rw[JE d ((qd h).mono O) (TW a e) a];rfl
theorem agh(a:k<4)(d:dN 999 c): ∀n,5000<=n-> ∀x,dy x=I->lA n x 1 (k:Int) (pD k c)=Y (sU k c x):=λn e x h=>by unfold lA;rw[Q0 e ((qd h).mono O) (TW a d) a];rfl
theorem aji(a:5000<=n)(d:k<4)(e:dN 999 c):kp n ⟨[0,0,0,0],c⟩ 1 (jw k) (-1)=Y (pD k c):=by unfold dN at e;rw[wY a (by unfold gZ dN;simp;omega) ((uR d).mono O) ⟨O,O⟩ ⟨O,O⟩];rcases(O:k=0\/k=1\/k=2\/k=3) with rfl|rfl|rfl|rfl<;>simp[qu,jw,pD]
theorem UW(d:gb r P=I)(n:k<U P.a6)(c:Int):hR 4 (Bg k c P):=by
 obtain⟨o,h⟩:=kq d;obtain⟨_,i,l,_⟩:=ix d;refine⟨⟨by simp only[Bg,fH,List.length_map,mv,nT];omega,λy a=>?_⟩,by simp only[Bg,List.length_map];exact i.2,λs m=>?_⟩
 ·rcases fy.1 a with a|a
  ·exact(xM d).1.2 y (hi a)
  obtain⟨z,e,rfl⟩:=fh.1 a;exact AO (TX k c) (h z (hl e))
 obtain⟨z,e,rfl⟩:=fh.1 m;exact F1 (TX k c) (l z e)
theorem ama(g:20000<=n)(z:eo 1000 p)(a c:Int):HT n p a c=Y (r2 p a c):=by
 unfold HT;by_cases m:c= -1
 ·subst m;unfold r2;rw[bh λh=>by rw[ur O] at h;cases h];exact bR (dh (EA O z a) λE W=>dM (λ_=>aS (λ_=>aJ rfl) λh=>bu (show(-1:Int)<0 by omega) h) λ_=>aJ rfl)
 refine bR (ah (AA O z a c m) ?_);by_cases o:d9 p a c=I
 ·rw[bk o];refine cB (aS (λh=>by rw[ur h] at o;cases o) λM=>?_);obtain⟨A,i,k,P,l,rfl,rfl,w,B,N,C,q,X⟩:=mf o;obtain⟨W,b⟩:=kq q;obtain⟨_,j,t,_⟩:=ix q;have e:=b l (ca B);rw[TV o w B];refine ah (bF w) (ah (bF B) (ah (KX O e) ?_));cases G:gp l with
  |false=>exact cx (aJ (by rw[bh (by unfold vd;rw[G];simp)];rfl))
  |true=>
   refine cB (ah (Rs g z.sm A w (F:=λH=>yH n H (k:Int)) (f:=nZ k) (λd r=>afu n (by have:=(w3 A w r).1;omega) (w3 A w r).2) (Tb k)) (dM (λr=>?_) λr=>aJ ?_))
   ·rw[show vd p i k l=I by unfold vd;rw[G,r];rfl];refine ah (aha n X) ?_;have ch:=LP e;have K:=xE e.1.2;have L:=xE e.2.2;unfold dN at K L;have Q:(⟨([0,0,0,0]:bo).set k (-1),wr ((wr (eA l.bD+eA l.aO))-1)⟩:aR)=pD k (pC l):=by
     rw[bt (n:=eA l.bD+eA l.aO) O,bt O];rfl
    rw[bt (n:=(k:Int)+1) O];have R:=Cy (n:=n) O (nest:=P.a6) (body:=P.a') (s:=k+1) O W (λy u=>b y (hl u)) j.2 t (F:=λH=>yG n H (k:Int) (⟨([0,0,0,0]:bo).set k (-1),wr ((wr (eA l.bD+eA l.aO))-1)⟩:aR)) (f:=sU k (pC l)) λx v=>by rw[Q];exact aft O X ch x v
    rw[show(k:Int)+1=((k+1:Nat):Int) by omega];refine ah R (ah (eS Z _) ?_);rw[eb];exact ah (tP O (A9 z i (UW q C (pC l)))) (aJ rfl)
   rw[bh (by unfold vd;rw[G,r];simp)];rfl
 unfold r2;rw[bh o,bh o];exact cx (aJ rfl)
theorem am1(T:20000<=n)(C:eo 1000 p)(c e:Int):HP n p c e=Y (r2 p c e):=by
 unfold HP;refine bR (ah (nD O C) (ah (pk O C c e) ?_));by_cases br:d9 p c e=I;rotate_left
 ·unfold r2;rw[bh br,show d9 p c e=ao by simpa using br];exact cB (aJ rfl)
 rw[br];refine cx ?_;obtain⟨G,i,k,P,l,rfl,rfl,H,K,V,L,q,Q⟩:=mf br;obtain⟨h1,M⟩:=kq q;obtain⟨_,h4,h5,_⟩:=ix q;have o:=M l (ca K);rw[TV br H K];refine ah (bF H) (ah (bF K) (ah (J9 O o) (ah (x:=k1 p i) (Q3 T C.sm G _) ?_)));have w:=Md G (i:=i);have y:=λd cN=>w3 G H (d:=d) cN;have R:vd p i k l=(gp l&&(k1 p i).all λd=>jA (nZ k d)):=rfl;rw[R];have h3:(if gp l=I then(eA l.bD,eA l.aO,I) else((0:Int),(0:Int),ao)).2.2=gp l:=by cases gp l<;>rfl
 generalize k1 p i=h at w y;refine cK (λx:Bool×Int=> ∃m:Nat,x.2=m/\m<=U h/\x.1=(gp l&&(h.take m).all λd=>jA (nZ k d))) (λx=>U h-x.2.toNat) ?_ n _ ⟨0,rfl,O,by dsimp only;rw[h3,List.take_zero];simp⟩ Z;rintro W ⟨ok,z⟩ ⟨m,F,hm,a⟩ cC;dsimp only at F a⊢;subst F;refine aS (λr=>?_) λjt=>?_
 ·have r:m<U h:=O
  have N:=bO r;obtain⟨g1,g2⟩:=y _ (gd r);have S:=jJ (l:=h[m]) (k:=k) O 0;have br:=g2 _ (ca S);unfold dN at br;refine bU (λz=>z.2=(gp l&&(h.take (m+1)).all λd=>jA (nZ k d))) (λj X=>?_) λz F=>?_
  ·refine ah (bF N) (ah (dO bV) ?_);rw[wO];refine ah (bF S) ?_;rw[bt O];refine ah (eS O _) ?_;rw[eb];have A:(h.take (m+1)).all (λd=>jA (nZ k d))=((h.take m).all (λd=>jA (nZ k d))&&jA (nZ k h[m])):=by
    rw[fs,N,List.all_append];simp
   rw[A,<-oL,<-a] at X;cases ok with
   |true=>exact cB (ah (x:=jA (nZ k h[m])) (RR (d:=nZ k h[m]) (by rw[Tb];omega) O) (X _ (by rw[ic])))
   |false=>exact cx (X _ (by rw[Bool.false_and]))
  rw[bt O];exact cC _ ⟨m+1,Z,O,F⟩ Z
 have:m=U h:=O
 subst this;rw[eB] at a;rw[<-a];cases B:ok with
 |false=>exact cB (aJ (by rw[bh aZ];rfl))
 |true=>
  rw[bk rfl];have g:gp l=I:=by
   rw[B] at a;cases g:gp l with
   |true=>rfl
   |false=>rw[g] at a;cases a
  have t:=xE o.1.2;have u:=xE o.2.2;unfold dN at t u;have E:wr ((wr ((if gp l=I then(eA l.bD,eA l.aO,I) else((0:Int),(0:Int),ao)).1+(if gp l=I then(eA l.bD,eA l.aO,I) else((0:Int),(0:Int),ao)).2.1))-1)=pC l:=by
   rw[bk g];dsimp only;rw[bt (n:=eA l.bD+eA l.aO) O,bt O];rfl
  rw[E];refine cx (ah (jG n _) (ah (EP n Q) (ah (aji O Q (LP o)) (ah (DR (n:=n) O (x:=P) (s:=k) O h1 M h4.2 h5 (way:=1) (v:=(k:Int)) (b:=pD k (pC l)) (f:=sU k (pC l)) (agh Q (LP o))) ?_))));exact ah (AF O C V ((UW q L (pC l)).mono O)) (aJ rfl)
end
section
def o1(k:Int):Int:=if k=3\/k=4\/k=5 then 3 else if k=1\/k=2\/k=7\/k=8 then 2 else if k=6\/k=9\/k=10 then 1 else 0
def u2(s:e7):Bool:=ak (1<=s.aU/\s.aU<=11)&&((ak (0<o1 s.aU)||decide (s.cf=0))&&((ak (1<o1 s.aU)||decide (s.a=0))&&(ak (2<o1 s.aU)||decide (s.b=0))))
theorem Vy(k:Int):0<=o1 k/\o1 k<=3:=by
 unfold o1
 grind
theorem Qz(n:Nat)(k:Int):CV n k=Y (o1 k):=by
 unfold CV o1;refine bR (bU (λz=>z=ak (k=3\/k=4\/k=5)) (λj a=>aS (λh=>a _ ?_) λh=>aS (λc=>a _ ?_) λc=>a _ ?_) λz d=>?_)
 ·rw[jk];simp only[decide_eq_true_eq];omega
 ·rw[jk];simp only[decide_eq_true_eq];omega
 ·rw[jk];simp only[decide_eq_true_eq];omega
 subst d;by_cases e:k=3\/k=4\/k=5
 ·rw[bk e,cj e];exact cB (aJ rfl)
 rw[bh e,cc e];refine cx (bU (λz=>z=ak (k=1\/k=2\/k=7\/k=8)) (λj a=>aS (λh=>a _ ?_) λh=>aS (λc=>a _ ?_) λc=>aS (λm=>a _ ?_) λm=>a _ ?_) λz d=>?_)
 ·rw[jk];simp only[decide_eq_true_eq];omega
 ·rw[jk];simp only[decide_eq_true_eq];omega
 ·rw[jk];simp only[decide_eq_true_eq];omega
 ·rw[jk];simp only[decide_eq_true_eq];omega
 subst d;by_cases i:k=1\/k=2\/k=7\/k=8
 ·rw[bk i,cj i];exact cB (aJ rfl)
 rw[bh i,cc i];refine cx (bU (λz=>z=ak (k=6\/k=9\/k=10)) (λj a=>aS (λh=>a _ ?_) λh=>aS (λc=>a _ ?_) λc=>a _ ?_) λz d=>?_)
 ·rw[jk];simp only[decide_eq_true_eq];omega
 ·rw[jk];simp only[decide_eq_true_eq];omega
 ·rw[jk];simp only[decide_eq_true_eq];omega
 subst d;by_cases l:k=6\/k=9\/k=10
 ·rw[bk l,cj l];exact cB (aJ rfl)
 rw[bh l,cc l];exact cx (aJ rfl)
theorem acr(n:Nat)(k:Int):r1 n k=Y (if 1<=k/\k<=11 then o1 k else-1):=by
 unfold r1 o1;refine bR (bU (λz=>z=ak (k=1\/k=2\/k=7\/k=8)) (λj a=>aS (λh=>a _ ?_) λh=>aS (λc=>a _ ?_) λc=>aS (λm=>a _ ?_) λm=>a _ ?_) λz d=>?_)
 ·rw[jk];simp only[decide_eq_true_eq];omega
 ·rw[jk];simp only[decide_eq_true_eq];omega
 ·rw[jk];simp only[decide_eq_true_eq];omega
 ·rw[jk];simp only[decide_eq_true_eq];omega
 subst d;by_cases e:k=1\/k=2\/k=7\/k=8
 ·rw[cj e,bk O,bh O,bk e];exact cB (aJ rfl)
 rw[cc e];refine cx (bU (λz=>z=ak (k=3\/k=4\/k=5)) (λj a=>aS (λh=>a _ ?_) λh=>aS (λc=>a _ ?_) λc=>a _ ?_) λz d=>?_)
 ·rw[jk];simp only[decide_eq_true_eq];omega
 ·rw[jk];simp only[decide_eq_true_eq];omega
 ·rw[jk];simp only[decide_eq_true_eq];omega
 subst d;by_cases i:k=3\/k=4\/k=5
 ·rw[cj i,bk O,bk i];exact cB (aJ rfl)
 rw[cc i];refine cx (bU (λz=>z=ak (k=6\/k=9\/k=10)) (λj a=>aS (λh=>a _ ?_) λh=>aS (λc=>a _ ?_) λc=>a _ ?_) λz d=>?_)
 ·rw[jk];simp only[decide_eq_true_eq];omega
 ·rw[jk];simp only[decide_eq_true_eq];omega
 ·rw[jk];simp only[decide_eq_true_eq];omega
 subst d;by_cases l:k=6\/k=9\/k=10
 ·rw[cj l,bk O,bh i,bh e,bk l];exact cB (aJ rfl)
 rw[cc l];refine cx (aS (λh=>aJ ?_) λh=>aJ ?_)
 ·rw[bk O,bh i,bh e,bh l]
 rw[bh O]
theorem adf(n:Nat)(s:e7):DI n s=Y (u2 s):=by
 unfold DI u2;have d:=Vy s.aU;refine bR (ah (Qz n s.aU) ?_);generalize o1 s.aU=f at*;refine bU (λz=>z=(ak (1<=s.aU/\s.aU<=11)&&((ak (0<f)||decide (s.cf=0))&&((ak (1<f)||decide (s.a=0))&&(ak (2<f)||decide (s.b=0)))))) (λj e=>?_) (λz c=>aJ c)
 grind
variable {n:Nat}{p:bx}{s:e7}{R:bx×Bool}
theorem ac'(i:10<=n)(s:e7):wD n s=Y (u2 s):=by
 unfold wD u2;have k:=Vy s.aU;refine bR (ah (acr n s.aU) ?_);generalize o1 s.aU=f at*;refine bU (λz=>z=(ak (1<=s.aU/\s.aU<=11)&&((ak (0<f)||decide (s.cf=0))&&((ak (1<f)||decide (s.a=0))&&(ak (2<f)||decide (s.b=0)))))) (λj d=>?_) λz e=>aJ e;by_cases c:1<=s.aU/\s.aU<=11
 ·rw[bk c];rw[cj c] at d⊢;refine aS (λ_=>ah (show tN n s=Y [s.cf,s.a,s.b] from rfl) (ah (g' O bV aZ) (ah (Ij (p:=λv=> !decide (v=0)) (λx _=>rfl) bV bV) (d _ ?_)))) λh=>bu h O;rw[show(U [s.cf,s.a,s.b]:Int).toNat=U [s.cf,s.a,s.b] from rfl,eB];rcases(O:f=0\/f=1\/f=2\/f=3) with rfl|rfl|rfl|rfl
  ·simp[show(0:Int).toNat=0 from rfl]
  ·simp[show(1:Int).toNat=1 from rfl]
  ·simp[show(2:Int).toNat=2 from rfl]
  simp[show(3:Int).toNat=3 from rfl]
 rw[bh c]
 grind
noncomputable def ri(p:bx)(s:e7):bx×Bool:=
 if u2 s=I then
  (if s.aU=1 then qf p s.cf s.a else if s.aU=2 then r2 p s.cf s.a else if s.aU=3 then zr p s.cf s.a s.b else if s.aU=4 then zq p s.cf s.a s.b
   else if s.aU=5 then uo p s.cf s.a s.b else if s.aU=6 then tf p s.cf else if s.aU=7 then s9 p s.cf s.a else if s.aU=8 then um p s.cf s.a
   else if s.aU=9 then qZ p s.cf else if s.aU=10 then sI p s.cf else x0 p)
 else fO
def sM(s:e7):Prop:= -1<=s.cf/\s.cf<=9
theorem ac9(d:20000<=n)(c:eo 1000 p)(i:C4 n p s.cf=Y (tf p s.cf))(k:Cb n p s.cf s.a=Y (s9 p s.cf s.a))(l:C1 n p s.cf=Y (qZ p s.cf))(e:Dl n p s.cf=Y (sI p s.cf)):tO n p s=Y (ri p s):=by
 unfold tO ri;refine bR (ah (ac' O s) ?_);cases m:u2 s with
 |false=>exact cB (aJ rfl)
 |true=>
  rw[bk rfl];refine cx (aS (λh=>?_) λh=>?_)
  ·rw[bk h];exact ah (amg d c _ _) (aJ rfl)
  rw[bh h];refine aS (λh=>?_) λh=>?_
  ·rw[bk h];exact ah (ama d c _ _) (aJ rfl)
  rw[bh h];refine aS (λh=>?_) λh=>?_
  ·rw[bk h];exact ah (amc O c _ _ _) (aJ rfl)
  rw[bh h];refine aS (λh=>?_) λh=>?_
  ·rw[bk h];exact ah (amb O c _ _ _) (aJ rfl)
  rw[bh h];refine aS (λh=>?_) λh=>?_
  ·rw[bk h];exact ah (ame O c _ _ _) (aJ rfl)
  rw[bh h];refine aS (λh=>?_) λh=>?_
  ·rw[bk h];exact ah i (aJ rfl)
  rw[bh h];refine aS (λh=>?_) λh=>?_
  ·rw[bk h];exact ah k (aJ rfl)
  rw[bh h];refine aS (λh=>?_) λh=>?_
  ·rw[bk h];exact ah (amd d c _ _) (aJ rfl)
  rw[bh h];refine aS (λh=>?_) λh=>?_
  ·rw[bk h];exact ah l (aJ rfl)
  rw[bh h];refine aS (λh=>?_) λh=>?_
  ·rw[bk h];exact ah e (aJ rfl)
  rw[bh h];exact ah (Zv O c) (aJ rfl)
theorem afz(d:20000<=n)(a:eo 1000 p)(c:sM s):tO n p s=Y (ri p s):=ac9 d a (al' d a c) (al9 d a c) (amf O a c) (afA O a c)
theorem adK(d:20000<=n)(c:eo 1000 p)(i:CX n p s.cf=Y (tf p s.cf))(k:B' n p s.cf s.a=Y (s9 p s.cf s.a))(l:CW n p s.cf=Y (qZ p s.cf))(e:Dp n p s.cf=Y (sI p s.cf)):zf n p s=Y (ri p s):=by
 unfold zf ri;refine bR (ah (nD O c) (ah (adf n s) ?_));cases m:u2 s with
 |false=>exact cB (aJ rfl)
 |true=>
  rw[bk rfl];refine cx (aS (λh=>?_) λh=>?_)
  ·rw[bk h];exact ah (am7 d c _ _) (aJ rfl)
  rw[bh h];refine aS (λh=>?_) λh=>?_
  ·rw[bk h];exact ah (am1 d c _ _) (aJ rfl)
  rw[bh h];refine aS (λh=>?_) λh=>?_
  ·rw[bk h];exact ah (am3 O c _ _ _) (aJ rfl)
  rw[bh h];refine aS (λh=>?_) λh=>?_
  ·rw[bk h];exact ah (am2 O c _ _ _) (aJ rfl)
  rw[bh h];refine aS (λh=>?_) λh=>?_
  ·rw[bk h];exact ah (am5 O c _ _ _) (aJ rfl)
  rw[bh h];refine aS (λh=>?_) λh=>?_
  ·rw[bk h];exact ah i (aJ rfl)
  rw[bh h];refine aS (λh=>?_) λh=>?_
  ·rw[bk h];exact ah k (aJ rfl)
  rw[bh h];refine aS (λh=>?_) λh=>?_
  ·rw[bk h];exact ah (am4 d c _ _) (aJ rfl)
  rw[bh h];refine aS (λh=>?_) λh=>?_
  ·rw[bk h];exact ah l (aJ rfl)
  rw[bh h];refine aS (λh=>?_) λh=>?_
  ·rw[bk h];exact ah e (aJ rfl)
  rw[bh h];exact ah (Zx O c) (aJ rfl)
theorem RT(d:20000<=n)(a:eo 1000 p)(c:sM s):zf n p s=Y (ri p s):=adK d a (am0 d a c) (amZ d a c) (am6 O a c) (aeR O a c)
def qi(R:bx×Bool):Prop:=(R.2=I/\cS R.1=I)\/R=fO
theorem ik:qi fO:= .inr rfl
theorem wE(q:bx):qi (j6 q):=by
 unfold j6;split
 ·rename_i h;exact .inl ⟨rfl,h⟩
 exact .inr rfl
theorem qi.VK(h:qi R):eo 1000 R.1:=by
 rcases h with h|h
 ·exact(ob h.2).mono O
 rw[h];exact amF
theorem qi.v(h:qi R)(a:R.2=I):cS R.1=I:=by
 rcases h with h|h
 ·exact h.2
 rw[h] at a;cases a
theorem qi.no(h:qi R)(a:R.2=ao):R=fO:=by
 rcases h with h|h
 ·rw[a] at h;cases h.1
 exact h
theorem QS(p:bx)(a c:Int)(g f:aR->aR):qi (y6 p a c g f):=by
 unfold y6;split
 ·split
  ·exact wE _
  exact ik
 exact ik
theorem R7(p:bx)(s:e7):qi (ri p s):=by
 unfold ri;split
 ·split
  ·unfold qf;split
   ·split
    ·split
     ·exact wE _
     exact ik
    exact ik
   exact ik
  split
  ·unfold r2;split
   ·split
    ·split
     ·split
      ·exact wE _
      exact ik
     exact ik
    exact ik
   exact ik
  split
  ·unfold zr;split
   ·exact QS _ _ _ _ _
   exact ik
  split
  ·unfold zq;split
   ·exact QS _ _ _ _ _
   exact ik
  split
  ·unfold uo;split
   ·split
    ·split
     ·exact wE _
     exact ik
    exact ik
   exact ik
  split
  ·unfold tf;split
   ·split
    ·split
     ·exact wE _
     exact ik
    exact ik
   exact ik
  split
  ·unfold s9;split
   ·split
    ·split
     ·exact wE _
     exact ik
    exact ik
   exact ik
  split
  ·unfold um;split
   ·split
    ·split
     ·exact wE _
     exact ik
    exact ik
   exact ik
  split
  ·by_cases h:l5 p s.cf (s.cf+1)=I
   ·obtain⟨i,d,k,e,a,c,_⟩:=NH h;rw[e] at h⊢;rw[Og h a c];exact .inl ⟨rfl,Oh (yM h).1 a c⟩
   unfold qZ;rw[bh h];exact ik
  split
  ·unfold sI;split
   ·rename_i h;simp only[cJ] at h;exact .inl ⟨rfl,Me h.1 _⟩
   exact ik
  unfold x0;split
  ·rename_i h;exact .inl ⟨rfl,ahH h⟩
  exact ik
 exact ik
end
section
variable {k:Int}{r:e9}
theorem Lh(i:dU k r)(C:0<=k/\k<=1000000):cG (zL N r) (λx=>sM x.1/\dU (k+10) x.2):=by
 unfold zL;refine dh (la N i O) λF ⟨_,_,l⟩=>dh (jg N l O aZ) λh ⟨m,n⟩=>dh (jg N n O aZ) λG ⟨_,o⟩=>dh (jg N o O aZ) λH ⟨_,q⟩=>ah (Qz N _) ?_;have w:0<=h.1/\h.1<=1:=by simp at m;omega
 refine bU (λ_=>True) (λj a=>aS (λ_=>a _ trivial) λ_=>a _ trivial) λK _=>?_;refine bU (λ_=>True) (λj a=>aS (λ_=>a _ trivial) λ_=>a _ trivial) λL _=>?_;refine bU (λz=>0<=z/\z<=1) (λj a=>aS (λ_=>a _ ⟨O,O⟩) λ_=>a _ w) λy Q=>?_;exact bU (λz:bq×Int×Int=>dU (k+10) ⟨z.1,z.2.1⟩) (λj a=>dh (la N q O) λA ⟨_,_,c⟩=>aS (λ_=>dh (jg N c O aZ) λB ⟨_,d⟩=>a _ (d.mono O)) λ_=>a _ (c.mono O)) λz e=>aJ ⟨⟨Z,Z⟩,e⟩
theorem aic(X:dU k r)(hk:0<=k/\k<=400000){p:bx}(f:eo 1000 p):cG (Ed N r p) (λx=>(∀s∈x.1,sM s)/\(U x.1)<=8/\dU (k+1000) x.2):=by
 have gV:N=100000:=rfl;unfold Ed;refine dh (jg N X O aZ) λK ⟨m1,g⟩=>?_;have L:0<=K.1/\K.1<=6:=by
  grind
 refine cK (λz:bq×Int×List de×List cq×List e7×Int=>0<=z.2.2.2.2.2/\z.2.2.2.2.2<=6/\dU (k+1+60*(6-z.2.2.2.2.2)) ⟨z.1,z.2.1⟩/\eo 1000 ⟨z.2.2.1,z.2.2.2.1⟩/\(∀s∈z.2.2.2.2.1,sM s)/\(U z.2.2.2.2.1:Int)<=6-z.2.2.2.2.2) (λz=>z.2.2.2.2.2.toNat) ?_ N _ ⟨L.1,L.2,g.mono Z,f,λs hs=>(by cases hs),by dsimp only;simp;omega⟩ Z;rintro w ⟨b,q,aN,ao4,out,c⟩ ⟨t,u,y,A,a,v⟩ B;dsimp only at t u y A a v⊢;refine aS (λE=>?_) λM=>?_
 ·refine bU (λz:bq×Int×List de×List cq×List e7=>dU (k+1+60*(6-c)+60) ⟨z.1,z.2.1⟩/\eo 1000 ⟨z.2.2.1,z.2.2.2.1⟩/\(∀s∈z.2.2.2.2,sM s)/\(U z.2.2.2.2:Int)<=6-c+1) (λP d=>?_) λz e=>?_
  ·refine cK (λz:bq×Int×Int=>0<=z.2.2/\z.2.2<=4/\dU (k+1+60*(6-c)+12*z.2.2) ⟨z.1,z.2.1⟩) (λz=>(4-z.2.2).toNat) ?_ N _ ⟨Z,Z,y.mono Z⟩ Z;rintro o ⟨fb,wx,i⟩ ⟨S,T,C⟩ F;dsimp only at S T C⊢;refine aS (λV=>dh (Lh C ⟨O,O⟩) λnN ⟨l,m⟩=>ah (RT O A l) (dM (λh=>ah (dO bV) (d _ ⟨m.mono O,(R7 _ _).VK,λs hs=>?_,?_⟩)) λh=>?_)) λV=>d _ ⟨C.mono O,A,a,Z⟩
   ·rcases fy.1 hs with hs|hs
    ·exact a s hs
    rw[q1.1 hs];exact l
   ·dsimp only
    grind
   rw[bt O];exact F _ ⟨Z,Z,m.mono Z⟩ Z
  obtain⟨w6,z2,z3,z4,z5⟩:=z;obtain⟨Q,R,W,h4⟩:=e;dsimp only at Q R W h4⊢;rw[bt O];exact B _ ⟨Z,Z,Q.mono Z,R,W,Z⟩ Z
 refine bU (λz:bq×Int×List e7=>dU (k+1000) ⟨z.1,z.2.1⟩/\(∀s∈z.2.2,sM s)/\(U z.2.2)<=8) (λj d=>dh (la N y O) λqa ⟨_,_,n⟩=>aS (λ_=>dh (Lh n ⟨O,O⟩) λoQ ⟨G,H⟩=>ah (dO bV) (d _ ⟨H.mono O,λs hs=>?_,?_⟩)) λ_=>d _ ⟨n.mono O,a,Z⟩) λz e=>aJ ⟨e.2.1,e.2.2,e.1⟩
 ·rcases fy.1 hs with hs|hs
  ·exact a s hs
  rw[q1.1 hs];exact G
 dsimp only
 grind
end
theorem acS(a:bq):cG (Hp N a) (λx=>eo 1000 x.1/\sM x.2):=by have q:N=100000:=rfl;unfold Hp;refine dh (ah3 a) λr i=>dh (adp i O) λw ⟨c,k⟩=>dh (aic k O (c.mono (O:10<=1000))) λl ⟨m,y,d⟩=>aS (λh=>dh (ah7 O d O c) λz ⟨n,_⟩=>?_) λh=>dh (Lh d ⟨O,O⟩) λA ⟨o,_⟩=>aJ ⟨c.mono (O:10<=1000),o⟩;have e:=bO (O:0<U l.1);exact ah (B6 e) (aJ ⟨n.mono (O:30<=1000),m _ (ca e)⟩)
theorem OV{q:bx}(h:kW q):Cg N q=Y (if cS q=I then ia q else []):=by
 have b0:=vy (n:=N) (by decide) h;unfold Cg;by_cases a:cS q=I
 ·rw[a] at b0;rw[bk a];exact bR (ah b0 (cx (ah (Oz (by decide) (xu h a)) (aJ rfl))))
 rw[Bool.eq_false_iff.2 a] at b0
 grind
theorem ZG(c:bq):t3 N c=Y I:=by
 have u:N=100000:=rfl;unfold t3;refine bR (aS (λ_=>aJ rfl) λ_=>dh (acS c) λX d=>?_);obtain⟨p,s⟩:=X;dsimp only at d⊢;obtain⟨d,G⟩:=d;have e:=R7 p s;have m:=e.VK;have aO:=afz (n:=N) O d G;have r:=RT (n:=N) O d G;have i:=λh=>e.v h;clear e;generalize ri p s=R at*;have a:=afT (n:=N) O m;refine ah aO (ah r (ah (OV d.sm) (ah (acp [s] aZ) ?_)));have b:(R.2==R.2)=I:=aZ
 rw[b];refine bU (λz=>z=(ak ((if cS p=I then ia p else [])=[])||decide (fmt [s]=[]))) (λj o=>?_) λz w=>?_
 ·refine cx (ah a (cx (aS (λh=>o _ ?_) λh=>o _ ?_)))
  ·rw[cj h];rfl
  rw[cc h];rfl
 subst w;refine dM (λ_=>?_) λH=>?_
 ·exact bU (λz=>z=I) (λj o=>cB (ah a (o _ rfl))) λz w=>aJ w
 simp only[Bool.or_eq_false_iff,decide_eq_false_iff_not] at H;obtain⟨E,x⟩:=H;have y:cS p=I:=by
  grind
 rw[bk y];have A:fW s=I:=by
  unfold fmt at x;cases K:sR [s] with
  |true=>simpa[sR] using K
  |false=>rw[K] at x;exact bu rfl x
 have B:fmt [s]=hb s++[10]:=by
  have:sR [s]=I:=by simp[sR,A]
  rw[fmt,this];simp[o0]
 rw[B];have C:=xu d.sm y;have L:=v6 C;have f:=xi A;have k:sub (ia p) 8 (U (ia p):Int)=Y ((ia p).drop 8):=by
  rw[g' O (by rw[ia,ea];simp[jO];omega) O,eb,eB];rfl
 have g:U ((ia p).drop 8)<=17252:=by rw[hY];omega
 have F:=aeN (q:=R.1) (ok:=R.2) d.sm y (λh=>xu m.sm (i h)) A aO;refine ah k (ah (fA (by simp only[fP,ho];omega)) (ah (fA (by simp only[fH,fP,ho];omega)) (ah (fA (by simp only[fH,fP,ho];omega)) (ah (fA (by simp only[fH,fP,ho];omega)) (ah F ?_)))));refine dM (λQ=>?_) λQ=>?_
 ·have l:=i Q;have t:=v6 (xu m.sm l);have W:=OV m.sm;rw[bk l] at W;refine ah W (ah (fA bV) (ah (fA bV) (aJ (cj ?_))))
  grind
 refine ah (fA bV) (ah (fA bV) (aJ (cj ?_)))
 grind
end Go.Lift
