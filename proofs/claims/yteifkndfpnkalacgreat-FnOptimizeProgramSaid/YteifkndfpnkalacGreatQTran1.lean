/- Tools. -/
import Derived.Test.YteifkndfpnkalacGreatQRun1
set_option maxRecDepth 100000
set_option linter.unusedVariables false
namespace Go.Lift
open Go
open Option renaming some -> aa, bind -> bL
open Bool renaming true -> ab, false -> ak, and_eq_true -> b5
open Decidable renaming decide -> ah
open List renaming all_eq_true -> g', replicate -> dq, map_cons -> hX, range -> fp
section
variable {n i k L j many:Nat}{p:Prog}{a d v c:Int}{R:Type}{Q:R->Prop}{e:Expr}{m q:List Int}{s:Stmt}{x:bU}{F:aF->Option aF}{f:aF->aF}{o nest:List Loop}{r:List ca}{b:aF}{y P C:Part}{ys:List Part}
theorem ab'(h:7100<=n)(c:fP p)(a:bt p=ab):CS n p=aa (gj p.aV):=by refine ad.eq ?_;obtain⟨d,e,_⟩:=ev a;unfold CS;refine ai (oe O c) ?_;rw[a];exact cd (ai (y6 O d e) (ad.some rfl))
theorem AV{a:Type}{n:Int}(h:0<=n/\n<=1000000000)(x:a):mk n x=aa (dq n.toNat x):=by unfold mk;rw[aX h]
theorem aaw(A:5000<=n){T:Nat}(B:T<=1000){e:Int->Int}(l: ∀i,0<=i->i<(T:Int)->0<=e i/\e i<=999){K:List Int->Option R}(o: ∀m,m.length=T->(∀x∈m,0<=x/\x<=999)->ad (K m) Q):
  ad (bj (λa (z:(List Int)×Int)=>bif ah (z.2<(z.1.length:Int)) then(bL (az z.1 z.2) λ_=>bL (cA z.1 z.2 (e z.2)) λy=>a (y,wr (z.2+1))) else(K z.1)) n (dq T 0,0)) Q:=by
 refine ad.loop (λz:List Int×Int=>0<=z.2/\z.2<=T/\z.1.length=T/\ ∀x∈z.1,0<=x/\x<=999) (λz=>T-z.2.toNat) ?_ n _ ⟨fM _,J,yE,λx p=>by rw[(tc.1 p).2];omega⟩ J;rintro a ⟨x,i⟩ ⟨c,q,d,h⟩ r;dsimp only at c q d h⊢;refine aU (λs=>?_) λw=>o _ d h;refine ai (rR c O) (ai (v7 c O _) ?_);rw[bh O];exact r _ ⟨J,J,by dsimp only;rw[e7,d],λy k=>by
  rcases td k with k|rfl
  ·exact h y k
  exact l i c O⟩ J
theorem MP(a:bt p=ab):0<=gj p.aV/\gj p.aV<=144:=by
 obtain⟨d,c,_⟩:=ev a
 have:=NL c;omega
theorem Pv(a:bt p=ab)(c:fv p.aV m):Bv p m=(c7 p m (I p.parts),ab):=by unfold Bv;rw[abv a c];rfl
theorem aa5{q:Prog}(A:fP p)(F:fP q)(d:bt p=ab)(G:bt q=ab)(H:q.aV=p.aV)(h: ∀m,fv p.aV m->c7 q m (I q.parts)=c7 p m (I p.parts)){s:Int}(Z:0<=s/\s<=1048576):zi N p q s=aa ab:=by
 have b:N=100000:=rfl;have f:=MP d;refine ad.eq ?_;unfold zi;refine ai (ab' O A d) (ai (AV ⟨O,O⟩ 0) (aaw (n:=N) (T:=(gj p.aV).toNat) (e:=λi=>Int.tmod (wr ((wr ((wr (i*41))+(wr (s*17))))+3)) 1000) (K:=λB=>bL (sy N p B) λC=>bL (sy N q B) λk=>aE (fun(o:Bool)=>aa o) λc=>bif C.2 then(bif k.2 then(bL (vW N C.1 k.1) λr=>c r) else(c ak)) else(c ak)) O O (λi g L=>?_) λm L Q=>?_))
 ·rw[bh (n:=i*41) O,bh (n:=s*17) O,bh (n:=i*41+s*17) O,bh O]
  grind
 have a:fv p.aV m:=⟨O,Q⟩
 have w:fv q.aV m:=by rw[H];exact a
 have l:=Ow d a;refine ai (Jh O A l) (ai (Jh O F l) ?_);rw[Pv d a,Pv G w,h m a];have y: ∀x∈I p.parts,dm p x:=λx R=>e9 R;refine ad.aE (λz=>z=ab) (λj W=>b' (b' (ai (VV O (Ow d (sO d y a))) (W _ rfl)))) λz X=>ad.some X
theorem QQ(c:bt p=ab)(e:dm p x):x.b2.length<=4:=by
 obtain⟨i,k,P,s,d,h,l,m,n,o,q,a,r⟩:=pC c e
 have:=a.1;have:=a.2.1;omega
theorem wq{a β:Type}{l:List a}{F:a->(β->Option R)->Option R}{g:a->β}{K:List β->Option R}(h: ∀x∈l,∀k:β->Option R,ad (k (g x)) Q->ad (F x k) Q)
  {s:Nat} (B:s<=l.length) {pre:List β} (C:pre.length<=1000) (G:l.length<=1000) (H:5000<=n) (m:ad (K (pre++(l.drop s).map g)) Q):
  ad (bj (λc ((x,i):List β×Int)=>bif ah (i<(l.length:Int)) then(bL (az l i) λy=>F y λz=>bL (app x [z]) λw=>c (w,wr (i+1))) else K x) n (pre,(s:Int))) Q:=by
 refine ad.loop (λz:List β×Int=> ∃i:Nat,z.2=i/\s<=i/\i<=l.length/\z.1=pre++((l.drop s).take (i-s)).map g) (λz=>l.length-z.2.toNat) ?_ n _ ⟨s,rfl,O,O,aW⟩ J;rintro c ⟨x,z⟩ ⟨i,e,o,L,d⟩ p;dsimp only at e d⊢;subst e;refine aU (λq=>?_) λr=>?_
 ·have bG:=bo (O:i<l.length);have A:x.length<=2000:=by rw[d,dp,dz,dr,im];omega
  refine ai (bq bG) (h _ (bJ bG) _ (ai (cU bZ) ?_));rw[bh O];refine p _ ⟨i+1,J,O,O,?_⟩ J;dsimp only;rw[show i+1-s=(i-s)+1 by omega,ej,il,show s+(i-s)=i by omega,bG,d,eZ,fr];rfl
 have:i=l.length:=O
 subst this;rw[d,j2 (by rw[im];omega)];exact m
theorem rp{h a:Type}{l:List h}{f:h->Option a}{g:h->a}{K:List a->Option R}(d: ∀x∈l,f x=aa (g x))(e:l.length<=1000)(m:5000<=n)(o:ad (K (l.map g)) Q):
  ad (bj (λc ((x,i):List a×Int)=>bif ah (i<(l.length:Int)) then(bL (az l i) λy=>bL (f y) λz=>bL (app x [z]) λw=>c (w,wr (i+1))) else K x) n ([],0)) Q:=
 wq (F:=λy k=>bL (f y) k) (g:=g) (s:=0) (pre:=[]) (λx p k q=>ai (d x p) q) O aW e m (by simpa using o)
theorem yC{a:Type}{l:List a}{F:a->(a->Option R)->Option R}{W:List a->Option R->Option R}{m:List a->Int}{g:a->a}{K:List a->Option R}
  (B: ∀y o,y.length=l.length->ad o Q->ad (W y o) Q) (C: ∀y:List a,y.length=l.length->m y=(l.length:Int))
  {s:Nat} (f:s<=l.length) (G: ∀x∈l,∀k:a->Option R,ad (k (g x)) Q->ad (F x k) Q) (j:l.length<=1000) (t:5000<=n) (H:ad (K (l.take s++(l.drop s).map g)) Q):
  ad (bj (λc ((y,i):List a×Int)=>W y (bif ah (i<m y) then(bL (az y i) λx=>F x λz=>bL (cA y i z) λw=>c (w,wr (i+1))) else K y)) n (l,(s:Int))) Q:=by
 refine ad.loop (λz:List a×Int=> ∃i:Nat,z.2=i/\s<=i/\i<=l.length/\z.1=l.take s++((l.drop s).take (i-s)).map g++l.drop i) (λz=>l.length-z.2.toNat) ?_ n _ ⟨s,rfl,O,O,aW⟩ J;rintro c ⟨x,z⟩ ⟨i,A,L,u,p⟩ X;dsimp only at A p⊢;subst A;have d:(l.take s++((l.drop s).take (i-s)).map g).length=i:=by rw[dp,dz,dr,dr,im];omega
 have h:x.length=l.length:=by rw[p,dp,d,im];omega
 refine B _ _ h ?_;rw[C _ h];refine aU (λZ=>?_) λb=>?_
 ·obtain⟨e,q⟩: ∃e,l[i]? =aa e:=⟨_,bo (O:i<l.length)⟩
  have r:x[i]? =aa e:=by
   grind
  refine ai (bq r) (G _ (bJ q) _ (ai (eM O _) ?_));rw[bh O];refine X _ ⟨i+1,J,O,O,?_⟩ J;dsimp only;rw[p,c',p8 _ _ O,d,lu,jT q,yH,show i+1-s=(i-s)+1 by omega,ej,il,show s+(i-s)=i by omega,q];simp
 have:i=l.length:=O
 subst this;rw[p,j2 (l:=l.drop s) (by rw[im];omega),oP,jn];exact H
def ih(f:aF->aF)(a:b0):b0:=⟨a.array,a.bA.map f⟩
def jJ(f:aF->aF):Nat->Expr->Expr
 |0,e=>e
 |L+1,e=>⟨e.kind,e.num,if e.kind=2 then f e.index else⟨[],0⟩,if e.kind=3 then ih f e.read else⟨[],[]⟩,e.bk.map (jJ f L)⟩
def jI(f:aF->aF)(s:Stmt):Stmt:=⟨ih f s.write,jJ f 5 s.value⟩
def ga(f:aF->aF)(l:Loop):Loop:=⟨l.lo.map f,l.aP.map f⟩
theorem oR(h:eC e d=ab)(a:e.kind=2):dc e.index=ab/\kr e.read=ab:=by
 unfold eC fg at h
 grind
theorem qe(h:eC e d=ab)(a:e.kind=3):gb e.read d=ab/\jj e.index=ab:=by
 unfold eC at h
 grind
theorem wO(h:eC e d=ab)(a: ¬e.kind=2)(c: ¬e.kind=3):jj e.index=ab/\kr e.read=ab:=by
 unfold eC at h
 grind
theorem sY{a:aF}(h:jj a=ab):a=⟨[],0⟩:=by
 obtain⟨c,k⟩:=a;simp only[jj,b5,decide_eq_true_eq] at h
 grind
theorem sZ{a:b0}(h:kr a=ab):a=⟨[],[]⟩:=by
 obtain⟨c,k⟩:=a;simp only[kr,b5,decide_eq_true_eq] at h
 grind
theorem Js(c:5000<=n){a:b0}(e:gb a d=ab)(h: ∀x,dc x=ab->F x=aa (f x)):sE n a F=aa (ih f a):=by obtain⟨m,o,i⟩:=mf e;refine ad.eq ?_;unfold sE;exact rp (K:=λk=>aa (⟨a.array,k⟩:b0)) (λx l=>h x (i x l)) O c (ad.some rfl)
theorem J3{d:Int}{F:aF->Option aF}{f:aF->aF}(i: ∀x,dc x=ab->F x=aa (f x)): ∀(L n:Nat) (e:Expr),5000+L<=n->dd L e d=ab->lU (n+1) e F=aa (jJ f L e)
 |0,_,_,_,h=>by cases h
 |L+1,n,e,G,h=>by
  obtain⟨H,l,p⟩:=fQ h;obtain⟨n,rfl⟩: ∃j,n=j+1:=⟨n-1,O⟩
  have q:e.bk.length<=2:=by have:=pS e.kind;omega
  unfold lU;refine ad.eq (ad.aE (λz=>(⟨z.1,z.2.1⟩:aF)=(if e.kind=2 then f e.index else⟨[],0⟩)/\(⟨z.2.2.1,z.2.2.2⟩:b0)=(if e.kind=3 then ih f e.read else⟨[],[]⟩)) (λj k=>?_) λz r=>?_)
  ·refine aU (λa=>?_) λa=>aU (λc=>?_) λc=>?_
   ·exact ai (i _ (oR l a).1) (k _ ⟨by rw[aX a],by rw[aY O]⟩)
   ·exact ai (Js O (qe l c).1 i) (k _ ⟨by rw[aY a],by rw[aX c]⟩)
   exact k _ ⟨by rw[aY a],by rw[aY c]⟩
  obtain⟨s,w,y,A⟩:=z;obtain⟨m,o⟩:=r;dsimp only at m o⊢;refine rp (K:=λB=>aa (⟨e.kind,e.num,(⟨s,w⟩:aF),(⟨y,A⟩:b0),B⟩:Expr)) (λx C=>J3 i L n x O (p x C)) O O (ad.some ?_);rw[m,o];rfl
theorem J1(i:6000<=n)(c:eJ s d=ab)(a: ∀x,dc x=ab->F x=aa (f x)):pL n s F=aa (jI f s):=by
 obtain⟨e,h,_⟩:=ig c;obtain⟨n,rfl⟩: ∃j,n=j+1:=⟨n-1,O⟩
 unfold pL;rw[Js O e a,J3 a 5 n s.value O h];rfl
theorem pN{a:Type}{f:a->a}: ∀{l:List a},(∀x∈l,f x=x)->l.map f=l
 | [],_=>rfl
 |x::l,h=>by rw[vF,h x en,pN λy c=>h y (ec _ c)]
theorem LB{a:b0}(c:gb a d=ab)(e: ∀x,dc x=ab->f x=x):ih f a=a:=by obtain⟨k,l,h⟩:=mf c;unfold ih;rw[pN λx i=>e x (h x i)]
theorem Ox{d:Int}{f:aF->aF}(l: ∀x,dc x=ab->f x=x): ∀{L:Nat} {e:Expr},dd L e d=ab->jJ f L e=e
 |0,_,_=>rfl
 |L+1,e,h=>by
  obtain⟨o,i,m⟩:=fQ h;obtain⟨kind,num,index,read,n⟩:=e;unfold jJ;dsimp only at o i m⊢;rw[pN λx p=>Ox l (m x p)];by_cases c:kind=2
  ·have a:=oR i c;dsimp only at a;rw[aX c,aY O,l _ a.1,sZ a.2]
  by_cases k:kind=3
  ·have a:=qe i k;dsimp only at a;rw[aY c,aX k,LB a.1 l,sY a.2]
  have a:=wO i c k;dsimp only at a;rw[aY c,aY k,sY a.1,sZ a.2]
theorem abw(a: ∀x,dc x=ab->f x=x)(c:eJ s d=ab):jI f s=s:=by obtain⟨e,h,_⟩:=ig c;unfold jI;rw[LB e a,Ox a h]
def jK(l:Loop):Prop:=(l.lo.length<=2/\ ∀x∈l.lo,dc x=ab)/\l.aP.length<=2/\ ∀x∈l.aP,dc x=ab
theorem acv(h:Fit o): ∀l∈o,jK l:=λl a=>by
 obtain⟨i,c⟩:=kx.1 a
 have:=h.2 i l c;exact⟨(qd this.1).2,(qd this.2).2⟩
theorem lZ{x:Part}(h:eI r x=ab):x.nest.length<=4/\ ∀l∈x.nest,jK l:=by have:=(pf (jx h).1).1;exact⟨this.1,acv this⟩
theorem Po{a:aF}(h:dc a=ab):ed 4 a:=by have:=(gV h).1;unfold ed;omega
theorem A6{l:List aF}(e:l.length<=2)(c: ∀x∈l,dc x=ab):e6 4 l:=⟨O,λa d=>Po (c a d)⟩
theorem Pn{d:Int}: ∀{L:Nat} {e:Expr},dd L e d=ab->iB 4 L e
 |0,_,h=>by cases h
 |L+1,e,h=>by
  obtain⟨m,a,n⟩:=fQ h
  have:=pS e.kind;refine⟨O,?_,?_,λk m=>Pn (n k m)⟩
  ·by_cases c:e.kind=2
   ·exact Po (oR a c).1
   by_cases i:e.kind=3
   ·rw[sY (qe a i).2];unfold ed;simp
   rw[sY (wO a c i).1];unfold ed;simp
  by_cases i:e.kind=3
  ·have:=mf (qe a i).1;exact A6 this.2.1 this.2.2
  by_cases c:e.kind=2
  ·rw[sZ (oR a c).2];exact⟨aW,λx l=>by cases l⟩
  rw[sZ (wO a c i).2];exact⟨aW,λx l=>by cases l⟩
theorem PU(a:eJ s d=ab):ja 4 s:=by
 obtain⟨c,e,_⟩:=ig a
 have:=mf c;exact⟨A6 this.2.1 this.2.2,Pn e⟩
theorem GI{x:Part}(h:eI r x=ab):gN 4 x:=by obtain⟨d,a⟩:=lZ h;obtain⟨_,e,i,_⟩:=jx h;exact⟨⟨d,λl c=>⟨A6 (a l c).1.1 (a l c).1.2,A6 (a l c).2.1 (a l c).2.2⟩⟩,e.2,λs k=>PU (i s k)⟩
theorem Pm{l:List ca}(a:l.length<=4)(c:jV l):rE 4 l:=⟨a,λx d=>by have:=c x d;simp only[m7,b5,decide_eq_true_eq] at this;omega⟩
theorem kd(h:bt p=ab):dJ 4 p:=by obtain⟨a,c,d,e,_⟩:=ev h;exact⟨Pm a c,d,λx i=>GI (e x i)⟩
theorem AS{B:Nat}{l:List aF}(h:l.length<=B)(c: ∀x∈l,ed B (f x)):e6 B (l.map f):=⟨by rw[dz];exact h,λa d=>by obtain⟨x,e,rfl⟩:=eo.1 d;exact c x e⟩
theorem O'{d:Int}{f:aF->aF}(c: ∀x,dc x=ab->ed 4 (f x)): ∀{L:Nat} {e:Expr},dd L e d=ab->iB 4 L (jJ f L e)
 |0,_,h=>by cases h
 |L+1,e,h=>by
  obtain⟨m,n,o⟩:=fQ h
  have:=pS e.kind;unfold jJ iB;refine⟨by dsimp only;rw[dz];omega,?_,?_,λk m=>?_⟩
  ·dsimp only;by_cases i:e.kind=2
   ·rw[aX i];exact c _ (oR n i).1
   rw[aY i];unfold ed;simp
  ·dsimp only;by_cases l:e.kind=3
   ·rw[aX l]
    have:=mf (qe n l).1;exact AS O λx a=>c x (this.2.2 x a)
   rw[aY l];exact⟨aW,λx a=>by cases a⟩
  obtain⟨x,a,rfl⟩:=eo.1 m;exact O' c (o x a)
theorem O7(a: ∀x,dc x=ab->ed 4 (f x))(c:eJ s d=ab):ja 4 (jI f s):=by
 obtain⟨e,h,_⟩:=ig c
 have:=mf e;exact⟨AS O λx i=>a x (this.2.2 x i),O' a h⟩
theorem N'(c: ∀x,dc x=ab->ed 4 (f x)){l:Loop}(h:jK l):e6 4 (ga f l).lo/\e6 4 (ga f l).aP:=
 ⟨AS (by have:=h.1.1;omega) λx a=>c x (h.1.2 x a),AS (by have:=h.2.1;omega) λx a=>c x (h.2.2 x a)⟩
theorem L3(n:Nat){a:aF}(h:a.a1.length<=1000):mv n a=aa a:=by unfold mv iN;rw[aX O];rfl
theorem EY(n:Nat): ∀x,dc x=ab->mv n x=aa x:=λx a=>L3 n (by have:=(gV a).1;omega)
theorem KF(a:5000<=n){l:List aF}(h:l.length<=2)(c: ∀x∈l,dc x=ab):sx n l=aa l:=by unfold sx;refine ad.eq (rp (g:=λx=>x) (K:=λd=>aa d) (λx e=>EY n x (c x e)) O a (ad.some ?_));simp
theorem WZ(d:5000<=n)(p:nest.length<=4)(a: ∀l∈nest,jK l):yX n nest=aa nest:=by unfold yX;refine ad.eq ?_;refine wq (β:=Loop) (l:=nest) (n:=n) (F:=λe k=>bL (sx n e.lo) λh=>bL (sx n e.aP) λi=>k (⟨h,i⟩:Loop)) (g:=λx=>x) (s:=0) (pre:=[]) (K:=λm=>aa m) ?_ O aW O d (ad.some aW);exact λx c k o=>ai (KF d (a x c).1.1 (a x c).1.2) (ai (KF d (a x c).2.1 (a x c).2.2) o)
theorem Ra(c:6000<=n)(a:eJ s d=ab):yW n s=aa s:=by unfold yW;rw[J1 c a (F:=λe=>mv n e) (f:=λx=>x) (EY n),abw (λ_ _=>rfl) a];rfl
theorem WY(a:6000<=n){x:Part}(h:eI r x=ab):vr n x=aa x:=by obtain⟨c,d⟩:=lZ h;obtain⟨_,l,e,_⟩:=jx h;unfold vr;refine ad.eq (ai (WZ O c d) (rp (g:=λx=>x) (K:=λi=>aa (⟨x.nest,i⟩:Part)) (λs k=>Ra a (e s k)) O O (ad.some ?_)));simp
theorem oE(q:6000<=n)(h:bt p=ab):d8 n p=aa p:=by
 obtain⟨r,w,C,y,_⟩:=ev h;unfold d8;refine ad.eq (wq (F:=λo k=>bL (iN o.b1) λz=>k (⟨o.name,z⟩:ca)) (g:=λx=>x) (s:=0) (pre:=[]) (K:=λA=>bj (λa ((c,d):(List Part)×Int)=>
    bif ah (d<(p.parts.length:Int)) then(
     bL (az p.parts d) λe=>
     bL (vr n e) λi=>
     bL (app c [i]) λl=>
     a (l,wr (d+1))
    ) else(
     aa (⟨A,c⟩:Prog)
    )
   ) n ([],0)) (λx m k B=>ai (x:=x.b1) ?_ B) O aW O O ?_)
 ·have:=(Pm r w).2 x m;unfold iN
  grind
 refine rp (g:=λx=>x) (K:=λc=>aa (⟨_,c⟩:Prog)) (λx m=>WY q (y x m)) O O (ad.some ?_);simp
theorem oL{a b:List R}(h:b.length=a.length):iI a b=aa ():=by unfold iI;rw[aX h]
theorem TV(p:5000<=n){l:Loop}(w:jK l)(q: ∀x,dc x=ab->F x=aa (f x)):x1 n l F=aa (ga f l):=by
 obtain⟨⟨aS,a2⟩,B,A⟩:=w;unfold x1;refine ad.eq (ad.loop (λz:Loop×Int=>(z.2=0/\z.1=l)\/(z.2=1/\z.1=⟨l.lo.map f,l.aP⟩)\/(z.2=2/\z.1=ga f l)) (λz=>3-z.2.toNat) ?_ n _ (.inl ⟨rfl,rfl⟩) J);rintro a ⟨x,i⟩ r c;dsimp only at r c⊢;rcases r with ⟨rfl,rfl⟩|⟨rfl,rfl⟩|⟨rfl,rfl⟩
 ·refine ai (oL rfl) (ai (oL rfl) (aU (λ_=>aU (λ_=>?_) λh=>(h rfl).elim) λh=>bz h O));refine yC (F:=λx k=>bL (F x) k) (W:=λ_ o=>o) (m:=λ_=>(x.lo.length:Int)) (g:=f) (s:=0) (K:=λy=>a ((⟨y,x.aP⟩:Loop),wr (0+1))) (λ_ _ _ h=>h) (λ_ _=>rfl) O (λx d k e=>ai (q x (a2 x d)) e) O p ?_;rw[bh O];exact c _ (.inr (.inl ⟨J,aW⟩)) J
 ·refine ai (oL aW) (ai (oL rfl) (aU (λ_=>aU (λh=>bz h O) λ_=>aU (λ_=>?_) λh=>(h rfl).elim) λh=>bz h O));refine yC (F:=λx k=>bL (F x) k) (W:=λ_ o=>o) (m:=λ_=>(l.aP.length:Int)) (g:=f) (s:=0) (K:=λy=>a ((⟨l.lo.map f,y⟩:Loop),wr (1+1))) (λ_ _ _ h=>h) (λ_ _=>rfl) O (λx d k e=>ai (q x (A x d)) e) O p ?_;rw[bh O];exact c _ (.inr (.inr ⟨J,by simp[ga]⟩)) J
 refine ai (oL (by simp[ga])) (ai (oL (by simp[ga])) (aU (λh=>bz h O) λ_=>ad.some rfl))
theorem JA(Q:6000<=n){body:List Stmt}{s:Nat}(P:s<=nest.length)(S:nest.length<=4)(R: ∀l∈nest.drop s,jK l)(T:body.length<=4)(X: ∀s∈body,eJ s d=ab)(H: ∀x,dc x=ab->F x=aa (f x)):
  uS n ⟨nest,body⟩ (s:Int) F=aa ⟨nest.take s++(nest.drop s).map (ga f),body.map (jI f)⟩:=by
 have A: ∀(a:List Loop),ad (bj (λc ((y,j):(List Stmt)×Int)=>
    bL (iI body y) λU=>
    bif ah (j<(body.length:Int)) then(
     bL (az y j) λZ=>
     bL (pL n Z F) λb=>
     bL (cA y j b) λt=>
     c (t,wr (j+1))
    ) else(
     aa (⟨a,y⟩:Part)
    )
   ) n (body,0)) (λr=>r=⟨a,body.map (jI f)⟩):=λa=>
  yC (F:=λx k=>bL (pL n x F) k) (W:=λy o=>bL (iI body y) λ_=>o) (m:=λ_=>(body.length:Int)) (g:=jI f) (s:=0) (K:=λy=>aa (⟨a,y⟩:Part)) (λy o h u=>ai (oL h) u) (λ_ _=>rfl) O (λx p k v=>ai (J1 Q (X x p) H) v) O O (ad.some aW)
 unfold uS;refine ad.eq ?_
 -- the loops ahead stay: only those behind are changed
 refine ad.loop (λz:List Loop×Int=> ∃i:Nat,z.2=i/\s<=i/\i<=nest.length/\z.1=nest.take s++((nest.drop s).take (i-s)).map (ga f)++nest.drop i) (λz=>nest.length-z.2.toNat) ?_ n _ ⟨s,rfl,O,O,aW⟩ J;rintro B ⟨x,z⟩ ⟨i,L,D,V,p⟩ E;dsimp only at L p⊢;subst L;have q:(nest.take s++((nest.drop s).take (i-s)).map (ga f)).length=i:=by rw[dp,dz,dr,dr,im];omega
 have C:x.length=nest.length:=by rw[p,dp,q,im];omega
 refine ai (oL C) (aU (λI=>?_) λM=>?_)
 ·obtain⟨e,w⟩: ∃e,nest[i]? =aa e:=⟨_,bo (O:i<nest.length)⟩
  have G:x[i]? =aa e:=by
   rw[p,hT O,q,lu,il];exact w
  have N:e∈nest.drop s:=kx.2 ⟨i-s,by rw[il,show s+(i-s)=i by omega];exact w⟩;refine ai (bq G) (ai (TV O (R _ N) H) (ai (eM O _) ?_));rw[bh O];refine E _ ⟨i+1,J,O,O,?_⟩ J;dsimp only;rw[p,c',p8 _ _ O,q,lu,jT w,yH,show i+1-s=(i-s)+1 by omega,ej,il,show s+(i-s)=i by omega,w];simp
 have:i=nest.length:=O
 subst this;rw[p,j2 (l:=nest.drop s) (by rw[im];omega),oP,jn];exact A _
theorem FM(c:5000<=n){l:List aF}(k:l.length<=2)(d: ∀x∈l,dc x=ab)(e: ∀x,dc x=ab->lV n x a v b=aa (f x)):vM n l a v b=aa (l.map f):=by unfold vM;exact ad.eq (rp (K:=λh=>aa h) (λx i=>e x (d x i)) O c (ad.some rfl))
theorem X3(d:5000<=n){l:Loop}(c:jK l)(e: ∀x,dc x=ab->lV n x a v b=aa (f x)):v8 n l a v b=aa (ga f l):=by unfold v8;rw[FM d c.1.1 c.1.2 e,FM d c.2.1 c.2.2 e];rfl
theorem Ko(e:5000<=n){a:b0}(h:gb a d=ab)(i: ∀x,dc x=ab->lV n x c v b=aa (f x)):u6 n a c v b=aa (ih f a):=by have:=mf h;unfold u6;rw[FM e this.2.1 this.2.2 i];rfl
theorem LI{d a v:Int}{b:aF}{f:aF->aF}(l: ∀n,5000<=n-> ∀x,dc x=ab->lV n x a v b=aa (f x)): ∀(L n:Nat) (e:Expr),5000+L<=n->dd L e d=ab->rb (n+1) e a v b=aa (jJ f L e)
 |0,_,_,_,h=>by cases h
 |L+1,n,e,G,h=>by
  obtain⟨H,m,q⟩:=fQ h;obtain⟨n,rfl⟩: ∃j,n=j+1:=⟨n-1,O⟩
  have r:e.bk.length<=2:=by have:=pS e.kind;omega
  unfold rb;refine ad.eq (ad.aE (λz=>(⟨z.1,z.2⟩:aF)=(if e.kind=2 then f e.index else⟨[],0⟩)) (λj c=>?_) λz o=>ad.aE (λy=>(⟨y.1,y.2⟩:b0)=(if e.kind=3 then ih f e.read else⟨[],[]⟩)) (λj c=>?_) λy p=>?_)
  ·exact aU (λi=>ai (l _ O _ (oR m i).1) (c _ (by rw[aX i]))) λi=>c _ (by rw[aY i])
  ·exact aU (λk=>ai (Ko O (qe m k).1 (l _ O)) (c _ (by rw[aX k]))) λk=>c _ (by rw[aY k])
  obtain⟨s,w⟩:=z;obtain⟨A,B⟩:=y;dsimp only at o p⊢;refine rp (K:=λC=>aa (⟨e.kind,e.num,(⟨s,w⟩:aF),(⟨A,B⟩:b0),C⟩:Expr)) (λx F=>LI l L n x O (q x F)) O O (ad.some ?_);rw[o,p];rfl
theorem X5(w:6000<=n){l:List Stmt}(e:l.length<=4)(c: ∀s∈l,eJ s d=ab)(h: ∀n,5000<=n-> ∀x,dc x=ab->lV n x a v b=aa (f x)):zW n l a v b=aa (l.map (jI f)):=by
 obtain⟨n,rfl⟩: ∃j,n=j+1:=⟨n-1,O⟩
 unfold zW;refine ad.eq ?_;refine wq (β:=Stmt) (l:=l) (n:=n+1) (F:=λi k=>bL (u6 (n+1) i.write a v b) λm=>bL (rb (n+1) i.value a v b) λo=>k (⟨m,o⟩:Stmt)) (g:=jI f) (s:=0) (pre:=[]) (K:=λp=>aa p) (λx q k r=>?_) O aW O O (ad.some aW);obtain⟨e,c,_⟩:=ig (c x q);exact ai (Ko O e (h _ O)) (ai (LI h 5 n x.value O c) r)
theorem KA(c:6000<=n){x:Part}{s:Nat}(r:s+1<=x.nest.length)(w:x.nest.length<=4)(e: ∀l∈x.nest,jK l)(h:x.body.length<=4)(i: ∀s∈x.body,eJ s d=ab){way:Int}(a: ∀n,5000<=n-> ∀x,dc x=ab->lV n x way v b=aa (f x)):
  yR n x (s:Int) way v b=aa ⟨x.nest.take (s+1)++(x.nest.drop (s+1)).map (ga f),x.body.map (jI f)⟩:=by unfold yR;rw[bh O];refine ad.eq (ai (km O O O) ?_);rw[show((s:Int)+1).toNat=s+1 by omega,show(0:Int).toNat=0 from rfl,ri];refine ai (x:=x.nest.take (s+1)) (cU bZ) (ai (X5 c h i a) ?_);exact wq (F:=λm k=>bL (v8 n m way v b) k) (g:=ga f) (s:=s+1) (pre:=x.nest.take (s+1)) (K:=λo=>aa (⟨o,x.body.map (jI f)⟩:Part)) (λl p k q=>ai (X3 O (e l p) (a _ O)) q) O bZ O O (ad.some rfl)
theorem L7(n:Nat){a:aF}(h:ed 1000 a):xS n a=aa a:=by unfold xS;rw[nk _ h];rfl
theorem Em(a:5000<=n){l:List aF}(h:e6 1000 l):uv n l=aa l:=by unfold uv;exact ad.eq (q5 (K:=λc=>aa c) (λx d=>L7 n (h.2 x d)) h.1 a (ad.some rfl))
theorem Lu(c:5000<=n){a:b0}(h:e6 1000 a.bA):xT n a=aa a:=by unfold xT;rw[Em c h];rfl
theorem KH: ∀(L n:Nat) (e:Expr),5000+L<=n->iB 1000 L e->pZ (n+1) e=aa e
 |0,_,_,_,h=>h.elim
 |L+1,n,e,m,h=>by
  obtain⟨a,c,d,i⟩:=h;obtain⟨n,rfl⟩: ∃j,n=j+1:=⟨n-1,O⟩
  unfold pZ Ip;rw[L7 _ c,Lu O d];refine ad.eq (ai rfl (ai rfl (ai (x:=e.bk) ?_ (ad.some (by cases e;rfl)))));exact ad.eq (q5 (f:=pZ (n+1)) (K:=λk=>aa k) (λx l=>KH L n x O (i x l)) a O (ad.some rfl))
theorem W6(a:6000<=n)(h:ja 1000 s):CK n s=aa s:=by
 obtain⟨n,rfl⟩: ∃j,n=j+1:=⟨n-1,O⟩
 unfold CK;rw[Lu O h.1,KH 5 n s.value O h.2];rfl
theorem W7(e:6000<=n){x:Part}(h:gN 1000 x):CL n x=aa x:=by
 obtain⟨⟨i,d⟩,k,m⟩:=h;have o:B9 n x.nest=aa x.nest:=by
  unfold B9;refine ad.eq (q5 (K:=λc=>aa c) (λl a=>?_) i O (ad.some rfl));unfold Jc;rw[Em O (d l a).1,Em O (d l a).2];rfl
 have p:B1 n x.body=aa x.body:=by
  unfold B1;exact ad.eq (q5 (K:=λc=>aa c) (λl a=>W6 e (m l a)) k O (ad.some rfl))
 unfold CL;rw[o,p];rfl
theorem oD(d:6000<=n)(h:dJ 1000 p):mr n p=aa p:=by
 obtain⟨⟨e,i⟩,k,m⟩:=h;have o:B3 n p.aV=aa p.aV:=by
  unfold B3;refine ad.eq (q5 (K:=λa=>aa a) (λl c=>?_) e O (ad.some rfl));unfold IW;rw[nk _ (i l c)];rfl
 have q:B8 n p.parts=aa p.parts:=by
  unfold B8;exact ad.eq (q5 (K:=λa=>aa a) (λl c=>W7 d (m l c)) k O (ad.some rfl))
 unfold mr;rw[o,q];rfl
theorem vL{a:Type}{f:a->a->Option Bool}{l:List a}(o: ∀x∈l,f x x=aa ab)(y:l.length<n)(z:l.length<=1000000):
  (bif !decide ((l.length:Int)=(l.length:Int)) then(aa ak) else(bj (λc (d:Int)=>bif ah (d<(l.length:Int)) then(bL (az l d) λp=>bL (az l d) λq=>bL (f p q) λr=>bif !r then(aa ak) else(c (wr (d+1)))) else(aa ab)) n 0))=aa ab:=by
 refine ad.eq (eO (λh=>(h rfl).elim) λ_=>?_);refine ad.loop (λx:Int=> ∃i:Nat,x=i/\i<=l.length) (λx=>l.length-x.toNat) ?_ n 0 ⟨0,rfl,O⟩ O;rintro k x ⟨i,rfl,A⟩ s;refine aU (λw=>?_) λ_=>ad.some rfl;obtain⟨e,m⟩: ∃e,l[i]? =aa e:=⟨_,bo (O:i<l.length)⟩
 refine ai (bq m) (ai (bq m) (ai (o e (bJ m)) (cd ?_)));rw[bh O];exact s _ ⟨i+1,O,O⟩ O
theorem LQ{a:List Int}(m:a.length<n)(o:a.length<=1000000):sD n a a=aa ab:=by
 unfold sD;refine ad.eq (eO (λh=>(h rfl).elim) λ_=>?_);refine ad.loop (λx:Int=> ∃i:Nat,x=i/\i<=a.length) (λx=>a.length-x.toNat) ?_ n 0 ⟨0,rfl,O⟩ O;rintro c x ⟨i,rfl,p⟩ k;refine aU (λl=>?_) λ_=>ad.some rfl;obtain⟨e,d⟩: ∃e,a[i]? =aa e:=⟨_,bo (O:i<a.length)⟩
 refine ai (bq d) (ai (bq d) (eO (λh=>(h rfl).elim) λ_=>?_));rw[bh O];exact k _ ⟨i+1,O,O⟩ O
theorem NO(e:5000<=n){a:aF}(h:ed 1000 a):kh n a a=aa ab:=by unfold ed at h;unfold kh;refine ad.eq (ad.aE (λz=>z=ab) (λj c=>ai (LQ O O) (b' (c _ (bW rfl)))) λz d=>ad.some d)
theorem FH(a:5000<=n){l:List aF}(h:e6 1000 l):d5 n l l (λc d=>kh n c d)=aa ab:=by have:=h.1;unfold d5;exact vL (λx e=>NO a (h.2 x e)) O O
theorem NQ(c:5000<=n){a:b0}(h:e6 1000 a.bA):x4 n a a=aa ab:=by unfold x4;refine ad.eq (ad.aE (λz=>z=ab) (λj d=>?_) λz e=>ad.some e);exact aU (λ_=>ai (FH c h) (d _ rfl)) λh=>(h rfl).elim
theorem Ng: ∀(L n:Nat) (e:Expr),5000+L<=n->iB 1000 L e->qP (n+1) e e=aa ab
 |0,_,_,_,h=>h.elim
 |L+1,n,e,m,h=>by
  obtain⟨o,a,c,d⟩:=h;obtain⟨n,rfl⟩: ∃j,n=j+1:=⟨n-1,O⟩
  unfold qP;refine ad.eq (ad.aE (λz=>z=ab) (λj i=>?_) λz k=>ad.some k);refine aU (λ_=>aU (λ_=>ai (NO O a) (b' (ai (NQ O c) (b' (ai (x:=ab) ?_ (i _ rfl)))))) λh=>(h rfl).elim) λh=>(h rfl).elim;unfold Iu;exact vL (λx l=>Ng L n x O (d x l)) O O
theorem ZP(d:6000<=n)(h:ja 1000 s):yx n s s=aa ab:=by
 obtain⟨n,rfl⟩: ∃j,n=j+1:=⟨n-1,O⟩
 unfold yx;refine ad.eq (ad.aE (λz=>z=ab) (λj a=>?_) λz c=>ad.some c);exact ai (NQ O h.1) (b' (ai (Ng 5 n s.value O h.2) (a _ rfl)))
theorem ZH(a:5000<=n)(h:kA 1000 o):sK n o o=aa ab:=by
 have:=h.1;unfold sK Cb;rw[vL (λl c=>?_) O O]
 ·rfl
 unfold uV;refine ad.eq (ad.aE (λz=>z=ab) (λj d=>?_) λz e=>ad.some e);exact ai (FH a (h.2 l c).1) (b' (ai (FH a (h.2 l c).2) (d _ rfl)))
theorem ZD(a:6000<=n){x:Part}(h:gN 1000 x):xM n x x=aa ab:=by have:=h.2.1;unfold xM;refine ad.eq (ad.aE (λz=>z=ab) (λj c=>?_) λz d=>ad.some d);refine ai (ZH O h.1) (b' (ai (x:=ab) ?_ (c _ rfl)));unfold Is;exact vL (λs e=>ZP a (h.2.2 s e)) O O
theorem ME(e:6000<=n)(h:dJ 1000 p):uR n p p=aa ab:=by
 obtain⟨⟨l,i⟩,m,k⟩:=h;unfold uR;refine ad.eq (ad.aE (λz=>z=ab) (λj a=>?_) λz c=>ad.some c);refine ai (x:=ab) ?_ (b' (ai (x:=ab) ?_ (a _ rfl)))
 ·unfold Il;refine vL (λx d=>?_) O O;unfold xN;refine ad.eq (ad.aE (λz=>z=ab) (λj a=>?_) λz c=>ad.some c)
  have:=i x d;exact aU (λ_=>ai (LQ O O) (a _ rfl)) λh=>(h rfl).elim
 unfold It;exact vL (λx d=>ZD e (k x d)) O O
def eD(p:Prog)(c a:Int):Bool:=bt p&&match az p.parts c with
 |some x=>decide (0<=a/\a<(x.nest.length:Int))
 |none=>ak
theorem w6{a:Type}{l:List a}{i:Int}(h: ¬(0<=i/\i<(l.length:Int))):az l i=none:=by
 cases c:az l i with
 |none=>rfl
 |some x=>
  obtain⟨d,e⟩:=mG c
  have:=(bX.1 e).1;exact bz ⟨d,O⟩ h
theorem GA{a:Type}{l:List a}{i:Int}{x:a}(h:az l i=aa x): ∃k:Nat,i=k/\k<l.length/\l[k]? =aa x:=by
 obtain⟨c,d⟩:=mG h
 grind
theorem qU(n:Nat)(h:p.parts.length<=1000)(a:Int):lb n p a=aa (ah (0<=a/\a<(p.parts.length:Int))):=by
 unfold lb;rw[kP,bh O]
 grind
theorem Nj(r:7000<=n)(l:dJ 1000 p)(a c:Int)(s:c≠ -1):ny n p a c=aa (if eD p a c=ab then(p,ab) else(⟨[],[]⟩,ak)):=by
 unfold ny;refine ad.eq (ad.aE (λz=>z= !eD p a c) (λj i=>?_) λz m=>?_)
 ·refine ai (oe r l.sm) (ad.cond (λh=>?_) λh=>?_)
  ·refine i _ ?_;unfold eD
   grind
  have q:bt p=ab:=by simpa using h
  refine ai (qU n l.2.1 a) ?_;by_cases e:0<=a/\a<(p.parts.length:Int)
  ·obtain⟨x,k,o⟩:=gk e.1 e.2;rw[bW e];refine cd (eO (λ_=>ai (x:=eD p a c) ?_ (i _ rfl)) λh=>bz h s);unfold Iv;refine ad.eq (ad.aE (λz=>z=eD p a c) (λj i=>?_) λz m=>ad.some m);rw[qU n l.2.1 a,bW e];refine ai rfl (b' (ai k ?_))
   have:=(l.2.2 x (bJ o)).1.1;rw[bh O,kP];refine ai rfl (i _ ?_);unfold eD
   grind
  rw[bT e];refine b' (i _ ?_);unfold eD;rw[w6 e,mU];rfl
 subst m;by_cases d:eD p a c=ab
 ·rw[d];have q:bt p=ab:=by unfold eD at d;rw[mS] at d;exact d.1
  obtain⟨x,k⟩: ∃x,az p.parts a=aa x:=by
   cases k:az p.parts a with
   |some x=>exact⟨x,rfl⟩
   |none=>unfold eD at d;rw[k,mU] at d;cases d
  exact cd (ai (oE O q) (ai k (ad.some rfl)))
 rw[show eD p a c=ak by simpa using d];exact b' (ad.some rfl)
def kR(q:Prog):Prog×Bool:=if bt q=ab then(q,ab) else(⟨[],[]⟩,ak)
theorem D2(c:7000<=n)(d:dJ 1000 p):vd n p=aa (kR p):=by
 unfold vd kR;refine ad.eq (ai (oe c d.sm) (ad.cond (λh=>ad.some ?_) λh=>?_))
 ·rw[aY (by simpa using h)]
 have a:bt p=ab:=by simpa using h
 rw[aX a];exact ai (oE O a) (ad.some rfl)
theorem tK(k:7000<=n)(l:dJ 1000 p)(a c:Int):tt n p a c=aa (eD p a c):=by
 unfold tt;refine ad.eq (ad.aE (λz=>z=eD p a c) (λj d=>?_) λz m=>ad.some m);refine ai (kM k l.sm) (ad.cond (λe=>?_) λe=>d _ (by unfold eD;rw[e];rfl));refine aU (λh=>aU (λi=>?_) λi=>?_) λh=>?_
 ·obtain⟨x,o,q⟩:=gk h i;refine aU (λr=>ai o (d _ ?_)) λr=>d _ ?_
  ·unfold eD
   grind
  unfold eD
  grind
 ·exact d _ (by unfold eD;rw[w6 O,mU])
 exact d _ (by unfold eD;rw[w6 O,mU])
theorem NG(e:7000<=n)(a:dJ 1000 p)(k:i<p.parts.length)(l:gN 1000 y):mA n p (i:Int) 1 [y]=aa (kR ⟨p.aV,p.parts.set i y⟩):=by
 have c:=a.2.1;have d:dJ 1000 ⟨p.aV,p.parts.set i y⟩:=⟨a.1,by dsimp only;rw[e7];exact c,tl a.2.2 l⟩
 unfold mA kR;refine ad.eq (ai (f9 O a) (ai (km O O O) ?_));rw[c',show(0:Int).toNat=0 from rfl,ri];refine ai (x:=p.parts.take i) (cU bZ) (ai (x:=p.parts.take i++[y]) (cU bZ) ?_);rw[bh O];refine ai (km O O O) ?_;rw[c',dF,show((i:Int)+1).toNat=i+1 by omega];refine ai (x:=p.parts.set i y) ?_ (ai (kM e d.sm) (ad.cond (λh=>ad.some ?_) λh=>?_))
 ·rw[cU bZ,List.set_eq_take_append_cons_drop,aX k,fr];rfl
 ·rw[aY (by simpa using h)]
 rw[aX (by simpa using h)];exact ai (f9 O d) (ad.some rfl)
def r3(a:aF)(k:Int)(b:aF):aF:=⟨List.zipWith (λx y=>x+k*y) a.a1 b.a1,a.const+k*b.const⟩
def w3(k:Nat):aF:=⟨[0,0,0,0].set k 1,0⟩
def iD(m:Int)(a:aF):Prop:=a.a1.length=4/\dj m a.const/\ ∀c∈a.a1,dj m c
theorem iD.mono{m b:Int}{a:aF}(h:iD m a)(e:m<=b):iD b a:=⟨h.1,⟨by have:=h.2.1.1;omega,by have:=h.2.1.2;omega⟩,λc d=>⟨by have:=(h.2.2 c d).1;omega,by have:=(h.2.2 c d).2;omega⟩⟩
theorem Bq{l:List Int}(h:l.length=4): ∃a b c d,l=[a,b,c,d]:=by
 match l,h with
 | [a,b,c,d],_=>exact⟨a,b,c,d,rfl⟩
theorem Pb{a:aF}(h:dc a=ab):iD 99 a:=by obtain⟨i,k,d⟩:=gV h;exact⟨i,k,λc e=>⟨by have:=(d c e).1;omega,by have:=(d c e).2;omega⟩⟩
theorem aaV(a:k<4):iD 6 (w3 k):=by rcases(O:k=0\/k=1\/k=2\/k=3) with rfl|rfl|rfl|rfl<;>(unfold iD dj w3;simp)
theorem kI{k b:Int}(a:dj 1000 k)(c:dj 1000 b):dj 1000000 (k*b):=Bh O O a c
theorem yM{x:Int}(c:dj 1000 a)(d:dj 1000000 x):wr (a+wr x)=a+x:=by unfold dj at c d;rw[bh (n:=x) O,bh O]
theorem acq(m:Nat)(a c d e ac k h i l n o:Int):Bj (m+6) ⟨[a,c,d,e],ac⟩ k ⟨[h,i,l,n],o⟩=
  aa ⟨[wr (a+wr (k*h)),wr (c+wr (k*i)),wr (d+wr (k*l)),wr (e+wr (k*n))],wr (ac+wr (k*o))⟩:=Y
theorem aao(y:5000<=n){a:aF}(p:iD 1000 a)(q:iD 1000 b){k:Int}(c:dj 1000 k):Bj n a k b=aa (r3 a k b):=by
 obtain⟨m,rfl⟩: ∃m,n=m+6:=⟨n-6,O⟩
 obtain⟨ac,a⟩:=a;obtain⟨z,b⟩:=b;obtain⟨h,i,d⟩:=p;obtain⟨l,o,e⟩:=q;dsimp only at h i d l o e;obtain⟨a0,aS,a2,a3,rfl⟩:=Bq h;obtain⟨r,s,w,x,rfl⟩:=Bq l;rw[acq,yM (d a0 aW) (kI c (e r aW)),yM (d aS aW) (kI c (e s aW)),yM (d a2 aW) (kI c (e w aW)),yM (d a3 aW) (kI c (e x aW)),yM i (kI c o)];rfl
def Bx(a:aF)(x:Int)(b:aF)(y:Int):aF:=⟨List.zipWith (λp q=>x*p+y*q) a.a1 b.a1,x*a.const+y*b.const⟩
theorem acH(m:Nat)(a c d e ac x h i k l n y:Int):og (m+6) ⟨[a,c,d,e],ac⟩ x ⟨[h,i,k,l],n⟩ y=
  aa ⟨[wr (wr (x*a)+wr (y*h)),wr (wr (x*c)+wr (y*i)),wr (wr (x*d)+wr (y*k)),wr (wr (x*e)+wr (y*l))],wr (wr (x*ac)+wr (y*n))⟩:=Y
theorem yN{x:Int}(c:dj 1000000 a)(d:dj 1000000 x):wr (wr a+wr x)=a+x:=by unfold dj at c d;rw[bh (n:=x) O,bh (n:=a) O,bh O]
theorem Mt(A:5000<=n){a:aF}(p:iD 1000 a)(q:iD 1000 b){x y:Int}(c:dj 1000 x)(d:dj 1000 y):og n a x b y=aa (Bx a x b y):=by
 obtain⟨m,rfl⟩: ∃m,n=m+6:=⟨n-6,O⟩
 obtain⟨ac,a⟩:=a;obtain⟨B,b⟩:=b;obtain⟨i,k,e⟩:=p;obtain⟨l,o,h⟩:=q;dsimp only at i k e l o h;obtain⟨a0,aS,a2,a3,rfl⟩:=Bq i;obtain⟨r,s,w,z,rfl⟩:=Bq l;rw[acH,yN (kI c (e a0 aW)) (kI d (h r aW)),yN (kI c (e aS aW)) (kI d (h s aW)),yN (kI c (e a2 aW)) (kI d (h w aW)),yN (kI c (e a3 aW)) (kI d (h z aW)),yN (kI c k) (kI d o)];rfl
theorem ab9(a b:aF)(k:Int):Bx a 1 b k=r3 a k b:=by
 unfold Bx r3
 grind
theorem adB(a b:aF)(k:Int)(c:a.a1.length=4)(d:b.a1.length=4):(r3 a k b).a1.length=4:=by
 unfold r3
 grind
def xa(a:aF)(k:Nat)(b:aF):aF:=r3 ⟨a.a1.set k 0,a.const⟩ (a.a1.getD k 0) b
theorem NC{a:aF}(h:iD 1000 a)(k:Nat):iD 1000 ⟨a.a1.set k 0,a.const⟩:=⟨by dsimp only;rw[e7];exact h.1,h.2.1,tl h.2.2 ⟨O,O⟩⟩
theorem N3{a:aF}(h:iD 1000 a)(d:k<4):a.a1[k]? =aa (a.a1.getD k 0)/\dj 1000 (a.a1.getD k 0):=by
 have c:k<a.a1.length:=by rw[h.1];exact d
 have e:=bo c;have i:a.a1.getD k 0=a.a1[k]:=by rw[eB,e];rfl
 rw[i];exact⟨e,h.2.2 _ (gp c)⟩
theorem Xc(e:5000<=n){a:aF}(c:iD 1000 a)(h:iD 1000 b)(d:k<4):AK n a (k:Int) b=aa (xa a k b):=by
 obtain⟨i,l⟩:=N3 c d;have m:k<a.a1.length:=by rw[c.1];exact d
 unfold AK;rw[L3 n (by have:=c.1;omega)];refine ad.eq (ai rfl (ai (bq i) (ai (eM O _) (ai (aao e (NC c k) h l) (ad.some rfl)))))
theorem Wo(h:5000<=n){a:aF}(c:iD 1000 a)(i:iD 1000 b)(d:k<4):zq n a (k:Int) b=aa (xa a k b):=by
 obtain⟨e,l⟩:=N3 c d;have m:k<a.a1.length:=by rw[c.1];exact d
 unfold zq;rw[nk _ (by have:=c.1;omega)];refine ad.eq (ai rfl (ai (bq e) (ai (eM O _) (ai (bq e) (ai (Mt h (NC c k) i ⟨O,O⟩ l) (ad.some ?_))))));rw[ab9];rfl
theorem ZS(n:Nat)(a:k<4):oH n (k:Int)=aa (w3 k):=by rcases(O:k=0\/k=1\/k=2\/k=3) with rfl|rfl|rfl|rfl<;>rfl
def gl:Prog×Bool:=(⟨[],[]⟩,ak)
theorem qg{b:Int}(h:eD p a b=ab):bt p=ab/\ ∃(i k:Nat) (P:Part) (l:Loop),a=i/\b=k/\p.parts[i]? =aa P/\P.nest[k]? =aa l/\i<p.parts.length/\k<P.nest.length/\eI p.aV P=ab/\k<4:=by
 unfold eD at h;rw[mS] at h;obtain⟨m,h⟩:=h;refine⟨m,?_⟩;cases d:az p.parts a with
 |none=>rw[d] at h;cases h
 |some P=>
  rw[d] at h;obtain⟨i,rfl,o,n⟩:=GA d;obtain⟨q,r⟩:=hB h;obtain⟨l,s,e⟩:=gk q r;have c:=(ev m).2.2.2.1 P (bJ n)
  have:=(lZ c).1;exact⟨i,b.toNat,P,l,rfl,O,n,e,o,O,c,O⟩
theorem O9(a:dJ 1000 p)(i:Nat)(c:gN 4 y):dJ 1000 ⟨p.aV,p.parts.set i y⟩:=⟨a.1,by dsimp only;rw[e7];exact a.2.1,tl a.2.2 (c.mono O)⟩
theorem take_set{a:Type}{l r:List a}{x y:a}(h:l[k]? =aa x):(l.take (k+1)++r).set k y=l.take k++y::r:=by have c:=(bX.1 h).1;rw[ej,h,fr,p8 _ _ bZ,dr,yI O,lu];rfl
theorem As{b:Int}(h:a<0):eD p b a=ak:=by
 cases c:eD p b a with
 |false=>rfl
 |true=>obtain⟨_,i,k,P,l,_,d,_⟩:=qg c;omega
theorem Me(i:7000<=n)(e:dJ 1000 p)(a:Int):ad (ny n p a (-1)) (λr=>r.2=ak->r=gl):=by
 unfold ny;refine ad.aE (λz=>z=ak->bt p=ab/\(0<=a/\a<(p.parts.length:Int))) (λj c=>?_) λz k=>?_
 ·refine ai (oe i e.sm) (ad.cond (λh=>c _ λh=>by cases h) λh=>?_);refine ai (qU n e.2.1 a) (ad.cond (λh=>c _ λh=>by cases h) λd=>eO (λh=>(h rfl).elim) λ_=>c _ λ_=>⟨by simpa using h,by simpa using d⟩)
 refine ad.cond (λ_=>ad.some λ_=>rfl) λh=>?_;obtain⟨l,m,d⟩:=k h;obtain⟨x,o,q⟩:=gk m d;exact ai (oE O l) (ai o (ad.some λh=>by cases h))
theorem Rj{a:Type}{l:List a}{x:a}(h:l[i]? =aa x):l.set i x=l:=by
 refine List.ext_getElem? (λj=>?_)
 grind
theorem Q9:dJ 1000 gl.1:=⟨⟨by simp[gl],λx a=>by cases a⟩,by simp[gl],λx a=>by cases a⟩
def Q1(k:Nat)(s:Int):aF:=⟨[0,0,0,0].set k s,0⟩
theorem acs{B:Option Bool}{b:Int}(h:b<=1048576->ad B λr=>r=ab):ad (aE (fun(e:Bool)=>bif e then(aa ab) else B) λc=>bif ah ((1048576:Int)<a) then(c ab) else(c (ah ((1048576:Int)<b)))) (λr=>r=ab):=by exact ad.aE (λz=>z=ak->b<=1048576) (λj d=>aU (λ_=>d _ λh=>by cases h) λ_=>d _ λh=>by have:=of_decide_eq_false h;omega) λz i=>ad.cond (λ_=>ad.some rfl) λk=>h (i k)
theorem sG{a R:Type}{f g:a->R}: ∀{l:List a},(∀x∈l,f x=g x)->l.map f=l.map g
 | [],_=>rfl
 |x::l,h=>by rw[vF,vF,h x en,sG λy c=>h y (ec _ c)]
theorem Gk{q:Prog}(h:kR p=(q,ab)):q=p/\bt p=ab:=by
 unfold kR at h
 grind
theorem NW(m:Int): ∀(a b p:List Int),a.length=b.length->dX (List.zipWith (λx y=>x+m*y) a b) p=dX a p+m*dX b p
 | [],[],p,_=>by simp[dX]
 |x::a,y::b,[],_=>by simp[dX]
 |x::a,y::b,z::p,h=>by simp only[List.zipWith_cons_cons,dX];rw[NW m a b p (by simpa using h),Int.add_mul,Int.mul_add,Int.mul_assoc];omega
theorem NX: ∀(cs p:List Int) (k:Nat) (v:Int),k<p.length->dX cs (p.set k v)=dX cs p+cs.getD k 0*(v-p.getD k 0)
 | [],p,k,v,_=>by simp[dX]
 |c::cs,x::p,0,v,_=>by
  simp only[List.set_cons_zero,dX,List.getD_cons_zero];rw[Int.mul_sub];omega
 |c::cs,x::p,k+1,v,h=>by simp only[List.set_cons_succ,dX,List.getD_cons_succ];rw[NX cs p k v (by simpa using h)];omega
theorem M3: ∀(cs p:List Int) (v:Int),cs.getD p.length 0=0->dX cs (p++[v])=dX cs p
 | [],p,v,_=>by simp[dX]
 |c::cs,[],v,h=>by
  simp only[List.length_nil,List.getD_cons_zero] at h;subst h;cases cs<;>simp[dX]
 |c::cs,x::p,v,h=>by simp only[List.cons_append,dX];rw[M3 cs p v (by simpa using h)]
def low(k:Nat)(b:aF):Prop:= ∀j,k<=j->b.a1.getD j 0=0
theorem Yn{a:Type}{l:List a}{v d:a}:(l++[v]).getD l.length d=v:=by grind
theorem E8{a:Type}{l:List a}{v d:a}(h:k<l.length):(l++[v]).getD k d=l.getD k d:=by grind
theorem tx{a:Type}{f g:a->List R}{l:List a}(h: ∀x∈l,f x=g x):l.flatMap f=l.flatMap g:=by rw[rh,rh,sG h]
theorem sC{x:Part}(h:eI r x=ab):eU x=dE x.nest []:=(pf (jx h).1).2.2.2.1
theorem PE{f:aF->aF}{t q:List Int}: ∀{e:List aF} (c:List Int) (a:Int),(∀x∈e,dK (f x) t=dK x q)->gm (e.map f) c t a=gm e c q a
 | [],c,a,_=>by cases c<;>rfl
 |s::e,[],a,_=>rfl
 |s::e,d::c,a,h=>by
  simp only[hX,gm];rw[h s en];split
  ·exact PE c _ λx i=>h x (ec _ i)
  rfl
theorem Gj{f:aF->aF}{t q:List Int}{a:b0}(h: ∀x∈a.bA,dK (f x) t=dK x q): ∀(d:List ca) (c:Int),dU d (ih f a) t c=dU d a q c
 | [],_=>rfl
 |x::d,c=>by
  have e:gm (ih f a).bA x.b1 t 0=gm a.bA x.b1 q 0:=PE _ _ h;have i:(ih f a).bA.length=a.bA.length:=by simp[ih]
  have k:(ih f a).array=a.array:=rfl;simp only[dU,e,i,k,Gj h d]
theorem Oi{d:Int}{f:aF->aF}: ∀{L:Nat} {e:Expr},dd L e d=ab->dx L (jJ f L e)=(dx L e).map (ih f)
 |0,_,h=>by cases h
 |L+1,e,h=>by
  obtain⟨k,l,c⟩:=fQ h;show(if e.kind=3 then [if e.kind=3 then ih f e.read else⟨[],[]⟩] else [])++(e.bk.map (jJ f L)).flatMap (dx L)=((if e.kind=3 then [e.read] else [])++e.bk.flatMap (dx L)).map (ih f);rw[eZ,vC,nO];congr 1
  ·by_cases a:e.kind=3
   ·simp only[if_pos a];rfl
   simp only[if_neg a];rfl
  exact tx λx i=>Oi (c x i)
theorem GJ{d:Int}{f:aF->aF}{t q:List Int}(h: ∀x,dc x=ab->dK (f x) t=dK x q)(i:List ca)(m:List Int): ∀{L:Nat} {e:Expr},dd L e d=ab->et L i m (jJ f L e) t=et L i m e q
 |0,_,_=>rfl
 |L+1,e,w=>by
  obtain⟨G,s,n⟩:=fQ w;have y:(jJ f (L+1) e).kind=e.kind:=rfl;have z:(jJ f (L+1) e).num=e.num:=rfl;have A:(jJ f (L+1) e).bk=e.bk.map (jJ f L):=rfl;unfold et;rw[y,z,A];by_cases p:e.kind=1
  ·rw[aX p,aX p]
  rw[aY p,aY p];by_cases k:e.kind=2
  ·have B:(jJ f (L+1) e).index=f e.index:=by show(if e.kind=2 then f e.index else _)=_;rw[aX k]
   rw[aX k,aX k,B,h _ (oR s k).1]
  rw[aY k,aY k];by_cases l:e.kind=3
  ·have C:(jJ f (L+1) e).read=ih f e.read:=by show(if e.kind=3 then ih f e.read else _)=_;rw[aX l]
   rw[aX l,aX l,C,Gj λx F=>h x ((mf (qe s l).1).2.2 x F)]
  rw[aY l,aY l];obtain⟨kind,num,index,read,o⟩:=e;dsimp only at n⊢
  match o,n with
  | [],_=>rfl
  | [a],_=>rfl
  | [a,c],n=>
   simp only[hX,List.map_nil];rw[GJ h i m (n a aW),GJ h i m (n c aW)]
  |a::c::e::r,_=>rfl
def j9(n:Int):Expr:=⟨1,n,⟨[],0⟩,⟨[],[]⟩,[]⟩
def gw(e:Expr)(n:Int):Bool:=ah (e.kind=1)&&ah (e.num=n)
def fy(k x y:Int):Int:=if k=5 then x-y else if k=6 then x*y else x+y
def hL(e:Expr):Expr:=
 if e.kind=2/\eP e.index.a1=0/\0<=e.index.const then j9 e.index.const
 else match e.bk with
  | [a,b]=>
   if a.kind=1/\b.kind=1 then(if 0<=fy e.kind a.num b.num/\fy e.kind a.num b.num<=99 then j9 (fy e.kind a.num b.num) else e)
   else if(¬e.kind=6/\gw b 0=ab)\/(e.kind=6/\gw b 1=ab) then a
   else if(e.kind=4/\gw a 0=ab)\/(e.kind=6/\gw a 1=ab) then b
   else if e.kind=6/\(gw a 0=ab\/gw b 0=ab) then j9 0
   else e
  |_=>e
def jB(e:Expr)(a:List Expr):Expr:=⟨e.kind,e.num,e.index,e.read,a⟩
def ft:Nat->Expr->Expr
 |0,e=>e
 |L+1,e=>hL (jB e (e.bk.map (ft L)))
theorem MW{d:Int}: ∀{L:Nat} {e:Expr},dd L e d=ab->dd (L+1) e d=ab
 |0,_,h=>by cases h
 |L+1,e,h=>by obtain⟨c,i,l⟩:=fQ h;show(ah (fu e.kind=e.bk.length)&&(eC e d&&e.bk.all λk=>dd (L+1) k d))=ab;rw[bW c,i,gL,gL];exact gq.2 λk a=>MW (l k a)
theorem CV(a:fu e.kind=e.bk.length)(c:eC e d=ab)(h: ∀k∈e.bk,dd L k d=ab):dd (L+1) e d=ab:=by
 show(ah (fu e.kind=e.bk.length)&&(eC e d&&e.bk.all λk=>dd L k d))=ab
 grind
theorem O4{d:Int}: ∀{L:Nat} {e:Expr},dd L e d=ab->dA (L+1) e=dA L e
 |0,_,h=>by cases h
 |L+1,e,h=>by obtain⟨i,l,c⟩:=fQ h;show 1+(e.bk.map (dA (L+1))).sum=1+(e.bk.map (dA L)).sum;rw[show e.bk.map (dA (L+1))=e.bk.map (dA L) from p' λk a=>O4 (c k a)]
theorem MD{d:Int}: ∀{L:Nat} {e:Expr},dd L e d=ab->dx (L+1) e=dx L e
 |0,_,h=>by cases h
 |L+1,e,h=>by obtain⟨i,l,c⟩:=fQ h;show(if e.kind=3 then [e.read] else [])++e.bk.flatMap (dx (L+1))=(if e.kind=3 then [e.read] else [])++e.bk.flatMap (dx L);rw[rh,rh,show e.bk.map (dx (L+1))=e.bk.map (dx L) from p' λk a=>MD (c k a)]
theorem A4{d:Int}(i:List ca)(m q:List Int): ∀{L:Nat} {e:Expr},dd L e d=ab->et (L+1) i m e q=et L i m e q
 |0,_,h=>by cases h
 |L+1,e,h=>by
  obtain⟨n,o,k⟩:=fQ h;obtain⟨kind,num,index,read,l⟩:=e;dsimp only at k;unfold et;dsimp only
  match l,k with
  | [],_=>rfl
  | [a],_=>rfl
  | [a,b],k=>simp only[A4 i m q (k a aW),A4 i m q (k b aW)]
  |a::b::c::r,_=>rfl
theorem FQ(l:eC e d=ab):hL e=e\/(∃n,hL e=j9 n/\0<=n/\n<=99)\/ ∃k∈e.bk,hL e=k:=by
 obtain⟨kind,num,index,read,i⟩:=e;unfold hL;dsimp only;split
 ·rename_i h
  have:=(gV (oR l h.1).1).2.1;exact .inr (.inl ⟨_,rfl,h.2.2,this.2⟩)
 match i with
 | []=>exact .inl rfl
 | [a]=>exact .inl rfl
 | [a,b]=>
  dsimp only;split
  ·split
   ·rename_i h;exact .inr (.inl ⟨_,rfl,h⟩)
   exact .inl rfl
  split
  ·exact .inr (.inr ⟨a,aW,rfl⟩)
  split
  ·exact .inr (.inr ⟨b,aW,rfl⟩)
  split
  ·exact .inr (.inl ⟨0,rfl,O,O⟩)
  exact .inl rfl
 |a::b::c::r=>exact .inl rfl
theorem YC(L:Nat){n:Int}(h:0<=n/\n<=99)(d:Int):dd (L+1) (j9 n) d=ab:=by
 refine CV (by simp[j9,fu]) ?_ λk a=>by cases a
 unfold eC j9 jj kr;simp;omega
theorem EN(h:eC e d=ab)(a:List Expr):eC (jB e a) d=ab:=h
theorem pr{d:Int}: ∀{L:Nat} {e:Expr},dd L e d=ab->dd L (ft L e) d=ab
 |0,_,h=>by cases h
 |L+1,e,h=>by
  obtain⟨o,l,m⟩:=fQ h;have p:dd (L+1) (jB e (e.bk.map (ft L))) d=ab:=CV (by simp only[jB,List.length_map];exact o) l (λk a=>by
   obtain⟨y,i,rfl⟩:=eo.1 a;exact pr (m y i))
  show dd (L+1) (hL (jB e (e.bk.map (ft L)))) d=ab;rcases FQ (EN l (e.bk.map (ft L))) with c|⟨n,c,q⟩|⟨k,a,c⟩
  ·rw[c];exact p
  ·rw[c];exact YC L q d
  rw[c];obtain⟨y,i,rfl⟩:=eo.1 a;exact MW (pr (m y i))
theorem Nz{R:Type}(f:R->Int)(c: ∀x,0<=f x): ∀{l:List R} {x:R},x∈l->f x<=(l.map f).sum
 |y::l,x,h=>by
  have d: ∀l:List R,0<=(l.map f).sum:=λl=>by
   induction l with
   |nil=>simp
   |cons a l e=>simp only[hX,List.sum_cons];have:=c a;omega
  simp only[hX,List.sum_cons];rcases ef.1 h with rfl|h
  ·have:=d l;omega
  have:=Nz f c h;have:=c y;omega
theorem MT{a:Type}(f g:a->Int): ∀{l:List a},(∀x∈l,f x<=g x)->(l.map f).sum<=(l.map g).sum
 | [],_=>fM _
 |x::l,h=>by
  simp only[hX,List.sum_cons]
  have:=h x en
  have:=MT f g λy c=>h y (ec _ c);omega
theorem P6{d:Int}: ∀{L:Nat} {e:Expr},dd L e d=ab->dA L (ft L e)<=dA L e
 |0,_,h=>by cases h
 |L+1,e,h=>by
  obtain⟨q,o,i⟩:=fQ h;have m:dA (L+1) (jB e (e.bk.map (ft L)))<=dA (L+1) e:=by
   show 1+((e.bk.map (ft L)).map (dA L)).sum<=1+(e.bk.map (dA L)).sum;rw[j3]
   have:=MT (dA L ∘ ft L) (dA L) (l:=e.bk) λk a=>P6 (i k a);omega
  show dA (L+1) (hL (jB e (e.bk.map (ft L))))<=dA (L+1) e;rcases FQ (EN o (e.bk.map (ft L))) with c|⟨n,c,r⟩|⟨k,a,c⟩
  ·rw[c];exact m
  ·rw[c];exact rr (L+1) e
  rw[c];refine Int.le_trans ?_ m;obtain⟨y,p,rfl⟩:=eo.1 a;rw[O4 (pr (i y p))];have s:dA L (ft L y)<=((e.bk.map (ft L)).map (dA L)).sum:=Nz (dA L) (λx=>by have:=rr L x;omega) a;show _<=1+((e.bk.map (ft L)).map (dA L)).sum;omega
theorem P7{d:Int}: ∀{L:Nat} {e:Expr},dd L e d=ab-> ∀a∈dx L (ft L e),a∈dx L e
 |0,_,h=>by cases h
 |L+1,e,h=>by
  obtain⟨w,s,p⟩:=fQ h;have q: ∀a∈dx (L+1) (jB e (e.bk.map (ft L))),a∈dx (L+1) e:=λa c=>by
   have c:a∈(if e.kind=3 then [e.read] else [])++(e.bk.map (ft L)).flatMap (dx L):=c;show a∈(if e.kind=3 then [e.read] else [])++e.bk.flatMap (dx L);rcases eS.1 c with c|c
   ·exact l7 _ c
   refine k7 _ ?_;obtain⟨y,m,o⟩:=jF.1 c;obtain⟨z,r,rfl⟩:=eo.1 m;exact jF.2 ⟨z,r,P7 (p z r) a o⟩
  intro a c;have c:a∈dx (L+1) (hL (jB e (e.bk.map (ft L)))):=c;rcases FQ (EN s (e.bk.map (ft L))) with i|⟨n,i,x⟩|⟨k,l,i⟩
  ·rw[i] at c;exact q a c
  ·rw[i] at c;simp[dx,j9] at c
  rw[i] at c;obtain⟨y,m,rfl⟩:=eo.1 l;rw[MD (pr (p y m))] at c;refine q a ?_;show a∈(if e.kind=3 then [e.read] else [])++(e.bk.map (ft L)).flatMap (dx L);exact k7 _ (jF.2 ⟨_,l,c⟩)
theorem w5: ∀{cs:List Int},eP cs=0-> ∀p,dX cs p=0
 | [],_,_=>by simp[dX]
 |c::cs,h,[]=>by simp[dX]
 |c::cs,h,x::p=>by
  have a:c=0:=D3 (l:=c::cs) (i:=0) rfl O;have d:eP cs=0:=by
   cases e:eP cs with
   |zero=>rfl
   |succ k=>unfold eP at h;rw[e] at h;simp at h
  simp only[dX];rw[a,w5 d];simp
theorem FW(L:Nat)(a:List ca)(m q:List Int)(n:Int):et (L+1) a m (j9 n) q=n:=by simp[et,j9]
theorem tq{a:Expr}{n:Int}(h:gw a n=ab):et (L+1) r m a q=n:=by
 unfold gw at h;rw[mS,decide_eq_true_eq,decide_eq_true_eq] at h;unfold et
 grind
theorem Li{a:Expr}(h:a.kind=1):et (L+1) r m a q=a.num:=by
 unfold et
 grind
theorem Ll(h:dd L e d=ab): ∃K,L=K+1:=by
 cases L with
 |zero=>cases h
 |succ K=>exact⟨K,rfl⟩
theorem ZG{w:List ca}(p:fv w m)(h:dd (L+1) e d=ab):et (L+1) w m (hL e) q=et (L+1) w m e q:=by
 obtain⟨k,A,l⟩:=fQ h;have B:=tC p (q:=q) h;obtain⟨kind,num,index,read,n⟩:=e;unfold hL;dsimp only at k l⊢;split
 ·rename_i y;have aP:=(gV (oR A y.1).1).2.1;dsimp only at aP;have C:index.const<=99:=aP.2;rw[FW];obtain⟨rfl,F,H⟩:=y;simp only[et];unfold dK;rw[w5 F];simp;omega
 match n,l,k with
 | [],_,_=>rfl
 | [a],_,_=>rfl
 |a::b::c::r,_,_=>rfl
 | [a,b],l,k=>
  have s:=l a aW;have a7:=l b aW;obtain⟨K,rfl⟩:=Ll s;have Q:=tC p (q:=q) s;have nP:=tC p (q:=q) a7;have x:kind=4\/kind=5\/kind=6:=by
   unfold fu at k;split at k
   ·simp at k
   split at k
   ·assumption
   simp at k
  have o:et (K+1+1) w m ⟨kind,num,index,read,[a,b]⟩ q=fy kind (et (K+1) w m a q) (et (K+1) w m b q)%1000:=by
   simp only[et,fy];rcases x with rfl|rfl|rfl<;>simp
  dsimp only;split
  ·rename_i z;split
   ·rename_i i;rw[FW,o,Li z.1,Li z.2];omega
   rfl
  split
  ·rename_i i;rw[A4 w m q s,o];rcases i with ⟨G,i⟩|⟨rfl,i⟩
   ·rw[tq i];unfold fy;rw[aY G];split<;>omega
   rw[tq i];unfold fy;simp;omega
  split
  ·rename_i i;rw[A4 w m q a7,o];rcases i with ⟨rfl,i⟩|⟨rfl,i⟩
   ·rw[tq i];unfold fy;simp;omega
   rw[tq i];unfold fy;simp;omega
  split
  ·rename_i i;rw[FW,o];obtain⟨rfl,i|i⟩:=i
   ·rw[tq i];unfold fy;simp
   rw[tq i];unfold fy;simp
  rfl
theorem Hm{w:List ca}{m:List Int}(n:fv w m){d:Int}{q:List Int}: ∀{L:Nat} {e:Expr},dd L e d=ab->et L w m (ft L e) q=et L w m e q
 |0,_,h=>by cases h
 |L+1,e,h=>by
  obtain⟨p,s,i⟩:=fQ h;have x:dd (L+1) (jB e (e.bk.map (ft L))) d=ab:=CV (by simp only[jB,List.length_map];exact p) s (λk o=>by
   obtain⟨y,z,rfl⟩:=eo.1 o;exact pr (i y z))
  show et (L+1) w m (hL (jB e (e.bk.map (ft L)))) q=_;rw[ZG n x];obtain⟨kind,num,index,read,l⟩:=e;dsimp only at i;unfold jB et;dsimp only
  match l,i with
  | [],_=>rfl
  | [a],_=>rfl
  | [a,b],i=>
   simp only[hX,List.map_nil];rw[Hm n (i a aW),Hm n (i b aW)]
  |a::b::c::r,_=>rfl
theorem Xd(n:Nat)(e:Expr)(k:Int):jd n e k=aa (gw e k):=by unfold jd gw;cases ah (e.kind=1)<;>rfl
theorem Wq(n:Nat)(e:Expr)(k:Int):pW n e k=aa (gw e k):=by unfold pW gw;cases ah (e.kind=1)<;>rfl
def Bo(a:Expr):Prop:=a.kind=1->0<=a.num/\a.num<=99
theorem GK(h:dd L e d=ab):Bo e:=λc=>by obtain⟨K,rfl⟩:=Ll h;obtain⟨_,a,_⟩:=fQ h;unfold eC at a;rw[aY O,aY O,aX c] at a;simp only[b5,decide_eq_true_eq] at a;exact a.1
theorem Pz{b:Int}(d:0<=a/\a<=99)(c:0<=b/\b<=99):0<=a*b/\a*b<=9801:=by
 refine⟨nI d.1 c.1,?_⟩
 have:=p6 d.2 c.2 c.1 (by omega:(0:Int)<=99);omega
theorem acp(n:Nat)(R:c=4\/c=5\/c=6){a b:Expr}(W:Bo a)(X:Bo b):
  aE (fun(s:Bool)=>
      bif s then(
       aE (fun(q:Int)=>
        bL (fX n q 0 99) λd=>
        bif d then(
         bL (nV n q) λe=>
         aa e
        ) else(
         aa (⟨c,0,(⟨[],0⟩:aF),(⟨[],[]⟩:b0),[a,b]⟩:Expr)
        )
       ) (λl=>
        bif ah (c=5) then(
         l (wr (a.num-b.num))
        ) else(
         bif ah (c=6) then(
          l (wr (a.num*b.num))
         ) else(
          l (wr (a.num+b.num))
         )
        )
       )
      ) else(
       aE (fun(w:Bool)=>
        bif w then(
         aa a
        ) else(
         aE (fun(x:Bool)=>
          bif x then(
           aa b
          ) else(
           aE (fun(y:Bool)=>
            bif y then(
             bL (nV n 0) λA=>
             aa A
            ) else(
             aa (⟨c,0,(⟨[],0⟩:aF),(⟨[],[]⟩:b0),[a,b]⟩:Expr)
            )
           ) (λm=>
            bif ah (c=6) then(
             bL (jd n a 0) λB=>
             bif B then(
              m ab
             ) else(
              bL (jd n b 0) λC=>
              m C
             )
            ) else(
             m ak
            )
           )
          )
         ) (λi=>
          bif ah (c=4) then(
           bL (jd n a 0) λF=>
           bif F then(
            i ab
           ) else(
            bif ah (c=6) then(
             bL (jd n a 1) λG=>
             i G
            ) else(
             i ak
            )
           )
          ) else(
           bif ah (c=6) then(
            bL (jd n a 1) λH=>
            i H
           ) else(
            i ak
           )
          )
         )
        )
       ) (λk=>
        bif !(ah (c=6)) then(
         bL (jd n b 0) λK=>
         bif K then(
          k ab
         ) else(
          bif ah (c=6) then(
           bL (jd n b 1) λL=>
           k L
          ) else(
           k ak
          )
         )
        ) else(
         bif ah (c=6) then(
          bL (jd n b 1) λQ=>
          k Q
         ) else(
          k ak
         )
        )
       )
      )
     ) (λr=>
      bif ah (a.kind=1) then(
       r (ah (b.kind=1))
      ) else(
       r ak
      )
     )=aa (hL ⟨c,0,⟨[],0⟩,⟨[],[]⟩,[a,b]⟩):=by
 have Z: ¬(c=2/\eP ([]:List Int)=0/\(0:Int)<=0):=λh=>O
 unfold hL;dsimp only;rw[aY Z];simp only[Xd,Option.bind_some,aE];by_cases o:a.kind=1/\b.kind=1
 ·have g:=W o.1;have j:=X o.2;have E:=Pz g j;rw[aX o,bW o.1,bW o.2];simp only[cond_true];have t:(bif ah (c=5) then(bL (fX n (wr (a.num-b.num)) 0 99) λd=>bif d then(bL (nV n (wr (a.num-b.num))) λe=>aa e) else(aa (⟨c,0,⟨[],0⟩,⟨[],[]⟩,[a,b]⟩:Expr)))
    else bif ah (c=6) then(bL (fX n (wr (a.num*b.num)) 0 99) λd=>bif d then(bL (nV n (wr (a.num*b.num))) λe=>aa e) else(aa (⟨c,0,⟨[],0⟩,⟨[],[]⟩,[a,b]⟩:Expr)))
    else(bL (fX n (wr (a.num+b.num)) 0 99) λd=>bif d then(bL (nV n (wr (a.num+b.num))) λe=>aa e) else(aa (⟨c,0,⟨[],0⟩,⟨[],[]⟩,[a,b]⟩:Expr))))
    =bL (fX n (fy c a.num b.num) 0 99) λd=>bif d then(bL (nV n (fy c a.num b.num)) λe=>aa e) else(aa (⟨c,0,⟨[],0⟩,⟨[],[]⟩,[a,b]⟩:Expr)):=by
   rw[bh (n:=a.num-b.num) O,bh (n:=a.num*b.num) O,bh (n:=a.num+b.num) O];unfold fy;rcases R with rfl|rfl|rfl<;>rfl
  refine t.trans ?_;rw[kP,Option.bind_some];by_cases p:0<=fy c a.num b.num/\fy c a.num b.num<=99
  ·rw[aX p,bW p];rfl
  rw[aY p,bT p];rfl
 rw[aY o];have I:(bif ah (a.kind=1) then ah (b.kind=1) else ak)=ak:=by
  cases u:ah (a.kind=1) with
  |false=>rfl
  |true=>
   have: ¬b.kind=1:=λh=>o ⟨hB u,h⟩;rw[bT this];rfl
 have p: ∀{f:Bool->Option Expr},(bif ah (a.kind=1) then f (ah (b.kind=1)) else f ak)=f ak:=fun {f}=>by
  grind
 refine(p (f:=λz=>bif z then _ else _)).trans ?_;generalize gw a 0=a0;generalize gw a 1=aS;generalize gw b 0=v;generalize gw b 1=D;rcases R with rfl|rfl|rfl<;>cases a0<;>cases aS<;>cases v<;>cases D<;>rfl
theorem Yh(n:Nat)(k:Int):rN n k=aa (ah (4<=k/\k<=6)):=by unfold rN;rw[kP];rfl
theorem FJ(h:fu e.kind=e.bk.length):((e.kind=1\/e.kind=2\/e.kind=3)/\e.bk=[])\/((e.kind=4\/e.kind=5\/e.kind=6)/\ ∃a b,e.bk=[a,b]):=by
 unfold fu at h;split at h
 ·rename_i d;exact .inl ⟨d,nH O⟩
 split at h
 ·rename_i d;refine .inr ⟨d,?_⟩
  match i:e.bk,h with
  | [a,b],_=>exact⟨a,b,rfl⟩
  | [],h=>simp at h
  | [a],h=>simp at h
  |a::b::c::r,h=>simp at h;omega
 omega
theorem acM(a:eC e d=ab)(h:e.kind=4\/e.kind=5\/e.kind=6):e.num=0/\e.index=⟨[],0⟩/\e.read=⟨[],[]⟩:=by have c:=wO a O O;unfold eC at a;rw[aY O,aY O,aY O] at a;simp only[b5,decide_eq_true_eq] at a;exact⟨a.1,sY c.1,sZ c.2⟩
theorem AZ(a:eC e d=ab):jM e.index/\kL e.read.bA:=by
 by_cases h:e.kind=2
 ·have:=oR a h;refine⟨by have:=(gV this.1).1;unfold jM;omega,?_⟩;rw[sZ this.2];exact⟨aW,λx c=>by cases c⟩
 by_cases i:e.kind=3
 ·have:=qe a i;have k:=mf this.1;refine⟨?_,NR k.2.1 k.2.2⟩;rw[sY this.2];unfold jM;simp
 have:=wO a h i;refine⟨?_,?_⟩
 ·rw[sY this.1];unfold jM;simp
 rw[sZ this.2];exact⟨aW,λx c=>by cases c⟩
def mM(e:Expr):Bool:=ah (e.kind=2)&&(ah (eP e.index.a1=0)&&ah (0<=e.index.const))
theorem KT(e:Expr):mM e=ab↔e.kind=2/\eP e.index.a1=0/\0<=e.index.const:=by unfold mM;simp
theorem KI(h:mM e=ab):hL e=j9 e.index.const:=by unfold hL;rw[aX ((KT e).1 h)]
theorem Lv(h:mM e=ak)(a:e.bk=[]):hL e=e:=by unfold hL;rw[aY (λc=>by rw[(KT e).2 c] at h;cases h),a]
theorem HX{d:Int}: ∀(L n:Nat) (e:Expr),6000+L<=n->dd L e d=ab->qQ (n+1) e=aa (ft L e)
 |0,_,_,_,h=>by cases h
 |L+1,n,e,R,h=>by
  obtain⟨r,s,w⟩:=fQ h;obtain⟨n,rfl⟩: ∃j,n=j+1:=⟨n-1,O⟩
  unfold qQ;refine ad.eq (ad.aE (λz=>z=mM e) (λj m=>?_) λz B=>?_)
  ·refine aU (λo=>ai (y5 O (AZ s).1) (aU (λC=>m _ ?_) λC=>m _ ?_)) λo=>m _ ?_
   ·unfold mM;rw[bW o,bW (O:eP e.index.a1=0)];rfl
   ·unfold mM;rw[bT (show¬eP e.index.a1=0 by omega),Bool.false_and,mU]
   unfold mM;rw[bT o];rfl
  subst B;have p:ft (L+1) e=hL (jB e (e.bk.map (ft L))):=rfl;refine ad.cond (λq=>?_) λq=>?_
  ·refine ai (x:=j9 e.index.const) rfl (ad.some ?_);rw[p];exact(KI (e:=jB e (e.bk.map (ft L))) q).symm
  refine ai (Yh _ _) (eO (λl=>ad.some ?_) λl=>?_)
  ·rcases FJ r with ⟨_,k⟩|⟨i,_⟩
   ·rw[p,k]
    have:jB e []=e:=by cases e;cases k;rfl
    show e=hL (jB e []);rw[this];exact(Lv q k).symm
   exact bz O l
  rcases FJ r with ⟨i,_⟩|⟨i,a,b,c⟩
  ·omega
  have y:=w a (by rw[c];simp);have A:=w b (by rw[c];simp);have F:az e.bk 0=aa a:=by rw[c];rfl
  have G:az e.bk 1=aa b:=by rw[c];rfl
  refine ai F (ai (HX L n a O y) (ai G (ai (HX L n b O A) (ad.of (acp (n+1) i (GK (pr y)) (GK (pr A))) ?_))));obtain⟨H,K,Q⟩:=acM s i;rw[p,c];unfold jB;rw[H,K,Q];rfl
theorem ZT(n:Nat)(o:e.kind=4\/e.kind=5\/e.kind=6){x y:Int}(l:0<=x/\x<=99)(m:0<=y/\y<=99):Ab n e x y=aa (if 0<=fy e.kind x y/\fy e.kind x y<=99 then j9 (fy e.kind x y) else e):=by
 have p:=Pz l m;unfold Ab;refine ad.eq (ad.aE (λz=>z=fy e.kind x y) (λj a=>?_) λz d=>?_)
 ·rw[bh (n:=x+y) O,bh (n:=x-y) O,bh (n:=x*y) O];refine aU (λh=>a _ ?_) λh=>aU (λi=>a _ ?_) λi=>a _ ?_
  ·unfold fy;rw[aY O,aY O]
  ·unfold fy;rw[aX i]
  unfold fy;rw[aY i,aX O]
 subst d;refine ad.aE (λz=>z= !decide (0<=fy e.kind x y/\fy e.kind x y<=99)) (λj a=>aU (λh=>a _ ?_) λh=>a _ ?_) λz d=>?_
 ·rw[bT O];rfl
 ·by_cases k:(99:Int)<fy e.kind x y
  ·rw[bW k,bT O];rfl
  rw[bT k,bW O];rfl
 subst d;by_cases c:0<=fy e.kind x y/\fy e.kind x y<=99
 ·rw[bW c,aX c];exact cd (ai rfl (ad.some rfl))
 rw[bT c,aY c];exact b' (ad.some rfl)
theorem Yu(Q:5000<=n)(A:jM e.index)(B:fu e.kind=e.bk.length)(w: ∀k∈e.bk,Bo k):yT n e=aa (hL e):=by
 unfold yT;refine ad.eq (ad.aE (λz=>z=mM e) (λj l=>?_) λz q=>?_)
 ·refine aU (λC=>ai (t7 O A) (aU (λF=>l _ ?_) λF=>l _ ?_)) λC=>l _ ?_
  ·unfold mM
   grind
  ·unfold mM
   grind
  unfold mM
  grind
 subst q;refine ad.cond (λr=>ai (x:=j9 e.index.const) rfl (ad.some (KI r).symm)) λr=>?_;rcases FJ B with ⟨_,o⟩|⟨d,a,b,c⟩
 ·refine aU (λ_=>ad.some (Lv r o).symm) λh=>bz (by rw[o];rfl) h
 have G:=w a (by rw[c];simp);have H:=w b (by rw[c];simp);refine aU (λh=>by rw[c] at h;simp at h) λ_=>ai (show az e.bk 0=aa a by rw[c];rfl) (ai (show az e.bk 1=aa b by rw[c];rfl) ?_);have i:hL e=(if a.kind=1/\b.kind=1 then(if 0<=fy e.kind a.num b.num/\fy e.kind a.num b.num<=99 then j9 (fy e.kind a.num b.num) else e)
   else if(¬e.kind=6/\gw b 0=ab)\/(e.kind=6/\gw b 1=ab) then a
   else if(e.kind=4/\gw a 0=ab)\/(e.kind=6/\gw a 1=ab) then b
   else if e.kind=6/\(gw a 0=ab\/gw b 0=ab) then j9 0
   else e):=by
  unfold hL;rw[aY (λh=>O),c]
 rw[i];refine ad.aE (λz=>z=ah (a.kind=1/\b.kind=1)) (λj l=>aU (λh=>l _ ?_) λh=>l _ ?_) λz q=>?_
 ·by_cases p:b.kind=1
  ·rw[bW p,bW ⟨h,p⟩]
  rw[bT p,bT λs=>p s.2]
 ·rw[bT λs=>h s.1]
 subst q;by_cases m:a.kind=1/\b.kind=1
 ·rw[bW m,aX m];exact b' (ai (ZT n d (G m.1) (H m.2)) (ad.some rfl))
 rw[bT m,aY m];refine cd ?_;simp only[Wq,Option.bind_some,aE];generalize gw a 0=a0;generalize gw a 1=aS;generalize gw b 0=K;generalize gw b 1=L;obtain⟨kind,num,index,read,y⟩:=e;dsimp only at d⊢;rcases d with rfl|rfl|rfl<;>cases a0<;>cases aS<;>cases K<;>cases L<;>exact ad.some rfl
theorem Ri{d:Int}: ∀(L n:Nat) (e:Expr),6000+L<=n->dd L e d=ab->q6 (n+1) e=aa (ft L e)
 |0,_,_,_,h=>by cases h
 |L+1,n,e,s,h=>by
  obtain⟨m,a,l⟩:=fQ h;obtain⟨n,rfl⟩: ∃j,n=j+1:=⟨n-1,O⟩
  have o:e.bk.length<=2:=by have:=pS e.kind;omega
  unfold q6;refine ad.eq (ai (za _ (AZ a).1) (ai (yy O (AZ a).2) ?_));refine rp (f:=q6 (n+1)) (g:=ft L) (K:=λp=>bL (yT (n+1) (⟨e.kind,e.num,e.index,e.read,p⟩:Expr)) λc=>aa c) (λx q=>Ri L n x O (l x q)) O O ?_;refine ai (Yu O (AZ a).1 (by simpa using m) λk i=>?_) (ad.some rfl);obtain⟨y,r,rfl⟩:=eo.1 i;exact GK (pr (l y r))
def jW(l:List bU)(p:Prog)(a:Int)(c:Nat):Prop:= ∃x∈l,x.part=a/\cT p x=c
def kX(l:List bU)(p:Prog)(a:Int)(c:Nat):Prop:= ∃x∈l,x.part=a/\(c:Int)∈rc p x
theorem wu{l:List bU}{c:Nat}:jW (l++[x]) p a c↔jW l p a c\/(x.part=a/\cT p x=c):=by
 unfold jW
 grind
theorem wv{l:List bU}{c:Nat}:kX (l++[x]) p a c↔kX l p a c\/(x.part=a/\(c:Int)∈rc p x):=by
 unfold kX
 grind
def hY(T:Nat)(f:List Bool)(S:Nat->Prop):Prop:=f.length=T/\ ∀c,c<T->(f.getD c ak=ab↔S c)
theorem FB(T:Nat):hY T (dq T ak) (λ_=>False):=⟨yE,λc a=>by rw[eB,te];split<;>simp⟩
theorem F2{T:Nat}{f:List Bool}{S:Nat->Prop}(h:hY T f S){d:Nat}(a:d<T):hY T (f.set d ab) (λc=>S c\/c=d):=⟨by rw[e7];exact h.1,λc i=>by
 by_cases e:d=c
 ·subst e;rw[eB,hU (by rw[h.1];exact a)];simp
 rw[eB,jm e,<-eB,h.2 c i];constructor
 ·exact .inl
 rintro(h|h)
 ·exact h
 exact bz h.symm e⟩
theorem l0{T:Nat}{f:List Bool}{S X:Nat->Prop}(h:hY T f S)(d: ∀c,c<T->(S c↔X c)):hY T f X:=⟨h.1,λc a=>(h.2 c a).trans (d c a)⟩
theorem rO{T:Nat}{f:List Bool}{S:Nat->Prop}(h:hY T f S){c:Nat}(d:c<T):az f (c:Int)=aa (f.getD c ak):=by
 have a:c<f.length:=by rw[h.1];exact d
 rw[bq (bo a),eB,bo a];rfl
theorem Lq(A:5000<=n){T:Nat}{cs:List Int}(B:cs.length<=1000)(m: ∀c∈cs,0<=c/\c<(T:Int)){K:List Bool->Option R}{f:List Bool}{S:Nat->Prop}(o:hY T f S)(p: ∀g,hY T g (λc=>S c\/(c:Int)∈cs)->ad (K g) Q):
  ad (bj (λa (z:(List Bool)×Int)=>bif ah (z.2<(cs.length:Int)) then(bL (az cs z.2) λx=>bL (az z.1 x) λ_=>bL (cA z.1 x ab) λy=>a (y,wr (z.2+1))) else(K z.1)) n (f,0)) Q:=by
 refine ad.loop (λz:List Bool×Int=> ∃i:Nat,z.2=i/\i<=cs.length/\hY T z.1 λc=>S c\/(c:Int)∈cs.take i) (λz=>cs.length-z.2.toNat) ?_ n _ ⟨0,rfl,O,l0 o λc _=>aW⟩ J;rintro a ⟨x,z⟩ ⟨i,l,C,h⟩ q;dsimp only at l h⊢;subst l;refine aU (λr=>?_) λs=>?_
 ·obtain⟨c,k⟩: ∃c,cs[i]? =aa c:=⟨_,bo (O:i<cs.length)⟩
  have a7:=m c (bJ k);have w:=h.1;refine ai (bq k) (ai (rR a7.1 O) (ai (v7 a7.1 O ab) ?_));rw[bh O];refine q _ ⟨i+1,J,O,l0 (F2 h (d:=c.toNat) O) λe F=>?_⟩ J;rw[gC k,eS,nL]
  grind
 have e:i=cs.length:=O
 refine p x (l0 h λc _=>?_)
 grind
theorem wU(a:bt p=ab):((iT p:Nat):Int)=gj p.aV/\iT p<=144:=by
 have:=MP a
 grind
theorem KV(cG:7100<=n)(w:bt p=ab)(a:Int):ad (xJ n (fV p) a) (λr=>hY (iT p) r.1 (kX (I p.parts) p a)/\hY (iT p) r.2 (jW (I p.parts) p a)):=by
 obtain⟨Q,R,_,_,X⟩:=ev w;have gF:=wU w;unfold xJ;refine ai (y6 (p:=p) O Q R) (ai (AV ⟨O,O⟩ ak) (ai (y6 (p:=p) O Q R) (ai (AV ⟨O,O⟩ ak) ?_)));show ad (bj _ n (dq (iT p) ak,dq (iT p) ak,0)) _;refine ad.loop (λz:List Bool×List Bool×Int=> ∃i:Nat,z.2.2=i/\i<=(I p.parts).length/\hY (iT p) z.1 (kX ((I p.parts).take i) p a)/\hY (iT p) z.2.1 (jW ((I p.parts).take i) p a)) (λz=>(I p.parts).length-z.2.2.toNat) ?_ n _ ⟨0,rfl,O,l0 (FB _) (λc _=>by simp[kX]),l0 (FB _) λc _=>by simp[jW]⟩ J;rintro A ⟨x,y,z⟩ ⟨i,m,aP,B,o⟩ Z;dsimp only at m B o⊢;subst m;have l:(fV p).list=I p.parts:=rfl;rw[l];refine aU (λb=>?_) λt=>ad.some ?_
 ·obtain⟨u,k⟩: ∃u,(I p.parts)[i]? =aa u:=⟨_,bo (O:i<(I p.parts).length)⟩
  have v:=e9 (bJ k);obtain⟨ir,D,ajR,_⟩:=ll w v;have C:(fV p).reads[i]? =aa (rc p u):=jU k;have F:(fV p).ix[i]? =aa (cT p u:Int):=jU (f:=λx=>(cT p x:Int)) k;refine ad.aE (λz:List Bool×List Bool×Int×Int×List Int=>hY (iT p) z.1 (kX ((I p.parts).take (i+1)) p a)/\hY (iT p) z.2.1 (jW ((I p.parts).take (i+1)) p a)) (λj W=>?_) λz m=>?_
  ·refine ai (bq k) (eO (λq=>W _ ⟨l0 B λc _=>?_,l0 o λc _=>?_⟩) λhe=>ai (bq C) ?_)
   ·rw[gC k,wv];exact⟨.inl,λh=>h.elim id λh=>bz h.1 q⟩
   ·rw[gC k,wu];exact⟨.inl,λh=>h.elim id λh=>bz h.1 q⟩
   refine Lq (T:=iT p) O (cs:=rc p u) O (λc E=>by have:=D c E;omega) (K:=λG=>bL (az (fV p).ix (i:Int)) λs=>bL (az y s) λM=>bL (cA y s ab) λH=>j (G,H,u.part,u.stmt,u.b2)) B λg L=>?_;refine ai (bq F) (ai (rO o O) (ai (v7 O (by rw[o.1];omega) ab) (W _ ⟨l0 L λc _=>?_,?_⟩)))
   ·rw[gC k,wv]
    grind
   refine l0 (F2 o (d:=cT p u) O) λc _=>?_;rw[gC k,wu]
   grind
  obtain⟨N,P,S,U,V⟩:=z;dsimp only at m⊢;rw[bh O];exact Z _ ⟨i+1,J,O,m.1,m.2⟩ J
 have e:i=(I p.parts).length:=O
 grind
theorem Dw(L:7100<=n)(o:bt p=ab)(a:Int)(w:Bool):ad (sH n p a w) (λr=>r.length<=144/\ ∀c:Int,c∈r↔0<=c/\c.toNat<iT p/\(if w=ab then jW (I p.parts) p a c.toNat else kX (I p.parts) p a c.toNat)):=by
 obtain⟨Q,R,_,_,W⟩:=ev o;have M:=wU o;unfold sH;refine ai (KO O Q R) (ai (AV ⟨O,O⟩ ak) (ai (xU O o) (ai (zl L o) ?_)));show ad (bj _ n (dq (iT p) ak,0)) _;refine ad.loop (λz:List Bool×Int=> ∃i:Nat,z.2=i/\i<=(I p.parts).length/\hY (iT p) z.1 λc=>if w=ab then jW ((I p.parts).take i) p a c else kX ((I p.parts).take i) p a c) (λz=>(I p.parts).length-z.2.toNat) ?_ n _ ⟨0,rfl,O,l0 (FB _) λc _=>by simp[kX,jW]⟩ J;rintro y ⟨x,z⟩ ⟨i,s,N,l⟩ X;dsimp only at s l⊢;subst s;refine aU (λk=>?_) λZ=>?_
 ·obtain⟨u,m⟩: ∃u,(I p.parts)[i]? =aa u:=⟨_,bo (O:i<(I p.parts).length)⟩
  have b:=e9 (bJ m);obtain⟨P,t,S,_⟩:=ll o b;have q:(kp p)[i]? =aa (⟨rc p u,(cT p u:Int)⟩:kD):=jU (f:=λx=>(⟨rc p x,(cT p x:Int)⟩:kD)) m;refine ad.aE (λz:List Bool=>hY (iT p) z λc=>if w=ab then jW ((I p.parts).take (i+1)) p a c else kX ((I p.parts).take (i+1)) p a c) (λj A=>?_) λz s=>?_
  ·refine ai (bq m) (eO (λv=>A _ (l0 l λc _=>?_)) λH=>?_)
   ·rw[gC m,wu,wv]
    grind
   cases w with
   |true=>
    refine b' (ai (bq q) (ai (rO l O) (ai (v7 (by(try dsimp only);omega) (by rw[l.1];(try dsimp only);omega) ab) (A _ ?_))));refine l0 (F2 l (d:=cT p u) O) λc _=>?_;rw[gC m,wu,wv];exact or_congr Iff.rfl ⟨λh=>⟨H,h.symm⟩,λh=>h.2.symm⟩
   |false=>
    refine cd ?_;simp only[bq q,Option.bind_some];refine Lq (T:=iT p) O (cs:=rc p u) O (λc D=>by have:=t c D;omega) (K:=λB=>j B) l λg C=>A _ (l0 C λc _=>?_);rw[gC m,wu,wv];exact or_congr Iff.rfl ⟨λh=>⟨H,h⟩,λh=>h.2⟩
  rw[bh O];exact X _ ⟨i+1,J,O,s⟩ J
 have e:i=(I p.parts).length:=O
 rw[e,dF] at l;have E:=l.1;refine ai (JU O O) (ad.some ⟨by have:=Kb x;omega,λc=>?_⟩);rw[D1];constructor
 ·rintro⟨F,G⟩;have k:c.toNat<iT p:=by
   grind
  exact⟨F,k,(l.2 _ k).1 G⟩
 rintro⟨F,k,G⟩;exact⟨F,(l.2 _ k).2 G⟩
theorem FI(r:5000<=n){a b:List Int}(s:a.length<=1000)(m:b.length<=1000):vo n a b=aa (a.any λc=>decide (c∈b)):=by
 refine ad.eq ?_;unfold vo;refine ad.loop (λz:Int=> ∃i:Nat,z=i/\i<=a.length/\(a.take i).any (λc=>decide (c∈b))=ak) (λz=>a.length-z.toNat) ?_ n 0 ⟨0,rfl,O,aW⟩ O;rintro d z ⟨i,rfl,w,k⟩ o;refine aU (λp=>?_) λq=>ad.some ?_
 ·obtain⟨c,l⟩: ∃c,a[i]? =aa c:=⟨_,bo (O:i<a.length)⟩
  refine ai (bq l) (ai (Fw O m c) (ad.cond (λh=>ad.some ?_) λh=>?_))
  ·exact(jE.2 ⟨c,bJ l,h⟩).symm
  rw[bh O];refine o _ ⟨i+1,O,O,?_⟩ O;rw[gC l,yJ,k]
  grind
 have e:i=a.length:=O
 grind
def xc(p:Prog)(a b:Int):Prop:= ∀x∈I p.parts,∀y∈I p.parts,x.part=a->y.part=b-> ¬nZ p x y
noncomputable def r2(p:Prog)(a b:Int):Bool:= @decide (xc p a b) (Classical.propDecidable _)
theorem HY{b:Int}:r2 p a b=ab↔xc p a b:=by unfold r2;exact @decide_eq_true_iff _ (Classical.propDecidable _)
theorem K'(n:bt p=ab){b:Int}:xc p a b↔ ∀c,c<iT p-> ¬(jW (I p.parts) p a c/\(kX (I p.parts) p b c\/jW (I p.parts) p b c))/\ ¬(jW (I p.parts) p b c/\kX (I p.parts) p a c):=by
 have o:=wU n;constructor
 ·intro h c _;refine⟨?_,?_⟩
  ·rintro⟨⟨x,l,e,m⟩,⟨y,k,d,i⟩|⟨y,k,d,i⟩⟩
   ·exact h x l y k e d (.inl (by rw[m];exact i))
   exact h x l y k e d (.inr (.inr (by rw[m,i])))
  rintro⟨⟨y,k,d,i⟩,⟨x,l,e,m⟩⟩;exact h x l y k e d (.inr (.inl (by rw[i];exact m)))
 intro h x l y k e d bN;have q:=(ll n (e9 l)).1;have r:=(ll n (e9 k)).1;rcases bN with bN|bN|bN
 ·exact(h (cT p x) O).1 ⟨⟨x,l,e,rfl⟩,.inl ⟨y,k,d,bN⟩⟩
 ·exact(h (cT p y) O).2 ⟨⟨y,k,d,rfl⟩,⟨x,l,e,bN⟩⟩
 exact(h (cT p x) O).1 ⟨⟨x,l,e,rfl⟩,.inr ⟨y,k,d,bN.symm⟩⟩
def e5(p:Prog)(a:Int):Bool:=ah (0<=a/\a<(p.parts.length:Int))
noncomputable def jA(p:Prog)(a b:Int):Bool:=bt p&&(e5 p a&&(e5 p b&&(!decide (a=b)&&r2 p a b)))
theorem sL{b:Bool}(h:(!b)=ab):b=ak:=by cases b with
 |false=>rfl
 |true=>cases h
theorem qZ{b:Bool}(h:(!b)=ak):b=ab:=by cases b with
 |false=>cases h
 |true=>rfl
theorem Xe(cG:5000<=n){T:Nat}(kT:T<=1000){G E I H:List Bool}{s o p k:Nat->Prop}(B:hY T G s)(K:hY T E o)(L:hY T I p)(x:hY T H k){v:Bool}(M:v=ab↔ ∀c,c<T-> ¬(o c/\(p c\/k c))/\ ¬(k c/\s c)):
  ad (bj (λl (e:Int)=>
     bif ah (e<(G.length:Int)) then(
      aE (fun(Q:Bool)=>
       bif Q then(
        aa ak
       ) else(
        l (wr (e+1))
       )
      ) (λm=>
       bL (az E e) λR=>
       bif R then(
        bL (az I e) λW=>
        bif W then(
         m ab
        ) else(
         bL (az H e) λX=>
         bif X then(
          m ab
         ) else(
          m ak
         )
        )
       ) else(
        bL (az H e) λZ=>
        bif Z then(
         bL (az G e) λb=>
         m b
        ) else(
         m ak
        )
       )
      )
     ) else(
      aa ab
     )
    ) n 0) (λr=>r=v):=by
 have y: ∀c,c<T->((o c/\(p c\/k c))\/(k c/\s c))->v=ak:=λc f h=>by
  cases g:v with
  |false=>rfl
  |true=>
   have:=M.1 g c f;rcases h with h|h
   ·exact bz h this.1
   exact bz h this.2
 have t:=B.1;refine ad.loop (λz:Int=> ∃i:Nat,z=i/\i<=T/\ ∀c,c<i-> ¬(o c/\(p c\/k c))/\ ¬(k c/\s c)) (λz=>T-z.toNat) ?_ n 0 ⟨0,rfl,O,λc h=>O⟩ O;rintro u z ⟨i,rfl,aP,D⟩ P;rw[t];refine aU (λS=>?_) λU=>ad.some ?_
 ·have a:i<T:=O
  refine ad.aE (λz=>(z=ab->(o i/\(p i\/k i))\/(k i/\s i))/\(z=ak-> ¬(o i/\(p i\/k i))/\ ¬(k i/\s i))) (λj A=>?_) λz V=>ad.cond (λh=>ad.some (y i a (V.1 h)).symm) λh=>?_
  ·refine ai (rO K a) (ad.cond (λC=>?_) λC=>?_)
   ·have w:=(K.2 i a).1 C;refine ai (rO L a) (ad.cond (λF=>A _ ⟨λ_=> .inl ⟨w,.inl ((L.2 i a).1 F)⟩,λh=>(by cases h)⟩) λF=>ai (rO x a) (ad.cond (λd=>A _ ⟨λ_=> .inl ⟨w,.inr ((x.2 i a).1 d)⟩,λh=>(by cases h)⟩) λd=>A _ ⟨λh=>(by cases h),λ_=>?_⟩));have ajL: ¬p i:=λh=>by rw[(L.2 i a).2 h] at F;cases F
    have aiS: ¬k i:=λh=>by rw[(x.2 i a).2 h] at d;cases d
    grind
   have N: ¬o i:=λh=>by rw[(K.2 i a).2 h] at C;cases C
   refine ai (rO x a) (ad.cond (λd=>ai (rO B a) (A _ ⟨λh=> .inr ⟨(x.2 i a).1 d,(B.2 i a).1 h⟩,λh=>⟨λq=>N q.1,λq=>by rw[(B.2 i a).2 q.2] at h;cases h⟩⟩)) λd=>A _ ⟨λh=>(by cases h),λ_=>⟨λq=>N q.1,λq=>by rw[(x.2 i a).2 q.1] at d;cases d⟩⟩)
  rw[bh O];refine P _ ⟨i+1,O,O,λc f=>?_⟩ O
  grind
 exact(M.2 λc f=>D c O).symm
theorem aap(i:7100<=n)(m:fP p)(a b:Int):B0 n p a b=aa (jA p a b):=by
 unfold B0;refine ad.eq (ai (yt i m) ?_);by_cases c:bt p=ab
 ·rw[aX c];have C:=wU c;have d:=m.2.1;refine b' (ad.aE (λz=>z= !(e5 p a&&(e5 p b&& !decide (a=b)))) (λj e=>cd (ai (qU n d a) (ad.cond (λh=>e _ ?_) λh=>ai (qU n d b) (ad.cond (λk=>e _ ?_) λk=>e _ ?_)))) λz l=>?_)
  ·have:e5 p a=ak:=sL h
   grind
  ·have o:e5 p a=ab:=qZ h;have q:e5 p b=ak:=sL k
   grind
  ·have o:e5 p a=ab:=qZ h;have q:e5 p b=ab:=qZ k
   grind
  subst l;unfold jA;rw[c];cases o:e5 p a with
  |false=>exact b' (ad.some rfl)
  |true=>
   cases q:e5 p b with
   |false=>exact b' (ad.some rfl)
   |true=>
    cases F:ah (a=b) with
    |true=>exact b' (ad.some rfl)
    |false=>
     refine cd (cB (KV i c a) λr ⟨w,x⟩=>cB (KV i c b) λs ⟨y,A⟩=>?_);exact(Xe O (T:=iT p) O w x y A (v:=r2 p a b) (by rw[HY,K' c])).mono λr B=>B
 rw[aY c];refine cd (ad.aE (λz=>z=ab) (λj e=>b' (e _ rfl)) λz l=>?_);rw[l];refine b' (ad.some ?_);unfold jA
 grind
theorem ZV(B:7100<=n)(f:fP p)(a b:Int):BW n p a b=aa (jA p a b):=by
 unfold BW;refine ad.eq (ad.aE (λz=>z= !(bt p&&(e5 p a&&(e5 p b&& !decide (a=b))))) (λj i=>?_) λz G=>?_)
 ·refine ai (kM O f) (ad.cond (λh=>i _ ?_) λh=>?_)
  ·rw[show bt p=ak by simpa using h];rfl
  have l:bt p=ab:=by simpa using h
  rw[l] at i;refine aU (λR=>i _ ?_) λR=>aU (λg=>i _ ?_) λg=>aU (λW=>i _ ?_) λW=>aU (λt=>i _ ?_) λt=>i _ ?_
  ·rw[show e5 p a=ak from bT O];rfl
  ·rw[show e5 p b=ak from bT O];simp
  ·rw[show e5 p a=ak from bT O];rfl
  ·rw[show e5 p b=ak from bT O];simp
  rw[show e5 p a=ab from bW O,show e5 p b=ab from bW O];simp
 subst G;unfold jA;by_cases l:bt p=ab
 ·rw[l];have D:=wU l;cases R:e5 p a with
  |false=>exact b' (ad.some rfl)
  |true=>
   cases W:e5 p b with
   |false=>exact b' (ad.some rfl)
   |true=>
    cases E:ah (a=b) with
    |true=>exact b' (ad.some rfl)
    |false=>
     have m:=HY.trans (K' l (a:=a) (b:=b));have k: ∀c,c<iT p->((jW (I p.parts) p a c/\(kX (I p.parts) p b c\/jW (I p.parts) p b c))\/(jW (I p.parts) p b c/\kX (I p.parts) p a c))->r2 p a b=ak:=λc o h=>by
      cases H:r2 p a b with
      |false=>rfl
      |true=>
       have:=m.1 H c o;rcases h with h|h
       ·exact bz h this.1
       exact bz h this.2
     refine cd (cB (Dw B l a ab) λq ⟨M,C⟩=>cB (Dw B l b ab) λr ⟨N,F⟩=>ad.aE (λz=>z=r2 p a b) (λj i=>?_) λz G=>ad.some G);refine ai (FI O O O) (ad.cond (λh=>?_) λh=>i _ ?_)
     ·have u: ∀c,c∈q->c∈r->False:=λc e d=>by
       have:q.any (λc=>decide (c∈r))=ab:=jE.2 ⟨c,e,bW d⟩;rw[this] at h;cases h
      refine cB (Dw B l b ak) λK ⟨P,X⟩=>ai (FI O O O) (ad.cond (λh=>?_) λh=>i _ ?_)
      ·have v: ∀c,c∈q->c∈K->False:=λc e d=>by
        have:q.any (λc=>decide (c∈K))=ab:=jE.2 ⟨c,e,bW d⟩;rw[this] at h;cases h
       refine cB (Dw B l a ak) λs ⟨l10,w⟩=>ai (FI O O O) (i _ ?_);cases L:r.any (λc=>decide (c∈s)) with
       |true=>
        obtain⟨c,e,d⟩:=jE.1 L;obtain⟨Z,x,y⟩:=(F c).1 e;obtain⟨_,_,A⟩:=(w c).1 (hB d);exact(k c.toNat x (.inr ⟨y,A⟩)).symm
       |false=>
        refine(m.2 λc o=>⟨?_,?_⟩).symm
        ·rintro⟨e,d|d⟩
         ·exact v (c:Int) ((C _).2 ⟨O,o,e⟩) ((X _).2 ⟨O,o,d⟩)
         exact u (c:Int) ((C _).2 ⟨O,o,e⟩) ((F _).2 ⟨O,o,d⟩)
        rintro⟨e,d⟩
        have:r.any (λc=>decide (c∈s))=ab:=jE.2 ⟨(c:Int),(F _).2 ⟨O,o,e⟩,bW ((w _).2 ⟨O,o,d⟩)⟩;rw[this] at L;cases L
      have Q:q.any (λc=>decide (c∈K))=ab:=by simpa using h
      obtain⟨c,e,d⟩:=jE.1 Q;obtain⟨Z,x,y⟩:=(C c).1 e;obtain⟨_,_,A⟩:=(X c).1 (hB d);exact(k c.toNat x (.inl ⟨y,.inl A⟩)).symm
     have Q:q.any (λc=>decide (c∈r))=ab:=by simpa using h
     obtain⟨c,e,d⟩:=jE.1 Q;obtain⟨Z,x,y⟩:=(C c).1 e;obtain⟨_,_,A⟩:=(F c).1 (hB d);exact(k c.toNat x (.inl ⟨y,.inr A⟩)).symm
 rw[show bt p=ak by simpa using l];exact b' (ad.some rfl)
def hd{R:Type}(l:List R)(i:Nat)(a b:R):List R:=l.take i++b::a::l.drop (i+2)
theorem wT{l:List R}{a b:R}(c:l[i]? =aa a)(d:l[i+1]? =aa b):l=l.take i++a::b::l.drop (i+2):=by have e:l.drop i=a::l.drop (i+1):=jT c;have h:l.drop (i+1)=b::l.drop (i+2):=jT d;rw[<-h,<-e,nJ]
noncomputable def oN(p:Prog)(a:Int):Prog×Bool:=
 if jA p a (a+1)=ab then
  (match az p.parts a,az p.parts (a+1) with
  |some c,aa d=>(⟨p.aV,hd p.parts a.toNat c d⟩,ab)
  |_,_=>gl)
 else gl
theorem sw{b:Int}(h:jA p a b=ab):bt p=ab/\(0<=a/\a<(p.parts.length:Int))/\(0<=b/\b<(p.parts.length:Int))/\xc p a b:=by unfold jA at h;simp only[b5] at h;exact⟨h.1,hB h.2.1,hB h.2.2.1,HY.1 h.2.2.2.2⟩
theorem BS(h:jA p a (a+1)=ab): ∃(i:Nat) (c d:Part),a=i/\p.parts[i]? =aa c/\p.parts[i+1]? =aa d/\i+1<p.parts.length:=by
 obtain⟨e,k,l,_⟩:=sw h;obtain⟨i,rfl⟩: ∃i:Nat,a=i:=⟨a.toNat,O⟩
 exact⟨i,_,_,rfl,bo O,bo O,O⟩
theorem CX{x:Part}(h:jA p (i:Int) ((i:Int)+1)=ab)(a:p.parts[i]? =aa x)(c:p.parts[i+1]? =aa P):oN p (i:Int)=(⟨p.aV,hd p.parts i x P⟩,ab):=by unfold oN;rw[aX h,bq a,show((i:Int)+1)=((i+1:Nat):Int) by omega,bq c];rfl
theorem Ys{l:List R}{a b:R}(c:l[i]? =aa a)(d:l[i+1]? =aa b){x:R}:x∈hd l i a b↔x∈l:=by
 conv=>rhs;rw[wT c d]
 unfold hd
 grind
theorem Yt{l:List R}{a b:R}(h:i+1<l.length):(hd l i a b).length=l.length:=by
 unfold hd
 grind
theorem Lk{l:List R}{a b:R}(e:l[i]? =aa a)(c:l[i+1]? =aa b):(l.set i b).set (i+1) a=hd l i a b:=by
 have aP:=(bX.1 c).1;have d:(l.take i).length=i:=by rw[dr];omega
 conv=>lhs;rw[wT e c]
 rw[p8 _ _ O,d,lu,yH,p8 _ _ O,d,show i+1-i=1 by omega];rfl
theorem ZN{l:List R}{a b:R}(h:i+1<l.length):(hd l i a b)[i]? =aa b/\(hd l i a b)[i+1]? =aa a:=by
 have c:(l.take i).length=i:=by rw[dr];omega
 unfold hd
 grind
theorem IH(a:bt p=ab)(d:p.parts[i]? =aa P)(c:p.parts[i+1]? =aa C):bt ⟨p.aV,hd p.parts i P C⟩=ab:=by
 have aP:=(bX.1 c).1;unfold bt jk at a⊢;simp only[b5,decide_eq_true_eq,g'] at a⊢;obtain⟨⟨aS,a2,a3⟩,a4⟩:=a;refine⟨⟨aS,by rw[Yt aP];exact a2,λx h=>a3 x ((Ys d c).1 h)⟩,?_⟩;have e:=wT d c
 have:(p.parts.map fR).sum=((hd p.parts i P C).map fR).sum:=by
  conv=>lhs;rw[e]
  unfold hd
  grind
 grind
theorem Nv(a:bt p=ab){x:Part}(c:p.parts[i]? =aa x)(d:p.parts[i+1]? =aa P):dJ 1000 ⟨p.aV,hd p.parts i x P⟩:=(kd (IH a c d)).mono O
theorem agj(m:7100<=n)(o:dJ 1000 p)(s: -1<=a/\a<=9):Dj n p a=aa (oN p a):=by
 unfold Dj;rw[bh (n:=a+1) O];refine ad.eq (ad.aE (λz=>z= !jA p a (a+1)) (λj e=>?_) λz q=>?_)
 ·refine aU (λh=>e _ ?_) λh=>aU (λd=>e _ ?_) λd=>ai (aap m o.sm a (a+1)) (e _ rfl)
  ·cases c:jA p a (a+1) with
   |false=>rfl
   |true=>have:=sw c;omega
  cases c:jA p a (a+1) with
  |false=>rfl
  |true=>have:=sw c;omega
 subst q;cases c:jA p a (a+1) with
 |false=>
  refine b' (ad.some ?_);unfold oN;rw[aY (by rw[c];simp)];rfl
 |true=>
  refine cd ?_;obtain⟨i,w,l,rfl,k,d,x⟩:=BS c;rw[CX c k d,show((i:Int)+1)=((i+1:Nat):Int) by omega];refine ai (oE O (sw c).1) (ai (bq d) (ai (bq k) (ai (eM O _) ?_)));rw[c'];have r:(p.parts.set i l)[i+1]? =aa l:=by rw[jm O];exact d
  refine ai (bq r) (ai (eM (by rw[e7];omega) _) (ad.some ?_));rw[c',Lk k d]
theorem ahE(m:7100<=n)(e:dJ 1000 p)(q: -1<=a/\a<=9):Dc n p a=aa (oN p a):=by
 unfold Dc;rw[bh (n:=a+1) O];refine ad.eq (ai (oD O e) (ai (ZV m e.sm a (a+1)) ?_));cases h:jA p a (a+1) with
 |false=>
  refine b' (ad.some ?_);unfold oN;rw[aY (by rw[h];simp)];rfl
 |true=>
  refine cd ?_;obtain⟨i,k,l,rfl,c,d,r⟩:=BS h;have bR:=(sw h).1;have o:=e.2.1;rw[CX h c d,show((i:Int)+1)=((i+1:Nat):Int) by omega];refine ai (bq d) (ai (bq c) (ai (x:=(⟨p.aV,hd p.parts i k l⟩,ab)) (ad.eq ?_) (ad.some rfl)));unfold mA;refine ai (f9 O e) (ai (km O O O) ?_);rw[c',show(0:Int).toNat=0 from rfl,ri];refine ai (x:=p.parts.take i) (cU bZ) (ai (x:=p.parts.take i++[l,k]) (cU bZ) ?_);rw[bh O];refine ai (km O O O) ?_;rw[c',dF,show((i:Int)+2).toNat=i+2 by omega];refine ai (x:=hd p.parts i k l) ?_ (ai (kM O (Nv bR c d).sm) ?_)
  ·rw[cU bZ,fr];rfl
  rw[IH bR c d];exact cd (ai (f9 O (Nv bR c d)) (ad.some rfl))
def nC(i:Nat)(x:bU):bU:=if x.part=(i:Int) then⟨(i:Int)+1,x.stmt,x.b2⟩ else if x.part=(i:Int)+1 then⟨(i:Int),x.stmt,x.b2⟩ else x
theorem H2(h:x∈eV i P):x.part=(i:Int):=by
 unfold eV at h
 grind
theorem uO{G:bU->bU}(h: ∀s q,G ⟨(i:Int),s,q⟩=⟨(j:Int),s,q⟩):(eV i P).map G=eV j P:=by unfold eV;rw[nO,rh,rh];congr 1;refine p' λq _=>?_;rw[j3];exact p' λt _=>h _ _
theorem BT(P:Part)(a:List Part):I (P::a)=eV 0 P++(I a).map (f' 1):=by
 have c:=xH [P] a;have d:I [P]=eV 0 P:=by unfold I;simp
 grind
theorem H4(A C:List Part)(a c:Part):I (A++a::c::C)=I A++(eV A.length a++(eV (A.length+1) c++((I C).map (f' 1)).map λx=>f' A.length (f' 1 x))):=by
 rw[xH,BT,BT,eZ,eZ,eZ];congr 2
 ·exact uO λs q=>by unfold f';simp
 rw[j3,j3];congr 1;exact uO λs q=>by unfold f';simp<;>omega
theorem abh(h:x.part<(i:Int)):nC i x=x:=by
 unfold nC
 grind
theorem Zu(h:(i:Int)+1<x.part):nC i x=x:=by
 unfold nC
 grind
theorem qT{l:List Part}(h:x∈I l):0<=x.part/\x.part<(l.length:Int):=by
 obtain⟨i,k,P,s,a,_,c,_⟩:=e9 h
 grind
theorem O8{p:Prog}(d:bt p=ab){x:bU}(k:dm p x): ∀{a:List bU} {m:List Int},(∀y∈a,dm p y)->(∀y∈a,pj p x y)->fv p.aV m->c7 p (ey p m x) a=ey p (c7 p m a) x
 | [],m,_,_,_=>rfl
 |y::a,m,e,h,i=>by show c7 p (ey p (ey p m x) y) a=ey p (c7 p (ey p m y) a) x;rw[h y en m i];exact O8 d k (λz c=>e z (ec _ c)) (λz c=>h z (ec _ c)) (tm d i (e y en))
theorem block{p:Prog}(c:bt p=ab): ∀{X a:List bU} {m:List Int},(∀x∈X,dm p x)->(∀y∈a,dm p y)->(∀x∈X,∀y∈a,pj p x y)->fv p.aV m->c7 p (c7 p m X) a=c7 p (c7 p m a) X
 | [],a,m,_,_,_,_=>rfl
 |x::X,a,m,d,h,i,k=>by show c7 p (c7 p (ey p m x) X) a=c7 p (ey p (c7 p m a) x) X;rw[block c (λz e=>d z (ec _ e)) h (λz e=>i z (ec _ e)) (tm c k (d x en)),O8 c (d x en) h (i x en) k]
theorem Wl(k:p.parts[i]? =aa P)(e:p.parts[i+1]? =aa C):
  ∃A c d Z,I p.parts=A++(c++(d++Z))/\I (hd p.parts i P C)=(A++(d++(c++Z))).map (nC i)/\(∀x∈c,x.part=(i:Int))/\(∀x∈d,x.part=(i:Int)+1):=by
 have aP:=(bX.1 e).1;have h:(p.parts.take i).length=i:=by rw[dr];omega
 refine⟨I (p.parts.take i),eV i P,eV (i+1) C,((I (p.parts.drop (i+2))).map (f' 1)).map λx=>f' i (f' 1 x),?_,?_,λx a=>H2 a,λx a=>by have:=H2 a;omega⟩
 ·conv=>lhs;rw[wT k e]
  rw[H4,h]
 unfold hd;rw[H4,h,eZ,eZ,eZ];congr 1
 ·exact(pN λx a=>abh (by have:=qT a;omega)).symm
 congr 1
 ·exact(uO λs q=>by unfold nC;simp).symm
 congr 1
 ·exact(uO λs q=>by unfold nC;simp).symm
 refine(pN λx a=>Zu ?_).symm;obtain⟨y,l,rfl⟩:=eo.1 a;obtain⟨z,m,rfl⟩:=eo.1 l
 have:=qT m;unfold f'
 grind
theorem Yr(e:p.parts[i]? =aa C)(c:p.parts[i+1]? =aa y)(l:dm p x):fZ ⟨p.aV,hd p.parts i C y⟩ (nC i x)=fZ p x/\(nC i x).b2=x.b2:=by
 have aP:=(bX.1 c).1;have n:(p.parts.take i).length=i:=by rw[dr];omega
 obtain⟨o,q⟩:=ZN (a:=C) (b:=y) aP;unfold nC;split
 ·rename_i h;refine⟨?_,rfl⟩;unfold fZ
  grind
 split
 ·rename_i h;refine⟨?_,rfl⟩;unfold fZ
  grind
 rename_i r w;refine⟨?_,rfl⟩;obtain⟨d,k,P,s,m,z,A,B,F⟩:=l;unfold fZ;dsimp only;rw[m,c']
 have:(hd p.parts i C y)[d]? =p.parts[d]? :=by
  rw[<-Lk e c,jm O,jm O]
 rw[this]
theorem ahG(o:bt p=ab)(z:p.parts[i]? =aa P)(B:p.parts[i+1]? =aa C)(d:xc p (i:Int) ((i:Int)+1))(q:fv p.aV m):
  c7 ⟨p.aV,hd p.parts i P C⟩ m (I (hd p.parts i P C))=c7 p m (I p.parts):=by
 obtain⟨A,k,l,Z,n,F,G,H⟩:=Wl z B;have c: ∀x∈A++(k++(l++Z)),dm p x:=λx a=>e9 (by rw[n];exact a);have K: ∀x∈A,dm p x:=λx a=>c x (by simp[a]);have e: ∀x∈k,dm p x:=λx a=>c x (by simp[a]);have h: ∀x∈l,dm p x:=λx a=>c x (by simp[a]);have R: ∀x∈Z,dm p x:=λx a=>c x (by simp[a]);rw[F];have L:c7 ⟨p.aV,hd p.parts i P C⟩ m ((A++(l++(k++Z))).map (nC i))=c7 p m (A++(l++(k++Z))):=by
  unfold c7;rw[List.foldl_map];refine y9 λx a m=>?_;have r:dm p x:=by
   grind
  obtain⟨W,X⟩:=Yr z B r;unfold ey
  grind
 rw[L,n,iF,iF,iF,iF,iF,iF];have s:=sO o K q;rw[block o h e (λx a y w=>?_) s];have Q: ¬nZ p y x:=d y (by rw[n];simp[w]) x (by rw[n];simp[a]) (G y w) (H x a)
 have:=swap o (e y w) (h x a) Q;intro m q;exact(this m q).symm
def mn(a b:Loop):Bool:=nF a.lo b.lo&&nF a.aP b.aP
def oT(a b:List Loop):Bool:=kq mn a b
theorem acP{a b:Loop}(h:mn a b=ab):a=b:=by unfold mn at h;simp only[b5] at h;obtain⟨aS,a2⟩:=a;obtain⟨c,d⟩:=b;dsimp only at h;rw[Fp h.1,Fp h.2]
theorem Mi: ∀{a b:List Loop},oT a b=ab->a=b
 | [],[],_=>rfl
 |x::a,y::b,h=>by
  unfold oT at h;simp only[kq,b5] at h;rw[acP h.1,Mi h.2]
 | [],y::b,h=>by cases h
 |x::a,[],h=>by cases h
theorem TZ(d:5000<=n){a b:List Loop}(c:qj a):sK n a b=aa (oT a b):=by unfold sK Cb;refine ad.eq (ai (Fs (p:=mn) (f:=λk l=>uV n k l) (λx h y _=>?_) (by have:=c.1;omega) (by have:=c.1;omega)) (ad.some rfl));unfold uV mn;refine ad.eq (ad.aE (λz=>z=(nF x.lo y.lo&&nF x.aP y.aP)) (λj i=>ai (JC d (c.2 x h).1) (ad.cond (λe=>ai (JC d (c.2 x h).2) (i _ (by rw[e];rfl))) λe=>i _ (by rw[e];rfl))) λz m=>ad.some m)
theorem Uv(m:5000<=n){a b:List Loop}(o:qj a):Dx n a b=aa (oT a b):=by
 unfold Dx oT;have cC:=o.1;refine ad.eq (eO (λh=>ad.some ?_) λh=>?_)
 ·cases c:kq mn a b with
  |false=>rfl
  |true=>exact bz (by rw[EI c]) h
 refine ad.loop (λx:Int=> ∃i:Nat,x=i/\i<=a.length/\kq mn (a.drop i) (b.drop i)=kq mn a b) (λx=>a.length-x.toNat) ?_ n 0 ⟨0,rfl,O,rfl⟩ O;rintro k x ⟨i,rfl,H,c⟩ y;refine aU (λA=>?_) λB=>ad.some ?_
 ·have p:i<a.length:=O
  have q:i<b.length:=O
  have d:=bo p;have l:=bo q;have r:=o.2 _ (bJ d);rw[k6 p,k6 q] at c;simp only[kq] at c;refine ad.aE (λz=>z= !mn a[i] b[i]) (λj s=>?_) λz C=>?_
  ·refine ai (bq d) (ai (bq l) (ai (Jy m r.1) (ad.cond (λe=>s _ ?_) λe=>ai (Jy m r.2) (s _ ?_))))
   ·unfold mn;rw[sL e];rfl
   unfold mn;rw[qZ e];rfl
  subst C;cases w:mn a[i] b[i] with
  |false=>rw[w] at c;exact b' (ad.some c)
  |true=>
   rw[w,gL] at c;refine cd ?_;rw[bh O];exact y _ ⟨i+1,O,O,c⟩ O
 have F:a.drop i=[]:=l6 O;have G:b.drop i=[]:=l6 O;rw[F,G] at c;exact c
def gZ:List Int->List Int->Bool
 |a::as,b::c=>if a=b then gZ as c else ah (a<b)
 | [],_::_=>ab
 |_,[]=>ak
theorem Mu{p:List Int}(B:p.length<n)(C:p.length<=1000)(F:q.length<=1000):yU n p q=aa (gZ p q):=by
 unfold yU;refine ad.eq (ad.loop (λx:Int=> ∃i:Nat,x=i/\i<=p.length/\i<=q.length/\gZ (p.drop i) (q.drop i)=gZ p q) (λx=>p.length-x.toNat) ?_ n 0 ⟨0,rfl,O,O,rfl⟩ O);rintro c x ⟨i,rfl,G,H,a⟩ o;refine ad.aE (λz=>z=ah (i<p.length/\i<q.length)) (λj m=>aU (λh=>m _ ?_) λh=>m _ ?_) λz r=>?_
 ·rw[hz];simp only[decide_eq_true_eq];omega
 ·exact(bT O).symm
 subst r;refine aU (λh=>?_) λh=>ad.some ?_
 ·have d:=bo h.1;have k:=bo h.2;rw[k6 h.1,k6 h.2] at a;simp only[gZ] at a;refine ai (bq d) (ai (bq k) (eO (λl=>ad.some ?_) λs=>?_))
  ·rw[aY l] at a;exact a
  rw[aX s] at a;rw[bh O];exact o _ ⟨i+1,O,O,O,a⟩ O
 rw[<-a];by_cases e:i<p.length
 ·have w:q.drop i=[]:=l6 O;rw[w,k6 e];simp only[gZ]
  grind
 have y:p.drop i=[]:=l6 O;rw[y];by_cases A:i<q.length
 ·rw[k6 A];simp only[gZ]
  grind
 rw[l6 (O:q.length<=i)];simp only[gZ]
 grind
theorem WG(n:Nat)(x y:Int):B2 n x y=aa (if x<y then-1 else if y<x then 1 else 0):=by
 unfold B2 Ch
 grind
theorem aas{p:List Int}(F:p.length<n)(G:p.length<=1000)(H:q.length<=1000):zG n p q=aa (gZ p q):=by
 unfold zG IV;refine ad.eq (cB (P:=λc:Int=>decide (c<0)=gZ p q) ?_ λc y=>ad.some y);refine ad.loop (λx:Int=> ∃i:Nat,x=i/\i<=p.length/\i<=q.length/\gZ (p.drop i) (q.drop i)=gZ p q) (λx=>p.length-x.toNat) ?_ n 0 ⟨0,rfl,O,O,rfl⟩ O;rintro d x ⟨i,rfl,K,L,a⟩ z;refine aU (λA=>?_) λB=>?_
 ·have e:i<p.length:=O
  have k:=bo e;refine ai (bq k) (aU (λh=>ad.some ?_) λh=>?_)
  ·rw[<-a,l6 (O:q.length<=i),k6 e];simp[gZ]
  have r:i<q.length:=O
  have l:=bo r;rw[k6 e,k6 r] at a;simp only[gZ] at a;refine ai (bq l) (ai (WG n _ _) ?_);by_cases s:p[i]<q[i]
  ·rw[aX s];refine eO (λ_=>ad.some ?_) (λm=>bz m O)
   grind
  rw[aY s];by_cases w:q[i]<p[i]
  ·rw[aX w];refine eO (λ_=>ad.some ?_) (λm=>bz m O)
   grind
  rw[aY w];refine eO (λo=>bz rfl o) λ_=>?_;rw[aX O] at a;rw[bh O];exact z _ ⟨i+1,O,O,O,a⟩ O
 have C:p.drop i=[]:=l6 O;rw[C] at a;refine aU (λh=>ad.some ?_) λh=>ad.some ?_
 ·rw[<-a,k6 (O:i<q.length)];rfl
 rw[<-a,l6 (O:q.length<=i)];rfl
theorem M9{v w:Int}(h:v<w)(a b:List Int): ∀p:List Int,gZ (p++v::a) (p++w::b)=ab
 | []=>by
  simp only[List.nil_append,gZ];rw[aY O];exact bW h
 |x::p=>by simp only[List.cons_append,gZ,if_true];exact M9 h a b p
theorem Zs(c d:Int):(c5 c d).Pairwise (λa b=>a<b):=by unfold c5;rw[List.pairwise_map];exact List.pairwise_lt_range.imp λh=>O
theorem Ol: ∀(bH:List Loop) (p:List Int),(dE bH p).Pairwise (λa b=>gZ a b=ab)
 | [],p=>by simp[dE]
 |l::bH,p=>by unfold dE;rw[C7];refine⟨λv _=>Ol bH _,(Zs _ _).imp fun {v w} h a c b d=>?_⟩;obtain⟨x,rfl,_⟩:=(AJ bH _ _).1 c;obtain⟨y,rfl,_⟩:=(AJ bH _ _).1 d;rw[fr,fr];exact M9 h x y p
theorem Ly{p:Prog}(i:bt p=ab){X d:List Int->List bU}: ∀{L:List (List Int)} {m:List Int},(∀q∈L,∀x∈X q,dm p x)->(∀q∈L,∀y∈d q,dm p y)->L.Pairwise (λa b=> ∀y∈d a,∀x∈X b,pj p y x)->fv p.aV m->
  c7 p m (L.flatMap λq=>X q++d q)=c7 p m (L.flatMap X++L.flatMap d)
 | [],m,_,_,_,_=>rfl
 |q::L,m,k,r,l,w=>by
  rw[nM] at l;have z:=λx e=>k q en x e;have s:=λy n=>r q en y n;have kn:=sO i z w;have A:=sO i s kn;have o: ∀x∈L.flatMap X,dm p x:=λx e=>by
   obtain⟨c,h,e⟩:=jF.1 e;exact k c (ec _ h) x e
  rw[mR,mR,mR,iF,iF,Ly i (λc h=>k c (ec _ h)) (λc h=>r c (ec _ h)) l.2 A,iF,iF,iF,iF];rw[block i s o (λy n x e=>by obtain⟨c,h,e⟩:=jF.1 e;exact l.1 c h y n x e) kn]
theorem abe{a:Type}{A l W Z:List a}{x y:a}(e:x∈l)(h:y∈W): ∃s t:Nat,s<t/\(A++(l++(W++Z)))[s]? =aa x/\(A++(l++(W++Z)))[t]? =aa y:=by
 obtain⟨i,c⟩:=kx.1 e;obtain⟨j,d⟩:=kx.1 h;have k:=(bX.1 c).1;have m:=(bX.1 d).1;refine⟨A.length+i,A.length+(l.length+j),O,?_,?_⟩
 ·rw[hT O,show A.length+i-A.length=i by omega,iV k];exact c
 rw[hT O,show A.length+(l.length+j)-A.length=l.length+j by omega,hT O,show l.length+j-l.length=j by omega,iV m];exact d
def k'(p:Prog)(i many:Nat)(a:List Part):Prog:=⟨p.aV,p.parts.take i++a++p.parts.drop (i+many)⟩
theorem Oj(a:dJ 900 p)(k:ys.length<=4)(d: ∀y∈ys,gN 1000 y):dJ 1000 (k' p i many ys):=by
 have e:=a.2.1;refine⟨(a.mono (O:900<=1000)).1,?_,λx c=>?_⟩
 ·show(p.parts.take i++ys++p.parts.drop (i+many)).length<=1000
  grind
 have c:x∈p.parts.take i++ys++p.parts.drop (i+many):=c;simp only[List.mem_append] at c;rcases c with (h|h)|h
 ·exact(a.mono (O:900<=1000)).2.2 x (hv h)
 ·exact d x h
 exact(a.mono (O:900<=1000)).2.2 x (jl h)
theorem YU(e:7000<=n)(a:dJ 900 p)(o:i+many<=p.parts.length)(k:ys.length<=4)(l: ∀y∈ys,gN 1000 y):mA n p (i:Int) (many:Int) ys=aa (kR (k' p i many ys)):=by
 have m:=a.2.1;have c:=a.mono (O:900<=1000);have d:=Oj a (i:=i) (many:=many) k l;unfold mA kR;refine ad.eq (ai (f9 O c) (ai (km O O O) ?_));rw[c',show(0:Int).toNat=0 from rfl,ri];refine ai (x:=p.parts.take i) (cU bZ) (ai (x:=p.parts.take i++ys) (cU bZ) ?_);rw[bh O];refine ai (km O O O) ?_;rw[c',dF,show((i:Int)+(many:Int)).toNat=i+many by omega];refine ai (x:=(k' p i many ys).parts) ?_ ?_;rotate_left;show ad (bL (jP n (k' p i many ys)) _) _;refine(ai (kM e d.sm) (ad.cond (λh=>ad.some ?_) λh=>?_))
 ·rw[aY (by simpa using h)]
 ·rw[aX (by simpa using h)];exact ai (f9 O d) (ad.some rfl)
 rw[cU bZ];rfl
def kJ(p:Prog)(c:Int)(d:gg):Bool:=match (I p.parts)[d.e8.toNat]?,(I p.parts)[d.fa.toNat]? with
 |some a,aa b=>decide (a.part=c)&&(ah (b.part=c+1)&&gZ b.b2 a.b2)
 |_,_=>ak
def k3(a c:Part):Part:=⟨a.nest,a.body++c.body⟩
abbrev o9(p:Prog):List gg:=gH p (I p.parts) (I p.parts).length
def Bf(p:Prog)(a:Int)(c d:Part):Bool:=oT c.nest d.nest&& !(o9 p).any (kJ p a)
def ps(p:Prog)(a:Int):Prog×Bool:=
 if bt p=ab/\e5 p a=ab then
  (match az p.parts a,az p.parts (a+1) with
  |some c,aa d=>if Bf p a c d=ab then kR (k' p a.toNat 2 [k3 c d]) else gl
  |_,_=>gl)
 else gl
theorem NY(c:bt p=ab){d:gg}(i:d∈o9 p): ∃(s t:Nat) (a b:bU),d.e8=s/\d.fa=t/\(I p.parts)[s]? =aa a/\(I p.parts)[t]? =aa b/\s<t/\a.b2.length<=4/\b.b2.length<=4:=by obtain⟨s,t,k,l,_,rfl⟩:=wo.1 i;have e:=bo (O:s<(I p.parts).length);have h:=bo l;exact⟨s,t,_,_,rfl,rfl,e,h,k,QQ c (e9 (bJ e)),QQ c (e9 (bJ h))⟩
theorem L9(c:bt p=ab):(o9 p).length<=14400:=by
 have d:=y1 p (I p.parts) (I p.parts).length;have a:=(ev c).2.2.2.2;have e:(I p.parts).length*(I p.parts).length<=120*120:=oQ a a
 grind
theorem Y9(m:7000<=n)(i:dJ 1000 p)(a:Int):ny n p a (-1)=aa (if bt p=ab/\e5 p a=ab then(p,ab) else gl):=by
 unfold ny;refine ad.eq (ad.aE (λz=>z= !(bt p&&e5 p a)) (λj d=>?_) λz o=>?_)
 ·refine ai (oe m i.sm) (ad.cond (λh=>d _ (by rw[sL h];rfl)) λh=>?_);have bR:=qZ h;refine ai (qU n i.2.1 a) (ad.cond (λe=>d _ ?_) λe=>eO (λh=>(h rfl).elim) λ_=>d _ ?_)
  ·rw[bR,show e5 p a=ak from sL e];rfl
  rw[bR,show e5 p a=ab from qZ e];rfl
 subst o;refine ad.cond (λh=>ad.some ?_) λh=>?_
 ·have:=sL h;rw[aY λk=>by rw[k.1,k.2] at this;cases this];rfl
 have:=qZ h;simp only[b5] at this;obtain⟨bR,l⟩:=this;rw[aX ⟨bR,l⟩];have c:0<=a/\a<(p.parts.length:Int):=hB l;obtain⟨x,q,_⟩:=gk c.1 c.2;exact ai (oE O bR) (ai q (ad.some rfl))
theorem ab8{s:List Part}(a:i<j)(c:j<=s.length): ∃r,uQ n s (i:Int) (j:Int)=aa r/\r.2.take r.1=s.take i++s.drop j:=by
 refine⟨(eY s i j,kb s i j (⟨[],[]⟩:Part)),?_,?_⟩
 ·unfold uQ
  grind
 dsimp only;have d:(s.take (i:Int).toNat++s.drop (j:Int).toNat).length=eY s i j:=by
  unfold eY
  grind
 unfold kb
 grind
theorem Na(c:bt p=ab){x:Part}(d:x∈p.parts)(e:P∈p.parts):gN 1000 (k3 x P):=by
 obtain⟨_,_,a⟩:=kd c;obtain⟨aS,a2,a3⟩:=a x d;obtain⟨l,m,i⟩:=a P e;refine⟨aS.mono O,?_,λs k=>?_⟩
 ·show(x.body++P.body).length<=1000
  grind
 rcases eS.1 (show s∈x.body++P.body from k) with h|h
 ·exact(a3 s h).mono O
 exact(i s h).mono O
theorem agh(cG:20000<=n)(K:dJ 1000 p)(a7: -1<=c/\c<=9):Dp n p c=aa (ps p c):=by
 unfold Dp ps;refine ad.eq (ai (Y9 O K c) ?_);by_cases B:bt p=ab/\e5 p c=ab
 ·rw[aX B,aX B];obtain⟨o,U⟩:=B;have V:0<=c/\c<(p.parts.length:Int):=hB U;obtain⟨i,rfl⟩: ∃i:Nat,c=i:=⟨c.toNat,O⟩
  have e:=bo (O:i<p.parts.length);have L:=bq e;generalize aij:p.parts[i]=l at L e;have aiE:=(ev o).2.2.1;refine b' (ai L ?_);rw[bh (n:=(i:Int)+1) O,bh (n:=(i:Int)+2) O,L];by_cases C:i+1<p.parts.length
  ·have w:=bo C;generalize aik:p.parts[i+1]=m at w;have Q:az p.parts ((i:Int)+1)=aa m:=bq w;have m1:=bJ e;have v:=bJ w;rw[Q];dsimp only;refine ad.aE (λz=>z= !oT l.nest m.nest) (λj q=>aU (λh=>bz h O) λ_=>ai rfl (ai (TZ O (K.sm.2.2 l m1).1) (q _ rfl))) λz F=>?_;subst F;unfold Bf;cases hne:oT l.nest m.nest with
   |false=>exact b' (ad.some rfl)
   |true=>
    refine cd (ai (yt O K.sm) ?_);rw[aX o];refine b' (ai (LN O o) ?_);have R:=L9 o;have W: ∀d∈o9 p,d∈o9 p:=λ_ h=>h;show ad (bj _ n 0) _;rw[gL];generalize D:o9 p=A at R W;rw[show gH p (I p.parts) (I p.parts).length=A from D];refine ad.loop (λx:Int=> ∃k:Nat,x=k/\k<=A.length/\(A.take k).any (kJ p (i:Int))=ak) (λx=>A.length-x.toNat) ?_ n 0 ⟨0,rfl,O,rfl⟩ O;rintro X x ⟨k,rfl,hk,Z⟩ b3;refine aU (λhlt=>?_) λkW=>?_
    ·have cM:=bo (O:k<A.length);generalize aeX:A[k]=d at cM;obtain⟨s,t,a,b,E,M,N,P,su,ajk,ajl⟩:=NY o (D▸bJ cM);refine ai (bq cM) (ai (x:=a) (by rw[E];exact bq N) (ai (x:=b) (by rw[M];exact bq P) ?_));have G:kJ p (i:Int) d=(ah (a.part=(i:Int))&&(ah (b.part=(i:Int)+1)&&gZ b.b2 a.b2)):=by
      unfold kJ;rw[E,M,Int.toNat_natCast,Int.toNat_natCast,N,P]
     refine ad.aE (λz=>z=kJ p (i:Int) d) (λj q=>?_) λz F=>?_
     ·rw[G] at q;refine aU (λH=>aU (λC=>ai (aas O O O) (q _ ?_)) λC=>q _ ?_) λH=>q _ ?_
      ·rw[bW H,bW C];rfl
      ·rw[bW H,bT C];rfl
      rw[bT H];rfl
     subst F;refine ad.cond (λh=>ad.some ?_) λh=>?_
     ·rw[aY]; · rfl
      have:A.any (kJ p (i:Int))=ab:=jE.2 ⟨d,bJ cM,h⟩;rw[this];simp
     rw[bh O];exact b3 _ ⟨k+1,O,O,by rw[gC cM,yJ,Z];simp[h]⟩ O
    rw[j2 O] at Z;rw[Z,aX (by rfl)];have hq:=Oj (i:=i) (many:=2) (ys:=[k3 l m]) ((kd o).mono (O:4<=900)) aW λy S=>by rw[nL] at S;subst S;exact Na o m1 v
    obtain⟨_,_,T⟩:=kd o;have di:=(T l m1).2.1;have cI:=(T m v).2.1;obtain⟨r,f,g⟩:=ab8 (n:=n) (s:=p.parts.set i (k3 l m)) (i:=i+1) (j:=i+2) O (by rw[e7];omega);refine ai rfl (ai (x:=l.body++m.body) (cU O) (ai (x:=p.parts.set i (k3 l m)) (eM O _) (ai (x:=r) f ?_)));have u:(⟨p.aV,r.2.take r.1⟩:Prog)=k' p i 2 [k3 l m]:=by
     unfold k';rw[g];congr 1;rw[List.take_set,List.drop_set_of_lt O,ej,e,p8 _ _ (by rw[dr];omega)]
     have:i-(p.parts.take i).length=0:=by rw[dr];omega
     rw[this];rfl
    rw[u,c'];exact ai (D2 O hq) (ad.some rfl)
  have Q:az p.parts ((i:Int)+1)=none:=w6 O;rw[Q];refine ad.aE (λz=>z=ab) (λj q=>aU (λ_=>q _ rfl) λh=>bz (show(p.parts.length:Int)<=(i:Int)+1 by omega) h) λz F=>?_;rw[F];exact b' (ad.some rfl)
 rw[aY B,aY B];exact cd (ad.some rfl)
theorem ahC(cG:20000<=n)(A:dJ 1000 p)(a7: -1<=c/\c<=9):Df n p c=aa (ps p c):=by
 unfold Df ps;refine ad.eq (ai (oD O A) ?_);by_cases G:bt p=ab/\e5 p c=ab
 ·rw[aX G];obtain⟨e,X⟩:=G;have P:0<=c/\c<(p.parts.length:Int):=hB X;obtain⟨i,rfl⟩: ∃i:Nat,c=i:=⟨c.toNat,O⟩
  have m:=bo (O:i<p.parts.length);have Z:=bq m;generalize S:p.parts[i]=o at Z m;have K:=(ev e).2.2.1;rw[bh (n:=(i:Int)+1) O,bh (n:=(p.parts.length:Int)-1) O,Z];by_cases C:i+1<p.parts.length
  ·have q:=bo C;generalize T:p.parts[i+1]=B at q;have L:az p.parts ((i:Int)+1)=aa B:=bq q;have m1:=bJ m;have f:=bJ q;rw[L];dsimp only;refine ad.aE (λz=>z= !oT o.nest B.nest) (λj l=>ai (kM O A.sm) ?_) λz r=>?_
   ·rw[e];refine cd (aU (λh=>bz h O) λ_=>aU (λh=>bz h O) λ_=>ai rfl (ai rfl (ai (Uv O (A.sm.2.2 o m1).1) (l _ rfl))))
   subst r;unfold Bf;cases U:oT o.nest B.nest with
   |false=>exact b' (ad.some rfl)
   |true=>
    refine cd (ai (xU O e) (ai (LY O e) ?_));have Q:=L9 e;rw[gL];generalize g:o9 p=w at Q;rw[show gH p (I p.parts) (I p.parts).length=w from g];refine ad.loop (λx:Int=> ∃k:Nat,x=k/\k<=w.length/\(w.take k).any (kJ p (i:Int))=ak) (λx=>w.length-x.toNat) ?_ n 0 ⟨0,rfl,O,rfl⟩ O;rintro R x ⟨k,rfl,hk,W⟩ V;refine aU (λhlt=>?_) λkW=>?_
    ·have cM:=bo (O:k<w.length);generalize aeX:w[k]=d at cM;obtain⟨s,t,a,b,u,v,D,E,su,ajk,ajl⟩:=NY e (g▸bJ cM);refine ai (bq cM) (ai (x:=a) (by rw[u];exact bq D) (ai (x:=b) (by rw[v];exact bq E) ?_));have F:kJ p (i:Int) d=(ah (a.part=(i:Int))&&(ah (b.part=(i:Int)+1)&&gZ b.b2 a.b2)):=by
      unfold kJ;rw[u,v,Int.toNat_natCast,Int.toNat_natCast,D,E]
     refine ad.aE (λz=>z=kJ p (i:Int) d) (λj l=>?_) λz r=>?_
     ·rw[F] at l;refine aU (λH=>aU (λC=>ai (Mu O O O) (l _ ?_)) λC=>l _ ?_) λH=>l _ ?_
      ·rw[bW H,bW C];rfl
      ·rw[bW H,bT C];rfl
      rw[bT H];rfl
     subst r;refine ad.cond (λh=>ad.some ?_) λh=>?_
     ·rw[aY]; · rfl
      have:w.any (kJ p (i:Int))=ab:=jE.2 ⟨d,bJ cM,h⟩;rw[this];simp
     rw[bh O];exact V _ ⟨k+1,O,O,by rw[gC cM,yJ,W];simp[h]⟩ O
    rw[j2 O] at W;rw[W,aX (by rfl)];obtain⟨_,_,M⟩:=kd e;have di:=(M o m1).2.1;have cI:=(M B f).2.1;refine ai rfl (ai (x:=o.body) (cU bZ) (ai rfl (ai (x:=o.body++B.body) (cU O) ?_)));have hw:=YU (n:=n) O ((kd e).mono (O:4<=900)) (i:=i) (many:=2) O (ys:=[k3 o B]) aW λy N=>by rw[nL] at N;subst N;exact Na e m1 f
    rw[c'];exact ai hw (ad.some rfl)
  have L:az p.parts ((i:Int)+1)=none:=w6 O;rw[L];refine ad.aE (λz=>z=ab) (λj l=>ai (kM O A.sm) ?_) λz r=>?_
  ·rw[e]
   grind
  rw[r];exact b' (ad.some rfl)
 rw[aY G];refine ad.aE (λz=>z=ab) (λj l=>ai (kM O A.sm) ?_) λz r=>by rw[r];exact b' (ad.some rfl)
 by_cases e:bt p=ab
 ·have X: ¬(0<=c/\c<(p.parts.length:Int)):=λh=>G ⟨e,bW h⟩;rw[e];have K:=A.2.1;rw[bh (n:=(p.parts.length:Int)-1) O]
  grind
 rw[show bt p=ak by simpa using e]
 grind
def pc(i b:Nat)(x:bU):bU:=if x.part<(i:Int)+1 then x else if x.part=(i:Int)+1 then⟨(i:Int),x.stmt+(b:Int),x.b2⟩ else⟨x.part-1,x.stmt,x.b2⟩
def jO(i:Int)(k:Nat)(q:List Int):List bU:=(fp k).map fun(k:Nat)=>(⟨i,(k:Int),q⟩:bU)
theorem agt(A C:List Part)(P:Part):I (A++P::C)=I A++(eV A.length P++((I C).map (f' 1)).map (f' A.length)):=by rw[xH,BT,eZ];congr 2;exact uO λs q=>by unfold f';simp
theorem HZ(i:Nat)(P:Part):eV i P=(eU P).flatMap (jO (i:Int) P.body.length):=rfl
theorem Jr{a R W:Type}{f:a->List R}{g:R->W}{h:a->List W}: ∀{l:List a},(∀x∈l,(f x).map g=h x)->(l.flatMap f).map g=l.flatMap h
 | [],_=>rfl
 |x::l,c=>by rw[mR,mR,eZ,c x en,Jr λy d=>c y (ec _ d)]
theorem ack(i:Int)(a b:Nat)(q:List Int):jO i (a+b) q=jO i a q++(fp b).map (fun(k:Nat)=>(⟨i,(k:Int)+(a:Int),q⟩:bU)):=by
 unfold jO;rw[List.range_add,eZ,j3];congr 1;refine p' (λk _=>?_)
 grind
theorem JO{Q:Part}(h:P.nest=Q.nest):eU P=eU Q:=by unfold eU;rw[h]
theorem WM{s:Part}(e:p.parts[i]? =aa C)(c:p.parts[i+1]? =aa s)(h:C.nest=s.nest):
  ∃A Z,I p.parts=A++((eU C).flatMap (jO (i:Int) C.body.length)++((eU C).flatMap (jO ((i:Int)+1) s.body.length)++Z))/\
   I (k' p i 2 [k3 C s]).parts=(A++((eU C).flatMap (λq=>jO (i:Int) C.body.length q++jO ((i:Int)+1) s.body.length q)++Z)).map (pc i C.body.length):=by
 have aP:=(bX.1 c).1;have d:(p.parts.take i).length=i:=by rw[dr];omega
 refine⟨I (p.parts.take i),((I (p.parts.drop (i+2))).map (f' 1)).map λx=>f' i (f' 1 x),?_,?_⟩
 ·conv=>lhs;rw[wT e c]
  rw[H4,d,HZ,HZ,JO (P:=s) (Q:=C) h.symm];rfl
 show I (p.parts.take i++[k3 C s]++p.parts.drop (i+2))=_;rw[fr,List.singleton_append,agt,d,eZ,eZ];congr 1
 ·exact(pN (λx a=>by
   have:=qT a;unfold pc;rw[aX O])).symm
 congr 1
 ·rw[HZ,JO (P:=k3 C s) (Q:=C) rfl];refine(Jr λq _=>?_).symm;show _=jO (i:Int) (C.body++s.body).length q;rw[dp,ack,eZ];congr 1
  ·refine pN λx a=>?_;unfold jO at a;obtain⟨k,_,rfl⟩:=eo.1 a;unfold pc
   grind
  unfold jO;rw[j3];refine p' λk _=>?_;simp only[Function.comp_apply];unfold pc
  grind
 rw[j3,j3,j3];refine p' λx a=>?_
 have:=qT a;simp only[Function.comp_apply];unfold pc f'
 grind
theorem FO{l:List Part}(a:i+n<=p.parts.length)(j:Nat):(k' p i n l).parts[j]? =if j<i then p.parts[j]? else if j<i+l.length then l[j-i]? else p.parts[j-l.length+n]? :=by
 show(p.parts.take i++l++p.parts.drop (i+n))[j]? =_
 grind
theorem Yo(n:p.parts[i]? =aa C)(e:p.parts[i+1]? =aa y)(o:dm p x):fZ (k' p i 2 [k3 C y]) (pc i C.body.length x)=fZ p x/\(pc i C.body.length x).b2=x.b2:=by
 have aP:=(bX.1 e).1;obtain⟨c,k,P,s,h,l,a,q,z⟩:=o;have r:=(bX.1 q).1;have w:=(bX.1 a).1;unfold pc;by_cases m:x.part<(i:Int)+1
 ·rw[aX m];refine⟨?_,rfl⟩;unfold fZ;rw[h,l,c',c',FO O];by_cases d:c<i
  ·rw[aX d]
  have:c=i:=O
  subst this;rw[aY d,aX aW,a,lu];rw[n] at a;cases a;show(C.body++y.body)[k]? =C.body[k]?;rw[iV r]
 rw[aY m];by_cases d:x.part=(i:Int)+1
 ·rw[aX d];refine⟨?_,rfl⟩
  have:c=i+1:=O
  subst this;rw[e] at a;cases a;unfold fZ;dsimp only;rw[h,l,c',c',FO O,aY O,aX aW,lu,e,show((k:Int)+(C.body.length:Int)).toNat=C.body.length+k by omega];show(C.body++y.body)[C.body.length+k]? =y.body[k]?;rw[hT O];congr 1;omega
 rw[aY d];refine⟨?_,rfl⟩;unfold fZ;dsimp only;rw[h,l,c',c',show((c:Int)-1).toNat=c-1 by omega,FO O,aY O,aY bZ];congr 2;simp only[List.length_singleton];omega
theorem MU{p q:Prog}(a:q.aV=p.aV){σ:bU->bU}: ∀{l:List bU} {m:List Int},(∀x∈l,fZ q (σ x)=fZ p x/\(σ x).b2=x.b2)->c7 q m (l.map σ)=c7 p m l
 | [],m,_=>rfl
 |x::l,m,h=>by
  obtain⟨c,d⟩:=h x en;have e:ey q m (σ x)=ey p m x:=by unfold ey;rw[c,d,a]
  show c7 q (ey q m (σ x)) (l.map σ)=c7 p (ey p m x) l;rw[e];exact MU a λy i=>h y (ec _ i)
theorem Oc{i:Int}(h:x∈jO i k q):x.part=i/\x.b2=q/\0<=x.stmt/\x.stmt<(k:Int):=by
 unfold jO at h
 grind
theorem aez(o:bt p=ab)(r:p.parts[i]? =aa P)(K:p.parts[i+1]? =aa C)(j:P.nest=C.nest)(L:(o9 p).any (kJ p (i:Int))=ak)(u:fv p.aV m):
  c7 (k' p i 2 [k3 P C]) m (I (k' p i 2 [k3 P C]).parts)=c7 p m (I p.parts):=by
 obtain⟨A,Z,w,v⟩:=WM r K j;have e: ∀x∈A++((eU P).flatMap (jO (i:Int) P.body.length)++((eU P).flatMap (jO ((i:Int)+1) C.body.length)++Z)),dm p x:=λx c=>e9 (by rw[w];exact c);have Q: ∀x∈A,dm p x:=λx c=>e x (l7 _ c);have R: ∀q∈eU P,∀x∈jO (i:Int) P.body.length q,dm p x:=λq k x c=>e x (k7 _ (l7 _ (jF.2 ⟨q,k,c⟩)));have W: ∀q∈eU P,∀x∈jO ((i:Int)+1) C.body.length q,dm p x:=λq k x c=>e x (k7 _ (k7 _ (l7 _ (jF.2 ⟨q,k,c⟩))));have D: ∀x∈Z,dm p x:=λx c=>e x (k7 _ (k7 _ (k7 _ c)));have l:=(ev o).2.2.2.1 P (bJ r);rw[v,MU (p:=p) (q:=k' p i 2 [k3 P C]) (σ:=pc i P.body.length) rfl λx c=>Yo r K ?_,w,iF,iF,iF,Ly o R W ?_ (sO o Q u),iF,iF,iF]
 ·rw[sC l];have z:=sC l;refine(Ol P.nest []).imp_of_mem fun {a b} X f E y g x c=>?_;rw[<-z] at X f;obtain⟨s,t,B,F,G⟩:=abe (A:=A) (Z:=Z) (jF.2 ⟨b,f,c⟩) (jF.2 ⟨a,X,g⟩);rw[<-w] at F G;refine Z6 o (λx c=>e9 c) s t x y B F G λd H n=>?_;obtain⟨M,N,_⟩:=Oc c;obtain⟨S,T,_⟩:=Oc g
  have:kJ p (i:Int) d=ab:=by
   unfold kJ;rw[show d.e8=(s:Int) from n.1,show d.fa=(t:Int) from n.2,c',c',F,G];dsimp only;rw[M,S,N,T,E,bW rfl,bW rfl];rfl
  rw[jE.2 ⟨d,H,this⟩] at L;cases L
 rcases eS.1 c with h|h
 ·exact Q x h
 rcases eS.1 h with h|h
 ·obtain⟨q,k,h⟩:=jF.1 h;rcases eS.1 h with h|h
  ·exact R q k x h
  exact W q k x h
 exact D x h
theorem aey{q:Prog}(h:ps p a=(q,ab)):bt p=ab/\ ∃(i:Nat) (c d:Part),a=i/\p.parts[i]? =aa c/\p.parts[i+1]? =aa d/\c.nest=d.nest/\(o9 p).any (kJ p (i:Int))=ak/\q=k' p i 2 [k3 c d]/\bt q=ab:=by
 unfold ps at h;split at h
 ·rename_i m;split at h
  ·rename_i c d n o;split at h
   ·rename_i k;obtain⟨l,rfl,_,r⟩:=GA n;obtain⟨s,e,_,w⟩:=GA o
    have:s=l+1:=O
    subst this;unfold Bf at k;simp only[b5,Bool.not_eq_true'] at k;obtain⟨rfl,x⟩:=Gk h;exact⟨m.1,l,c,d,rfl,r,w,Mi k.1,k.2,rfl,x⟩
   cases h
  cases h
 cases h
def ks(l:List aF):Bool:=l.all λa=>decide (eP a.a1=0)
def fE(l:Loop):Bool:=ah (l.lo.length=1)&&(ah (l.aP.length=1)&&(ks l.lo&&ks l.aP))
def fD(l:List aF):Int:=(l.headD ⟨[],0⟩).const
theorem KB(c:5000<=n){l:List aF}(h:l.length<=2)(d: ∀x∈l,dc x=ab):yY n l=aa (ks l):=by
 unfold yY;rw[xQ (p:=λa=>decide (0<(eP a.a1:Int))) (λx e=>by
  unfold C3;rw[y5 c (show x.a1.length<=1000 by have:=(gV (d x e)).1;omega)];rfl) O O]
 show aa (!l.any _)=_;congr 1;unfold ks
 grind
theorem aav(e:5000<=n){l:Loop}(h:jK l):CR n l=aa (if fE l=ab then(fD l.lo,fD l.aP,ab) else(0,0,ak)):=by
 obtain⟨⟨i,k⟩,m,o⟩:=h;unfold CR;refine ad.eq (ad.aE (λz=>z= !fE l) (λj a=>?_) λz p=>?_)
 ·refine eO (λh=>a _ ?_) λh=>eO (λq=>a _ ?_) λq=>ai (KB e i k) (ad.cond (λc=>a _ ?_) λc=>ai (KB e m o) (a _ ?_))
  ·unfold fE;rw[bT (show¬l.lo.length=1 by omega)];rfl
  ·unfold fE;rw[bT (show¬l.aP.length=1 by omega),Bool.false_and,mU];rfl
  ·unfold fE;rw[show ks l.lo=ak by simpa using c];simp
  unfold fE;rw[show ks l.lo=ab by simpa using c,bW (O:l.lo.length=1),bW (O:l.aP.length=1)];rfl
 subst p;cases d:fE l with
 |false=>exact b' (ad.some rfl)
 |true=>
  refine cd ?_;unfold fE at d;simp only[b5,decide_eq_true_eq] at d;obtain⟨r,s,_⟩:=d;obtain⟨x,w⟩:=vz.1 r;obtain⟨y,A⟩:=vz.1 s;rw[w,A];exact ai (x:=x) rfl (ai (x:=y) rfl (ad.some rfl))
theorem ab2(w:5000<=n){l:Loop}(h:jK l):z8 n l=aa (ks l.lo&&ks l.aP):=by
 obtain⟨⟨C,y⟩,F,A⟩:=h;have s: ∀x,dc x=ab->oz n x=aa (eP x.a1:Int):=λx c=>t7 w (show x.a1.length<=1000 by have:=(gV c).1;omega);have d: ∀(l:List aF) (i:Nat) (x:aF),l[i]? =aa x->eP x.a1=0->ks (l.take i)=ab->ks (l.take (i+1))=ab:=λl i x c o k=>by
  unfold ks at k⊢;rw[ej,c,List.all_append,k];simp[o]
 have p: ∀(l:List aF) (i:Nat) (x:aF),l[i]? =aa x-> ¬eP x.a1=0->ks l=ak:=λl i x c o=>by
  unfold ks
  grind
 unfold z8;refine ad.eq (ad.loop (λz:Int=> ∃i:Nat,z=i/\i<=l.lo.length/\ks (l.lo.take i)=ab) (λz=>l.lo.length-z.toNat) ?_ n _ ⟨0,rfl,O,rfl⟩ O);rintro m z ⟨i,rfl,B,k⟩ q;refine aU (λa=>?_) λr=>?_
 ·have a:i<l.lo.length:=O
  have c:=bo a;refine ai (bq c) (ai (s _ (y _ (gp a))) (aU (λo=>ad.some ?_) λo=>?_))
  ·rw[p l.lo i _ c O];rfl
  rw[bh O];exact q _ ⟨i+1,O,O,d _ _ _ c O k⟩ O
 have e:i=l.lo.length:=O
 subst e;rw[dF] at k;rw[k,gL];refine ad.loop (λz:Int=> ∃i:Nat,z=i/\i<=l.aP.length/\ks (l.aP.take i)=ab) (λz=>l.aP.length-z.toNat) ?_ n _ ⟨0,rfl,O,rfl⟩ O;rintro m z ⟨i,rfl,B,k⟩ q;refine aU (λa=>?_) λr=>ad.some ?_
 ·have a:i<l.aP.length:=O
  have c:=bo a;refine ai (bq c) (ai (s _ (A _ (gp a))) (aU (λo=>ad.some ?_) λo=>?_))
  ·exact(p l.aP i _ c O).symm
  rw[bh O];exact q _ ⟨i+1,O,O,d _ _ _ c O k⟩ O
 have e:i=l.aP.length:=O
 grind
theorem Y4(d:5000<=n){l:Loop}(h:jK l):zm n l=aa (if fE l=ab then(fD l.lo,fD l.aP,ab) else(0,0,ak)):=by
 unfold zm;refine ad.eq (ad.aE (λz=>z= !fE l) (λj a=>?_) λz e=>?_)
 ·refine eO (λi=>a _ ?_) λi=>eO (λk=>a _ ?_) λk=>ai (ab2 d h) (a _ ?_)
  ·unfold fE;rw[bT (show¬l.lo.length=1 by omega)];rfl
  ·unfold fE;rw[bT (show¬l.aP.length=1 by omega),Bool.false_and,mU];rfl
  unfold fE;rw[bW (O:l.lo.length=1),bW (O:l.aP.length=1)];rfl
 subst e;cases c:fE l with
 |false=>exact b' (ad.some rfl)
 |true=>
  refine cd ?_;unfold fE at c;simp only[b5,decide_eq_true_eq] at c;obtain⟨m,o,_⟩:=c;obtain⟨x,p⟩:=vz.1 m;obtain⟨y,q⟩:=vz.1 o;rw[p,q];exact ai (x:=x) rfl (ai (x:=y) rfl (ad.some rfl))
def ob(c:Int)(a:List Int):Int:=if c∈a then(a.idxOf c:Int) else-1
def rG(c:Int)(a:List Int):List Int:=c::a.filter λx=> !decide (x=c)
def mK:List Int->List Int->List Int
 |_,[]=>[]
 |st,c::t=>ob c st::mK (rG c st) t
theorem JX{d:List Int}(h:d.Nodup):(rG c d).Nodup:=by
 unfold rG
 grind
theorem Lf{c:Int}: ∀{l:List Int},l.Nodup->l.length<=(l.filter λx=> !decide (x=c)).length+1
 | [],_=>aW
 |x::l,h=>by
  rw[List.nodup_cons] at h;by_cases a:x=c
  ·subst a;rw[List.filter_cons_of_neg aW,yG.2 λy d=>by simp;intro e;subst e;exact h.1 d];simp
  rw[List.filter_cons_of_pos (by simp[a])]
  have:=Lf (c:=c) h.2;simp only[List.length_cons];omega
theorem J4{c:Int}: ∀{l:List Int},l.Nodup->l.erase c=l.filter (λx=> !decide (x=c))
 | [],_=>rfl
 |x::l,h=>by
  rw[List.nodup_cons] at h;by_cases a:x=c
  ·subst a;rw[List.erase_cons_head,List.filter_cons_of_neg aW,yG.2 λy d=>by simp;intro e;subst e;exact h.1 d]
  rw[List.erase_cons_tail (by simpa using a),List.filter_cons_of_pos (by simp[a]),J4 h.2]
theorem W8{size:Nat}{d:List Int}(h:d.Nodup):mF size c (d.take size).reverse=((rG c d).take size).reverse:=by
 have k:(d.take size).Nodup:=h.sublist (List.take_sublist _ _);have m:(d.take size).reverse.Nodup:=List.pairwise_reverse.2 (k.imp λh=>Ne.symm h);unfold mF;rw[J4 m,List.filter_reverse];have o:((d.take size).filter λx=> !decide (x=c)).reverse++[c]=(c::(d.take size).filter λx=> !decide (x=c)).reverse:=aW
 simp only[o];have q:((d.take size).filter λx=> !decide (x=c)).length<=size:=hA (C6 _ _) (by rw[dr];omega);have p:(if size<(c::(d.take size).filter λx=> !decide (x=c)).reverse.length then(c::(d.take size).filter λx=> !decide (x=c)).reverse.drop 1 else(c::(d.take size).filter λx=> !decide (x=c)).reverse)=((c::(d.take size).filter λx=> !decide (x=c)).take size).reverse:=by
  split
  ·rename_i e;rw[List.length_reverse,nN] at e;rw[List.drop_reverse,nN,show((d.take size).filter λx=> !decide (x=c)).length+1-1=size by omega]
  rename_i e;rw[List.length_reverse] at e;rw[j2 (l:=c::(d.take size).filter λx=> !decide (x=c)) O]
 rw[p];congr 1;unfold rG;cases size with
 |zero=>rfl
 |succ n=>
  rw[List.take_succ_cons,List.take_succ_cons];congr 1;have i:d.filter (λx=> !decide (x=c))=(d.take (n+1)).filter (λx=> !decide (x=c))++(d.drop (n+1)).filter (λx=> !decide (x=c)):=by
   rw[<-ma,nJ]
  rw[i];by_cases a:n+1<=d.length
  ·have:=Lf (c:=c) k;rw[dr,yI a] at this;rw[C4 O]
  rw[List.drop_of_length_le O];simp
theorem JP{c:Int}{i:Nat}: ∀{st:List Int},c∈st.take i↔c∈st/\st.idxOf c<i
 | []=>aW
 |x::st=>by
  cases i with
  |zero=>simp
  |succ n=>
   rw[List.take_succ_cons,ef,ef,JP (st:=st)];by_cases a:x=c
   ·subst a;simp
   rw[List.idxOf_cons,show(x==c)=ak by simpa using a,cond_false];have d: ¬c=x:=λe=>a e.symm;simp[d]
theorem Mp{size:Nat}: ∀{t st:List Int},st.Nodup->fH size (st.take size).reverse t=(mK st t).countP (λd=>decide (d<0\/(size:Int)<=d))
 | [],_,_=>rfl
 |c::t,st,h=>by
  rw[fH,mK,List.countP_cons,W8 h,Mp (JX h),Nat.add_comm];congr 1;have i:(c∈(st.take size).reverse)↔(c∈st/\st.idxOf c<size):=by rw[List.mem_reverse];exact JP
  by_cases a:c∈st
  ·unfold ob;rw[aX a];by_cases k:st.idxOf c<size
   ·rw[aX (i.2 ⟨a,k⟩),aY bZ]
   rw[aY λe=>k (i.1 e).2,aX bZ]
  unfold ob;rw[aY a,aY λe=>a (i.1 e).1,aX aW]
theorem YF(size:Nat)(t:List Int):fH size [] t=(mK [] t).countP (λd=>decide (d<0\/(size:Int)<=d)):=by
 have:=Mp (size:=size) (t:=t) (st:=[]) List.nodup_nil
 grind
theorem LD(a:Nat): ∀(t d:List Int),fH a d t<=t.length
 | [],_=>cV _
 |c::t,d=>by
  rw[fH]
  have:=LD a t (mF a c d);simp only[List.length_cons];split<;>omega
theorem Ut{d:List Int}(h: ¬c∈d):ob c (d++[c])=(d.length:Int):=by
 unfold ob
 grind
theorem UB{y:Int}{d:List Int}(h:y≠c):ob c (d++[y])=ob c d:=by
 unfold ob
 grind
theorem Wm(c:Int)(a:List Int):(rG c a).length<=a.length+1:=by
 unfold rG
 grind
theorem V9(I:20000<=n){d:List Int}(M:d.length<=600):ad (B' n d) (λr=>r=mK [] d):=by
 unfold B';refine aU (λh=>O) λ_=>?_;refine ad.loop (λx:List Int×List Int×Int=> ∃k:Nat,x.2.2=k/\k<=d.length/\x.2.1.Nodup/\x.2.1.length<=k/\x.1.length=k/\x.1++mK x.2.1 (d.drop k)=mK [] d) (λx=>d.length-x.2.2.toNat) ?_ n _ ⟨0,rfl,O,List.nodup_nil,cV _,rfl,rfl⟩ J;rintro F ⟨o,st,N⟩ ⟨k,q,P,m,b,ns,s⟩ f;dsimp only at q m b ns s⊢;subst q;refine aU (λp=>?_) λg=>ad.some ?_;rotate_left
 ·rw[List.drop_of_length_le O,mK,jn] at s;exact s
 have p:k<d.length:=O
 have G:=bo p;generalize d[k]=c at G;refine ad.loop (λx:List Int×Int×Int=> ∃j:Nat,x.2.2=j/\j<=st.length/\x.1=(st.take j).filter (λy=> !decide (y=c))/\x.2.1=ob c (st.take j)) (λx=>st.length-x.2.2.toNat) ?_ n _ ⟨0,rfl,O,rfl,rfl⟩ J;rintro C ⟨r,t,S⟩ ⟨j,w,H,a,e⟩ K;dsimp only at w a e⊢;subst w;refine aU (λi=>?_) λW=>?_
 ·have i:j<st.length:=O
  have L:=bo i;generalize T:st[j]=y at L;have A:st.take (j+1)=st.take j++[y]:=by rw[ej,L];rfl
  have X:(st.take j++[y]).Nodup:=by rw[<-A];exact m.sublist (List.take_sublist _ _)
  have u:r.length<=600:=by
   grind
  refine ad.aE (λz:List Int×Int=>z.1=(st.take (j+1)).filter (λy=> !decide (y=c))/\z.2=ob c (st.take (j+1))) (λv l=>?_) λz Z=>?_
  ·refine ai (bq L) (ai (bq G) (aU (λQ=>?_) λB=>?_))
   ·subst Q;refine l _ ⟨?_,?_⟩
    ·rw[A,ma,<-a];simp
    rw[A];have R: ¬y∈st.take j:=λU=>by
     grind
    rw[Ut R,dr,yI H]
   refine ai (cU (by simp only[List.length_cons,List.length_nil];omega)) (l _ ⟨?_,?_⟩)
   ·rw[A,ma,<-a];simp[B]
   rw[A,UB B];exact e
  rw[bh O];exact K _ ⟨j+1,J,O,Z.1,Z.2⟩ J
 have H:j=st.length:=O
 subst H;rw[dF] at a e;subst a;subst e;have D:=C6 (λy=> !decide (y=c)) st;refine ai (cU (by simp only[List.length_cons,List.length_nil];omega)) (ai (bq G) (ai (cU (by simp only[List.length_cons,List.length_nil];omega)) ?_));rw[bh O];have E:d.drop k=c::d.drop (k+1):=by
  rw[k6 p]
  grind
 rw[E,mK] at s;refine f _ ⟨k+1,J,O,JX m,hA (Wm c st) O,by dsimp only;rw[dp];simp only[List.length_cons,List.length_nil];omega,?_⟩ J;dsimp only;rw[fr];exact s
theorem KM: ∀(t st:List Int),(mK st t).length=t.length
 | [],_=>rfl
 |c::t,st=>by rw[mK,nN,nN,KM t]
theorem ZZ(H:20000<=n){e:List Int}(A:e.length<=600)(Z:0<=a)(f:a<=40):sB n e a=aa (fH a.toNat [] e:Int):=by
 refine ad.eq ?_;unfold sB;have i:vp n e a=aa ab:=by
  unfold vp;simp only[aE]
  grind
 refine ai i ?_;refine cB (V9 H A) ?_;rintro _ rfl;have o:=KM e [];rw[YF];generalize g:mK [] e=c at o⊢;refine ad.loop (λx:Int×Int=> ∃k:Nat,x.2=k/\k<=c.length/\x.1=((c.take k).countP (λd=>decide (d<0\/(a.toNat:Int)<=d)):Nat)) (λx=>c.length-x.2.toNat) ?_ n _ ⟨0,rfl,O,rfl⟩ J;rintro B ⟨m,j⟩ ⟨k,q,t,y⟩ K;dsimp only at q y⊢;subst q;refine aU (λr=>?_) λL=>ad.some ?_;rotate_left
 ·rw[y,j2 O]
 have r:k<c.length:=O
 have C:=bo r;generalize c[k]=d at C;have Q:c.take (k+1)=c.take k++[d]:=by rw[ej,C];rfl
 have F:=List.countP_le_length (p:=λd=>decide (d<0\/(a.toNat:Int)<=d)) (l:=c.take k);rw[dr] at F;refine ad.aE (λz:Int=>z=((c.take (k+1)).countP (λd=>decide (d<0\/(a.toNat:Int)<=d)):Nat)) (λu h=>?_) λz R=>?_
 ·refine ad.aE (λb:Bool=>b=ah (d<0\/(a.toNat:Int)<=d)) (λv s=>?_) λb W=>?_
  ·refine ai (bq C) (aU (λw=>s _ ?_) λG=>s _ ?_)
   ·rw[bW (Or.inl w)]
   rw[decide_eq_decide];omega
  subst W;rw[Q,List.countP_append,List.countP_singleton] at h;refine ad.cond (λA=>h _ ?_) λX=>h _ ?_
  ·rw[bh O,y,aX A];omega
  rw[y,aY (by rw[X];exact Bool.false_ne_true)];omega
 rw[bh O];exact K _ ⟨k+1,J,O,R⟩ J
theorem ZY{d:List Int}(h: ¬(d.length<=600/\0<=a/\a<=40)):sB n d a=aa (-1):=by
 have c:vp n d a=aa ak:=by
  unfold vp;simp only[aE]
  grind
 unfold sB
 grind
def nd(p:Prog)(x:bU):List Int:=rc p x++[(cT p x:Int)]
def lI(p:Prog):List Int:=(I p.parts).flatMap (nd p)
theorem Ns{l:List bU}{f:bU->List Int}(h:l[k]? =aa x):(l.take (k+1)).flatMap f=(l.take k).flatMap f++f x:=by rw[ej,h,l8];simp
theorem NP{f:bU->List Int}: ∀{l:List bU},(∀x∈l,(f x).length<=13)->(l.flatMap f).length<=13*l.length
 | [],_=>aW
 |x::l,h=>by have c:=h x en;have d:=NP (l:=l) λy a=>h y (ec _ a);rw[mR,dp,nN];omega
theorem aa6(a:bt p=ab)(c:x∈I p.parts):(nd p x).length<=13:=by
 have:=(ll a (e9 c)).2.2.1;unfold nd
 grind
theorem aca(n:Nat)(s:List Int):DE n s=aa s:=by unfold DE;rw[km O O O];simp
theorem Yl(K:20000<=n)(w:fP p)(d:bt p=ab):xW n p=aa ((lI p).take 600):=by
 have y:=(ev d).2.2.2.2;refine ad.eq ?_;unfold xW;refine ai (yt O w) ?_;rw[aX d];simp only[Option.isSome_some,Option.getD_some,cond_true,Bool.not_true,cond_false];have m:(fV p).list=I p.parts:=rfl;have o:(fV p).reads=(I p.parts).map (rc p):=rfl;have q:(fV p).ix=(I p.parts).map (λx=>(cT p x:Int)):=rfl;simp only[m,o,q];refine ad.loop (λz:List Int×Int=> ∃k:Nat,z.2=k/\k<=(I p.parts).length/\z.1=((I p.parts).take k).flatMap (nd p)) (λz=>(I p.parts).length-z.2.toNat) ?_ n _ ⟨0,rfl,O,rfl⟩ J;rintro r ⟨a,z⟩ ⟨k,s,L,c⟩ A;dsimp only at s c⊢;subst s;have B:a.length<=1560:=by
  rw[c]
  have:=NP (f:=nd p) (l:=(I p.parts).take k) (λx C=>aa6 d (hv C))
  grind
 refine aU (λF=>?_) λG=>?_
 ·obtain⟨x,i⟩: ∃x,(I p.parts)[k]? =aa x:=⟨_,bo (O:k<(I p.parts).length)⟩
  have H:=(ll d (e9 (bJ i))).2.2.1;refine ai (bq (jU i)) (ai (cU O) (ai (bq (jU i)) (ai (cU (by rw[dp,nK];omega)) ?_)));rw[bh O];refine A _ ⟨k+1,J,O,?_⟩ J;dsimp only;rw[Ns i,<-c,fr];rfl
 have e:k=(I p.parts).length:=O
 subst e;rw[dF] at c;refine ai (km O O O) (ai (aca n _) (ad.some ?_));rw[c,show(0:Int).toNat=0 from rfl,ri];show(lI p).take _=_;have Q:a.length=(lI p).length:=by rw[c];rfl
 by_cases h:(lI p).length<=600
 ·rw[j2 h,j2]
  grind
 congr 1
 grind
theorem Yz(K:20000<=n)(r:jP n p=aa ab)(h:bt p=ab):xV n p=aa ((lI p).take 600):=by
 have s:=(ev h).2.2.2.2;refine ad.eq ?_;unfold xV;refine ai r ?_;rw[Bool.not_true,cond_false];refine ai (zl O h) ?_;have w:(kp p).length=(I p.parts).length:=by unfold kp;rw[dz]
 refine ad.loop (λz:List Int×Int=> ∃k:Nat,z.2=k/\k<=(I p.parts).length/\z.1=((I p.parts).take k).flatMap (nd p)/\z.1.length<=600) (λz=>(I p.parts).length-z.2.toNat) ?_ n _ ⟨0,rfl,O,rfl,aW⟩ J;rintro i ⟨a,z⟩ ⟨k,o,L,d,c⟩ y;dsimp only at o d c⊢;subst o;refine aU (λA=>?_) λB=>ad.some ?_
 ·obtain⟨x,l⟩: ∃x,(I p.parts)[k]? =aa x:=⟨_,bo (O:k<(I p.parts).length)⟩
  have C:=(ll h (e9 (bJ l))).2.2.1;have F:(kp p)[k]? =aa (⟨rc p x,(cT p x:Int)⟩:kD):=jU l;refine ai (bq F) (ai (cU J) (ai (cU (by rw[dp,nK];dsimp only;omega)) ?_));dsimp only;have m:a++rc p x++[(cT p x:Int)]=((I p.parts).take (k+1)).flatMap (nd p):=by
   rw[Ns l,<-d,fr];rfl
  rw[m];have Q:(((I p.parts).take (k+1)).flatMap (nd p)).length<=1000:=by
   grind
  refine aU (λq=>?_) λG=>?_
  ·refine ai (km O O O) (ai (cU (by rw[im,dr];simp only[List.length_nil];omega)) (ad.some ?_));rw[vE,show(0:Int).toNat=0 from rfl,ri,show(600:Int).toNat=600 from rfl];have H:lI p=((I p.parts).take (k+1)).flatMap (nd p)++((I p.parts).drop (k+1)).flatMap (nd p):=by
    unfold lI;rw[<-l8,nJ]
   grind
  rw[bh O];exact y _ ⟨k+1,J,O,rfl,J⟩ J
 have e:k=(I p.parts).length:=O
 subst e;rw[dF] at d;subst d;rw[show(lI p)=(I p.parts).flatMap (nd p) from rfl,j2 c]
def eW(p:Prog)(a:Int):Int:=if bt p=ab then(if 0<=a/\a<=40 then(fH a.toNat [] ((lI p).take 600):Int) else-1) else-1
theorem xF(e:20000<=n)(d:fP p)(a:Int):qB n p a=aa (eW p a):=by
 unfold qB eW;rw[oe O d];by_cases c:bt p=ab
 ·rw[aX c,c];show bL (xW n p) _=_;rw[Yl e d c];show bL (uX _ a) _=_;have h:((lI p).take 600).length<=600:=by rw[dr];omega
  unfold uX
  grind
 rw[aY c,Bool.eq_false_iff.2 c];rfl
theorem IF(d:20000<=n)(k:fP p)(a:Int):uD n p a=aa (eW p a):=by
 unfold uD eW;have i:=kM (n:=n) O k;rw[i];by_cases c:bt p=ab
 ·rw[aX c,c];show bL (xV n p) _=_;rw[Yz d (by rw[i,c]) c];show bL (sB n _ a) _=_;have l:((lI p).take 600).length<=600:=by rw[dr];omega
  by_cases h:0<=a/\a<=40
  ·rw[ZZ d l h.1 h.2,aX h];rfl
  rw[ZY λe=>h e.2,aY h];rfl
 rw[aY c,Bool.eq_false_iff.2 c];rfl
theorem WD(a:List UInt8):ad (BU N a) (λx=>dJ 1000 x.1):=by
 have i:N=100000:=rfl;unfold BU;refine cB (abm a) λr e=>cB (W9 e O) λx c=>cB (abq O c.2 O c.1) λy d=>?_;have h:ad (zt N y.2) (λ_=>True):=by
  unfold zt;exact cB (OM d.2 O aW) λz _=>ad.some trivial
 exact cB h λz _=>ad.some (d.1.mono (O:30<=1000))
end
section
theorem aau{a R:Type}{f g:a->List R}{l:List a}(h: ∀x∈l,f x=g x):l.flatMap f=l.flatMap g:=by rw[rh,rh,sG h]
def k4(s:Stmt):Stmt:=⟨s.write,ft 5 s.value⟩
def ij(x:Part):Part:=⟨x.nest,x.body.map k4⟩
def mY(p:Prog):Prog:=⟨p.aV,p.parts.map ij⟩
variable {n:Nat}{s:Stmt}{d e:Int}{p:Prog}{r:List ca}
theorem V1(c:7000<=n)(a:eJ s d=ab):vS n s=aa (k4 s):=by
 obtain⟨n,rfl⟩: ∃j,n=j+1:=⟨n-1,O⟩
 unfold vS;rw[Ra O a];refine ad.eq (ai rfl (ai (HX 5 n s.value O (ig a).2.1) (ad.some rfl)))
def qo(p:Prog):Prog×Bool:=if bt p=ab then(mY p,ab) else gl
theorem Tf(q:7000<=n)(w:dJ 1000 p):Ct n p=aa (qo p):=by
 unfold Ct qo;refine ad.eq (ai (oe q w.sm) (ad.cond (λh=>ad.some ?_) λh=>?_))
 ·rw[aY (by simpa using h)];rfl
 have i:bt p=ab:=by simpa using h
 rw[aX i];obtain⟨Q,R,X,y,_⟩:=ev i;refine ai (oE O i) ?_;refine yC (l:=p.parts) (n:=n) (F:=λd k=>bj (λa ((c,e):(List Stmt)×Int)=>
    bif ah (e<(d.body.length:Int)) then(
     bL (az c e) λz=>
     bL (vS n z) λA=>
     bL (cA c e A) λB=>
     a (B,wr (e+1))
    ) else(
     bL (iI d.body c) λZ=>
     k (⟨d.nest,c⟩:Part)
    )
   ) n (d.body,0)) (W:=λ_ o=>o) (m:=λ_=>(p.parts.length:Int)) (g:=ij) (s:=0) (K:=λC=>aa ((⟨p.aV,C⟩:Prog),ab)) (λ_ _ _ h=>h) (λ_ _=>rfl) O (λx G k r=>?_) O O (ad.some ?_)
 ·obtain⟨_,b,H,_⟩:=jx (y x G);refine yC (l:=x.body) (n:=n) (F:=λx k=>bL (vS n x) k) (W:=λ_ o=>o) (m:=λ_=>(x.body.length:Int)) (g:=k4) (s:=0) (K:=λc=>bL (iI x.body c) λ_=>k (⟨x.nest,c⟩:Part)) (λ_ _ _ h=>h) (λ_ _=>rfl) O (λs L k r=>ai (V1 q (H s L)) r) O O ?_;refine ai (oL aW) ?_
  have:(⟨x.nest,x.body.take 0++(x.body.drop 0).map k4⟩:Part)=ij x:=by simp[ij]
  grind
 simp[mY]
theorem Uw(h:7000<=n)(i:d<=4)(a:eJ s d=ab)(e:eJ s 4=ab):Dy n s=aa (k4 s,ab):=by
 obtain⟨n,rfl⟩: ∃j,n=j+1:=⟨n-1,O⟩
 have c:ja 4 s:=PU a;unfold Dy;refine ad.eq (ai (t8 O (c.mono (O:4<=1000)).sm 4) ?_);rw[e];refine cd (ai (yy O ((c.mono (O:4<=1000)).1).sm) (ai (Ri 5 n s.value O (ig a).2.1) (ad.some rfl)))
theorem Nh{a:aF}(h:fg a d=ab)(c:d<=e):fg a e=ab:=by
 unfold fg at h⊢
 grind
theorem Pc{a:b0}(h:gb a d=ab)(c:d<=e):gb a e=ab:=by unfold gb at h⊢;rw[mS,gq] at h;rw[h.2,Bool.and_true];exact gq.2 λx i=>Nh (h.1 x i) c
theorem acL{x:Expr}(h:eC x d=ab)(a:d<=e):eC x e=ab:=by
 unfold eC at h⊢;split at h
 ·rename_i c;rw[aX c];simp only[b5] at h⊢;exact⟨h.1,h.2.1,Nh h.2.2 a⟩
 rename_i c;rw[aY c];split at h
 ·rename_i i;rw[aX i];simp only[b5] at h⊢;exact⟨h.1,h.2.1,Pc h.2.2 a⟩
 rename_i i
 grind
theorem Lm{d e:Int}(a:d<=e): ∀{L:Nat} {x:Expr},dd L x d=ab->dd L x e=ab
 |0,_,h=>by cases h
 |L+1,x,h=>by obtain⟨i,l,m⟩:=fQ h;exact CV i (acL l a) λk c=>Lm a (m k c)
theorem abE(h:eJ s d=ab):eJ s 4=ab:=by unfold eJ at h⊢;simp only[b5,decide_eq_true_eq] at h⊢;exact⟨O,Pc h.2.1 h.1.2,Lm h.1.2 h.2.2.1,h.2.2.2⟩
theorem abG(h:eJ s d=ab):d<=4:=by
 unfold eJ at h
 grind
theorem SU(L:7000<=n)(r:dJ 1000 p):Cy n p=aa (qo p):=by
 unfold Cy qo;refine ad.eq (ai (oD O r) (ai (kM L r.sm) (ad.cond (λh=>ad.some ?_) λh=>?_)))
 ·rw[aY (by simpa using h)];rfl
 have Q:bt p=ab:=by simpa using h
 rw[aX Q];obtain⟨u,v,D,Z,_⟩:=ev Q;refine ai (f9 O r) ?_;refine ad.loop (λz:List Part×Int=> ∃i:Nat,z.2=i/\i<=p.parts.length/\z.1=(p.parts.take i).map ij++p.parts.drop i) (λz=>p.parts.length-z.2.toNat) ?_ n _ ⟨0,rfl,O,aW⟩ J;rintro w ⟨x,z⟩ ⟨i,R,E,e⟩ b;dsimp only at R e⊢;subst R;have a:((p.parts.take i).map ij).length=i:=by rw[dz,dr];omega
 have A:x.length=p.parts.length:=by rw[e,dp,a,im];omega
 rw[A];refine aU (λf=>?_) λg=>ad.some ?_
 ·obtain⟨P,m⟩: ∃P,p.parts[i]? =aa P:=⟨_,bo (O:i<p.parts.length)⟩
  have B:x[i]? =aa P:=by
   rw[e,hT O,a,lu,il];exact m
  obtain⟨_,I,t,_⟩:=jx (Z P (bJ m));refine ad.loop (λz:List Part×Int=> ∃j:Nat,z.2=j/\j<=P.body.length/\z.1=x.set i ⟨P.nest,(P.body.take j).map k4++P.body.drop j⟩) (λz=>P.body.length-z.2.toNat) ?_ n _ ⟨0,rfl,O,by
   dsimp only;rw[List.take_zero,List.map_nil,vE,ri];exact(Rj B).symm⟩ J
  rintro o ⟨y,M⟩ ⟨j,k,N,l⟩ C;dsimp only at k l⊢;subst k;have F:y[i]? =aa ⟨P.nest,(P.body.take j).map k4++P.body.drop j⟩:=by rw[l,hU O]
  have c:((P.body.take j).map k4).length=j:=by rw[dz,dr];omega
  have G:((P.body.take j).map k4++P.body.drop j).length=P.body.length:=by rw[dp,c,im];omega
  refine ai (bq F) ?_;dsimp only;rw[G];refine aU (λW=>?_) λX=>?_
  ·obtain⟨s,q⟩: ∃s,P.body[j]? =aa s:=⟨_,bo (O:j<P.body.length)⟩
   have H:((P.body.take j).map k4++P.body.drop j)[j]? =aa s:=by
    rw[hT O,c,lu,il];exact q
   have d:=t s (bJ q);refine ai (bq H) (ai (Uw L (abG d) d (abE d)) (ai (eM O _) (ai (eM (by rw[l,e7];omega) _) ?_)));rw[bh O];refine C _ ⟨j+1,J,O,?_⟩ J;dsimp only;rw[l,c',c',List.set_set,p8 _ _ O,c,lu,jT q,yH,ej,q];simp
  have K:j=P.body.length:=O
  rw[bh O];refine b _ ⟨i+1,J,O,?_⟩ J;dsimp only;rw[l,K,dF,oP,jn,e,p8 _ _ O,a,lu,jT m,yH,ej,m];simp[ij]
 have:i=p.parts.length:=O
 rw[e,this,dF,oP,jn];rfl
theorem ab0(h:eJ s d=ab):eJ (k4 s) d=ab:=by obtain⟨c,a,_⟩:=ig h;unfold eJ at h⊢;simp only[b5,decide_eq_true_eq] at h⊢;exact⟨h.1,c,pr a,by have:=P6 a;show dA 5 (ft 5 s.value)<=12;omega⟩
theorem V6(c:eJ s d=ab){q:List Int}(h:gU r s q=ab):gU r (k4 s) q=ab:=by unfold gU at h⊢;rw[mS,gq] at h;rw[show(k4 s).write=s.write from rfl,h.1,gL];exact gq.2 λa e=>h.2 a (P7 (ig c).2.1 a e)
theorem Es(x:Part):eU (ij x)=eU x:=rfl
theorem Yp{x:Part}(h:eI r x=ab):eI r (ij x)=ab:=by
 obtain⟨e,i,d,k⟩:=jx h;unfold eI nY;rw[show(ij x).nest=x.nest from rfl,e,Es];have l:(ij x).body=x.body.map k4:=rfl;rw[l,dz,bW i];simp only[Option.isSome_some,Bool.true_and,b5,g'];refine⟨λs c=>?_,λs c q m=>?_⟩
 ·obtain⟨t,a,rfl⟩:=eo.1 c;exact ab0 (d t a)
 obtain⟨t,a,rfl⟩:=eo.1 c
 have:=k t a q m;exact⟨V6 (d t a) this.1,this.2⟩
theorem V7(p:Prog):I (mY p).parts=I p.parts:=by unfold I mY;dsimp only;rw[List.zipIdx_map,vC];refine aau λy _=>?_;obtain⟨x,j⟩:=y;show eV j (ij x)=eV j x;unfold eV;rw[Es,show(ij x).body.length=x.body.length by simp[ij]]
theorem ab1(h:bt p=ab):bt (mY p)=ab:=by
 unfold bt jk at h⊢;simp only[b5,decide_eq_true_eq,g'] at h⊢;obtain⟨⟨a,c,d⟩,e⟩:=h;refine⟨⟨a,by simpa[mY] using c,λx i=>?_⟩,?_⟩
 ·obtain⟨y,k,rfl⟩:=eo.1 i;exact Yp (d y k)
 show((p.parts.map ij).map fR).sum<=120;rw[j3,show p.parts.map (fR ∘ ij)=p.parts.map fR from p' (λx _=>by
  show fR (ij x)=fR x;unfold fR;rw[Es,show(ij x).body.length=x.body.length by simp[ij]])]
 exact e
theorem XS(h:bt p=ab){m:List Int}(n:fv p.aV m):c7 (mY p) m (I (mY p).parts)=c7 p m (I p.parts):=by
 rw[V7];have a: ∀x∈I p.parts,dm p x:=λx c=>e9 c;revert a;unfold c7;generalize I p.parts=l;intro a;induction l generalizing m with
 |nil=>rfl
 |cons x l o=>
  simp only[List.foldl_cons];have c:=a x en;have e:ey (mY p) m x=ey p m x:=by
   obtain⟨i,k,P,s,d,q,r,w,z,A,B,G,H⟩:=pC h c;have C:fZ (mY p) x=aa (k4 s):=by
    unfold fZ mY;dsimp only;rw[ek,q,c',w];show(ij P).body[x.stmt.toNat]? =_;unfold ij;dsimp only;rw[ek,r,c',z];rfl
   unfold ey;rw[A,C];dsimp only;show m.set (dU p.aV s.write x.b2 0).toNat (et 5 p.aV m (ft 5 s.value) x.b2)=_;rw[Hm n (ig B).2.1]
  rw[e];exact o (tm h n c) λy F=>a y (ec _ F)
end
theorem Mm{p:Prog}(B:bt p=ab){l:List bU}(K: ∀x∈l,dm p x)(m:List Int){F:List Bool}(v: ∀i,(hg p l).getD i ak=ab->F.getD i ak=ab): ∀k,k<=l.length-> ∀c,G8 p l k c->(c7 p m (l.take k)).getD c 0=(c7 p m (pick l (pT F k))).getD c 0
 |0,_,c,_=>rfl
 |k+1,M,c,C=>by
  have Q:=Mm B K m v k O;obtain⟨x,A⟩: ∃x,l[k]? =aa x:=⟨_,bo (O:k<l.length)⟩
  have R:=K _ (bJ A);have r:=(ll B R).2.2.2;have hw:=q0 (p:=p) A;have b3:=wj (p:=p) A;have n: ∀q:List bU,(∀y∈q,dm p y)->(c7 p m q).length=m.length:=λq h=>AF B h;have D: ∀y∈l.take k,dm p y:=λy W=>K y (hv W);have E: ∀y∈pick l (pT F k),dm p y:=λy W=>K y (MG W);have w: ∀e:Nat,iW p l k≠(e:Int)->G8 p l (k+1) e->G8 p l k e:=λe o C=>by
   rcases C with ⟨j,G,L,X,Z,f⟩|h
   ·exact .inl ⟨j,O,L,X,Z,λt a b=>by
     by_cases g:t=k
     ·rw[g];exact o
     exact f t O b⟩
   exact .inr (λt a b=>by
    by_cases g:t=k
    ·rw[g];exact o
    exact h t O b)
  rw[gC A,Dg,r,JF];cases u:(hg p l).getD k ak with
  |true=>
   rw[aX (v k u),EX (x:=x) (by rw[c'];exact A),Dg,r,s3,s3,n _ D,n _ E];rw[NH B R (m':=c7 p m (pick l (pT F k))) (λd I=>Q _ (.inl ⟨k,cV _,O,u,by
    have:=(ll B R).2.1 d I;rw[b3,yF this.1];exact I,λt G L=>O⟩))]
   by_cases e:cT p x=c/\cT p x<m.length
   ·rw[aX e,aX e]
   rw[aY e,aY e];by_cases N:cT p x=c
   ·have G: ∀z:List Int,z.length=m.length->z.getD c 0=0:=λz P=>by
     rw[eB,tb O];rfl
    rw[G _ (n _ D),G _ (n _ E)]
   exact Q c (w c (by rw[hw];omega) C)
  |false=>
   have o:iW p l k≠(c:Int):=by
    intro e;have s:(hg p l).getD k ak=ab:=by
     rw[Zl O];rcases C with ⟨j,G,L,X,Z,f⟩|h
     ·exact .inr ⟨j,L,X,Mo.2 ⟨(c:Int),Z,NA e O λt a b=>f t O b⟩⟩
     exact .inl ((X2 O).2 λt a b=>by rw[e];exact h t O b)
    rw[u] at s;cases s
   rw[s3,aY (by rintro⟨e,_⟩;exact o (by rw[hw];omega))];have aP:=Q c (w c o C);by_cases H:F.getD k ak=ab
   ·rw[aX H,EX (x:=x) (by rw[c'];exact A),Dg,r,s3,aY (by rintro⟨e,_⟩;exact o (by rw[hw];omega))];exact aP
   rw[aY H,jn];exact aP
variable {p:Prog}{i n:Nat}{P:Part}{a:Int}
theorem YD(k:bt p=ab){l:List bU}(n: ∀x∈l,dm p x)(m:List Int){F:List Bool}(d:F.length=l.length)(o: ∀i,(hg p l).getD i ak=ab->F.getD i ak=ab):c7 p m (pick l (l1 F))=c7 p m l:=by
 have h:=Mm k n m o l.length (cV _);rw[dF] at h;have e:pT F l.length=l1 F:=by rw[<-J6,d]
 rw[e] at h;refine(Zm (by rw[AF k n,AF k λy q=>n y (MG q)]) λc _=>h c (.inr λt a b=>O)).symm
theorem Vo(f:bU->Bool): ∀(l:List bU),pick l (l1 (l.map f))=l.filter f:=by
 intro l;have a: ∀k,k<=l.length->pick l (pT (l.map f) k)=(l.take k).filter f:=by
  intro k;induction k with
  |zero=>intro _;rfl
  |succ k d=>
   intro m;obtain⟨x,c⟩: ∃x,l[k]? =aa x:=⟨_,bo (O:k<l.length)⟩
   have i:(l.map f).getD k ak=f x:=by rw[eB,ek,c];rfl
   rw[JF,i,gC c,ma];cases e:f x with
   |true=>
    rw[aX rfl,EX (x:=x) (by rw[c'];exact c),d O];simp[e]
   |false=>
    rw[aY aW,jn,d O];simp[e]
 have h:=a l.length (cV _);rw[dF] at h;rw[<-h,<-J6,dz]
def nW(p:Prog)(a:Int):Bool:=(fp (I p.parts).length).all (λi=>match (I p.parts)[i]? with
 |some x=> !((hg p (I p.parts)).getD i ak&&ah (x.part=a))
 |none=>ab)
theorem y2{part:Int}:nW p part=ab↔ ∀(i:Nat) x,(I p.parts)[i]? =aa x->(hg p (I p.parts)).getD i ak=ab->x.part≠part:=by
 unfold nW
 grind
theorem E2(p:Prog)(l:List bU):(hg p l).length=l.length:=pK p l l.length
def rZ(i:Nat)(x:bU):bU:=if(i:Int)<x.part then⟨x.part-1,x.stmt,x.b2⟩ else x
theorem WC(h:p.parts[i]? =aa P): ∃A X Z,I p.parts=A++(X++Z)/\I (p.parts.take i++p.parts.drop (i+1))=(A++Z).map (rZ i)/\(∀x∈A,x.part<(i:Int))/\(∀x∈X,x.part=(i:Int))/\ ∀x∈Z,(i:Int)<x.part:=by
 have aP:=(bX.1 h).1;have c:(p.parts.take i).length=i:=by rw[dr];omega
 have e:p.parts=p.parts.take i++P::p.parts.drop (i+1):=by rw[<-jT h,nJ]
 refine⟨I (p.parts.take i),eV i P,((I (p.parts.drop (i+1))).map (f' 1)).map (f' i),?_,?_,λx a=>by have:=qT a;omega,λx a=>H2 a,λx a=>?_⟩
 ·conv=>lhs;rw[e]
  rw[xH,BT,eZ,c];congr 2;exact uO λs q=>by unfold f';simp
 ·rw[xH,c,eZ];congr 1
  ·exact(pN (λx a=>by
    have:=qT a;unfold rZ;rw[aY O])).symm
  rw[j3,j3];refine p' λx a=>?_
  have:=qT a;show f' i x=rZ i (f' i (f' 1 x));unfold rZ f'
  grind
 obtain⟨y,d,rfl⟩:=eo.1 a;obtain⟨z,k,rfl⟩:=eo.1 d
 have:=qT k;unfold f'
 grind
theorem Gw(e:bt p=ab)(i:Nat):bt ⟨p.aV,p.parts.take i++p.parts.drop (i+1)⟩=ab:=by
 have c: ∀x∈p.parts.take i++p.parts.drop (i+1),x∈p.parts:=λx h=>by
  grind
 have d:=(ev e).2.2.2.1;have m:=(xI p.parts)
 have n: ∀l:List Part,(∀x∈l,x∈p.parts)->0<=(l.map fR).sum:=λl o=>by
  induction l with
  |nil=>simp
  |cons a l q=>
   simp only[hX,List.sum_cons]
   have:=(y3 (d a (o a en))).1
   have:=q λx h=>o x (ec _ h);omega
 unfold bt jk at e⊢;simp only[b5,decide_eq_true_eq,g'] at e⊢;obtain⟨⟨aS,a2,a3⟩,a4⟩:=e;refine⟨⟨aS,by simp only[List.length_append,List.length_take,List.length_drop];omega,λx h=>a3 x (c x h)⟩,?_⟩;have r:(p.parts.map fR).sum=((p.parts.take i).map fR).sum+((p.parts.drop i).map fR).sum:=by
  conv=>lhs;rw[<-nJ i p.parts]
  grind
 have s:((p.parts.drop (i+1)).map fR).sum<=((p.parts.drop i).map fR).sum:=by
  cases k:p.parts.drop i with
  |nil=>
   have:p.parts.drop (i+1)=[]:=by rw[<-List.drop_drop,k];rfl
   rw[this];simp
  |cons a l=>
   have:p.parts.drop (i+1)=l:=by rw[<-List.drop_drop,k];rfl
   rw[this];simp only[hX,List.sum_cons]
   have:=(y3 (d a (jl (i:=i) (by rw[k];exact en)))).1;omega
 grind
theorem NV(a:bt p=ab)(i:Nat):dJ 1000 ⟨p.aV,p.parts.take i++p.parts.drop (i+1)⟩:=(kd (Gw a i)).mono O
def ql(p:Prog)(a:Int):Prog×Bool:=if(bt p&&(e5 p a&&nW p a))=ab then(⟨p.aV,p.parts.take a.toNat++p.parts.drop (a.toNat+1)⟩,ab) else gl
theorem Yk(K:7100<=n)(L:dJ 1000 p)(g: -1<=a/\a<=9):y8 n p a=aa (ql p a):=by
 unfold y8 ql;refine ad.eq (ai (yt K L.sm) ?_);by_cases d:bt p=ab
 ·rw[aX d,d];have W:=(ev d).2.2.2.2;refine b' (ad.aE (λz=>z= !e5 p a) (λj k=>cd (ai (qU n L.2.1 a) (k _ rfl))) λz q=>?_);subst q;cases w:e5 p a with
  |false=>exact b' (ad.some rfl)
  |true=>
   have A:0<=a/\a<(p.parts.length:Int):=hB w;refine cd (ai (x:=hg p (I p.parts)) (Yg K d) ?_);have B:=E2 p (I p.parts);rw[B];refine ad.loop (λz:Int=> ∃i:Nat,z=i/\i<=(I p.parts).length/\ ∀(j:Nat) x,j<i->(I p.parts)[j]? =aa x->(hg p (I p.parts)).getD j ak=ab->x.part≠a) (λz=>(I p.parts).length-z.toNat) ?_ n _ ⟨0,rfl,O,λj x h=>O⟩ O;rintro C z ⟨i,rfl,t,r⟩ X;refine aU (λZ=>?_) λb=>?_
   ·obtain⟨x,F⟩: ∃x,(I p.parts)[i]? =aa x:=⟨_,bo (O:i<(I p.parts).length)⟩
    have G:az (hg p (I p.parts)) (i:Int)=aa ((hg p (I p.parts)).getD i ak):=by
     have c:i<(hg p (I p.parts)).length:=O
     rw[bq (bo c),eB,bo c];rfl
    have m:az (fV p).list (i:Int)=aa x:=bq F;refine ai G (ad.aE (λz=>z=((hg p (I p.parts)).getD i ak&&ah (x.part=a))) (λj k=>ad.cond (λh=>ai m (k _ (by rw[h];rfl))) λh=>k _ (by rw[h];rfl)) λz q=>?_);subst q;refine ad.cond (λh=>ad.some ?_) λh=>?_
    ·rw[mS,decide_eq_true_eq] at h
     have:nW p a=ak:=by
      cases f:nW p a with
      |false=>rfl
      |true=>exact bz h.2 (y2.1 f i x F h.1)
     rw[this];rfl
    rw[bh O];refine X _ ⟨i+1,O,O,λj y k H s=>?_⟩ O;by_cases e:j=i
    ·subst e;rw[F] at H;cases H;rw[s,gL] at h;exact of_decide_eq_false h
    exact r j y O H s
   have o:nW p a=ab:=y2.2 λj x Q s=>r j x (by have:=(bX.1 Q).1;omega) Q s;rw[o];refine ai (oE O d) (ai (x:=(eY p.parts a (a+1),kb p.parts a (a+1) (⟨[],[]⟩:Part))) ?_ (ad.some ?_))
   ·unfold uQ;rw[bh O,bW A.1,bW (O:a<=a+1),bW (O:a+1<=(p.parts.length:Int)),bT (show¬a=a+1 by omega)];rfl
   show(⟨p.aV,(kb p.parts a (a+1) (⟨[],[]⟩:Part)).take (eY p.parts a (a+1))⟩,ab)=((⟨p.aV,p.parts.take a.toNat++p.parts.drop (a.toNat+1)⟩:Prog),ab)
   have R:(p.parts.take a.toNat++p.parts.drop (a+1).toNat).length=eY p.parts a (a+1):=by
    unfold eY;simp only[List.length_append,List.length_take,List.length_drop];omega
   unfold kb;rw[C4 (by rw[R];exact cV _),j2 (l:=p.parts.take a.toNat++p.parts.drop (a+1).toNat) (by rw[R];exact cV _),show(a+1).toNat=a.toNat+1 by omega]
 rw[aY d,show bt p=ak by simpa using d];refine cd (ad.aE (λz=>z=ab) (λj k=>b' (k _ rfl)) λz q=>?_);rw[q];exact b' (ad.some rfl)
theorem Yx(W:7100<=n)(o:dJ 1000 p)(E: -1<=a/\a<=9):Dz n p a=aa (ql p a):=by
 unfold Dz ql;refine ad.eq (ai (oD O o) (ad.aE (λz=>z= !(bt p&&e5 p a)) (λj q=>?_) λz X=>?_))
 ·refine ai (kM O o.sm) (ad.cond (λh=>q _ ?_) λh=>?_)
  ·rw[sL h];rfl
  have bR:=qZ h;refine aU (λr=>q _ ?_) λr=>q _ ?_
  ·rw[bR,show e5 p a=ak from bT O];rfl
  by_cases R:(p.parts.length:Int)<=a
  ·rw[bR,bW R,show e5 p a=ak from bT O];rfl
  rw[bR,bT R,show e5 p a=ab from bW O];rfl
 subst X;by_cases bR:bt p=ab
 ·rw[bR];have Z:=(ev bR).2.2.2.2;cases B:e5 p a with
  |false=>exact b' (ad.some rfl)
  |true=>
   have b:0<=a/\a<(p.parts.length:Int):=hB B;refine cd (ai (SD W o.sm) (ai (xU O bR) ?_));rw[aX bR];have f:=E2 p (I p.parts);have g:=Kb (hg p (I p.parts));have s: ∀c∈l1 (hg p (I p.parts)),∃(i:Nat) (x:bU),c=i/\(I p.parts)[i]? =aa x/\(hg p (I p.parts)).getD i ak=ab:=λc C=>by
    obtain⟨M,r⟩:=D1.1 C;have w:c.toNat<(I p.parts).length:=by
     by_cases h:c.toNat<(I p.parts).length
     ·exact h
     rw[eB,tb O] at r;cases r
    exact⟨c.toNat,_,O,bo w,r⟩
   generalize t:l1 (hg p (I p.parts))=L at*;refine ad.loop (λz:Int=> ∃i:Nat,z=i/\i<=L.length/\ ∀c∈L.take i,∀x,(I p.parts)[c.toNat]? =aa x->x.part≠a) (λz=>L.length-z.toNat) ?_ n _ ⟨0,rfl,O,λc C=>by simp at C⟩ O;rintro F z ⟨i,rfl,N,e⟩ u;refine aU (λw=>?_) λv=>?_
   ·obtain⟨c,G⟩: ∃c,L[i]? =aa c:=⟨_,bo (O:i<L.length)⟩
    obtain⟨k,x,rfl,A,H⟩:=s c (bJ G);refine ai (bq G) (ai (bq A) (aU (λh=>ad.some ?_) λh=>?_))
    ·have:nW p a=ak:=by
      cases m:nW p a with
      |false=>rfl
      |true=>exact bz h (y2.1 m k x A H)
     rw[this];rfl
    rw[bh O];refine u _ ⟨i+1,O,O,λd m y K=>?_⟩ O;rw[gC G,eS,nL] at m;rcases m with m|rfl
    ·exact e d m y K
    rw[c',A] at K;cases K;exact h
   have Q:i=L.length:=O
   rw[Q,dF] at e;have l:nW p a=ab:=y2.2 (λj x A H=>by
    have q:((j:Nat):Int)∈L:=by rw[<-t];exact D1.2 ⟨O,by rw[c'];exact H⟩
    exact e _ q x (by rw[c'];exact A))
   rw[l];obtain⟨i,rfl⟩: ∃i:Nat,a=i:=⟨a.toNat,O⟩
   refine ai (x:=(⟨p.aV,p.parts.take i++p.parts.drop (i+1)⟩,ab)) (ad.eq ?_) (ad.some rfl);have D:=o.2.1;unfold mA;refine ai (f9 O o) (ai (km O O O) ?_);rw[c',show(0:Int).toNat=0 from rfl,ri];refine ai (x:=p.parts.take i) (cU bZ) (ai (x:=p.parts.take i) (by rw[cU bZ,jn]) ?_);rw[bh O];refine ai (km O O O) ?_;rw[c',dF,show((i:Int)+1).toNat=i+1 by omega];refine ai (x:=p.parts.take i++p.parts.drop (i+1)) (cU bZ) (ai (kM O (NV bR i).sm) ?_);rw[Gw bR i];exact cd (ai (f9 O (NV bR i)) (ad.some rfl))
 rw[show bt p=ak by simpa using bR];exact b' (ad.some rfl)
theorem X0(h:p.parts[i]? =aa P){x:bU}(d:dm p x)(e:x.part≠(i:Int)):fZ ⟨p.aV,p.parts.take i++p.parts.drop (i+1)⟩ (rZ i x)=fZ p x/\(rZ i x).b2=x.b2:=by
 have aP:=(bX.1 h).1;have l:(p.parts.take i).length=i:=by rw[dr];omega
 obtain⟨a,k,n,s,c,o,q,r,w⟩:=d;unfold rZ;split
 ·rename_i m;refine⟨?_,rfl⟩;unfold fZ;dsimp only;rw[c,show((a:Int)-1).toNat=a-1 by omega,c',hT O,l,il,show i+1+(a-1-i)=a by omega]
 refine⟨?_,rfl⟩;unfold fZ;dsimp only;rw[c,c',iV O,hS,aX O]
theorem Z3(q:bt p=ab)(h:p.parts[i]? =aa P)(r:nW p (i:Int)=ab)(m:List Int):c7 ⟨p.aV,p.parts.take i++p.parts.drop (i+1)⟩ m (I (p.parts.take i++p.parts.drop (i+1)))=c7 p m (I p.parts):=by
 obtain⟨A,X,Z,d,s,n,w,o⟩:=WC h;have e: ∀x∈I p.parts,dm p x:=λx a=>e9 a;have y:c7 p m (I p.parts)=c7 p m (A++Z):=by
  rw[<-YD q e m (F:=(I p.parts).map λx=> !decide (x.part=(i:Int))) aW λj k=>?_,Vo]
  ·congr 1;rw[d,ma,ma];have z:A.filter (λx=> !decide (x.part=(i:Int)))=A:=yG.2 λx a=>by have:=n x a;rw[bT O];rfl
   have B:X.filter (λx=> !decide (x.part=(i:Int)))=[]:=List.filter_eq_nil_iff.2 λx a=>by rw[bW (w x a)];simp
   have C:Z.filter (λx=> !decide (x.part=(i:Int)))=Z:=yG.2 λx a=>by have:=o x a;rw[bT O];rfl
   rw[z,B,C];rfl
  have l:j<(I p.parts).length:=by
   rw[<-E2 p (I p.parts)];by_cases G:j<(hg p (I p.parts)).length
   ·exact G
   rw[eB,tb O] at k;cases k
  have a:=bo l
  have:=y2.1 r j _ a k;rw[eB,ek,a];show(!decide _)=ab;rw[bT this];rfl
 rw[y,s];unfold c7;rw[List.foldl_map];refine y9 λx a m=>?_;have c:x∈I p.parts/\x.part≠(i:Int):=by
  rcases eS.1 a with h|h
  ·exact⟨by rw[d];simp[h],by have:=n x h;omega⟩
  exact⟨by rw[d];simp[h],by have:=o x h;omega⟩
 obtain⟨H,K⟩:=X0 h (e9 c.1) c.2;unfold ey;rw[H,K]
end Go.Lift
