/- Tools. -/
import Derived.Test.YteifkndfpnkalaaGreatDRun1
set_option maxRecDepth 100000
set_option linter.unusedVariables false
namespace Go.Lift
open Go
open Option renaming some -> aa, bind -> bO
open Bool renaming true -> ab, false -> ak, and_eq_true -> b9
open Decidable renaming decide -> ag
open List renaming length_append -> ik, length_take -> k8, length_drop -> lN, replicate -> dA, map_cons -> gd
variable {n k i L j many:Nat}{p q:Prog}{R h:Type}{Q:R->Prop}{e:Expr}{m:List Int}{s d a v c lo:Int}{x:bN}{l:Loop}{F:az->Option az}{g f:az->az}{o nest:List Loop}{r:List cn}{b:az}{y P C:Part}{G:bN->bN}{ys:List Part}{K:List h->Option R}
theorem ad6(h:7100<=n)(c:jz p)(a:bM p=ab):t7 n p=aa (gK p.aP):=by refine ad.eq ?_;obtain⟨d,e,_⟩:=dZ a;unfold t7;refine ae (rD O c) ?_;rw[a];exact b8 (ae (AH O d e) (ad.some rfl))
theorem CN{k:Type}{n:Int}(h:0<=n/\n<=1000000000)(x:k):mk n x=aa (dA n.toNat x):=by unfold mk;rw[aR h]
theorem ab5(A:5000<=n){T:Nat}(B:T<=1000){e:Int->Int}(l: ∀i,0<=i->i<(T:Int)->0<=e i/\e i<=999){K:List Int->Option R}(o: ∀m,m.length=T->(∀x∈m,0<=x/\x<=999)->ad (K m) Q):
  ad (bn (λa (z:(List Int)×Int)=>bif ag (z.2<(z.1.length:Int)) then(bO (ax z.1 z.2) λ_=>bO (ca z.1 z.2 (e z.2)) λy=>a (y,wr (z.2+1))) else(K z.1)) n (dA T 0,0)) Q:=by
 refine ad.loop (λz:List Int×Int=>0<=z.2/\z.2<=T/\z.1.length=T/\ ∀x∈z.1,0<=x/\x<=999) (λz=>T-z.2.toNat) ?_ n _ ⟨gq _,J,zW,λx p=>by rw[(uF.1 p).2];omega⟩ J;rintro a ⟨x,i⟩ ⟨c,q,d,h⟩ r;dsimp only at c q d h⊢;refine aW (λs=>?_) λw=>o _ d h;refine ae (s4 c O) (ae (xA c O _) ?_);rw[bc O];exact r _ ⟨J,J,by dsimp only;rw[e6,d],λy k=>by
  rcases uI k with k|rfl
  ·exact h y k
  exact l i c O⟩ J
theorem O2(a:bM p=ab):0<=gK p.aP/\gK p.aP<=144:=by
 obtain⟨d,c,_⟩:=dZ a
 have:=PQ c;omega
theorem Rl(a:bM p=ab)(c:fD p.aP m):C' p m=(c4 p m (I p.parts),ab):=by unfold C';rw[ael a c];rfl
theorem acJ(A:jz p)(F:jz q)(d:bM p=ab)(G:bM q=ab)(H:q.aP=p.aP)(h: ∀m,fD p.aP m->c4 q m (I q.parts)=c4 p m (I p.parts))(Z:0<=s/\s<=1048576):AY N p q s=aa ab:=by
 have b:N=100000:=rfl;have f:=O2 d;refine ad.eq ?_;unfold AY;refine ae (ad6 O A d) (ae (CN ⟨O,O⟩ 0) (ab5 (n:=N) (T:=(gK p.aP).toNat) (e:=λi=>Int.tmod (wr ((wr ((wr (i*41))+(wr (s*17))))+3)) 1000) (K:=λB=>bO (tU N p B) λC=>bO (tU N q B) λk=>aD (fun(o:Bool)=>aa o) λc=>bif C.2 then(bif k.2 then(bO (xx N C.1 k.1) λr=>c r) else(c ak)) else(c ak)) O O (λi g L=>?_) λm L Q=>?_))
 ·rw[bc (n:=i*41) O,bc (n:=s*17) O,bc (n:=i*41+s*17) O,bc O]
  grind
 have a:fD p.aP m:=⟨O,Q⟩
 have w:fD q.aP m:=by rw[H];exact a
 have l:=PI d a;refine ae (Lo O A l) (ae (Lo O F l) ?_);rw[Rl d a,Rl G w,h m a];have y: ∀x∈I p.parts,da p x:=λx R=>fc R;refine ad.aD (λz=>z=ab) (λj W=>bX (bX (ae (XM O (PI d (sa d y a))) (W _ rfl)))) λz X=>ad.some X
theorem SZ(c:bM p=ab)(e:da p x):x.bU.length<=4:=by
 obtain⟨i,k,P,s,d,h,l,m,n,o,q,a,r⟩:=ov c e
 have:=a.1;have:=a.2.1;omega
theorem xO{β:Type}{l:List h}{F:h->(β->Option R)->Option R}{g:h->β}{K:List β->Option R}(e: ∀x∈l,∀k:β->Option R,ad (k (g x)) Q->ad (F x k) Q)
  {s:Nat} (B:s<=l.length) {pre:List β} (C:pre.length<=1000) (G:l.length<=1000) (H:5000<=n) (m:ad (K (pre++(l.drop s).map g)) Q):
  ad (bn (λa ((x,i):List β×Int)=>bif ag (i<(l.length:Int)) then(bO (ax l i) λy=>F y λz=>bO (app x [z]) λw=>a (w,wr (i+1))) else K x) n (pre,(s:Int))) Q:=by
 refine ad.loop (λz:List β×Int=> ∃i:Nat,z.2=i/\s<=i/\i<=l.length/\z.1=pre++((l.drop s).take (i-s)).map g) (λz=>l.length-z.2.toNat) ?_ n _ ⟨s,rfl,O,O,aX⟩ J;rintro a ⟨x,z⟩ ⟨i,d,o,L,c⟩ p;dsimp only at d c⊢;subst d;refine aW (λq=>?_) λr=>?_
 ·have bK:=bp (O:i<l.length);have A:x.length<=2000:=by rw[c,ea,dJ,cZ,fM];omega
  refine ae (bl bK) (e _ (bx bK) _ (ae (c' bP) ?_));rw[bc O];refine p _ ⟨i+1,J,O,O,?_⟩ J;dsimp only;rw[show i+1-s=(i-s)+1 by omega,eN,gY,show s+(i-s)=i by omega,bK,c,eM,fN];rfl
 have:i=l.length:=O
 subst this;rw[c,l9 (by rw[fM];omega)];exact m
theorem ps{H:Type}{l:List H}{f:H->Option h}{g:H->h}(c: ∀x∈l,f x=aa (g x))(d:l.length<=1000)(e:5000<=n)(m:ad (K (l.map g)) Q):
  ad (bn (λa ((x,i):List h×Int)=>bif ag (i<(l.length:Int)) then(bO (ax l i) λy=>bO (f y) λz=>bO (app x [z]) λw=>a (w,wr (i+1))) else K x) n ([],0)) Q:=
 xO (F:=λy k=>bO (f y) k) (g:=g) (s:=0) (pre:=[]) (λx o k p=>ae (c x o) p) O aX d e (by simpa using m)
theorem zU{l:List h}{F:h->(h->Option R)->Option R}{W:List h->Option R->Option R}{m:List h->Int}{g:h->h}
  (B: ∀y o,y.length=l.length->ad o Q->ad (W y o) Q) (C: ∀y:List h,y.length=l.length->m y=(l.length:Int))
  {s:Nat} (f:s<=l.length) (G: ∀x∈l,∀k:h->Option R,ad (k (g x)) Q->ad (F x k) Q) (j:l.length<=1000) (t:5000<=n) (H:ad (K (l.take s++(l.drop s).map g)) Q):
  ad (bn (λa ((y,i):List h×Int)=>W y (bif ag (i<m y) then(bO (ax y i) λx=>F x λz=>bO (ca y i z) λw=>a (w,wr (i+1))) else K y)) n (l,(s:Int))) Q:=by
 refine ad.loop (λz:List h×Int=> ∃i:Nat,z.2=i/\s<=i/\i<=l.length/\z.1=l.take s++((l.drop s).take (i-s)).map g++l.drop i) (λz=>l.length-z.2.toNat) ?_ n _ ⟨s,rfl,O,O,aX⟩ J;rintro a ⟨x,z⟩ ⟨i,A,L,u,p⟩ X;dsimp only at A p⊢;subst A;have c:(l.take s++((l.drop s).take (i-s)).map g).length=i:=by rw[ea,dJ,cZ,cZ,fM];omega
 have d:x.length=l.length:=by rw[p,ea,c,fM];omega
 refine B _ _ d ?_;rw[C _ d];refine aW (λZ=>?_) λb=>?_
 ·obtain⟨e,q⟩: ∃e,l[i]? =aa e:=⟨_,bp (O:i<l.length)⟩
  have r:x[i]? =aa e:=by
   grind
  refine ae (bl r) (G _ (bx q) _ (ae (dU O _) ?_));rw[bc O];refine X _ ⟨i+1,J,O,O,?_⟩ J;dsimp only;rw[p,cf,nP _ _ O,c,kB,im q,zY,show i+1-s=(i-s)+1 by omega,eN,gY,show s+(i-s)=i by omega,q];simp
 have:i=l.length:=O
 subst this;rw[p,l9 (l:=l.drop s) (by rw[fM];omega),pA,kb];exact H
def gH(f:az->az)(a:b0):b0:=⟨a.array,a.bz.map f⟩
def ke(f:az->az):Nat->Expr->Expr
 |0,e=>e
 |L+1,e=>⟨e.kind,e.num,if e.kind=2 then f e.index else⟨[],0⟩,if e.kind=3 then gH f e.read else⟨[],[]⟩,e.bj.map (ke f L)⟩
def gN(f:az->az)(s:Stmt):Stmt:=⟨gH f s.write,ke f 5 s.value⟩
def c9(f:az->az)(l:Loop):Loop:=⟨l.lo.map f,l.hi.map f⟩
theorem pL(h:eX e d=ab)(a:e.kind=2):cN e.index=ab/\k4 e.read=ab:=by
 unfold eX fz at h
 grind
theorem ri(h:eX e d=ab)(a:e.kind=3):fX e.read d=ab/\jL e.index=ab:=by
 unfold eX at h
 grind
theorem yj(h:eX e d=ab)(a: ¬e.kind=2)(c: ¬e.kind=3):jL e.index=ab/\k4 e.read=ab:=by
 unfold eX at h
 grind
theorem uz{a:az}(h:jL a=ab):a=⟨[],0⟩:=by
 obtain⟨c,k⟩:=a;simp only[jL,b9,decide_eq_true_eq] at h
 grind
theorem uJ{a:b0}(h:k4 a=ab):a=⟨[],[]⟩:=by
 obtain⟨c,k⟩:=a;simp only[k4,b9,decide_eq_true_eq] at h
 grind
theorem Lw(c:5000<=n){a:b0}(e:fX a d=ab)(h: ∀x,cN x=ab->F x=aa (f x)):tY n a F=aa (gH f a):=by obtain⟨m,o,i⟩:=lM e;refine ad.eq ?_;unfold tY;exact ps (K:=λk=>aa (⟨a.array,k⟩:b0)) (λx l=>h x (i x l)) O c (ad.some rfl)
theorem L8{d:Int}{F:az->Option az}{f:az->az}(i: ∀x,cN x=ab->F x=aa (f x)): ∀(L n:Nat) (e:Expr),5000+L<=n->dp L e d=ab->mL (n+1) e F=aa (ke f L e)
 |0,_,_,_,h=>by cases h
 |L+1,n,e,G,h=>by
  obtain⟨H,l,p⟩:=gi h;obtain⟨n,rfl⟩: ∃j,n=j+1:=⟨n-1,O⟩
  have q:e.bj.length<=2:=by have:=qM e.kind;omega
  unfold mL;refine ad.eq (ad.aD (λz=>(⟨z.1,z.2.1⟩:az)=(if e.kind=2 then f e.index else⟨[],0⟩)/\(⟨z.2.2.1,z.2.2.2⟩:b0)=(if e.kind=3 then gH f e.read else⟨[],[]⟩)) (λj k=>?_) λz r=>?_)
  ·refine aW (λa=>?_) λa=>aW (λc=>?_) λc=>?_
   ·exact ae (i _ (pL l a).1) (k _ ⟨by rw[aR a],by rw[aQ O]⟩)
   ·exact ae (Lw O (ri l c).1 i) (k _ ⟨by rw[aQ a],by rw[aR c]⟩)
   exact k _ ⟨by rw[aQ a],by rw[aQ c]⟩
  obtain⟨s,w,y,A⟩:=z;obtain⟨m,o⟩:=r;dsimp only at m o⊢;refine ps (K:=λB=>aa (⟨e.kind,e.num,(⟨s,w⟩:az),(⟨y,A⟩:b0),B⟩:Expr)) (λx C=>L8 i L n x O (p x C)) O O (ad.some ?_);rw[m,o];rfl
theorem L6(i:6000<=n){s:Stmt}(c:eS s d=ab)(a: ∀x,cN x=ab->F x=aa (f x)):qG n s F=aa (gN f s):=by
 obtain⟨e,h,_⟩:=gj c;obtain⟨n,rfl⟩: ∃j,n=j+1:=⟨n-1,O⟩
 unfold qG;rw[Lw O e a,L8 a 5 n s.value O h];rfl
theorem l0{k:Type}{f:k->k}: ∀{l:List k},(∀x∈l,f x=x)->l.map f=l
 | [],_=>rfl
 |x::l,h=>by rw[w8,h x eD,l0 λy a=>h y (eo _ a)]
theorem NV{a:b0}(c:fX a d=ab)(e: ∀x,cN x=ab->f x=x):gH f a=a:=by obtain⟨k,l,h⟩:=lM c;unfold gH;rw[l0 λx i=>e x (h x i)]
theorem PJ{d:Int}{f:az->az}(l: ∀x,cN x=ab->f x=x): ∀{L:Nat} {e:Expr},dp L e d=ab->ke f L e=e
 |0,_,_=>rfl
 |L+1,e,h=>by
  obtain⟨o,i,m⟩:=gi h;obtain⟨kind,num,index,read,n⟩:=e;unfold ke;dsimp only at o i m⊢;rw[l0 λx p=>PJ l (m x p)];by_cases c:kind=2
  ·have a:=pL i c;dsimp only at a;rw[aR c,aQ O,l _ a.1,uJ a.2]
  by_cases k:kind=3
  ·have a:=ri i k;dsimp only at a;rw[aQ c,aR k,NV a.1 l,uz a.2]
  have a:=yj i c k;dsimp only at a;rw[aQ c,aQ k,uz a.1,uJ a.2]
theorem aem(a: ∀x,cN x=ab->f x=x){s:Stmt}(c:eS s d=ab):gN f s=s:=by obtain⟨e,h,_⟩:=gj c;unfold gN;rw[NV e a,PJ a h]
def gV(l:Loop):Prop:=(l.lo.length<=2/\ ∀x∈l.lo,cN x=ab)/\l.hi.length<=2/\ ∀x∈l.hi,cN x=ab
theorem ae0(h:Fit o): ∀l∈o,gV l:=λl a=>by
 obtain⟨i,c⟩:=jO.1 a
 have:=h.2 i l c;exact⟨(pK this.1).2,(pK this.2).2⟩
theorem gU{x:Part}(h:d' r x=ab):x.nest.length<=4/\ ∀l∈x.nest,gV l:=by have:=(oZ (gx h).1).1;exact⟨this.1,ae0 this⟩
theorem Rc{a:az}(h:cN a=ab):dD 4 a:=by have:=(fo h).1;unfold dD;omega
theorem CS{l:List az}(e:l.length<=2)(c: ∀x∈l,cN x=ab):fp 4 l:=⟨O,λa d=>Rc (c a d)⟩
theorem Rb{d:Int}: ∀{L:Nat} {e:Expr},dp L e d=ab->jc 4 L e
 |0,_,h=>by cases h
 |L+1,e,h=>by
  obtain⟨m,a,n⟩:=gi h
  have:=qM e.kind;refine⟨O,?_,?_,λk m=>Rb (n k m)⟩
  ·by_cases c:e.kind=2
   ·exact Rc (pL a c).1
   by_cases i:e.kind=3
   ·rw[uz (ri a i).2];unfold dD;simp
   rw[uz (yj a c i).1];unfold dD;simp
  by_cases i:e.kind=3
  ·have:=lM (ri a i).1;exact CS this.2.1 this.2.2
  by_cases c:e.kind=2
  ·rw[uJ (pL a c).2];exact⟨aX,λx l=>by cases l⟩
  rw[uJ (yj a c i).2];exact⟨aX,λx l=>by cases l⟩
theorem RS{s:Stmt}(a:eS s d=ab):jx 4 s:=by
 obtain⟨c,e,_⟩:=gj a
 have:=lM c;exact⟨CS this.2.1 this.2.2,Rb e⟩
theorem vd{x:Part}(h:d' r x=ab):gf 4 x:=by obtain⟨d,a⟩:=gU h;obtain⟨_,e,i,_⟩:=gx h;exact⟨⟨d,λl c=>⟨CS (a l c).1.1 (a l c).1.2,CS (a l c).2.1 (a l c).2.2⟩⟩,e.2,λs k=>RS (i s k)⟩
theorem RD{l:List cn}(a:l.length<=4)(c:ks l):sG 4 l:=⟨a,λx d=>by have:=c x d;simp only[kY,b9,decide_eq_true_eq] at this;omega⟩
theorem my(h:bM p=ab):dn 4 p:=by obtain⟨a,c,d,e,_⟩:=dZ h;exact⟨RD a c,d,λx i=>vd (e x i)⟩
theorem Cl{B:Nat}{l:List az}(h:l.length<=B)(c: ∀x∈l,dD B (f x)):fp B (l.map f):=⟨by rw[dJ];exact h,λa d=>by obtain⟨x,e,rfl⟩:=eA.1 d;exact c x e⟩
theorem QX{d:Int}{f:az->az}(c: ∀x,cN x=ab->dD 4 (f x)): ∀{L:Nat} {e:Expr},dp L e d=ab->jc 4 L (ke f L e)
 |0,_,h=>by cases h
 |L+1,e,h=>by
  obtain⟨m,n,o⟩:=gi h
  have:=qM e.kind;unfold ke jc;refine⟨by dsimp only;rw[dJ];omega,?_,?_,λk m=>?_⟩
  ·dsimp only;by_cases i:e.kind=2
   ·rw[aR i];exact c _ (pL n i).1
   rw[aQ i];unfold dD;simp
  ·dsimp only;by_cases l:e.kind=3
   ·rw[aR l]
    have:=lM (ri n l).1;exact Cl O λx a=>c x (this.2.2 x a)
   rw[aQ l];exact⟨aX,λx a=>by cases a⟩
  obtain⟨x,a,rfl⟩:=eA.1 m;exact QX c (o x a)
theorem CR(a: ∀x,cN x=ab->dD 4 (f x)){s:Stmt}(c:eS s d=ab):jx 4 (gN f s):=by
 obtain⟨e,h,_⟩:=gj c
 have:=lM e;exact⟨Cl O λx i=>a x (this.2.2 x i),QX a h⟩
theorem x5(c: ∀x,cN x=ab->dD 4 (f x))(h:gV l):fp 4 (c9 f l).lo/\fp 4 (c9 f l).hi:=
 ⟨Cl (by have:=h.1.1;omega) λx a=>c x (h.1.2 x a),Cl (by have:=h.2.1;omega) λx a=>c x (h.2.2 x a)⟩
theorem Ol(n:Nat){a:az}(h:a.aT.length<=1000):mB n a=aa a:=by unfold mB ji;rw[aR O];rfl
theorem Be(n:Nat): ∀x,cN x=ab->mB n x=aa x:=λx a=>Ol n (by have:=(fo a).1;omega)
theorem M'(a:5000<=n){l:List az}(h:l.length<=2)(c: ∀x∈l,cN x=ab):rQ n l=aa l:=by unfold rQ;refine ad.eq (ps (g:=λx=>x) (K:=λd=>aa d) (λx e=>Be n x (c x e)) O a (ad.some ?_));simp
theorem M9(d:5000<=n)(p:nest.length<=4)(a: ∀l∈nest,gV l):ui n nest=aa nest:=by unfold ui;refine ad.eq ?_;refine xO (β:=Loop) (l:=nest) (n:=n) (F:=λe k=>bO (rQ n e.lo) λh=>bO (rQ n e.hi) λi=>k (⟨h,i⟩:Loop)) (g:=λx=>x) (s:=0) (pre:=[]) (K:=λm=>aa m) ?_ O aX O d (ad.some aX);exact λx c k o=>ae (M' d (a x c).1.1 (a x c).1.2) (ae (M' d (a x c).2.1 (a x c).2.2) o)
theorem Tg(c:6000<=n){s:Stmt}(a:eS s d=ab):Am n s=aa s:=by unfold Am;rw[L6 c a (F:=λe=>mB n e) (f:=λx=>x) (Be n),aem (λ_ _=>rfl) a];rfl
theorem M8(a:6000<=n){x:Part}(h:d' r x=ab):r9 n x=aa x:=by obtain⟨c,d⟩:=gU h;obtain⟨_,l,e,_⟩:=gx h;unfold r9;refine ad.eq (ae (M9 O c d) (ps (g:=λx=>x) (K:=λi=>aa (⟨x.nest,i⟩:Part)) (λs k=>Tg a (e s k)) O O (ad.some ?_)));simp
theorem uf(q:6000<=n)(h:bM p=ab):qd n p=aa p:=by
 obtain⟨r,w,C,y,_⟩:=dZ h;unfold qd;refine ad.eq (xO (F:=λo k=>bO (ji o.b1) λz=>k (⟨o.name,z⟩:cn)) (g:=λx=>x) (s:=0) (pre:=[]) (K:=λA=>bn (λa ((c,d):(List Part)×Int)=>
    bif ag (d<(p.parts.length:Int)) then(
     bO (ax p.parts d) λe=>
     bO (r9 n e) λi=>
     bO (app c [i]) λl=>
     a (l,wr (d+1))
    ) else(
     aa (⟨A,c⟩:Prog)
    )
   ) n ([],0)) (λx m k B=>ae (x:=x.b1) ?_ B) O aX O O ?_)
 ·have:=(RD r w).2 x m;unfold ji
  grind
 refine ps (g:=λx=>x) (K:=λc=>aa (⟨_,c⟩:Prog)) (λx m=>M8 q (y x m)) O O (ad.some ?_);simp
theorem pw{k:Type}{a b:List k}(h:b.length=a.length):jg a b=aa ():=by unfold jg;rw[aR h]
theorem K3(p:5000<=n)(w:gV l)(q: ∀x,cN x=ab->F x=aa (f x)):tS n l F=aa (c9 f l):=by
 obtain⟨⟨aL,a2⟩,B,A⟩:=w;unfold tS;refine ad.eq (ad.loop (λz:Loop×Int=>(z.2=0/\z.1=l)\/(z.2=1/\z.1=⟨l.lo.map f,l.hi⟩)\/(z.2=2/\z.1=c9 f l)) (λz=>3-z.2.toNat) ?_ n _ (.inl ⟨rfl,rfl⟩) J);rintro a ⟨x,i⟩ r c;dsimp only at r c⊢;rcases r with ⟨rfl,rfl⟩|⟨rfl,rfl⟩|⟨rfl,rfl⟩
 ·refine ae (pw rfl) (ae (pw rfl) (aW (λ_=>aW (λ_=>?_) λh=>(h rfl).elim) λh=>bB h O));refine zU (F:=λx k=>bO (F x) k) (W:=λ_ o=>o) (m:=λ_=>(x.lo.length:Int)) (g:=f) (s:=0) (K:=λy=>a ((⟨y,x.hi⟩:Loop),wr (0+1))) (λ_ _ _ h=>h) (λ_ _=>rfl) O (λx d k e=>ae (q x (a2 x d)) e) O p ?_;rw[bc O];exact c _ (.inr (.inl ⟨J,aX⟩)) J
 ·refine ae (pw aX) (ae (pw rfl) (aW (λ_=>aW (λh=>bB h O) λ_=>aW (λ_=>?_) λh=>(h rfl).elim) λh=>bB h O));refine zU (F:=λx k=>bO (F x) k) (W:=λ_ o=>o) (m:=λ_=>(l.hi.length:Int)) (g:=f) (s:=0) (K:=λy=>a ((⟨l.lo.map f,y⟩:Loop),wr (1+1))) (λ_ _ _ h=>h) (λ_ _=>rfl) O (λx d k e=>ae (q x (A x d)) e) O p ?_;rw[bc O];exact c _ (.inr (.inr ⟨J,by simp[c9]⟩)) J
 refine ae (pw (by simp[c9])) (ae (pw (by simp[c9])) (aW (λh=>bB h O) λ_=>ad.some rfl))
def me(k:Nat)(g f:az->az)(x:Part)(l:Loop):Part:=⟨x.nest.take k++c9 g l::(x.nest.drop (k+1)).map (c9 f),x.body.map (gN f)⟩
theorem zo(Q:6000<=n){body:List Stmt}{s:Nat}(P:s<=nest.length)(S:nest.length<=4)(R: ∀l∈nest.drop s,gV l)(T:body.length<=4)(X: ∀s∈body,eS s d=ab)(H: ∀x,cN x=ab->F x=aa (f x)):
  qg n ⟨nest,body⟩ (s:Int) F=aa ⟨nest.take s++(nest.drop s).map (c9 f),body.map (gN f)⟩:=by
 have A: ∀(a:List Loop),ad (bn (λc ((y,j):(List Stmt)×Int)=>
    bO (jg body y) λU=>
    bif ag (j<(body.length:Int)) then(
     bO (ax y j) λZ=>
     bO (qG n Z F) λb=>
     bO (ca y j b) λt=>
     c (t,wr (j+1))
    ) else(
     aa (⟨a,y⟩:Part)
    )
   ) n (body,0)) (λr=>r=⟨a,body.map (gN f)⟩):=λa=>
  zU (F:=λx k=>bO (qG n x F) k) (W:=λy o=>bO (jg body y) λ_=>o) (m:=λ_=>(body.length:Int)) (g:=gN f) (s:=0) (K:=λy=>aa (⟨a,y⟩:Part)) (λy o h u=>ae (pw h) u) (λ_ _=>rfl) O (λx p k v=>ae (L6 Q (X x p) H) v) O O (ad.some aX)
 unfold qg;refine ad.eq ?_
 -- the loops ahead stay: only those behind are changed
 refine ad.loop (λz:List Loop×Int=> ∃i:Nat,z.2=i/\s<=i/\i<=nest.length/\z.1=nest.take s++((nest.drop s).take (i-s)).map (c9 f)++nest.drop i) (λz=>nest.length-z.2.toNat) ?_ n _ ⟨s,rfl,O,O,aX⟩ J;rintro B ⟨x,z⟩ ⟨i,L,D,V,p⟩ E;dsimp only at L p⊢;subst L;have q:(nest.take s++((nest.drop s).take (i-s)).map (c9 f)).length=i:=by rw[ea,dJ,cZ,cZ,fM];omega
 have C:x.length=nest.length:=by rw[p,ea,q,fM];omega
 refine ae (pw C) (aW (λI=>?_) λM=>?_)
 ·obtain⟨e,w⟩: ∃e,nest[i]? =aa e:=⟨_,bp (O:i<nest.length)⟩
  have G:x[i]? =aa e:=by
   rw[p,iD O,q,kB,gY];exact w
  have N:e∈nest.drop s:=jO.2 ⟨i-s,by rw[gY,show s+(i-s)=i by omega];exact w⟩;refine ae (bl G) (ae (K3 O (R _ N) H) (ae (dU O _) ?_));rw[bc O];refine E _ ⟨i+1,J,O,O,?_⟩ J;dsimp only;rw[p,cf,nP _ _ O,q,kB,im w,zY,show i+1-s=(i-s)+1 by omega,eN,gY,show s+(i-s)=i by omega,w];simp
 have:i=nest.length:=O
 subst this;rw[p,l9 (l:=nest.drop s) (by rw[fM];omega),pA,kb];exact A _
theorem HG(c:5000<=n){l:List az}(k:l.length<=2)(d: ∀x∈l,cN x=ab)(e: ∀x,cN x=ab->km n x a v b=aa (f x)):xg n l a v b=aa (l.map f):=by unfold xg;exact ad.eq (ps (K:=λh=>aa h) (λx i=>e x (d x i)) O c (ad.some rfl))
theorem aaM(d:5000<=n)(c:gV l)(e: ∀x,cN x=ab->km n x a v b=aa (f x)):xC n l a v b=aa (c9 f l):=by unfold xC;rw[HG d c.1.1 c.1.2 e,HG d c.2.1 c.2.2 e];rfl
theorem MC(e:5000<=n){a:b0}(h:fX a d=ab)(i: ∀x,cN x=ab->km n x c v b=aa (f x)):wJ n a c v b=aa (gH f a):=by have:=lM h;unfold wJ;rw[HG e this.2.1 this.2.2 i];rfl
theorem N0{d a v:Int}{b:az}{f:az->az}(l: ∀n,5000<=n-> ∀x,cN x=ab->km n x a v b=aa (f x)): ∀(L n:Nat) (e:Expr),5000+L<=n->dp L e d=ab->so (n+1) e a v b=aa (ke f L e)
 |0,_,_,_,h=>by cases h
 |L+1,n,e,G,h=>by
  obtain⟨H,m,q⟩:=gi h;obtain⟨n,rfl⟩: ∃j,n=j+1:=⟨n-1,O⟩
  have r:e.bj.length<=2:=by have:=qM e.kind;omega
  unfold so;refine ad.eq (ad.aD (λz=>(⟨z.1,z.2⟩:az)=(if e.kind=2 then f e.index else⟨[],0⟩)) (λj c=>?_) λz o=>ad.aD (λy=>(⟨y.1,y.2⟩:b0)=(if e.kind=3 then gH f e.read else⟨[],[]⟩)) (λj c=>?_) λy p=>?_)
  ·exact aW (λi=>ae (l _ O _ (pL m i).1) (c _ (by rw[aR i]))) λi=>c _ (by rw[aQ i])
  ·exact aW (λk=>ae (MC O (ri m k).1 (l _ O)) (c _ (by rw[aR k]))) λk=>c _ (by rw[aQ k])
  obtain⟨s,w⟩:=z;obtain⟨A,B⟩:=y;dsimp only at o p⊢;refine ps (K:=λC=>aa (⟨e.kind,e.num,(⟨s,w⟩:az),(⟨A,B⟩:b0),C⟩:Expr)) (λx F=>N0 l L n x O (q x F)) O O (ad.some ?_);rw[o,p];rfl
theorem aaO(w:6000<=n){l:List Stmt}(e:l.length<=4)(c: ∀s∈l,eS s d=ab)(h: ∀n,5000<=n-> ∀x,cN x=ab->km n x a v b=aa (f x)):BB n l a v b=aa (l.map (gN f)):=by
 obtain⟨n,rfl⟩: ∃j,n=j+1:=⟨n-1,O⟩
 unfold BB;refine ad.eq ?_;refine xO (β:=Stmt) (l:=l) (n:=n+1) (F:=λi k=>bO (wJ (n+1) i.write a v b) λm=>bO (so (n+1) i.value a v b) λo=>k (⟨m,o⟩:Stmt)) (g:=gN f) (s:=0) (pre:=[]) (K:=λp=>aa p) (λx q k r=>?_) O aX O O (ad.some aX);obtain⟨e,c,_⟩:=gj (c x q);exact ae (MC O e (h _ O)) (ae (N0 h 5 n x.value O c) r)
theorem AF(c:6000<=n){x:Part}{s:Nat}(r:s+1<=x.nest.length)(w:x.nest.length<=4)(e: ∀l∈x.nest,gV l)(h:x.body.length<=4)(i: ∀s∈x.body,eS s d=ab){way:Int}(a: ∀n,5000<=n-> ∀x,cN x=ab->km n x way v b=aa (f x)):
  um n x (s:Int) way v b=aa ⟨x.nest.take (s+1)++(x.nest.drop (s+1)).map (c9 f),x.body.map (gN f)⟩:=by unfold um;rw[bc O];refine ad.eq (ae (iQ O O O) ?_);rw[show((s:Int)+1).toNat=s+1 by omega,show(0:Int).toNat=0 from rfl,pE];refine ae (x:=x.nest.take (s+1)) (c' bP) (ae (aaO c h i a) ?_);exact xO (F:=λm k=>bO (xC n m way v b) k) (g:=c9 f) (s:=s+1) (pre:=x.nest.take (s+1)) (K:=λo=>aa (⟨o,x.body.map (gN f)⟩:Part)) (λl p k q=>ae (aaM O (e l p) (a _ O)) q) O bP O O (ad.some rfl)
theorem NP(n:Nat){a:az}(h:dD 1000 a):zf n a=aa a:=by unfold zf;rw[og _ h];rfl
theorem F8(a:5000<=n){l:List az}(h:fp 1000 l):vF n l=aa l:=by unfold vF;exact ad.eq (sf (K:=λc=>aa c) (λx d=>NP n (h.2 x d)) h.1 a (ad.some rfl))
theorem NQ(c:5000<=n){a:b0}(h:fp 1000 a.bz):zg n a=aa a:=by unfold zg;rw[F8 c h];rfl
theorem MO: ∀(L n:Nat) (e:Expr),5000+L<=n->jc 1000 L e->qQ (n+1) e=aa e
 |0,_,_,_,h=>h.elim
 |L+1,n,e,m,h=>by
  obtain⟨a,c,d,i⟩:=h;obtain⟨n,rfl⟩: ∃j,n=j+1:=⟨n-1,O⟩
  unfold qQ Ks;rw[NP _ c,NQ O d];refine ad.eq (ae rfl (ae rfl (ae (x:=e.bj) ?_ (ad.some (by cases e;rfl)))));exact ad.eq (sf (f:=qQ (n+1)) (K:=λk=>aa k) (λx l=>MO L n x O (i x l)) a O (ad.some rfl))
theorem YH(a:6000<=n){s:Stmt}(h:jx 1000 s):EE n s=aa s:=by
 obtain⟨n,rfl⟩: ∃j,n=j+1:=⟨n-1,O⟩
 unfold EE;rw[NQ O h.1,MO 5 n s.value O h.2];rfl
theorem YI(e:6000<=n){x:Part}(h:gf 1000 x):EF n x=aa x:=by
 obtain⟨⟨i,d⟩,k,m⟩:=h;have o:DV n x.nest=aa x.nest:=by
  unfold DV;refine ad.eq (sf (K:=λc=>aa c) (λl a=>?_) i O (ad.some rfl));unfold Fv;rw[F8 O (d l a).1,F8 O (d l a).2];rfl
 have p:DT n x.body=aa x.body:=by
  unfold DT;exact ad.eq (sf (K:=λc=>aa c) (λl a=>YH e (m l a)) k O (ad.some rfl))
 unfold EF;rw[o,p];rfl
theorem l2(d:6000<=n)(h:dn 1000 p):lr n p=aa p:=by
 obtain⟨⟨e,i⟩,k,m⟩:=h;have o:DQ n p.aP=aa p.aP:=by
  unfold DQ;refine ad.eq (sf (K:=λa=>aa a) (λl c=>?_) e O (ad.some rfl));unfold K1;rw[og _ (i l c)];rfl
 have q:DU n p.parts=aa p.parts:=by
  unfold DU;exact ad.eq (sf (K:=λa=>aa a) (λl c=>YI d (m l c)) k O (ad.some rfl))
 unfold lr;rw[o,q];rfl
theorem xf{k:Type}{f:k->k->Option Bool}{l:List k}(o: ∀x∈l,f x x=aa ab)(y:l.length<n)(z:l.length<=1000000):
  (bif !decide ((l.length:Int)=(l.length:Int)) then(aa ak) else(bn (λa (c:Int)=>bif ag (c<(l.length:Int)) then(bO (ax l c) λp=>bO (ax l c) λq=>bO (f p q) λr=>bif !r then(aa ak) else(a (wr (c+1)))) else(aa ab)) n 0))=aa ab:=by
 refine ad.eq (fl (λh=>(h rfl).elim) λ_=>?_);refine ad.loop (λx:Int=> ∃i:Nat,x=i/\i<=l.length) (λx=>l.length-x.toNat) ?_ n 0 ⟨0,rfl,O⟩ O;rintro d x ⟨i,rfl,A⟩ s;refine aW (λw=>?_) λ_=>ad.some rfl;obtain⟨e,m⟩: ∃e,l[i]? =aa e:=⟨_,bp (O:i<l.length)⟩
 refine ae (bl m) (ae (bl m) (ae (o e (bx m)) (b8 ?_)));rw[bc O];exact s _ ⟨i+1,O,O⟩ O
theorem Oa{a:List Int}(m:a.length<n)(o:a.length<=1000000):tX n a a=aa ab:=by
 unfold tX;refine ad.eq (fl (λh=>(h rfl).elim) λ_=>?_);refine ad.loop (λx:Int=> ∃i:Nat,x=i/\i<=a.length) (λx=>a.length-x.toNat) ?_ n 0 ⟨0,rfl,O⟩ O;rintro c x ⟨i,rfl,p⟩ k;refine aW (λl=>?_) λ_=>ad.some rfl;obtain⟨e,d⟩: ∃e,a[i]? =aa e:=⟨_,bp (O:i<a.length)⟩
 refine ae (bl d) (ae (bl d) (fl (λh=>(h rfl).elim) λ_=>?_));rw[bc O];exact k _ ⟨i+1,O,O⟩ O
theorem Qf(e:5000<=n){a:az}(h:dD 1000 a):kN n a a=aa ab:=by unfold dD at h;unfold kN;refine ad.eq (ad.aD (λz=>z=ab) (λj c=>ae (Oa O O) (bX (c _ (bI rfl)))) λz d=>ad.some d)
theorem Hy(a:5000<=n){l:List az}(h:fp 1000 l):d8 n l l (λc d=>kN n c d)=aa ab:=by have:=h.1;unfold d8;exact xf (λx e=>Qf a (h.2 x e)) O O
theorem Qg(c:5000<=n){a:b0}(h:fp 1000 a.bz):zx n a a=aa ab:=by unfold zx;refine ad.eq (ad.aD (λz=>z=ab) (λj d=>?_) λz e=>ad.some e);exact aW (λ_=>ae (Hy c h) (d _ rfl)) λh=>(h rfl).elim
theorem Pv: ∀(L n:Nat) (e:Expr),5000+L<=n->jc 1000 L e->rS (n+1) e e=aa ab
 |0,_,_,_,h=>h.elim
 |L+1,n,e,m,h=>by
  obtain⟨o,a,c,d⟩:=h;obtain⟨n,rfl⟩: ∃j,n=j+1:=⟨n-1,O⟩
  unfold rS;refine ad.eq (ad.aD (λz=>z=ab) (λj i=>?_) λz k=>ad.some k);refine aW (λ_=>aW (λ_=>ae (Qf O a) (bX (ae (Qg O c) (bX (ae (x:=ab) ?_ (i _ rfl)))))) λh=>(h rfl).elim) λh=>(h rfl).elim;unfold Kx;exact xf (λx l=>Pv L n x O (d x l)) O O
theorem abf(d:6000<=n){s:Stmt}(h:jx 1000 s):Aa n s s=aa ab:=by
 obtain⟨n,rfl⟩: ∃j,n=j+1:=⟨n-1,O⟩
 unfold Aa;refine ad.eq (ad.aD (λz=>z=ab) (λj a=>?_) λz c=>ad.some c);exact ae (Qg O h.1) (bX (ae (Pv 5 n s.value O h.2) (a _ rfl)))
theorem acg(a:5000<=n)(h:k9 1000 o):ue n o o=aa ab:=by
 have:=h.1;unfold ue DX;rw[xf (λl c=>?_) O O]
 ·rfl
 unfold wv;refine ad.eq (ad.aD (λz=>z=ab) (λj d=>?_) λz e=>ad.some e);exact ae (Hy a (h.2 l c).1) (bX (ae (Hy a (h.2 l c).2) (d _ rfl)))
theorem acb(a:6000<=n){x:Part}(h:gf 1000 x):zc n x x=aa ab:=by have:=h.2.1;unfold zc;refine ad.eq (ad.aD (λz=>z=ab) (λj c=>?_) λz d=>ad.some d);refine ae (acg O h.1) (bX (ae (x:=ab) ?_ (c _ rfl)));unfold Kv;exact xf (λs e=>abf a (h.2.2 s e)) O O
theorem Tj(e:6000<=n)(h:dn 1000 p):f9 n p p=aa ab:=by
 obtain⟨⟨l,i⟩,m,k⟩:=h;unfold f9;refine ad.eq (ad.aD (λz=>z=ab) (λj a=>?_) λz c=>ad.some c);refine ae (x:=ab) ?_ (bX (ae (x:=ab) ?_ (a _ rfl)))
 ·unfold Kq;refine xf (λx d=>?_) O O;unfold zd;refine ad.eq (ad.aD (λz=>z=ab) (λj a=>?_) λz c=>ad.some c)
  have:=i x d;exact aW (λ_=>ae (Oa O O) (a _ rfl)) λh=>(h rfl).elim
 unfold Kw;exact xf (λx d=>acb e (k x d)) O O
def cO(p:Prog)(c a:Int):Bool:=bM p&&match ax p.parts c with
 |some x=>decide (0<=a/\a<(x.nest.length:Int))
 |none=>ak
theorem yn{k:Type}{l:List k}{i:Int}(h: ¬(0<=i/\i<(l.length:Int))):ax l i=none:=by
 cases a:ax l i with
 |none=>rfl
 |some x=>
  obtain⟨c,d⟩:=nE a
  have:=(bR.1 d).1;exact bB ⟨c,O⟩ h
theorem CG{l:List R}{i:Int}{x:R}(h:ax l i=aa x): ∃k:Nat,i=k/\k<l.length/\l[k]? =aa x:=by
 obtain⟨a,c⟩:=nE h
 grind
theorem rW(n:Nat)(h:p.parts.length<=1000)(a:Int):lR n p a=aa (ag (0<=a/\a<(p.parts.length:Int))):=by
 unfold lR;rw[jC,bc O]
 grind
theorem xT(r:7000<=n)(l:dn 1000 p)(a c:Int)(s:c≠ -1):kU n p a c=aa (if cO p a c=ab then(p,ab) else(⟨[],[]⟩,ak)):=by
 unfold kU;refine ad.eq (ad.aD (λz=>z= !cO p a c) (λj i=>?_) λz m=>?_)
 ·refine ae (rD r l.sm) (ad.cond (λh=>?_) λh=>?_)
  ·refine i _ ?_;unfold cO
   grind
  have q:bM p=ab:=by simpa using h
  refine ae (rW n l.2.1 a) ?_;by_cases e:0<=a/\a<(p.parts.length:Int)
  ·obtain⟨x,k,o⟩:=gT e.1 e.2;rw[bI e];refine b8 (fl (λ_=>ae (x:=cO p a c) ?_ (i _ rfl)) λh=>bB h s);unfold Kr;refine ad.eq (ad.aD (λz=>z=cO p a c) (λj i=>?_) λz m=>ad.some m);rw[rW n l.2.1 a,bI e];refine ae rfl (bX (ae k ?_))
   have:=(l.2.2 x (bx o)).1.1;rw[bc O,jC];refine ae rfl (i _ ?_);unfold cO
   grind
  rw[bJ e];refine bX (i _ ?_);unfold cO;rw[yn e,k5];rfl
 subst m;by_cases d:cO p a c=ab
 ·rw[d];have q:bM p=ab:=by unfold cO at d;rw[nS] at d;exact d.1
  obtain⟨x,k⟩: ∃x,ax p.parts a=aa x:=by
   cases k:ax p.parts a with
   |some x=>exact⟨x,rfl⟩
   |none=>unfold cO at d;rw[k,k5] at d;cases d
  exact b8 (ae (uf O q) (ae k (ad.some rfl)))
 rw[show cO p a c=ak by simpa using d];exact bX (ad.some rfl)
def hW(q:Prog):Prog×Bool:=if bM q=ab then(q,ab) else(⟨[],[]⟩,ak)
theorem r2(c:7000<=n)(d:dn 1000 p):mD n p=aa (hW p):=by
 unfold mD hW;refine ad.eq (ae (rD c d.sm) (ad.cond (λh=>ad.some ?_) λh=>?_))
 ·rw[aQ (by simpa using h)]
 have a:bM p=ab:=by simpa using h
 rw[aR a];exact ae (uf O a) (ad.some rfl)
theorem nM(k:7000<=n)(l:dn 1000 p)(a c:Int):oB n p a c=aa (cO p a c):=by
 unfold oB;refine ad.eq (ad.aD (λz=>z=cO p a c) (λj d=>?_) λz m=>ad.some m);refine ae (lp k l.sm) (ad.cond (λe=>?_) λe=>d _ (by unfold cO;rw[e];rfl));refine aW (λh=>aW (λi=>?_) λi=>?_) λh=>?_
 ·obtain⟨x,o,q⟩:=gT h i;refine aW (λr=>ae o (d _ ?_)) λr=>d _ ?_
  ·unfold cO
   grind
  unfold cO
  grind
 ·exact d _ (by unfold cO;rw[yn O,k5])
 exact d _ (by unfold cO;rw[yn O,k5])
theorem xW(e:7000<=n)(a:dn 1000 p)(k:i<p.parts.length)(l:gf 1000 y):kl n p (i:Int) 1 [y]=aa (hW ⟨p.aP,p.parts.set i y⟩):=by
 have c:=a.2.1;have d:dn 1000 ⟨p.aP,p.parts.set i y⟩:=⟨a.1,by dsimp only;rw[e6];exact c,qX a.2.2 l⟩
 unfold kl hW;refine ad.eq (ae (o6 O a) (ae (iQ O O O) ?_));rw[cf,show(0:Int).toNat=0 from rfl,pE];refine ae (x:=p.parts.take i) (c' bP) (ae (x:=p.parts.take i++[y]) (c' bP) ?_);rw[bc O];refine ae (iQ O O O) ?_;rw[cf,dW,show((i:Int)+1).toNat=i+1 by omega];refine ae (x:=p.parts.set i y) ?_ (ae (lp e d.sm) (ad.cond (λh=>ad.some ?_) λh=>?_))
 ·rw[c' bP,List.set_eq_take_append_cons_drop,aR k,fN];rfl
 ·rw[aQ (by simpa using h)]
 rw[aR (by simpa using h)];exact ae (o6 O d) (ad.some rfl)
def dY(a:az)(k:Int)(b:az):az:=⟨List.zipWith (λx y=>x+k*y) a.aT b.aT,a.const+k*b.const⟩
def hZ(k:Nat):az:=⟨[0,0,0,0].set k 1,0⟩
def eJ(k:Nat)(b x:az):az:=dY x (-(x.aT.getD k 0)) b
def fQ(m:Int)(a:az):Prop:=a.aT.length=4/\cV m a.const/\ ∀c∈a.aT,cV m c
theorem fQ.mono{m b:Int}{a:az}(h:fQ m a)(e:m<=b):fQ b a:=⟨h.1,⟨by have:=h.2.1.1;omega,by have:=h.2.1.2;omega⟩,λc d=>⟨by have:=(h.2.2 c d).1;omega,by have:=(h.2.2 c d).2;omega⟩⟩
theorem mu{l:List Int}(h:l.length=4): ∃a b c d,l=[a,b,c,d]:=by
 match l,h with
 | [a,b,c,d],_=>exact⟨a,b,c,d,rfl⟩
theorem oM{a:az}(h:cN a=ab):fQ 99 a:=by obtain⟨i,k,d⟩:=fo h;exact⟨i,k,λc e=>⟨by have:=(d c e).1;omega,by have:=(d c e).2;omega⟩⟩
theorem sH(a:k<4):fQ 6 (hZ k):=by rcases(O:k=0\/k=1\/k=2\/k=3) with rfl|rfl|rfl|rfl<;>(unfold fQ cV hZ;simp)
theorem lg{k b:Int}(a:cV 1000 k)(c:cV 1000 b):cV 1000000 (k*b):=C0 O O a c
theorem Ae{x:Int}(c:cV 1000 a)(d:cV 1000000 x):wr (a+wr x)=a+x:=by unfold cV at c d;rw[bc (n:=x) O,bc O]
theorem aeV(m:Nat)(a c d e ac k h i l n o:Int):s3 (m+6) ⟨[a,c,d,e],ac⟩ k ⟨[h,i,l,n],o⟩=
  aa ⟨[wr (a+wr (k*h)),wr (c+wr (k*i)),wr (d+wr (k*l)),wr (e+wr (k*n))],wr (ac+wr (k*o))⟩:=Y
theorem BM(y:5000<=n){a:az}(p:fQ 1000 a)(q:fQ 1000 b){k:Int}(c:cV 1000 k):s3 n a k b=aa (dY a k b):=by
 obtain⟨m,rfl⟩: ∃m,n=m+6:=⟨n-6,O⟩
 obtain⟨ac,a⟩:=a;obtain⟨z,b⟩:=b;obtain⟨h,i,d⟩:=p;obtain⟨l,o,e⟩:=q;dsimp only at h i d l o e;obtain⟨a0,aL,a2,a3,rfl⟩:=mu h;obtain⟨r,s,w,x,rfl⟩:=mu l;rw[aeV,Ae (d a0 aX) (lg c (e r aX)),Ae (d aL aX) (lg c (e s aX)),Ae (d a2 aX) (lg c (e w aX)),Ae (d a3 aX) (lg c (e x aX)),Ae i (lg c o)];rfl
def o1(a:az)(x:Int)(b:az)(y:Int):az:=⟨List.zipWith (λp q=>x*p+y*q) a.aT b.aT,x*a.const+y*b.const⟩
theorem aff(m:Nat)(a c d e ac x h i k l n y:Int):jf (m+6) ⟨[a,c,d,e],ac⟩ x ⟨[h,i,k,l],n⟩ y=
  aa ⟨[wr (wr (x*a)+wr (y*h)),wr (wr (x*c)+wr (y*i)),wr (wr (x*d)+wr (y*k)),wr (wr (x*e)+wr (y*l))],wr (wr (x*ac)+wr (y*n))⟩:=Y
theorem Af{x:Int}(c:cV 1000000 a)(d:cV 1000000 x):wr (wr a+wr x)=a+x:=by unfold cV at c d;rw[bc (n:=x) O,bc (n:=a) O,bc O]
theorem uy(A:5000<=n){a:az}(p:fQ 1000 a)(q:fQ 1000 b){x y:Int}(c:cV 1000 x)(d:cV 1000 y):jf n a x b y=aa (o1 a x b y):=by
 obtain⟨m,rfl⟩: ∃m,n=m+6:=⟨n-6,O⟩
 obtain⟨ac,a⟩:=a;obtain⟨B,b⟩:=b;obtain⟨i,k,e⟩:=p;obtain⟨l,o,h⟩:=q;dsimp only at i k e l o h;obtain⟨a0,aL,a2,a3,rfl⟩:=mu i;obtain⟨r,s,w,z,rfl⟩:=mu l;rw[aff,Af (lg c (e a0 aX)) (lg d (h r aX)),Af (lg c (e aL aX)) (lg d (h s aX)),Af (lg c (e a2 aX)) (lg d (h w aX)),Af (lg c (e a3 aX)) (lg d (h z aX)),Af (lg c k) (lg d o)];rfl
theorem H8(a b:az)(k:Int):o1 a 1 b k=dY a k b:=by
 unfold o1 dY
 grind
theorem QY(a b:az)(k:Int)(c:a.aT.length=4)(d:b.aT.length=4):(dY a k b).aT.length=4:=by
 unfold dY
 grind
def td(a:az)(k:Nat)(b:az):az:=dY ⟨a.aT.set k 0,a.const⟩ (a.aT.getD k 0) b
theorem P0{a:az}(h:fQ 1000 a)(k:Nat):fQ 1000 ⟨a.aT.set k 0,a.const⟩:=⟨by dsimp only;rw[e6];exact h.1,h.2.1,qX h.2.2 ⟨O,O⟩⟩
theorem Qx{a:az}(h:fQ 1000 a)(d:k<4):a.aT[k]? =aa (a.aT.getD k 0)/\cV 1000 (a.aT.getD k 0):=by
 have c:k<a.aT.length:=by rw[h.1];exact d
 have e:=bp c;have i:a.aT.getD k 0=a.aT[k]:=by rw[eP,e];rfl
 rw[i];exact⟨e,h.2.2 _ (gB c)⟩
theorem Gd(e:5000<=n){a:az}(c:fQ 1000 a)(h:fQ 1000 b)(d:k<4):u2 n a (k:Int) b=aa (td a k b):=by
 obtain⟨i,l⟩:=Qx c d;have m:k<a.aT.length:=by rw[c.1];exact d
 unfold u2;rw[Ol n (by have:=c.1;omega)];refine ad.eq (ae rfl (ae (bl i) (ae (dU O _) (ae (BM e (P0 c k) h l) (ad.some rfl)))))
theorem MZ(h:5000<=n){a:az}(c:fQ 1000 a)(i:fQ 1000 b)(d:k<4):A4 n a (k:Int) b=aa (td a k b):=by
 obtain⟨e,l⟩:=Qx c d;have m:k<a.aT.length:=by rw[c.1];exact d
 unfold A4;rw[og _ (by have:=c.1;omega)];refine ad.eq (ae rfl (ae (bl e) (ae (dU O _) (ae (bl e) (ae (uy h (P0 c k) i ⟨O,O⟩ l) (ad.some ?_))))));rw[H8];rfl
theorem BL(n:Nat)(a:k<4):oq n (k:Int) 1=aa (hZ k):=by rcases(O:k=0\/k=1\/k=2\/k=3) with rfl|rfl|rfl|rfl<;>rfl
theorem BI(n:Nat)(a:k<4):mN n (k:Int)=aa (hZ k):=by rcases(O:k=0\/k=1\/k=2\/k=3) with rfl|rfl|rfl|rfl<;>rfl
def oG(k:Nat)(b:az):az:=dY (hZ k) (-1) b
theorem Ic{a:az}(d:a.aT.length=4)(e:b.aT.length=4)(h:k<4)(c:b.aT.getD k 0=0):td a k (oG k b)=eJ k b a:=by
 obtain⟨a,ac⟩:=a;obtain⟨b,i⟩:=b;dsimp only at d e c;obtain⟨a0,aL,a2,a3,rfl⟩:=mu d;obtain⟨l,m,n,o,rfl⟩:=mu e;rcases(O:k=0\/k=1\/k=2\/k=3) with rfl|rfl|rfl|rfl<;>
  (simp only[List.getD_cons_zero,List.getD_cons_succ] at c;subst c;simp[td,oG,eJ,dY,hZ,Int.mul_neg,Int.neg_mul])
def eV:Prog×Bool:=(⟨[],[]⟩,ak)
def qH(p:Prog)(a c:Int)(g f:az->az):Prog×Bool:=
 match ax p.parts a with
 |some P=>match ax P.nest c with
  |some l=>hW ⟨p.aP,p.parts.set a.toNat (me c.toNat g f P l)⟩
  |none=>eV
 |none=>eV
theorem hX{b:Int}(h:cO p a b=ab):bM p=ab/\ ∃(i k:Nat) (P:Part) (l:Loop),a=i/\b=k/\p.parts[i]? =aa P/\P.nest[k]? =aa l/\i<p.parts.length/\k<P.nest.length/\d' p.aP P=ab/\k<4:=by
 unfold cO at h;rw[nS] at h;obtain⟨m,h⟩:=h;refine⟨m,?_⟩;cases d:ax p.parts a with
 |none=>rw[d] at h;cases h
 |some P=>
  rw[d] at h;obtain⟨i,rfl,o,n⟩:=CG d;obtain⟨q,r⟩:=fF h;obtain⟨l,s,e⟩:=gT q r;have c:=(dZ m).2.2.2.1 P (bx n)
  have:=(gU c).1;exact⟨i,b.toNat,P,l,rfl,O,n,e,o,O,c,O⟩
theorem CA(c:d' r P=ab)(e:P.nest[k]? =aa l)(m: ∀x,cN x=ab->dD 4 (g x))(h: ∀x,cN x=ab->dD 4 (f x)):gf 4 (me k g f P l):=by
 obtain⟨q,i⟩:=gU c;obtain⟨_,n,o,_⟩:=gx c;have w:=(bR.1 e).1;refine⟨⟨by simp only[me,ik,List.length_cons,List.length_map,k8,lN];omega,λy a=>?_⟩,by simp only[me,List.length_map];exact n.2,λs p=>?_⟩
 ·rcases eC.1 a with a|a
  ·exact((vd c).1.2 y (gO a))
  rcases ez.1 a with rfl|a
  ·exact x5 m (i l (bx e))
  obtain⟨z,d,rfl⟩:=eA.1 a;exact x5 h (i z (fq d))
 obtain⟨z,d,rfl⟩:=eA.1 p;exact CR h (o z d)
theorem ym(a:dn 1000 p)(i:Nat)(c:gf 4 y):dn 1000 ⟨p.aP,p.parts.set i y⟩:=⟨a.1,by dsimp only;rw[e6];exact a.2.1,qX a.2.2 (c.mono O)⟩
theorem x6{k:Int}(a:b.aT.length=4): ∀x,cN x=ab->dD 4 (dY x k b):=λx c=>by have:=QY x b k (fo c).1 a;unfold dD;omega
theorem C7(a:b.aT.length=4): ∀x,cN x=ab->dD 4 (eJ k b x):=λx c=>x6 a x c
theorem Ia(s:k<4)(h:fQ 6 b):fQ 1000 (oG k b):=by
 obtain⟨b,w⟩:=b;obtain⟨d,e,a⟩:=h;dsimp only at d e a;obtain⟨i,l,m,n,rfl⟩:=mu d;have o:=a i aX;have p:=a l aX;have q:=a m aX;have r:=a n aX;unfold cV at e o p q r;rcases(O:k=0\/k=1\/k=2\/k=3) with rfl|rfl|rfl|rfl<;>
  (refine⟨rfl,?_,λc x=>?_⟩<;>unfold cV<;>simp[oG,hZ,dY] at* <;>omega)
theorem aen(a:k<4)(c:fQ 6 b)(e:b.aT.getD k 0=0): ∀n,5000<=n-> ∀x,cN x=ab->km n x 1 (k:Int) (oG k b)=aa (eJ k b x):=λn h x d=>by unfold km;rw[MZ h ((oM d).mono O) (Ia a c) a,Ic (oM d).1 c.1 a e];rfl
theorem take_set{l r:List R}{x y:R}(h:l[k]? =aa x):(l.take (k+1)++r).set k y=l.take k++y::r:=by have a:=(bR.1 h).1;rw[eN,h,fN,nP _ _ bP,cZ,Nat.min_eq_left O,kB];rfl
theorem PF(C:6000<=n)(z:d' r P=ab)(m:P.nest[k]? =aa l)(o:k<4)(p:fQ 6 b)(F:b.aT.getD k 0=0):
  xB n P (k:Int) b=aa (me k (λx=>dY x 1 b) (eJ k b) P l):=by
 obtain⟨G,A⟩:=gU z;obtain⟨_,H,L,_⟩:=gx z;have Q:=(bR.1 m).1;have c:=A l (bx m);have B: ∀x,cN x=ab->jf n x 1 b 1=aa (dY x 1 b):=λx e=>by
  rw[uy O ((oM e).mono O) (p.mono O) ⟨O,O⟩ ⟨O,O⟩,H8]
 unfold xB;simp only[bl m,Option.bind_some];refine ad.eq (ae (BI n o) (ae (uy O ((sH o).mono O) (p.mono O) ⟨O,O⟩ ⟨O,O⟩) ?_));rw[H8];refine ae (AF C O G A H.2 L (aen o p F)) ?_;refine ps (n:=n) (l:=l.lo) (f:=λx=>jf n x 1 b 1) (K:=λR=>bn (λa ((d,h):(List az)×Int)=>
    bif ag (h<(l.hi.length:Int)) then(
     bO (ax l.hi h) λq=>
     bO (jf n q 1 b 1) λs=>
     bO (app d [s]) λw=>
     a (w,wr (h+1))
    ) else(
     bO (ax (P.nest.take (k+1)++(P.nest.drop (k+1)).map (c9 (eJ k b))) (k:Int)) λy=>
     bO (ca (P.nest.take (k+1)++(P.nest.drop (k+1)).map (c9 (eJ k b))) (k:Int) (⟨R,d⟩:Loop)) λi=>
     aa (⟨i,P.body.map (gN (eJ k b))⟩:Part)
    )
   ) n ([],0)) (λx e=>B x (c.1.2 x e)) (by have:=c.1.1;omega) O ?_
 refine ps (n:=n) (l:=l.hi) (f:=λx=>jf n x 1 b 1) (g:=λx=>dY x 1 b) (K:=λd=>bO (ax (P.nest.take (k+1)++(P.nest.drop (k+1)).map (c9 (eJ k b))) (k:Int)) λy=>bO (ca (P.nest.take (k+1)++(P.nest.drop (k+1)).map (c9 (eJ k b))) (k:Int) (⟨l.lo.map λx=>dY x 1 b,d⟩:Loop)) λi=>aa (⟨i,P.body.map (gN (eJ k b))⟩:Part)) (λx e=>B x (c.2.2 x e)) (by have:=c.2.1;omega) O ?_;have e:(P.nest.take (k+1)++(P.nest.drop (k+1)).map (c9 (eJ k b)))[k]? =aa l:=by
  grind
 refine ae (bl e) (ae (dU bP _) (ad.some ?_));rw[cf,take_set m];rfl
def iB(s:Int):az:=⟨[0,0,0,0],s⟩
theorem C2(h: -6<=s/\s<=6):fQ 6 (iB s):=by unfold iB fQ cV;simp;omega
theorem RH(s:Int)(a:k<4):(iB s).aT.getD k 0=0:=by rcases(O:k=0\/k=1\/k=2\/k=3) with rfl|rfl|rfl|rfl<;>rfl
def qS(p:Prog)(d a c:Int):Prog×Bool:=
 if cO p d a=ab/\(-6<=c/\c<=6) then qH p d a (λx=>dY x 1 (iB c)) (eJ a.toNat (iB c)) else eV
theorem N3(n:Nat)(s:Int):xR n s=aa (ag (-6<=s/\s<=6)):=by unfold xR;rw[jC];rfl
theorem sd{b:Int}(h:a<0):cO p b a=ak:=by
 cases c:cO p b a with
 |false=>rfl
 |true=>obtain⟨_,i,k,P,l,_,d,_⟩:=hX c;omega
theorem zl(a:p.parts[i]? =aa P)(c:P.nest[k]? =aa l)(g f:az->az):qH p (i:Int) (k:Int) g f=hW ⟨p.aP,p.parts.set i (me k g f P l)⟩:=by unfold qH;rw[bl a];dsimp only;rw[bl c];rfl
theorem ajN(r:7000<=n)(o:dn 1000 p)(a c d:Int):Fa n p a c d=aa (qS p a c d):=by
 unfold Fa qS;refine ad.eq (ae (l2 O o) (ad.aD (λz=>z= !(cO p a c&&ag (-6<=d/\d<=6))) (λj s=>?_) λz y=>?_))
 ·refine ae (nM r o a c) (ad.cond (λh=>s _ ?_) λh=>ae (zI n d 6 O) (s _ ?_))
  ·rw[show cO p a c=ak by simpa using h];rfl
  rw[show cO p a c=ab by simpa using h];rfl
 subst y;by_cases e:cO p a c=ab/\(-6<=d/\d<=6)
 ·rw[aR e,e.1,bI e.2];refine b8 ?_;obtain⟨G,i,k,P,l,rfl,rfl,w,q,A,B,m,x⟩:=hX e.1;refine ae (bl w) (ae (iq n d) (ae (PF O m q x (C2 e.2) (RH _ x)) (ae (xW r o A ((CA m q (x6 (C2 e.2).1) (C7 (C2 e.2).1)).mono O)) (ad.some ?_))));rw[zl w q];rfl
 rw[aQ e,show(cO p a c&&ag (-6<=d/\d<=6))=ak by
  cases C:cO p a c with
  |false=>rfl
  |true=>exact bJ λF=>e ⟨C,F⟩]
 exact bX (ad.some rfl)
theorem aah(c:5000<=n)(h: -6<=s/\s<=6): ∀x,cN x=ab->zp n x s=aa (dY x 1 (iB s)):=λx a=>by unfold zp;have d:qC n 1=aa ⟨[0,0,0,0],1⟩:=rfl;rw[d];refine ad.eq (ae rfl (ae (BM c ((oM a).mono O) (b:=⟨[0,0,0,0],1⟩) (by unfold fQ cV;simp) ⟨O,O⟩) (ad.some ?_)));unfold dY iB;obtain⟨a0,aL,a2,a3,e⟩:=mu (fo a).1;rw[e];simp
theorem aag(d:5000<=n)(a:k<4)(h: -6<=s/\s<=6): ∀x,cN x=ab->wo n x (k:Int) (⟨(hZ k).aT,wr (0-s)⟩:az)=aa (eJ k (iB s) x):=λx c=>by
 have e:(⟨(hZ k).aT,wr (0-s)⟩:az)=oG k (iB s):=by
  rw[bc O];rcases(O:k=0\/k=1\/k=2\/k=3) with rfl|rfl|rfl|rfl<;>(unfold hZ oG iB dY hZ;simp)
 unfold wo;rw[e,Gd d ((oM c).mono O) (Ia a (C2 h)) a,Ic (oM c).1 rfl a (RH _ a)];rfl
theorem Bu(i:7000<=n)(e:dn 1000 p)(a:Int):ad (kU n p a (-1)) (λr=>r.2=ak->r=eV):=by
 unfold kU;refine ad.aD (λz=>z=ak->bM p=ab/\(0<=a/\a<(p.parts.length:Int))) (λj c=>?_) λz k=>?_
 ·refine ae (rD i e.sm) (ad.cond (λh=>c _ λh=>by cases h) λh=>?_);refine ae (rW n e.2.1 a) (ad.cond (λh=>c _ λh=>by cases h) λd=>fl (λh=>(h rfl).elim) λ_=>c _ λ_=>⟨by simpa using h,by simpa using d⟩)
 refine ad.cond (λ_=>ad.some λ_=>rfl) λh=>?_;obtain⟨l,m,d⟩:=k h;obtain⟨x,o,q⟩:=gT m d;exact ae (uf O l) (ae o (ad.some λh=>by cases h))
theorem ais(w:7000<=n)(A:dn 1000 p)(c d a:Int):Fk n p c d a=aa (qS p c d a):=by
 unfold Fk qS;by_cases e:d= -1
 ·subst e;rw[aQ λh=>by rw[sd O] at h;cases h.1];refine ad.eq (ch (Bu w A c) λg R=>ad.cond (λ_=>ad.aD (λz=>z=ab) (λj B=>aW (λ_=>B _ rfl) λh=>bB (show(-1:Int)<0 by omega) h) λz C=>by rw[C];exact bX (ad.some rfl)) λ_=>ad.some rfl)
 refine ad.eq (ae (xT w A c d e) ?_);by_cases m:cO p c d=ab
 ·rw[aR m];refine bX (ad.aD (λz=>z= !decide (-6<=a/\a<=6)) (λj B=>?_) λz C=>?_)
  ·refine aW (λh=>?_) λ_=>ae (N3 n a) (B _ rfl);rw[sd h] at m;cases m
  subst C;by_cases q: -6<=a/\a<=6
  ·rw[aR ⟨m,q⟩,bI q];refine b8 ?_;obtain⟨t,i,k,P,l,rfl,rfl,H,r,u,W,o,K⟩:=hX m;obtain⟨R,L⟩:=gU o;obtain⟨_,X,Z,_⟩:=gx o;refine ae (bl H) (ae (bl r) (ae (K3 O (L l (bx r)) (aah O q)) (ae (dU O _) (ae (dU J _) (ae (BL n K) ?_)))));rw[bc (n:=(k:Int)+1) O];have G:=zo (n:=n) O (nest:=P.nest.set k (c9 (λx=>dY x 1 (iB a)) l)) (body:=P.body) (s:=k+1) bP bP (λy Q=>by
    rw[q5 O] at Q;exact L y (fq Q)) X.2 Z (F:=λb=>wo n b (k:Int) (⟨(hZ k).aT,wr (0-a)⟩:az)) (aag O K q)
   rw[cf,cf];refine ae G (ae (dU bP _) ?_);rw[cf,uL];have f:(⟨(P.nest.set k (c9 (λx=>dY x 1 (iB a)) l)).take (k+1)++((P.nest.set k (c9 (λx=>dY x 1 (iB a)) l)).drop (k+1)).map (c9 (eJ k (iB a))),P.body.map (gN (eJ k (iB a)))⟩:Part)=me k (λx=>dY x 1 (iB a)) (eJ k (iB a)) P l:=by
    rw[q5 O,eN,gC O,EX (cR k),fN];rfl
   rw[f];refine ae (r2 w (ym A i (CA o r (x6 rfl) (C7 rfl)))) (ad.some ?_);rw[zl H r]
  rw[aQ λh=>q h.2,bJ q];exact bX (ad.some rfl)
 rw[aQ m,aQ λh=>m h.1];exact b8 (ad.some rfl)
theorem Ts{k:Type}{l:List k}{x:k}(h:l[i]? =aa x):l.set i x=l:=by
 refine zZ (λj=>?_)
 grind
theorem ajq:dn 1000 eV.1:=⟨⟨by simp[eV],λx a=>by cases a⟩,by simp[eV],λx a=>by cases a⟩
def fs(k:Nat)(s:Int):az:=⟨[0,0,0,0].set k s,0⟩
theorem r1(k:Nat)(h: -6<=s/\s<=6):fQ 6 (fs k s):=by refine⟨by simp[fs],⟨by simp[fs],by simp[fs]⟩,qX (λc a=>?_) ⟨h.1,h.2⟩⟩;simp at a;subst a;exact⟨O,O⟩
theorem RM(s:Int)(a:k+1<4):(fs k s).aT.getD (k+1) 0=0:=by rcases(O:k=0\/k=1\/k=2) with rfl|rfl|rfl<;>rfl
def qT(p:Prog)(c a s:Int):Prog×Bool:=
 if cO p c a=ab/\cO p c (a+1)=ab/\(-6<=s/\s<=6) then qH p c (a+1) (λx=>dY x 1 (fs a.toNat s)) (eJ (a.toNat+1) (fs a.toNat s)) else eV
theorem ae4(a:k<4)(s:Int):o1 (hZ k) s ⟨[0,0,0,0],0⟩ 0=fs k s:=by rcases(O:k=0\/k=1\/k=2\/k=3) with rfl|rfl|rfl|rfl<;>simp[o1,hZ,fs]
theorem ae7(d:k<4)(s:Int){a:az}(c:a.aT.length=4):dY a s (hZ k)=dY a 1 (fs k s):=by obtain⟨a0,aL,a2,a3,e⟩:=mu c;rcases(O:k=0\/k=1\/k=2\/k=3) with rfl|rfl|rfl|rfl<;>simp[dY,hZ,fs,e]
theorem afC(a:k+1<4)(s:Int):dY (hZ (k+1)) (-s) (hZ k)=oG (k+1) (fs k s):=by rcases(O:k=0\/k=1\/k=2) with rfl|rfl|rfl<;>simp[oG,dY,hZ,fs]
theorem ajO(r:7000<=n)(o:dn 1000 p)(a c s:Int):Aw n p a c s=aa (qT p a c s):=by
 unfold Aw qT;refine ad.eq (ae (l2 O o) (ad.aD (λz=>z= !(cO p a c&&(cO p a (c+1)&&ag (-6<=s/\s<=6)))) (λj w=>?_) λz F=>?_))
 ·refine ae (nM r o a c) (ad.cond (λh=>w _ ?_) λh=>?_)
  ·rw[show cO p a c=ak by simpa using h];rfl
  have m:cO p a c=ab:=by simpa using h
  obtain⟨G,i,k,P,l,rfl,rfl,y,q,C,A,e,B⟩:=hX m;rw[bc O];refine ae (nM r o _ _) (ad.cond (λh=>w _ ?_) λh=>ae (zI n s 6 O) (w _ ?_))
  ·rw[m,show cO p (i:Int) ((k:Int)+1)=ak by simpa using h];rfl
  rw[m,show cO p (i:Int) ((k:Int)+1)=ab by simpa using h];rfl
 subst F;by_cases d:cO p a c=ab/\cO p a (c+1)=ab/\(-6<=s/\s<=6)
 ·rw[aR d,d.1,d.2.1,bI d.2.2];refine b8 ?_;obtain⟨G,i,eL,P,l,rfl,H,y,q,C,A,e,B⟩:=hX d.2.1;obtain⟨_,R,k,W,X,K,rfl,_⟩:=hX d.1;obtain rfl:eL=k+1:=O
  refine ae (BI n O) (ae (x:=⟨[0,0,0,0],0⟩) rfl (ae (uy O ((sH O).mono O) (by unfold fQ cV;simp) ⟨O,O⟩ ⟨O,O⟩) ?_));rw[ae4 O,bc O];refine ae (bl y) (ae (PF O e q B (r1 k d.2.2) (RM s B)) (ae (xW r o C ((CA e q (x6 (r1 k d.2.2).1) (C7 (r1 k d.2.2).1)).mono O)) (ad.some ?_)));show hW _=_;rw[show((k:Int)+1)=((k+1:Nat):Int) by omega,zl y q];rfl
 rw[aQ d,show(cO p a c&&(cO p a (c+1)&&ag (-6<=s/\s<=6)))=ak by
  cases m:cO p a c with
  |false=>rfl
  |true=>cases L:cO p a (c+1) with
   |false=>rfl
   |true=>exact bJ λQ=>d ⟨m,L,Q⟩]
 exact bX (ad.some rfl)
theorem abj(d:5000<=n)(a:k<4)(e: -6<=s/\s<=6): ∀x,cN x=ab->zz n x s (k:Int)=aa (dY x 1 (fs k s)):=λx c=>by unfold zz;rw[BL n a];refine ad.eq (ae rfl (ae (BM d ((oM c).mono O) ((sH a).mono O) ⟨O,O⟩) (ad.some (ae7 a s (fo c).1))))
theorem abi(e:5000<=n)(a:k+1<4)(c: -6<=s/\s<=6): ∀x,cN x=ab->m7 n x (k:Int) (oG (k+1) (fs k s))=aa (eJ (k+1) (fs k s) x):=λx d=>by unfold m7;rw[bc O,show((k:Int)+1)=((k+1:Nat):Int) by omega,Gd e ((oM d).mono O) (Ia a (r1 k c)) a,Ic (oM d).1 (r1 k c).1 a (RM s a)];rfl
theorem ait(C:7000<=n)(G:dn 1000 p)(a c s:Int):AK n p a c s=aa (qT p a c s):=by
 unfold AK qT;by_cases e:c= -1
 ·subst e;rw[aQ λh=>by rw[sd O] at h;cases h.1];refine ad.eq (ch (Bu C G a) λv W=>ad.cond (λ_=>ad.aD (λz=>z=ab) (λj w=>aW (λ_=>w _ rfl) λh=>bB (show(-1:Int)<0 by omega) h) λz H=>by rw[H];exact bX (ad.some rfl)) λ_=>ad.some rfl)
 refine ad.eq (ae (xT C G a c e) ?_);by_cases q:cO p a c=ab
 ·rw[aR q];obtain⟨X,i,k,P,D,rfl,rfl,A,Z,E,b,o,K⟩:=hX q;obtain⟨W,Q⟩:=gU o;obtain⟨_,f,g,_⟩:=gx o;have r:cO p (i:Int) ((k:Int)+1)=ag (k+1<P.nest.length):=by
   unfold cO;rw[X,bl A];exact decide_eq_decide.2 O
  refine bX (ad.aD (λz=>z= !(ag (k+1<P.nest.length)&&ag (-6<=s/\s<=6))) (λj w=>?_) λz H=>?_)
  ·refine aW (λh=>bB h O) λ_=>ae (bl A) ?_;rw[bc O];refine aW (λh=>w _ ?_) λh=>ae (N3 n s) (w _ ?_)
   ·rw[bJ (show¬k+1<P.nest.length by omega)];rfl
   rw[bI (O:k+1<P.nest.length)];rfl
  subst H;by_cases d:k+1<P.nest.length
  ·by_cases m: -6<=s/\s<=6
   ·rw[aR ⟨q,by rw[r,bI d],m⟩,bI m,bI d];refine b8 ?_;obtain⟨l,B⟩: ∃l,P.nest[k+1]? =aa l:=⟨_,bp d⟩
    rw[bc (n:=(k:Int)+1) O,bc (n:=(k:Int)+2) O,bc (n:=0-s) O,show((k:Int)+1)=((k+1:Nat):Int) by omega,show((k:Int)+2)=((k+1+1:Nat):Int) by omega,show 0-s= -s by omega];refine ae (bl A) (ae (bl B) (ae (K3 O (Q l (bx B)) (abj O K m)) (ae (dU O _) (ae (dU J _) (ae (BL n O) (ae (BL n K) (ae (BM O ((sH O).mono O) ((sH K).mono O) ⟨O,O⟩) ?_)))))));rw[afC O];have L:=zo (n:=n) O (nest:=P.nest.set (k+1) (c9 (λx=>dY x 1 (fs k s)) l)) (body:=P.body) (s:=k+1+1) bP bP (λy R=>by
     rw[q5 O] at R;exact Q y (fq R)) f.2 g (F:=λt=>m7 n t (k:Int) (oG (k+1) (fs k s))) (abi O O m)
    rw[cf,cf];refine ae L (ae (dU bP _) ?_);rw[cf,uL];have u:(⟨(P.nest.set (k+1) (c9 (λx=>dY x 1 (fs k s)) l)).take (k+1+1)++((P.nest.set (k+1) (c9 (λx=>dY x 1 (fs k s)) l)).drop (k+1+1)).map (c9 (eJ (k+1) (fs k s))),P.body.map (gN (eJ (k+1) (fs k s)))⟩:Part)=me (k+1) (λx=>dY x 1 (fs k s)) (eJ (k+1) (fs k s)) P l:=by
     rw[q5 O,eN,gC O,EX (cR _),fN];rfl
    rw[u];refine ae (r2 C (ym G i (CA o B (x6 (r1 k m).1) (C7 (r1 k m).1)))) (ad.some ?_);rw[zl A B];rfl
   rw[aQ λh=>m h.2.2,bJ m,k5];exact bX (ad.some rfl)
  rw[aQ (λh=>by rw[r,bJ d] at h;cases h.2.1),bJ d];exact bX (ad.some rfl)
 rw[aQ q,aQ λh=>q h.1];exact b8 (ad.some rfl)
theorem aeY{B:Option Bool}{b:Int}(h:b<=1048576->ad B λr=>r=ab):ad (aD (fun(e:Bool)=>bif e then(aa ab) else B) λc=>bif ag ((1048576:Int)<a) then(c ab) else(c (ag ((1048576:Int)<b)))) (λr=>r=ab):=by exact ad.aD (λz=>z=ak->b<=1048576) (λj d=>aW (λ_=>d _ λh=>by cases h) λ_=>d _ λh=>by have:=of_decide_eq_false h;omega) λz i=>ad.cond (λ_=>ad.some rfl) λk=>h (i k)
theorem aeX{a S:Option (Prog×Bool)}{REST:Prog×Bool->Prog×Bool->Option Bool}{R:Prog×Bool}(o:dn 1000 R.1)(p:a=aa R)(q:S=aa R)(s:R.2=ab->ad (REST R R) λr=>r=ab):
  ad (bO a λc=>bO S λd=>aD (fun(w:Bool)=>
    bif w then(
     aD (fun(e:Bool)=>
      aa e
     ) (λl=>
      bif(c.2==d.2) then(
       bO (f9 N c.1 d.1) λh=>
       l h
      ) else(
       l ak
      )
     )
    ) else(
     REST c d
    )
   ) (λi=>
    bif !(c.2==d.2) then(
     i ab
    ) else(
     bO (f9 N c.1 d.1) λx=>
     bif !x then(
      i ab
     ) else(
      i (!c.2)
     )
    )
   )) (λr=>r=ab):=by
 have B:N=100000:=rfl;have hs:=Tj (n:=N) O o;have y:(R.2==R.2)=ab:=by cases R.2<;>rfl
 refine ae p (ae q (ad.aD (λz=>z= !R.2) (λj m=>?_) λz k=>?_))
 ·rw[y]
  grind
 subst k;cases A:R.2 with
 |false=>exact bX (ad.aD (λz=>z=ab) (λj m=>bX (ae hs (m _ rfl))) λz k=>ad.some k)
 |true=>exact b8 (s A)
theorem lZ{k R:Type}{f g:k->R}: ∀{l:List k},(∀x∈l,f x=g x)->l.map f=l.map g
 | [],_=>rfl
 |x::l,h=>by rw[w8,w8,h x eD,lZ λy a=>h y (eo _ a)]
theorem ts(h:hW p=(q,ab)):q=p/\bM p=ab:=by
 unfold hW at h
 grind
theorem ajT{b:Int}(h:qS p c a b=(q,ab)):cO p c a=ab/\(-6<=b/\b<=6)/\qH p c a (λx=>dY x 1 (iB b)) (eJ a.toNat (iB b))=(q,ab):=by
 unfold qS at h;split at h
 ·rename_i d;exact⟨d.1,d.2,h⟩
 cases h
theorem Cf(m:Int): ∀(a b p:List Int),a.length=b.length->dx (List.zipWith (λx y=>x+m*y) a b) p=dx a p+m*dx b p
 | [],[],p,_=>by simp[dx]
 |x::a,y::b,[],_=>by simp[dx]
 |x::a,y::b,z::p,h=>by simp only[List.zipWith_cons_cons,dx];rw[Cf m a b p (by simpa using h),Int.add_mul,Int.mul_add,Int.mul_assoc];omega
theorem Cg: ∀(cs p:List Int) (k:Nat) (v:Int),k<p.length->dx cs (p.set k v)=dx cs p+cs.getD k 0*(v-p.getD k 0)
 | [],p,k,v,_=>by simp[dx]
 |c::cs,x::p,0,v,_=>by
  simp only[List.set_cons_zero,dx,List.getD_cons_zero];rw[Int.mul_sub];omega
 |c::cs,x::p,k+1,v,h=>by simp only[List.set_cons_succ,dx,List.getD_cons_succ];rw[Cg cs p k v (by simpa using h)];omega
theorem Hu: ∀(cs p:List Int) (v:Int),cs.getD p.length 0=0->dx cs (p++[v])=dx cs p
 | [],p,v,_=>by simp[dx]
 |c::cs,[],v,h=>by
  simp only[List.length_nil,List.getD_cons_zero] at h;subst h;cases cs<;>simp[dx]
 |c::cs,x::p,v,h=>by simp only[List.cons_append,dx];rw[Hu cs p v (by simpa using h)]
def jN(k:Nat)(b:az)(p:List Int):List Int:=p.set k (p.getD k 0+cT b p)
theorem adX{x:az}(h:x.aT.length=b.aT.length)(p:List Int):cT (dY x 1 b) p=cT x p+cT b p:=by
 unfold cT dY;rw[Cf 1 _ _ _ h]
 grind
theorem Qr{x:az}(h:x.aT.length=b.aT.length)(c:b.aT.getD k 0=0){p:List Int}(a:k<p.length):cT (eJ k b x) (jN k b p)=cT x p:=by
 unfold eJ cT dY jN;rw[Cf _ _ _ _ h];dsimp only;rw[Cg _ _ _ _ a,Cg _ _ _ _ a,c,show p.getD k 0+cT b p-p.getD k 0=cT b p by omega];unfold cT
 grind
def low(k:Nat)(b:az):Prop:= ∀j,k<=j->b.aT.getD j 0=0
theorem NM(a:low k b){p:List Int}(c:k<=p.length)(v:Int):cT b (p++[v])=cT b p:=by unfold cT;rw[Hu _ _ _ (a _ c)]
theorem GO{k:Type}{l:List k}{v d:k}:(l++[v]).getD l.length d=v:=by grind
theorem Bp{l:List R}{v d:R}(h:k<l.length):(l++[v]).getD k d=l.getD k d:=by grind
theorem adb(c:low k b){p:List Int}(a:k<p.length)(v:Int):jN k b (p++[v])=jN k b p++[v]:=by unfold jN;rw[NM c O,Bp a,EV _ _ a]
theorem ae9(a:low k b){p:List Int}(c:p.length=k)(v:Int):jN k b (p++[v])=p++[v+cT b p]:=by unfold jN;rw[NM a O,<-c,GO,nP _ _ (cR _),kB];rfl
theorem LN(e:Int): ∀(l:List Int) (a:Int),(l.map λx=>x+e).foldl max (a+e)=l.foldl max a+e
 | [],a=>rfl
 |x::l,a=>by simp only[gd,List.foldl_cons];rw[show max (a+e) (x+e)=max a x+e by omega,LN e l]
theorem LM(e:Int): ∀(l:List Int) (a:Int),(l.map λx=>x+e).foldl min (a+e)=l.foldl min a+e
 | [],a=>rfl
 |x::l,a=>by simp only[gd,List.foldl_cons];rw[show min (a+e) (x+e)=min a x+e by omega,LM e l]
theorem afn(e:Int){l:List Int}(h:l≠[]):iT (l.map λx=>x+e)=iT l+e:=by
 cases l with
 |nil=>exact bB rfl h
 |cons a l=>exact LN e l a
theorem afp(e:Int){l:List Int}(h:l≠[]):kW (l.map λx=>x+e)=kW l+e:=by
 cases l with
 |nil=>exact bB rfl h
 |cons a l=>exact LM e l a
theorem adr(a b e:Int):cL (a+e) (b+e)=(cL a b).map (λv=>v+e):=by
 unfold cL;rw[show b+e-(a+e)=b-a by omega,fv];refine lI (λi _=>?_)
 grind
def Kg(l:Loop):Prop:=l.lo≠[]/\l.hi≠[]
theorem Ry(a:b.aT.length=4)(c:b.aT.getD k 0=0){p:List Int}(d:k<p.length){l:List az}(e: ∀x∈l,cN x=ab):fi (l.map (eJ k b)) (jN k b p)=fi l p:=by unfold fi;rw[fv];exact lZ λx h=>Qr (by rw[(fo (e x h)).1,a]) c d
theorem Rx(a:b.aT.length=4)(p:List Int){l:List az}(c: ∀x∈l,cN x=ab):fi (l.map λx=>dY x 1 b) p=(fi l p).map (λy=>y+cT b p):=by unfold fi;rw[fv,fv];exact lZ λx d=>adX (by rw[(fo (c x d)).1,a]) p
theorem kV{k:Type}{f g:k->List R}{l:List k}(h: ∀x∈l,f x=g x):l.flatMap f=l.flatMap g:=by rw[pC,pC,lZ h]
theorem Rp{b:az}(c:b.aT.length=4){k:Nat}(a:low k b): ∀(ls:List Loop) (p:List Int),(∀l∈ls,gV l)->k<p.length->cW (ls.map (c9 (eJ k b))) (jN k b p)=(cW ls p).map (jN k b)
 | [],p,_,_=>rfl
 |l::ls,p,h,d=>by
  have cI:=h l eD;have e:cP (c9 (eJ k b) l) (jN k b p)=cP l p:=by unfold cP c9;rw[Ry c (a k (cR _)) d cI.1.2]
  have i:dd (c9 (eJ k b) l) (jN k b p)=dd l p:=by unfold dd c9;rw[Ry c (a k (cR _)) d cI.2.2]
  simp only[gd,cW];rw[e,i,js];refine kV λv _=>?_;rw[<-adb a d];exact Rp c a ls (p++[v]) (λx m=>h x (eo _ m)) bP
theorem afF(a:b.aT.length=4)(c:low k b)(d:gV l)(e:Kg l)(h: ∀l∈o,gV l){p:List Int}(i:p.length=k):
  cW (c9 (λx=>dY x 1 b) l::o.map (c9 (eJ k b))) p=(cW (l::o) p).map (jN k b):=by
 have m:cP (c9 (λx=>dY x 1 b) l) p=cP l p+cT b p:=by
  unfold cP c9;rw[Rx a p d.1.2,afn _ (by unfold fi;simpa using e.1)]
 have n:dd (c9 (λx=>dY x 1 b) l) p=dd l p+cT b p:=by
  unfold dd c9;rw[Rx a p d.2.2,afp _ (by unfold fi;simpa using e.2)]
 simp only[cW];rw[m,n,adr,pB,js];refine kV λv _=>?_;rw[<-ae9 c i];exact Rp a c o (p++[v]) h bP
theorem Rn{b:az}(c:b.aT.length=4){k:Nat}(d:low k b){l:Loop}(e:gV l)(i:Kg l){ls:List Loop}(h: ∀l∈ls,gV l): ∀(os:List Loop) (p:List Int),p.length+os.length=k->
  cW (os++c9 (λx=>dY x 1 b) l::ls.map (c9 (eJ k b))) p=(cW (os++l::ls) p).map (jN k b)
 | [],p,a=>afF c d e i h (by simpa using a)
 |o::os,p,a=>by simp only[List.cons_append,cW];rw[js];refine kV λv _=>?_;exact Rn c d e i h os (p++[v]) (by simp at a ⊢; omega)
theorem aca{x:Part}(h:d' r x=ab): ∀l∈x.nest,Kg l:=λl d=>by
 obtain⟨i,k⟩:=jO.1 d
 have:=(oZ (gx h).1).1.2 i l k;have a:=(pK this.1).1;have c:=(pK this.2).1;exact⟨λe=>by rw[e] at a;simp at a,λe=>by rw[e] at c;simp at c⟩
theorem l6{x:Part}(h:d' r x=ab):dG x=cW x.nest []:=(oZ (gx h).1).2.2.2.1
theorem aaJ(c:d' r P=ab)(a:P.nest[k]? =aa l)(h:b.aT.length=4)(i:low k b)(m:d' r (me k (λx=>dY x 1 b) (eJ k b) P l)=ab):
  dG (me k (λx=>dY x 1 b) (eJ k b) P l)=(dG P).map (jN k b):=by
 obtain⟨o,d⟩:=gU c;have p:=(bR.1 a).1;rw[l6 m,l6 c];have e:P.nest=P.nest.take k++l::P.nest.drop (k+1):=by rw[<-im a,mX]
 have:=Rn h i (d l (bx a)) (aca c l (bx a)) (ls:=P.nest.drop (k+1)) (λy n=>d y (fq n)) (P.nest.take k) [] bP;rw[<-e] at this;exact this
def sig(i k:Nat)(b:az)(x:bN):bN:=if x.part=(i:Int) then⟨x.part,x.stmt,jN k b x.bU⟩ else x
theorem S2{l:List Part}(k:l[i]? =aa P)(m:ew i C=(ew i P).map G)(n: ∀x,x.part≠(i:Int)->G x=x):I (l.set i C)=(I l).map G:=by
 unfold I;rw[js];have e:(l.set i C).zipIdx=l.zipIdx.map (λy=>if y.2=i then(C,i) else y):=by
  refine zZ (λj=>?_)
  grind
 rw[e,pB];refine kV λy o=>?_;obtain⟨j,a⟩:=jO.1 o;rw[List.getElem?_zipIdx] at a;cases d:l[j]? with
 |none=>rw[d] at a;cases a
 |some x=>
  rw[d] at a;simp at a;subst a;by_cases c:j=i
  ·subst c;rw[k] at d;cases d;simp[m]
  simp only[if_neg c];refine(l0 λz h=>n z ?_).symm;unfold ew at h;obtain⟨q,_,h⟩:=ho.1 h;obtain⟨t,_,rfl⟩:=eA.1 h;dsimp only;omega
theorem aiA{x:Part}(a:dG x=(dG P).map (jN k b))(c:x.body.length=P.body.length):ew i x=(ew i P).map (sig i k b):=by
 unfold ew;rw[a,c,pB,js];refine kV λq _=>?_;rw[fv];refine lZ λt _=>?_;show _=sig i k b _;unfold sig
 grind
theorem N8: ∀x:bN,x.part≠(i:Int)->sig i k b x=x:=λx a=>by unfold sig;rw[aQ a]
theorem Ru{f:az->az}{t q:List Int}: ∀{e:List az} (c:List Int) (a:Int),(∀x∈e,cT (f x) t=cT x q)->gM (e.map f) c t a=gM e c q a
 | [],c,a,_=>by cases c<;>rfl
 |s::e,[],a,_=>rfl
 |s::e,d::c,a,h=>by
  simp only[gd,gM];rw[h s eD];split
  ·exact Ru c _ λx i=>h x (eo _ i)
  rfl
theorem yl{f:az->az}{t q:List Int}{a:b0}(h: ∀x∈a.bz,cT (f x) t=cT x q): ∀(d:List cn) (c:Int),dS d (gH f a) t c=dS d a q c
 | [],_=>rfl
 |x::d,c=>by
  have e:gM (gH f a).bz x.b1 t 0=gM a.bz x.b1 q 0:=Ru _ _ h;have i:(gH f a).bz.length=a.bz.length:=by simp[gH]
  have k:(gH f a).array=a.array:=rfl;simp only[dS,e,i,k,yl h d]
theorem Cx{d:Int}{f:az->az}: ∀{L:Nat} {e:Expr},dp L e d=ab->dv L (ke f L e)=(dv L e).map (gH f)
 |0,_,h=>by cases h
 |L+1,e,h=>by
  obtain⟨k,l,c⟩:=gi h;show(if e.kind=3 then [if e.kind=3 then gH f e.read else⟨[],[]⟩] else [])++(e.bj.map (ke f L)).flatMap (dv L)=((if e.kind=3 then [e.read] else [])++e.bj.flatMap (dv L)).map (gH f);rw[eM,pB,js];congr 1
  ·by_cases a:e.kind=3
   ·simp only[if_pos a];rfl
   simp only[if_neg a];rfl
  exact kV λx i=>Cx (c x i)
theorem yq{d:Int}{f:az->az}{t q:List Int}(h: ∀x,cN x=ab->cT (f x) t=cT x q)(i:List cn)(m:List Int): ∀{L:Nat} {e:Expr},dp L e d=ab->er L i m (ke f L e) t=er L i m e q
 |0,_,_=>rfl
 |L+1,e,w=>by
  obtain⟨G,s,n⟩:=gi w;have y:(ke f (L+1) e).kind=e.kind:=rfl;have z:(ke f (L+1) e).num=e.num:=rfl;have A:(ke f (L+1) e).bj=e.bj.map (ke f L):=rfl;unfold er;rw[y,z,A];by_cases p:e.kind=1
  ·rw[aR p,aR p]
  rw[aQ p,aQ p];by_cases k:e.kind=2
  ·have B:(ke f (L+1) e).index=f e.index:=by show(if e.kind=2 then f e.index else _)=_;rw[aR k]
   rw[aR k,aR k,B,h _ (pL s k).1]
  rw[aQ k,aQ k];by_cases l:e.kind=3
  ·have C:(ke f (L+1) e).read=gH f e.read:=by show(if e.kind=3 then gH f e.read else _)=_;rw[aR l]
   rw[aR l,aR l,C,yl λx F=>h x ((lM (ri s l).1).2.2 x F)]
  rw[aQ l,aQ l];obtain⟨kind,num,index,read,o⟩:=e;dsimp only at n⊢
  match o,n with
  | [],_=>rfl
  | [a],_=>rfl
  | [a,c],n=>
   simp only[gd,List.map_nil];rw[yq h i m (n a aX),yq h i m (n c aX)]
  |a::c::e::r,_=>rfl
theorem MQ(G:bM p=ab)(A:p.parts[i]? =aa P)(H:k<P.nest.length)(K:b.aT.length=4)(L:b.aT.getD k 0=0)(Q:q=⟨p.aP,p.parts.set i (me k g (eJ k b) P l)⟩)(R:da p x):
  ∃s n d,ep p x=aa s/\ep q (sig i k b x)=aa n/\eS s d=ab/\
   (∀a,fX a d=ab->dS q.aP (if x.part=(i:Int) then gH (eJ k b) a else a) (sig i k b x).bU 0=dS p.aP a x.bU 0)/\
   (n.write=if x.part=(i:Int) then gH (eJ k b) s.write else s.write)/\
   (dv 5 n.value=(dv 5 s.value).map λa=>if x.part=(i:Int) then gH (eJ k b) a else a)/\
   ∀m,er 5 q.aP m n.value (sig i k b x).bU=er 5 p.aP m s.value x.bU:=by
 obtain⟨B,Z,f,s,d,W,j,C,t,r,o,X,u⟩:=ov G R;have hi:=(bR.1 A).1;subst Q;by_cases c:x.part=(i:Int)
 ·obtain rfl:B=i:=O
  rw[A] at C;cases C;have w:k<x.bU.length:=by rw[X.1];exact H
  have h: ∀y,cN y=ab->cT (eJ k b y) (jN k b x.bU)=cT y x.bU:=λy z=>Qr (by rw[(fo z).1,K]) L w;have e:sig B k b x=⟨x.part,x.stmt,jN k b x.bU⟩:=by unfold sig;rw[aR c]
  refine⟨s,gN (eJ k b) s,d,r,?_,o,λa F=>?_,?_,?_,λm=>?_⟩
  ·rw[e];unfold ep;dsimp only;rw[W,cf,gC hi];show((P.body.map (gN (eJ k b)))[x.stmt.toNat]?)=_
   grind
  ·rw[aR c,e];exact yl (λy z=>h y ((lM F).2.2 y z)) _ _
  ·rw[aR c];rfl
  ·simp only[if_pos c];exact Cx (gj o).2.1
  rw[e];exact yq h _ m (gj o).2.1
 have e:sig i k b x=x:=N8 x c;refine⟨s,s,d,r,?_,o,λa F=>?_,?_,?_,λm=>?_⟩
 ·rw[e,<-r];unfold ep
  grind
 ·rw[aQ c,e]
 ·rw[aQ c]
 ·simp only[if_neg c,List.map_id']
 rw[e]
theorem ajm(n:bM p=ab)(c:p.parts[i]? =aa P)(B:P.nest[k]? =aa l)(o:b.aT.length=4)(r:low k b)(h:q=⟨p.aP,p.parts.set i (me k (λx=>dY x 1 b) (eJ k b) P l)⟩)(W:bM q=ab):
  I q.parts=(I p.parts).map (sig i k b)/\(∀x∈I p.parts,rc q (sig i k b x)=rc p x/\c3 q (sig i k b x)=c3 p x)/\ ∀m,c4 q m (I q.parts)=c4 p m (I p.parts):=by
 have hi:=(bR.1 c).1;have C:=(bR.1 B).1;have w:=(dZ n).2.2.2.1 P (bx c);have e:d' p.aP (me k (λx=>dY x 1 b) (eJ k b) P l)=ab:=by
  have:=(dZ W).2.2.2.1;subst h;exact this _ (bx (gC hi))
 have F:I q.parts=(I p.parts).map (sig i k b):=by
  rw[h];exact S2 c (aiA (aaJ w B o r e) (by simp[me])) N8
 refine⟨F,λx y=>?_,λm=>?_⟩
 ·obtain⟨s,X,d,G,H,z,A,K,L,Z⟩:=MQ n c C (g:=λx=>dY x 1 b) o (r k (cR _)) h (fc y);obtain⟨Q,_,R,_⟩:=gj z;unfold rc c3;rw[G,H];dsimp only;rw[K,L,fv,A _ Q];exact⟨lZ λa f=>A a (R a f),rfl⟩
 unfold c4;rw[F,List.foldl_map];refine wH λx y m=>?_;obtain⟨s,X,d,G,H,z,A,K,L,Z⟩:=MQ n c C (g:=λx=>dY x 1 b) o (r k (cR _)) h (fc y);obtain⟨Q,_,R,_⟩:=gj z;unfold eI
 grind
theorem ajj(s:Int)(k:Nat):low k (iB s):=λj _=>by
 unfold iB;rcases(O:j=0\/j=1\/j=2\/j=3\/4<=j) with rfl|rfl|rfl|rfl|h
 ·rfl
 ·rfl
 ·rfl
 ·rfl
 rw[eP,q' (by simpa using h)];rfl
theorem aji(s:Int)(a:k+1<4):low (k+1) (fs k s):=λj c=>by
 unfold fs;rw[eP,jr O];rcases(O:j=0\/j=1\/j=2\/j=3\/4<=j) with rfl|rfl|rfl|rfl|h
 ·rfl
 ·rfl
 ·rfl
 ·rfl
 rw[q' (by simpa using h)];rfl
theorem ajU{b:Int}(h:qT p b a s=(q,ab)):cO p b a=ab/\cO p b (a+1)=ab/\(-6<=s/\s<=6)/\qH p b (a+1) (λx=>dY x 1 (fs a.toNat s)) (eJ (a.toNat+1) (fs a.toNat s))=(q,ab):=by
 unfold qT at h;split at h
 ·rename_i c;exact⟨c.1,c.2.1,c.2.2,h⟩
 cases h
def kI(n:Int):Expr:=⟨1,n,⟨[],0⟩,⟨[],[]⟩,[]⟩
def gS(e:Expr)(n:Int):Bool:=ag (e.kind=1)&&ag (e.num=n)
def fO(k x y:Int):Int:=if k=5 then x-y else if k=6 then x*y else x+y
def iy(e:Expr):Expr:=
 if e.kind=2/\e8 e.index.aT=0/\0<=e.index.const then kI e.index.const
 else match e.bj with
  | [a,b]=>
   if a.kind=1/\b.kind=1 then(if 0<=fO e.kind a.num b.num/\fO e.kind a.num b.num<=99 then kI (fO e.kind a.num b.num) else e)
   else if(¬e.kind=6/\gS b 0=ab)\/(e.kind=6/\gS b 1=ab) then a
   else if(e.kind=4/\gS a 0=ab)\/(e.kind=6/\gS a 1=ab) then b
   else if e.kind=6/\(gS a 0=ab\/gS b 0=ab) then kI 0
   else e
  |_=>e
def j5(e:Expr)(a:List Expr):Expr:=⟨e.kind,e.num,e.index,e.read,a⟩
def fI:Nat->Expr->Expr
 |0,e=>e
 |L+1,e=>iy (j5 e (e.bj.map (fI L)))
theorem O9{d:Int}: ∀{L:Nat} {e:Expr},dp L e d=ab->dp (L+1) e d=ab
 |0,_,h=>by cases h
 |L+1,e,h=>by obtain⟨c,i,l⟩:=gi h;show(ag (fJ e.kind=e.bj.length)&&(eX e d&&e.bj.all λk=>dp (L+1) k d))=ab;rw[bI c,i,gp,gp];exact gP.2 λk a=>O9 (l k a)
theorem Ew(a:fJ e.kind=e.bj.length)(c:eX e d=ab)(h: ∀k∈e.bj,dp L k d=ab):dp (L+1) e d=ab:=by
 show(ag (fJ e.kind=e.bj.length)&&(eX e d&&e.bj.all λk=>dp L k d))=ab
 grind
theorem Q'{d:Int}: ∀{L:Nat} {e:Expr},dp L e d=ab->dM (L+1) e=dM L e
 |0,_,h=>by cases h
 |L+1,e,h=>by obtain⟨i,l,c⟩:=gi h;show 1+(e.bj.map (dM (L+1))).sum=1+(e.bj.map (dM L)).sum;rw[show e.bj.map (dM (L+1))=e.bj.map (dM L) from lI λk a=>Q' (c k a)]
theorem OO{d:Int}: ∀{L:Nat} {e:Expr},dp L e d=ab->dv (L+1) e=dv L e
 |0,_,h=>by cases h
 |L+1,e,h=>by obtain⟨i,l,c⟩:=gi h;show(if e.kind=3 then [e.read] else [])++e.bj.flatMap (dv (L+1))=(if e.kind=3 then [e.read] else [])++e.bj.flatMap (dv L);rw[pC,pC,show e.bj.map (dv (L+1))=e.bj.map (dv L) from lI λk a=>OO (c k a)]
theorem CQ{d:Int}(i:List cn)(m q:List Int): ∀{L:Nat} {e:Expr},dp L e d=ab->er (L+1) i m e q=er L i m e q
 |0,_,h=>by cases h
 |L+1,e,h=>by
  obtain⟨n,o,k⟩:=gi h;obtain⟨kind,num,index,read,l⟩:=e;dsimp only at k;unfold er;dsimp only
  match l,k with
  | [],_=>rfl
  | [a],_=>rfl
  | [a,b],k=>simp only[CQ i m q (k a aX),CQ i m q (k b aX)]
  |a::b::c::r,_=>rfl
theorem HL(l:eX e d=ab):iy e=e\/(∃n,iy e=kI n/\0<=n/\n<=99)\/ ∃k∈e.bj,iy e=k:=by
 obtain⟨kind,num,index,read,i⟩:=e;unfold iy;dsimp only;split
 ·rename_i h
  have:=(fo (pL l h.1).1).2.1;exact .inr (.inl ⟨_,rfl,h.2.2,this.2⟩)
 match i with
 | []=>exact .inl rfl
 | [a]=>exact .inl rfl
 | [a,b]=>
  dsimp only;split
  ·split
   ·rename_i h;exact .inr (.inl ⟨_,rfl,h⟩)
   exact .inl rfl
  split
  ·exact .inr (.inr ⟨a,aX,rfl⟩)
  split
  ·exact .inr (.inr ⟨b,aX,rfl⟩)
  split
  ·exact .inr (.inl ⟨0,rfl,O,O⟩)
  exact .inl rfl
 |a::b::c::r=>exact .inl rfl
theorem Z6(L:Nat){n:Int}(h:0<=n/\n<=99)(d:Int):dp (L+1) (kI n) d=ab:=by
 refine Ew (by simp[kI,fJ]) ?_ λk a=>by cases a
 unfold eX kI jL k4;simp;omega
theorem GR(h:eX e d=ab)(a:List Expr):eX (j5 e a) d=ab:=h
theorem qe{d:Int}: ∀{L:Nat} {e:Expr},dp L e d=ab->dp L (fI L e) d=ab
 |0,_,h=>by cases h
 |L+1,e,h=>by
  obtain⟨o,l,m⟩:=gi h;have p:dp (L+1) (j5 e (e.bj.map (fI L))) d=ab:=Ew (by simp only[j5,List.length_map];exact o) l (λk a=>by
   obtain⟨y,i,rfl⟩:=eA.1 a;exact qe (m y i))
  show dp (L+1) (iy (j5 e (e.bj.map (fI L)))) d=ab;rcases HL (GR l (e.bj.map (fI L))) with c|⟨n,c,q⟩|⟨k,a,c⟩
  ·rw[c];exact p
  ·rw[c];exact Z6 L q d
  rw[c];obtain⟨y,i,rfl⟩:=eA.1 a;exact O9 (qe (m y i))
theorem PX{k:Type}(f:k->Int)(c: ∀x,0<=f x): ∀{l:List k} {x:k},x∈l->f x<=(l.map f).sum
 |y::l,x,h=>by
  have d: ∀l:List k,0<=(l.map f).sum:=λl=>by
   induction l with
   |nil=>simp
   |cons a l e=>simp only[gd,List.sum_cons];have:=c a;omega
  simp only[gd,List.sum_cons];rcases ez.1 h with rfl|h
  ·have:=d l;omega
  have:=PX f c h;have:=c y;omega
theorem O6{k:Type}(f g:k->Int): ∀{l:List k},(∀x∈l,f x<=g x)->(l.map f).sum<=(l.map g).sum
 | [],_=>gq _
 |x::l,h=>by
  simp only[gd,List.sum_cons]
  have:=h x eD
  have:=O6 f g λy a=>h y (eo _ a);omega
theorem R4{d:Int}: ∀{L:Nat} {e:Expr},dp L e d=ab->dM L (fI L e)<=dM L e
 |0,_,h=>by cases h
 |L+1,e,h=>by
  obtain⟨q,o,i⟩:=gi h;have m:dM (L+1) (j5 e (e.bj.map (fI L)))<=dM (L+1) e:=by
   show 1+((e.bj.map (fI L)).map (dM L)).sum<=1+(e.bj.map (dM L)).sum;rw[fv]
   have:=O6 (dM L ∘ fI L) (dM L) (l:=e.bj) λk a=>R4 (i k a);omega
  show dM (L+1) (iy (j5 e (e.bj.map (fI L))))<=dM (L+1) e;rcases HL (GR o (e.bj.map (fI L))) with c|⟨n,c,r⟩|⟨k,a,c⟩
  ·rw[c];exact m
  ·rw[c];exact sC (L+1) e
  rw[c];refine Int.le_trans ?_ m;obtain⟨y,p,rfl⟩:=eA.1 a;rw[Q' (qe (i y p))];have s:dM L (fI L y)<=((e.bj.map (fI L)).map (dM L)).sum:=PX (dM L) (λx=>by have:=sC L x;omega) a;show _<=1+((e.bj.map (fI L)).map (dM L)).sum;omega
theorem R5{d:Int}: ∀{L:Nat} {e:Expr},dp L e d=ab-> ∀a∈dv L (fI L e),a∈dv L e
 |0,_,h=>by cases h
 |L+1,e,h=>by
  obtain⟨w,s,p⟩:=gi h;have q: ∀a∈dv (L+1) (j5 e (e.bj.map (fI L))),a∈dv (L+1) e:=λa c=>by
   have c:a∈(if e.kind=3 then [e.read] else [])++(e.bj.map (fI L)).flatMap (dv L):=c;show a∈(if e.kind=3 then [e.read] else [])++e.bj.flatMap (dv L);rcases eC.1 c with c|c
   ·exact ka _ c
   refine jq _ ?_;obtain⟨y,m,o⟩:=ho.1 c;obtain⟨z,r,rfl⟩:=eA.1 m;exact ho.2 ⟨z,r,R5 (p z r) a o⟩
  intro a c;have c:a∈dv (L+1) (iy (j5 e (e.bj.map (fI L)))):=c;rcases HL (GR s (e.bj.map (fI L))) with i|⟨n,i,x⟩|⟨k,l,i⟩
  ·rw[i] at c;exact q a c
  ·rw[i] at c;simp[dv,kI] at c
  rw[i] at c;obtain⟨y,m,rfl⟩:=eA.1 l;rw[OO (qe (p y m))] at c;refine q a ?_;show a∈(if e.kind=3 then [e.read] else [])++(e.bj.map (fI L)).flatMap (dv L);exact jq _ (ho.2 ⟨_,l,c⟩)
theorem yr: ∀{cs:List Int},e8 cs=0-> ∀p,dx cs p=0
 | [],_,_=>by simp[dx]
 |c::cs,h,[]=>by simp[dx]
 |c::cs,h,x::p=>by
  have a:c=0:=tZ (l:=c::cs) (i:=0) rfl O;have d:e8 cs=0:=by
   cases e:e8 cs with
   |zero=>rfl
   |succ k=>unfold e8 at h;rw[e] at h;simp at h
  simp only[dx];rw[a,yr d];simp
theorem HS(L:Nat)(a:List cn)(m q:List Int)(n:Int):er (L+1) a m (kI n) q=n:=by simp[er,kI]
theorem uW{q:List Int}{a:Expr}{n:Int}(h:gS a n=ab):er (L+1) r m a q=n:=by
 unfold gS at h;rw[nS,decide_eq_true_eq,decide_eq_true_eq] at h;unfold er
 grind
theorem NA{q:List Int}{a:Expr}(h:a.kind=1):er (L+1) r m a q=a.num:=by
 unfold er
 grind
theorem N9(h:dp L e d=ab): ∃K,L=K+1:=by
 cases L with
 |zero=>cases h
 |succ K=>exact⟨K,rfl⟩
theorem acf{w:List cn}(p:fD w m){q:List Int}(h:dp (L+1) e d=ab):er (L+1) w m (iy e) q=er (L+1) w m e q:=by
 obtain⟨k,A,l⟩:=gi h;have B:=vc p (q:=q) h;obtain⟨kind,num,index,read,n⟩:=e;unfold iy;dsimp only at k l⊢;split
 ·rename_i y;have hi:=(fo (pL A y.1).1).2.1;dsimp only at hi;have C:index.const<=99:=hi.2;rw[HS];obtain⟨rfl,F,H⟩:=y;simp only[er];unfold cT;rw[yr F];simp;omega
 match n,l,k with
 | [],_,_=>rfl
 | [a],_,_=>rfl
 |a::b::c::r,_,_=>rfl
 | [a,b],l,k=>
  have s:=l a aX;have bb:=l b aX;obtain⟨K,rfl⟩:=N9 s;have Q:=vc p (q:=q) s;have hR:=vc p (q:=q) bb;have x:kind=4\/kind=5\/kind=6:=by
   unfold fJ at k;split at k
   ·simp at k
   split at k
   ·assumption
   simp at k
  have o:er (K+1+1) w m ⟨kind,num,index,read,[a,b]⟩ q=fO kind (er (K+1) w m a q) (er (K+1) w m b q)%1000:=by
   simp only[er,fO];rcases x with rfl|rfl|rfl<;>simp
  dsimp only;split
  ·rename_i z;split
   ·rename_i i;rw[HS,o,NA z.1,NA z.2];omega
   rfl
  split
  ·rename_i i;rw[CQ w m q s,o];rcases i with ⟨G,i⟩|⟨rfl,i⟩
   ·rw[uW i];unfold fO;rw[aQ G];split<;>omega
   rw[uW i];unfold fO;simp;omega
  split
  ·rename_i i;rw[CQ w m q bb,o];rcases i with ⟨rfl,i⟩|⟨rfl,i⟩
   ·rw[uW i];unfold fO;simp;omega
   rw[uW i];unfold fO;simp;omega
  split
  ·rename_i i;rw[HS,o];obtain⟨rfl,i|i⟩:=i
   ·rw[uW i];unfold fO;simp
   rw[uW i];unfold fO;simp
  rfl
theorem Jj{w:List cn}{m:List Int}(n:fD w m){d:Int}{q:List Int}: ∀{L:Nat} {e:Expr},dp L e d=ab->er L w m (fI L e) q=er L w m e q
 |0,_,h=>by cases h
 |L+1,e,h=>by
  obtain⟨p,s,i⟩:=gi h;have x:dp (L+1) (j5 e (e.bj.map (fI L))) d=ab:=Ew (by simp only[j5,List.length_map];exact p) s (λk o=>by
   obtain⟨y,z,rfl⟩:=eA.1 o;exact qe (i y z))
  show er (L+1) w m (iy (j5 e (e.bj.map (fI L)))) q=_;rw[acf n x];obtain⟨kind,num,index,read,l⟩:=e;dsimp only at i;unfold j5 er;dsimp only
  match l,i with
  | [],_=>rfl
  | [a],_=>rfl
  | [a,b],i=>
   simp only[gd,List.map_nil];rw[Jj n (i a aX),Jj n (i b aX)]
  |a::b::c::r,_=>rfl
theorem Zw(n:Nat)(e:Expr)(k:Int):jF n e k=aa (gS e k):=by unfold jF gS;cases ag (e.kind=1)<;>rfl
theorem YU(n:Nat)(e:Expr)(k:Int):qY n e k=aa (gS e k):=by unfold qY gS;cases ag (e.kind=1)<;>rfl
def Df(a:Expr):Prop:=a.kind=1->0<=a.num/\a.num<=99
theorem IP(h:dp L e d=ab):Df e:=λc=>by obtain⟨K,rfl⟩:=N9 h;obtain⟨_,a,_⟩:=gi h;unfold eX at a;rw[aQ O,aQ O,aR c] at a;simp only[b9,decide_eq_true_eq] at a;exact a.1
theorem Rr{b:Int}(d:0<=a/\a<=99)(c:0<=b/\b<=99):0<=a*b/\a*b<=9801:=by
 refine⟨mV d.1 c.1,?_⟩
 have:=q7 d.2 c.2 c.1 (by omega:(0:Int)<=99);omega
theorem aeU(n:Nat)(R:c=4\/c=5\/c=6){a b:Expr}(W:Df a)(X:Df b):
  aD (fun(s:Bool)=>
      bif s then(
       aD (fun(q:Int)=>
        bO (fG n q 0 99) λd=>
        bif d then(
         bO (oV n q) λe=>
         aa e
        ) else(
         aa (⟨c,0,(⟨[],0⟩:az),(⟨[],[]⟩:b0),[a,b]⟩:Expr)
        )
       ) (λl=>
        bif ag (c=5) then(
         l (wr (a.num-b.num))
        ) else(
         bif ag (c=6) then(
          l (wr (a.num*b.num))
         ) else(
          l (wr (a.num+b.num))
         )
        )
       )
      ) else(
       aD (fun(w:Bool)=>
        bif w then(
         aa a
        ) else(
         aD (fun(x:Bool)=>
          bif x then(
           aa b
          ) else(
           aD (fun(y:Bool)=>
            bif y then(
             bO (oV n 0) λA=>
             aa A
            ) else(
             aa (⟨c,0,(⟨[],0⟩:az),(⟨[],[]⟩:b0),[a,b]⟩:Expr)
            )
           ) (λm=>
            bif ag (c=6) then(
             bO (jF n a 0) λB=>
             bif B then(
              m ab
             ) else(
              bO (jF n b 0) λC=>
              m C
             )
            ) else(
             m ak
            )
           )
          )
         ) (λi=>
          bif ag (c=4) then(
           bO (jF n a 0) λF=>
           bif F then(
            i ab
           ) else(
            bif ag (c=6) then(
             bO (jF n a 1) λG=>
             i G
            ) else(
             i ak
            )
           )
          ) else(
           bif ag (c=6) then(
            bO (jF n a 1) λH=>
            i H
           ) else(
            i ak
           )
          )
         )
        )
       ) (λk=>
        bif !(ag (c=6)) then(
         bO (jF n b 0) λK=>
         bif K then(
          k ab
         ) else(
          bif ag (c=6) then(
           bO (jF n b 1) λL=>
           k L
          ) else(
           k ak
          )
         )
        ) else(
         bif ag (c=6) then(
          bO (jF n b 1) λQ=>
          k Q
         ) else(
          k ak
         )
        )
       )
      )
     ) (λr=>
      bif ag (a.kind=1) then(
       r (ag (b.kind=1))
      ) else(
       r ak
      )
     )=aa (iy ⟨c,0,⟨[],0⟩,⟨[],[]⟩,[a,b]⟩):=by
 have Z: ¬(c=2/\e8 ([]:List Int)=0/\(0:Int)<=0):=λh=>O
 unfold iy;dsimp only;rw[aQ Z];simp only[Zw,Option.bind_some,aD];by_cases o:a.kind=1/\b.kind=1
 ·have g:=W o.1;have j:=X o.2;have E:=Rr g j;rw[aR o,bI o.1,bI o.2];simp only[cond_true];have t:(bif ag (c=5) then(bO (fG n (wr (a.num-b.num)) 0 99) λd=>bif d then(bO (oV n (wr (a.num-b.num))) λe=>aa e) else(aa (⟨c,0,⟨[],0⟩,⟨[],[]⟩,[a,b]⟩:Expr)))
    else bif ag (c=6) then(bO (fG n (wr (a.num*b.num)) 0 99) λd=>bif d then(bO (oV n (wr (a.num*b.num))) λe=>aa e) else(aa (⟨c,0,⟨[],0⟩,⟨[],[]⟩,[a,b]⟩:Expr)))
    else(bO (fG n (wr (a.num+b.num)) 0 99) λd=>bif d then(bO (oV n (wr (a.num+b.num))) λe=>aa e) else(aa (⟨c,0,⟨[],0⟩,⟨[],[]⟩,[a,b]⟩:Expr))))
    =bO (fG n (fO c a.num b.num) 0 99) λd=>bif d then(bO (oV n (fO c a.num b.num)) λe=>aa e) else(aa (⟨c,0,⟨[],0⟩,⟨[],[]⟩,[a,b]⟩:Expr)):=by
   rw[bc (n:=a.num-b.num) O,bc (n:=a.num*b.num) O,bc (n:=a.num+b.num) O];unfold fO;rcases R with rfl|rfl|rfl<;>rfl
  refine t.trans ?_;rw[jC,Option.bind_some];by_cases p:0<=fO c a.num b.num/\fO c a.num b.num<=99
  ·rw[aR p,bI p];rfl
  rw[aQ p,bJ p];rfl
 rw[aQ o];have I:(bif ag (a.kind=1) then ag (b.kind=1) else ak)=ak:=by
  cases u:ag (a.kind=1) with
  |false=>rfl
  |true=>
   have: ¬b.kind=1:=λh=>o ⟨fF u,h⟩;rw[bJ this];rfl
 have p: ∀{f:Bool->Option Expr},(bif ag (a.kind=1) then f (ag (b.kind=1)) else f ak)=f ak:=fun {f}=>by
  grind
 refine(p (f:=λz=>bif z then _ else _)).trans ?_;generalize gS a 0=a0;generalize gS a 1=aL;generalize gS b 0=v;generalize gS b 1=D;rcases R with rfl|rfl|rfl<;>cases a0<;>cases aL<;>cases v<;>cases D<;>rfl
theorem aa0(n:Nat)(k:Int):sV n k=aa (ag (4<=k/\k<=6)):=by unfold sV;rw[jC];rfl
theorem Hz(h:fJ e.kind=e.bj.length):((e.kind=1\/e.kind=2\/e.kind=3)/\e.bj=[])\/((e.kind=4\/e.kind=5\/e.kind=6)/\ ∃a b,e.bj=[a,b]):=by
 unfold fJ at h;split at h
 ·rename_i d;exact .inl ⟨d,oK O⟩
 split at h
 ·rename_i d;refine .inr ⟨d,?_⟩
  match i:e.bj,h with
  | [a,b],_=>exact⟨a,b,rfl⟩
  | [],h=>simp at h
  | [a],h=>simp at h
  |a::b::c::r,h=>simp at h;omega
 omega
theorem afk(a:eX e d=ab)(h:e.kind=4\/e.kind=5\/e.kind=6):e.num=0/\e.index=⟨[],0⟩/\e.read=⟨[],[]⟩:=by have c:=yj a O O;unfold eX at a;rw[aQ O,aQ O,aQ O] at a;simp only[b9,decide_eq_true_eq] at a;exact⟨a.1,uz c.1,uJ c.2⟩
theorem CK(a:eX e d=ab):kf e.index/\ll e.read.bz:=by
 by_cases h:e.kind=2
 ·have:=pL a h;refine⟨by have:=(fo this.1).1;unfold kf;omega,?_⟩;rw[uJ this.2];exact⟨aX,λx c=>by cases c⟩
 by_cases i:e.kind=3
 ·have:=ri a i;have k:=lM this.1;refine⟨?_,Qh k.2.1 k.2.2⟩;rw[uz this.2];unfold kf;simp
 have:=yj a h i;refine⟨?_,?_⟩
 ·rw[uz this.1];unfold kf;simp
 rw[uJ this.2];exact⟨aX,λx c=>by cases c⟩
def nK(e:Expr):Bool:=ag (e.kind=2)&&(ag (e8 e.index.aT=0)&&ag (0<=e.index.const))
theorem Nt(e:Expr):nK e=ab↔e.kind=2/\e8 e.index.aT=0/\0<=e.index.const:=by unfold nK;simp
theorem MP(h:nK e=ab):iy e=kI e.index.const:=by unfold iy;rw[aR ((Nt e).1 h)]
theorem NR(h:nK e=ak)(a:e.bj=[]):iy e=e:=by unfold iy;rw[aQ (λc=>by rw[(Nt e).2 c] at h;cases h),a]
theorem J3{d:Int}: ∀(L n:Nat) (e:Expr),6000+L<=n->dp L e d=ab->rT (n+1) e=aa (fI L e)
 |0,_,_,_,h=>by cases h
 |L+1,n,e,R,h=>by
  obtain⟨r,s,w⟩:=gi h;obtain⟨n,rfl⟩: ∃j,n=j+1:=⟨n-1,O⟩
  unfold rT;refine ad.eq (ad.aD (λz=>z=nK e) (λj m=>?_) λz B=>?_)
  ·refine aW (λo=>ae (AG O (CK s).1) (aW (λC=>m _ ?_) λC=>m _ ?_)) λo=>m _ ?_
   ·unfold nK;rw[bI o,bI (O:e8 e.index.aT=0)];rfl
   ·unfold nK;rw[bJ (show¬e8 e.index.aT=0 by omega),Bool.false_and,k5]
   unfold nK;rw[bJ o];rfl
  subst B;have p:fI (L+1) e=iy (j5 e (e.bj.map (fI L))):=rfl;refine ad.cond (λq=>?_) λq=>?_
  ·refine ae (x:=kI e.index.const) rfl (ad.some ?_);rw[p];exact(MP (e:=j5 e (e.bj.map (fI L))) q).symm
  refine ae (aa0 _ _) (fl (λl=>ad.some ?_) λl=>?_)
  ·rcases Hz r with ⟨_,k⟩|⟨i,_⟩
   ·rw[p,k]
    have:j5 e []=e:=by cases e;cases k;rfl
    show e=iy (j5 e []);rw[this];exact(NR q k).symm
   exact bB O l
  rcases Hz r with ⟨i,_⟩|⟨i,a,b,c⟩
  ·omega
  have y:=w a (by rw[c];simp);have A:=w b (by rw[c];simp);have F:ax e.bj 0=aa a:=by rw[c];rfl
  have G:ax e.bj 1=aa b:=by rw[c];rfl
  refine ae F (ae (J3 L n a O y) (ae G (ae (J3 L n b O A) (ad.of (aeU (n+1) i (IP (qe y)) (IP (qe A))) ?_))));obtain⟨H,K,Q⟩:=afk s i;rw[p,c];unfold j5;rw[H,K,Q];rfl
theorem abk(n:Nat)(o:e.kind=4\/e.kind=5\/e.kind=6){x y:Int}(l:0<=x/\x<=99)(m:0<=y/\y<=99):BZ n e x y=aa (if 0<=fO e.kind x y/\fO e.kind x y<=99 then kI (fO e.kind x y) else e):=by
 have p:=Rr l m;unfold BZ;refine ad.eq (ad.aD (λz=>z=fO e.kind x y) (λj a=>?_) λz d=>?_)
 ·rw[bc (n:=x+y) O,bc (n:=x-y) O,bc (n:=x*y) O];refine aW (λh=>a _ ?_) λh=>aW (λi=>a _ ?_) λi=>a _ ?_
  ·unfold fO;rw[aQ O,aQ O]
  ·unfold fO;rw[aR i]
  unfold fO;rw[aQ i,aR O]
 subst d;refine ad.aD (λz=>z= !decide (0<=fO e.kind x y/\fO e.kind x y<=99)) (λj a=>aW (λh=>a _ ?_) λh=>a _ ?_) λz d=>?_
 ·rw[bJ O];rfl
 ·by_cases k:(99:Int)<fO e.kind x y
  ·rw[bI k,bJ O];rfl
  rw[bJ k,bI O];rfl
 subst d;by_cases c:0<=fO e.kind x y/\fO e.kind x y<=99
 ·rw[bI c,aR c];exact b8 (ae rfl (ad.some rfl))
 rw[bJ c,aQ c];exact bX (ad.some rfl)
theorem ZZ(Q:5000<=n)(A:kf e.index)(B:fJ e.kind=e.bj.length)(w: ∀k∈e.bj,Df k):Aj n e=aa (iy e):=by
 unfold Aj;refine ad.eq (ad.aD (λz=>z=nK e) (λj l=>?_) λz q=>?_)
 ·refine aW (λC=>ae (zQ O A) (aW (λF=>l _ ?_) λF=>l _ ?_)) λC=>l _ ?_
  ·unfold nK
   grind
  ·unfold nK
   grind
  unfold nK
  grind
 subst q;refine ad.cond (λr=>ae (x:=kI e.index.const) rfl (ad.some (MP r).symm)) λr=>?_;rcases Hz B with ⟨_,o⟩|⟨d,a,b,c⟩
 ·refine aW (λ_=>ad.some (NR r o).symm) λh=>bB (by rw[o];rfl) h
 have G:=w a (by rw[c];simp);have H:=w b (by rw[c];simp);refine aW (λh=>by rw[c] at h;simp at h) λ_=>ae (show ax e.bj 0=aa a by rw[c];rfl) (ae (show ax e.bj 1=aa b by rw[c];rfl) ?_);have i:iy e=(if a.kind=1/\b.kind=1 then(if 0<=fO e.kind a.num b.num/\fO e.kind a.num b.num<=99 then kI (fO e.kind a.num b.num) else e)
   else if(¬e.kind=6/\gS b 0=ab)\/(e.kind=6/\gS b 1=ab) then a
   else if(e.kind=4/\gS a 0=ab)\/(e.kind=6/\gS a 1=ab) then b
   else if e.kind=6/\(gS a 0=ab\/gS b 0=ab) then kI 0
   else e):=by
  unfold iy;rw[aQ (λh=>O),c]
 rw[i];refine ad.aD (λz=>z=ag (a.kind=1/\b.kind=1)) (λj l=>aW (λh=>l _ ?_) λh=>l _ ?_) λz q=>?_
 ·by_cases p:b.kind=1
  ·rw[bI p,bI ⟨h,p⟩]
  rw[bJ p,bJ λs=>p s.2]
 ·rw[bJ λs=>h s.1]
 subst q;by_cases m:a.kind=1/\b.kind=1
 ·rw[bI m,aR m];exact bX (ae (abk n d (G m.1) (H m.2)) (ad.some rfl))
 rw[bJ m,aQ m];refine b8 ?_;simp only[YU,Option.bind_some,aD];generalize gS a 0=a0;generalize gS a 1=aL;generalize gS b 0=K;generalize gS b 1=L;obtain⟨kind,num,index,read,y⟩:=e;dsimp only at d⊢;rcases d with rfl|rfl|rfl<;>cases a0<;>cases aL<;>cases K<;>cases L<;>exact ad.some rfl
theorem Tr{d:Int}: ∀(L n:Nat) (e:Expr),6000+L<=n->dp L e d=ab->sg (n+1) e=aa (fI L e)
 |0,_,_,_,h=>by cases h
 |L+1,n,e,s,h=>by
  obtain⟨m,a,l⟩:=gi h;obtain⟨n,rfl⟩: ∃j,n=j+1:=⟨n-1,O⟩
  have o:e.bj.length<=2:=by have:=qM e.kind;omega
  unfold sg;refine ad.eq (ae (AP _ (CK a).1) (ae (Ad O (CK a).2) ?_));refine ps (f:=sg (n+1)) (g:=fI L) (K:=λp=>bO (Aj (n+1) (⟨e.kind,e.num,e.index,e.read,p⟩:Expr)) λc=>aa c) (λx q=>Tr L n x O (l x q)) O O ?_;refine ae (ZZ O (CK a).1 (by simpa using m) λk i=>?_) (ad.some rfl);obtain⟨y,r,rfl⟩:=eA.1 i;exact IP (qe (l y r))
def kr(l:List bN)(p:Prog)(a:Int)(c:Nat):Prop:= ∃x∈l,x.part=a/\c3 p x=c
def lB(l:List bN)(p:Prog)(a:Int)(c:Nat):Prop:= ∃x∈l,x.part=a/\(c:Int)∈rc p x
theorem xP{l:List bN}{c:Nat}:kr (l++[x]) p a c↔kr l p a c\/(x.part=a/\c3 p x=c):=by
 unfold kr
 grind
theorem xQ{l:List bN}{c:Nat}:lB (l++[x]) p a c↔lB l p a c\/(x.part=a/\(c:Int)∈rc p x):=by
 unfold lB
 grind
def iI(T:Nat)(f:List Bool)(S:Nat->Prop):Prop:=f.length=T/\ ∀c,c<T->(f.getD c ak=ab↔S c)
theorem G'(T:Nat):iI T (dA T ak) (λ_=>False):=⟨zW,λc a=>by rw[eP,uE];split<;>simp⟩
theorem HX{T:Nat}{f:List Bool}{S:Nat->Prop}(h:iI T f S){d:Nat}(a:d<T):iI T (f.set d ab) (λc=>S c\/c=d):=⟨by rw[e6];exact h.1,λc i=>by
 by_cases e:d=c
 ·subst e;rw[eP,gC (by rw[h.1];exact a)];simp
 rw[eP,jr e,<-eP,h.2 c i];constructor
 ·exact .inl
 rintro(h|h)
 ·exact h
 exact bB h.symm e⟩
theorem mO{T:Nat}{f:List Bool}{S X:Nat->Prop}(h:iI T f S)(d: ∀c,c<T->(S c↔X c)):iI T f X:=⟨h.1,λc a=>(h.2 c a).trans (d c a)⟩
theorem sW{T:Nat}{f:List Bool}{S:Nat->Prop}(h:iI T f S){c:Nat}(d:c<T):ax f (c:Int)=aa (f.getD c ak):=by
 have a:c<f.length:=by rw[h.1];exact d
 rw[bl (bp a),eP,bp a];rfl
theorem NK(A:5000<=n){T:Nat}{cs:List Int}(B:cs.length<=1000)(m: ∀c∈cs,0<=c/\c<(T:Int)){K:List Bool->Option R}{f:List Bool}{S:Nat->Prop}(o:iI T f S)(p: ∀g,iI T g (λc=>S c\/(c:Int)∈cs)->ad (K g) Q):
  ad (bn (λa (z:(List Bool)×Int)=>bif ag (z.2<(cs.length:Int)) then(bO (ax cs z.2) λx=>bO (ax z.1 x) λ_=>bO (ca z.1 x ab) λy=>a (y,wr (z.2+1))) else(K z.1)) n (f,0)) Q:=by
 refine ad.loop (λz:List Bool×Int=> ∃i:Nat,z.2=i/\i<=cs.length/\iI T z.1 λc=>S c\/(c:Int)∈cs.take i) (λz=>cs.length-z.2.toNat) ?_ n _ ⟨0,rfl,O,mO o λc _=>aX⟩ J;rintro a ⟨x,z⟩ ⟨i,l,C,h⟩ q;dsimp only at l h⊢;subst l;refine aW (λr=>?_) λs=>?_
 ·obtain⟨c,k⟩: ∃c,cs[i]? =aa c:=⟨_,bp (O:i<cs.length)⟩
  have bb:=m c (bx k);have w:=h.1;refine ae (bl k) (ae (s4 bb.1 O) (ae (xA bb.1 O ab) ?_));rw[bc O];refine q _ ⟨i+1,J,O,mO (HX h (d:=c.toNat) O) λe F=>?_⟩ J;rw[gE k,eC,pF]
  grind
 have e:i=cs.length:=O
 refine p x (mO h λc _=>?_)
 grind
theorem yb(a:bM p=ab):((jm p:Nat):Int)=gK p.aP/\jm p<=144:=by
 have:=O2 a
 grind
theorem Nw(cY:7100<=n)(w:bM p=ab)(a:Int):ad (y8 n (gX p) a) (λr=>iI (jm p) r.1 (lB (I p.parts) p a)/\iI (jm p) r.2 (kr (I p.parts) p a)):=by
 obtain⟨Q,R,_,_,X⟩:=dZ w;have gJ:=yb w;unfold y8;refine ae (AH (p:=p) O Q R) (ae (CN ⟨O,O⟩ ak) (ae (AH (p:=p) O Q R) (ae (CN ⟨O,O⟩ ak) ?_)));show ad (bn _ n (dA (jm p) ak,dA (jm p) ak,0)) _;refine ad.loop (λz:List Bool×List Bool×Int=> ∃i:Nat,z.2.2=i/\i<=(I p.parts).length/\iI (jm p) z.1 (lB ((I p.parts).take i) p a)/\iI (jm p) z.2.1 (kr ((I p.parts).take i) p a)) (λz=>(I p.parts).length-z.2.2.toNat) ?_ n _ ⟨0,rfl,O,mO (G' _) (λc _=>by simp[lB]),mO (G' _) λc _=>by simp[kr]⟩ J;rintro A ⟨x,y,z⟩ ⟨i,m,hi,B,o⟩ Z;dsimp only at m B o⊢;subst m;have l:(gX p).list=I p.parts:=rfl;rw[l];refine aW (λb=>?_) λt=>ad.some ?_
 ·obtain⟨u,k⟩: ∃u,(I p.parts)[i]? =aa u:=⟨_,bp (O:i<(I p.parts).length)⟩
  have v:=fc (bx k);obtain⟨hq,D,alW,_⟩:=ot w v;have C:(gX p).reads[i]? =aa (rc p u):=lY k;have F:(gX p).jP[i]? =aa (c3 p u:Int):=lY (f:=λx=>(c3 p x:Int)) k;refine ad.aD (λz:List Bool×List Bool×Int×Int×List Int=>iI (jm p) z.1 (lB ((I p.parts).take (i+1)) p a)/\iI (jm p) z.2.1 (kr ((I p.parts).take (i+1)) p a)) (λj W=>?_) λz m=>?_
  ·refine ae (bl k) (fl (λq=>W _ ⟨mO B λc _=>?_,mO o λc _=>?_⟩) λhe=>ae (bl C) ?_)
   ·rw[gE k,xQ];exact⟨.inl,λh=>h.elim id λh=>bB h.1 q⟩
   ·rw[gE k,xP];exact⟨.inl,λh=>h.elim id λh=>bB h.1 q⟩
   refine NK (T:=jm p) O (cs:=rc p u) O (λc E=>by have:=D c E;omega) (K:=λG=>bO (ax (gX p).jP (i:Int)) λs=>bO (ax y s) λM=>bO (ca y s ab) λH=>j (G,H,u.part,u.stmt,u.bU)) B λg L=>?_;refine ae (bl F) (ae (sW o O) (ae (xA O (by rw[o.1];omega) ab) (W _ ⟨mO L λc _=>?_,?_⟩)))
   ·rw[gE k,xQ]
    grind
   refine mO (HX o (d:=c3 p u) O) λc _=>?_;rw[gE k,xP]
   grind
  obtain⟨N,P,S,U,V⟩:=z;dsimp only at m⊢;rw[bc O];exact Z _ ⟨i+1,J,O,m.1,m.2⟩ J
 have e:i=(I p.parts).length:=O
 grind
theorem Av(L:7100<=n)(o:bM p=ab)(a:Int)(w:Bool):ad (ub n p a w) (λr=>r.length<=144/\ ∀c:Int,c∈r↔0<=c/\c.toNat<jm p/\(if w=ab then kr (I p.parts) p a c.toNat else lB (I p.parts) p a c.toNat)):=by
 obtain⟨Q,R,_,_,W⟩:=dZ o;have M:=yb o;unfold ub;refine ae (MY O Q R) (ae (CN ⟨O,O⟩ ak) (ae (we O o) (ae (GV L o) ?_)));show ad (bn _ n (dA (jm p) ak,0)) _;refine ad.loop (λz:List Bool×Int=> ∃i:Nat,z.2=i/\i<=(I p.parts).length/\iI (jm p) z.1 λc=>if w=ab then kr ((I p.parts).take i) p a c else lB ((I p.parts).take i) p a c) (λz=>(I p.parts).length-z.2.toNat) ?_ n _ ⟨0,rfl,O,mO (G' _) λc _=>by simp[lB,kr]⟩ J;rintro y ⟨x,z⟩ ⟨i,s,N,l⟩ X;dsimp only at s l⊢;subst s;refine aW (λk=>?_) λZ=>?_
 ·obtain⟨u,m⟩: ∃u,(I p.parts)[i]? =aa u:=⟨_,bp (O:i<(I p.parts).length)⟩
  have b:=fc (bx m);obtain⟨P,t,S,_⟩:=ot o b;have q:(nd p)[i]? =aa (⟨rc p u,(c3 p u:Int)⟩:lO):=lY (f:=λx=>(⟨rc p x,(c3 p x:Int)⟩:lO)) m;refine ad.aD (λz:List Bool=>iI (jm p) z λc=>if w=ab then kr ((I p.parts).take (i+1)) p a c else lB ((I p.parts).take (i+1)) p a c) (λj A=>?_) λz s=>?_
  ·refine ae (bl m) (fl (λv=>A _ (mO l λc _=>?_)) λH=>?_)
   ·rw[gE m,xP,xQ]
    grind
   cases w with
   |true=>
    refine bX (ae (bl q) (ae (sW l O) (ae (xA (by(try dsimp only);omega) (by rw[l.1];(try dsimp only);omega) ab) (A _ ?_))));refine mO (HX l (d:=c3 p u) O) λc _=>?_;rw[gE m,xP,xQ];exact or_congr Iff.rfl ⟨λh=>⟨H,h.symm⟩,λh=>h.2.symm⟩
   |false=>
    refine b8 ?_;simp only[bl q,Option.bind_some];refine NK (T:=jm p) O (cs:=rc p u) O (λc D=>by have:=t c D;omega) (K:=λB=>j B) l λg C=>A _ (mO C λc _=>?_);rw[gE m,xP,xQ];exact or_congr Iff.rfl ⟨λh=>⟨H,h⟩,λh=>h.2⟩
  rw[bc O];exact X _ ⟨i+1,J,O,s⟩ J
 have e:i=(I p.parts).length:=O
 rw[e,dW] at l;have E:=l.1;refine ae (Mf O O) (ad.some ⟨by have:=MD x;omega,λc=>?_⟩);rw[FP];constructor
 ·rintro⟨F,G⟩;have k:c.toNat<jm p:=by
   grind
  exact⟨F,k,(l.2 _ k).1 G⟩
 rintro⟨F,k,G⟩;exact⟨F,(l.2 _ k).2 G⟩
theorem HQ(r:5000<=n){a b:List Int}(s:a.length<=1000)(m:b.length<=1000):wW n a b=aa (a.any λc=>decide (c∈b)):=by
 refine ad.eq ?_;unfold wW;refine ad.loop (λz:Int=> ∃i:Nat,z=i/\i<=a.length/\(a.take i).any (λc=>decide (c∈b))=ak) (λz=>a.length-z.toNat) ?_ n 0 ⟨0,rfl,O,aX⟩ O;rintro d z ⟨i,rfl,w,k⟩ o;refine aW (λp=>?_) λq=>ad.some ?_
 ·obtain⟨c,l⟩: ∃c,a[i]? =aa c:=⟨_,bp (O:i<a.length)⟩
  refine ae (bl l) (ae (Hk O m c) (ad.cond (λh=>ad.some ?_) λh=>?_))
  ·exact(iW.2 ⟨c,bx l,h⟩).symm
  rw[bc O];refine o _ ⟨i+1,O,O,?_⟩ O;rw[gE l,uH,k]
  grind
 have e:i=a.length:=O
 grind
def yy(p:Prog)(a b:Int):Prop:= ∀x∈I p.parts,∀y∈I p.parts,x.part=a->y.part=b-> ¬o0 p x y
noncomputable def tj(p:Prog)(a b:Int):Bool:= @decide (yy p a b) (Classical.propDecidable _)
theorem J4{b:Int}:tj p a b=ab↔yy p a b:=by unfold tj;exact @decide_eq_true_iff _ (Classical.propDecidable _)
theorem MX(n:bM p=ab){b:Int}:yy p a b↔ ∀c,c<jm p-> ¬(kr (I p.parts) p a c/\(lB (I p.parts) p b c\/kr (I p.parts) p b c))/\ ¬(kr (I p.parts) p b c/\lB (I p.parts) p a c):=by
 have o:=yb n;constructor
 ·intro h c _;refine⟨?_,?_⟩
  ·rintro⟨⟨x,l,e,m⟩,⟨y,k,d,i⟩|⟨y,k,d,i⟩⟩
   ·exact h x l y k e d (.inl (by rw[m];exact i))
   exact h x l y k e d (.inr (.inr (by rw[m,i])))
  rintro⟨⟨y,k,d,i⟩,⟨x,l,e,m⟩⟩;exact h x l y k e d (.inr (.inl (by rw[i];exact m)))
 intro h x l y k e d bT;have q:=(ot n (fc l)).1;have r:=(ot n (fc k)).1;rcases bT with bT|bT|bT
 ·exact(h (c3 p x) O).1 ⟨⟨x,l,e,rfl⟩,.inl ⟨y,k,d,bT⟩⟩
 ·exact(h (c3 p y) O).2 ⟨⟨y,k,d,rfl⟩,⟨x,l,e,bT⟩⟩
 exact(h (c3 p x) O).1 ⟨⟨x,l,e,rfl⟩,.inr ⟨y,k,d,bT.symm⟩⟩
def eT(p:Prog)(a:Int):Bool:=ag (0<=a/\a<(p.parts.length:Int))
noncomputable def j2(p:Prog)(a b:Int):Bool:=bM p&&(eT p a&&(eT p b&&(!decide (a=b)&&tj p a b)))
theorem ua{b:Bool}(h:(!b)=ab):b=ak:=by cases b with
 |false=>rfl
 |true=>cases h
theorem r8{b:Bool}(h:(!b)=ak):b=ab:=by cases b with
 |false=>cases h
 |true=>rfl
theorem Zx(cY:5000<=n){T:Nat}(ly:T<=1000){G E I H:List Bool}{s o p k:Nat->Prop}(B:iI T G s)(K:iI T E o)(L:iI T I p)(x:iI T H k){v:Bool}(M:v=ab↔ ∀c,c<T-> ¬(o c/\(p c\/k c))/\ ¬(k c/\s c)):
  ad (bn (λl (e:Int)=>
     bif ag (e<(G.length:Int)) then(
      aD (fun(Q:Bool)=>
       bif Q then(
        aa ak
       ) else(
        l (wr (e+1))
       )
      ) (λm=>
       bO (ax E e) λR=>
       bif R then(
        bO (ax I e) λW=>
        bif W then(
         m ab
        ) else(
         bO (ax H e) λX=>
         bif X then(
          m ab
         ) else(
          m ak
         )
        )
       ) else(
        bO (ax H e) λZ=>
        bif Z then(
         bO (ax G e) λb=>
         m b
        ) else(
         m ak
        )
       )
      )
     ) else(
      aa ab
     )
    ) n 0) (λr=>r=v):=by
 have y: ∀c,c<T->((o c/\(p c\/k c))\/(k c/\s c))->v=ak:=λc f h=>by
  cases g:v with
  |false=>rfl
  |true=>
   have:=M.1 g c f;rcases h with h|h
   ·exact bB h this.1
   exact bB h this.2
 have t:=B.1;refine ad.loop (λz:Int=> ∃i:Nat,z=i/\i<=T/\ ∀c,c<i-> ¬(o c/\(p c\/k c))/\ ¬(k c/\s c)) (λz=>T-z.toNat) ?_ n 0 ⟨0,rfl,O,λc h=>O⟩ O;rintro u z ⟨i,rfl,hi,D⟩ P;rw[t];refine aW (λS=>?_) λU=>ad.some ?_
 ·have a:i<T:=O
  refine ad.aD (λz=>(z=ab->(o i/\(p i\/k i))\/(k i/\s i))/\(z=ak-> ¬(o i/\(p i\/k i))/\ ¬(k i/\s i))) (λj A=>?_) λz V=>ad.cond (λh=>ad.some (y i a (V.1 h)).symm) λh=>?_
  ·refine ae (sW K a) (ad.cond (λC=>?_) λC=>?_)
   ·have w:=(K.2 i a).1 C;refine ae (sW L a) (ad.cond (λF=>A _ ⟨λ_=> .inl ⟨w,.inl ((L.2 i a).1 F)⟩,λh=>(by cases h)⟩) λF=>ae (sW x a) (ad.cond (λd=>A _ ⟨λ_=> .inl ⟨w,.inr ((x.2 i a).1 d)⟩,λh=>(by cases h)⟩) λd=>A _ ⟨λh=>(by cases h),λ_=>?_⟩));have alP: ¬p i:=λh=>by rw[(L.2 i a).2 h] at F;cases F
    have akX: ¬k i:=λh=>by rw[(x.2 i a).2 h] at d;cases d
    grind
   have N: ¬o i:=λh=>by rw[(K.2 i a).2 h] at C;cases C
   refine ae (sW x a) (ad.cond (λd=>ae (sW B a) (A _ ⟨λh=> .inr ⟨(x.2 i a).1 d,(B.2 i a).1 h⟩,λh=>⟨λq=>N q.1,λq=>by rw[(B.2 i a).2 q.2] at h;cases h⟩⟩)) λd=>A _ ⟨λh=>(by cases h),λ_=>⟨λq=>N q.1,λq=>by rw[(x.2 i a).2 q.1] at d;cases d⟩⟩)
  rw[bc O];refine P _ ⟨i+1,O,O,λc f=>?_⟩ O
  grind
 exact(M.2 λc f=>D c O).symm
theorem ab0(i:7100<=n)(m:jz p)(a b:Int):DO n p a b=aa (j2 p a b):=by
 unfold DO;refine ad.eq (ae (z6 i m) ?_);by_cases c:bM p=ab
 ·rw[aR c];have C:=yb c;have d:=m.2.1;refine bX (ad.aD (λz=>z= !(eT p a&&(eT p b&& !decide (a=b)))) (λj e=>b8 (ae (rW n d a) (ad.cond (λh=>e _ ?_) λh=>ae (rW n d b) (ad.cond (λk=>e _ ?_) λk=>e _ ?_)))) λz l=>?_)
  ·have:eT p a=ak:=ua h
   grind
  ·have o:eT p a=ab:=r8 h;have q:eT p b=ak:=ua k
   grind
  ·have o:eT p a=ab:=r8 h;have q:eT p b=ab:=r8 k
   grind
  subst l;unfold j2;rw[c];cases o:eT p a with
  |false=>exact bX (ad.some rfl)
  |true=>
   cases q:eT p b with
   |false=>exact bX (ad.some rfl)
   |true=>
    cases F:ag (a=b) with
    |true=>exact bX (ad.some rfl)
    |false=>
     refine b8 (ch (Nw i c a) λr ⟨w,x⟩=>ch (Nw i c b) λs ⟨y,A⟩=>?_);exact(Zx O (T:=jm p) O w x y A (v:=tj p a b) (by rw[J4,MX c])).mono λr B=>B
 rw[aQ c];refine b8 (ad.aD (λz=>z=ab) (λj e=>bX (e _ rfl)) λz l=>?_);rw[l];refine bX (ad.some ?_);unfold j2
 grind
theorem abm(B:7100<=n)(f:jz p)(a b:Int):DL n p a b=aa (j2 p a b):=by
 unfold DL;refine ad.eq (ad.aD (λz=>z= !(bM p&&(eT p a&&(eT p b&& !decide (a=b))))) (λj i=>?_) λz G=>?_)
 ·refine ae (lp O f) (ad.cond (λh=>i _ ?_) λh=>?_)
  ·rw[show bM p=ak by simpa using h];rfl
  have l:bM p=ab:=by simpa using h
  rw[l] at i;refine aW (λR=>i _ ?_) λR=>aW (λg=>i _ ?_) λg=>aW (λW=>i _ ?_) λW=>aW (λt=>i _ ?_) λt=>i _ ?_
  ·rw[show eT p a=ak from bJ O];rfl
  ·rw[show eT p b=ak from bJ O];simp
  ·rw[show eT p a=ak from bJ O];rfl
  ·rw[show eT p b=ak from bJ O];simp
  rw[show eT p a=ab from bI O,show eT p b=ab from bI O];simp
 subst G;unfold j2;by_cases l:bM p=ab
 ·rw[l];have D:=yb l;cases R:eT p a with
  |false=>exact bX (ad.some rfl)
  |true=>
   cases W:eT p b with
   |false=>exact bX (ad.some rfl)
   |true=>
    cases E:ag (a=b) with
    |true=>exact bX (ad.some rfl)
    |false=>
     have m:=J4.trans (MX l (a:=a) (b:=b));have k: ∀c,c<jm p->((kr (I p.parts) p a c/\(lB (I p.parts) p b c\/kr (I p.parts) p b c))\/(kr (I p.parts) p b c/\lB (I p.parts) p a c))->tj p a b=ak:=λc o h=>by
      cases H:tj p a b with
      |false=>rfl
      |true=>
       have:=m.1 H c o;rcases h with h|h
       ·exact bB h this.1
       exact bB h this.2
     refine b8 (ch (Av B l a ab) λq ⟨M,C⟩=>ch (Av B l b ab) λr ⟨N,F⟩=>ad.aD (λz=>z=tj p a b) (λj i=>?_) λz G=>ad.some G);refine ae (HQ O O O) (ad.cond (λh=>?_) λh=>i _ ?_)
     ·have u: ∀c,c∈q->c∈r->False:=λc e d=>by
       have:q.any (λc=>decide (c∈r))=ab:=iW.2 ⟨c,e,bI d⟩;rw[this] at h;cases h
      refine ch (Av B l b ak) λK ⟨P,X⟩=>ae (HQ O O O) (ad.cond (λh=>?_) λh=>i _ ?_)
      ·have v: ∀c,c∈q->c∈K->False:=λc e d=>by
        have:q.any (λc=>decide (c∈K))=ab:=iW.2 ⟨c,e,bI d⟩;rw[this] at h;cases h
       refine ch (Av B l a ak) λs ⟨l10,w⟩=>ae (HQ O O O) (i _ ?_);cases L:r.any (λc=>decide (c∈s)) with
       |true=>
        obtain⟨c,e,d⟩:=iW.1 L;obtain⟨Z,x,y⟩:=(F c).1 e;obtain⟨_,_,A⟩:=(w c).1 (fF d);exact(k c.toNat x (.inr ⟨y,A⟩)).symm
       |false=>
        refine(m.2 λc o=>⟨?_,?_⟩).symm
        ·rintro⟨e,d|d⟩
         ·exact v (c:Int) ((C _).2 ⟨O,o,e⟩) ((X _).2 ⟨O,o,d⟩)
         exact u (c:Int) ((C _).2 ⟨O,o,e⟩) ((F _).2 ⟨O,o,d⟩)
        rintro⟨e,d⟩
        have:r.any (λc=>decide (c∈s))=ab:=iW.2 ⟨(c:Int),(F _).2 ⟨O,o,e⟩,bI ((w _).2 ⟨O,o,d⟩)⟩;rw[this] at L;cases L
      have Q:q.any (λc=>decide (c∈K))=ab:=by simpa using h
      obtain⟨c,e,d⟩:=iW.1 Q;obtain⟨Z,x,y⟩:=(C c).1 e;obtain⟨_,_,A⟩:=(X c).1 (fF d);exact(k c.toNat x (.inl ⟨y,.inl A⟩)).symm
     have Q:q.any (λc=>decide (c∈r))=ab:=by simpa using h
     obtain⟨c,e,d⟩:=iW.1 Q;obtain⟨Z,x,y⟩:=(C c).1 e;obtain⟨_,_,A⟩:=(F c).1 (fF d);exact(k c.toNat x (.inl ⟨y,.inr A⟩)).symm
 rw[show bM p=ak by simpa using l];exact bX (ad.some rfl)
def h7{k:Type}(l:List k)(i:Nat)(a b:k):List k:=l.take i++b::a::l.drop (i+2)
theorem ya{k:Type}{l:List k}{a b:k}(c:l[i]? =aa a)(d:l[i+1]? =aa b):l=l.take i++a::b::l.drop (i+2):=by have e:l.drop i=a::l.drop (i+1):=im c;have h:l.drop (i+1)=b::l.drop (i+2):=im d;rw[<-h,<-e,mX]
noncomputable def py(p:Prog)(a:Int):Prog×Bool:=
 if j2 p a (a+1)=ab then
  (match ax p.parts a,ax p.parts (a+1) with
  |some c,aa d=>(⟨p.aP,h7 p.parts a.toNat c d⟩,ab)
  |_,_=>eV)
 else eV
theorem tP{b:Int}(h:j2 p a b=ab):bM p=ab/\(0<=a/\a<(p.parts.length:Int))/\(0<=b/\b<(p.parts.length:Int))/\yy p a b:=by unfold j2 at h;simp only[b9] at h;exact⟨h.1,fF h.2.1,fF h.2.2.1,J4.1 h.2.2.2.2⟩
theorem DH(h:j2 p a (a+1)=ab): ∃(i:Nat) (c d:Part),a=i/\p.parts[i]? =aa c/\p.parts[i+1]? =aa d/\i+1<p.parts.length:=by
 obtain⟨e,k,l,_⟩:=tP h;obtain⟨i,rfl⟩: ∃i:Nat,a=i:=⟨a.toNat,O⟩
 exact⟨i,_,_,rfl,bp O,bp O,O⟩
theorem EB{x:Part}(h:j2 p (i:Int) ((i:Int)+1)=ab)(a:p.parts[i]? =aa x)(c:p.parts[i+1]? =aa P):py p (i:Int)=(⟨p.aP,h7 p.parts i x P⟩,ab):=by unfold py;rw[aR h,bl a,show((i:Int)+1)=((i+1:Nat):Int) by omega,bl c];rfl
theorem aac{k:Type}{l:List k}{a b:k}(c:l[i]? =aa a)(d:l[i+1]? =aa b){x:k}:x∈h7 l i a b↔x∈l:=by
 conv=>rhs;rw[ya c d]
 unfold h7
 grind
theorem aad{k:Type}{l:List k}{a b:k}(h:i+1<l.length):(h7 l i a b).length=l.length:=by
 unfold h7
 grind
theorem N6{k:Type}{l:List k}{a b:k}(e:l[i]? =aa a)(c:l[i+1]? =aa b):(l.set i b).set (i+1) a=h7 l i a b:=by
 have hi:=(bR.1 c).1;have d:(l.take i).length=i:=by rw[cZ];omega
 conv=>lhs;rw[ya e c]
 rw[nP _ _ O,d,kB,zY,nP _ _ O,d,show i+1-i=1 by omega];rfl
theorem abd{k:Type}{l:List k}{a b:k}(h:i+1<l.length):(h7 l i a b)[i]? =aa b/\(h7 l i a b)[i+1]? =aa a:=by
 have c:(l.take i).length=i:=by rw[cZ];omega
 unfold h7
 grind
theorem KI(a:bM p=ab)(d:p.parts[i]? =aa P)(c:p.parts[i+1]? =aa C):bM ⟨p.aP,h7 p.parts i P C⟩=ab:=by
 have hi:=(bR.1 c).1;unfold bM ky at a⊢;simp only[b9,decide_eq_true_eq,List.all_eq_true] at a⊢;obtain⟨⟨aL,a2,a3⟩,a4⟩:=a;refine⟨⟨aL,by rw[aad hi];exact a2,λx h=>a3 x ((aac d c).1 h)⟩,?_⟩;have e:=ya d c
 have:(p.parts.map d5).sum=((h7 p.parts i P C).map d5).sum:=by
  conv=>lhs;rw[e]
  unfold h7
  grind
 grind
theorem PT(a:bM p=ab){x:Part}(c:p.parts[i]? =aa x)(d:p.parts[i+1]? =aa P):dn 1000 ⟨p.aP,h7 p.parts i x P⟩:=(my (KI a c d)).mono O
theorem aiw(m:7100<=n)(o:dn 1000 p)(s: -1<=a/\a<=9):E5 n p a=aa (py p a):=by
 unfold E5;rw[bc (n:=a+1) O];refine ad.eq (ad.aD (λz=>z= !j2 p a (a+1)) (λj e=>?_) λz q=>?_)
 ·refine aW (λh=>e _ ?_) λh=>aW (λd=>e _ ?_) λd=>ae (ab0 m o.sm a (a+1)) (e _ rfl)
  ·cases c:j2 p a (a+1) with
   |false=>rfl
   |true=>have:=tP c;omega
  cases c:j2 p a (a+1) with
  |false=>rfl
  |true=>have:=tP c;omega
 subst q;cases c:j2 p a (a+1) with
 |false=>
  refine bX (ad.some ?_);unfold py;rw[aQ (by rw[c];simp)];rfl
 |true=>
  refine b8 ?_;obtain⟨i,w,l,rfl,k,d,x⟩:=DH c;rw[EB c k d,show((i:Int)+1)=((i+1:Nat):Int) by omega];refine ae (uf O (tP c).1) (ae (bl d) (ae (bl k) (ae (dU O _) ?_)));rw[cf];have r:(p.parts.set i l)[i+1]? =aa l:=by rw[jr O];exact d
  refine ae (bl r) (ae (dU (by rw[e6];omega) _) (ad.some ?_));rw[cf,N6 k d]
theorem ajR(m:7100<=n)(e:dn 1000 p)(q: -1<=a/\a<=9):E8 n p a=aa (py p a):=by
 unfold E8;rw[bc (n:=a+1) O];refine ad.eq (ae (l2 O e) (ae (abm m e.sm a (a+1)) ?_));cases h:j2 p a (a+1) with
 |false=>
  refine bX (ad.some ?_);unfold py;rw[aQ (by rw[h];simp)];rfl
 |true=>
  refine b8 ?_;obtain⟨i,k,l,rfl,c,d,r⟩:=DH h;have bW:=(tP h).1;have o:=e.2.1;rw[EB h c d,show((i:Int)+1)=((i+1:Nat):Int) by omega];refine ae (bl d) (ae (bl c) (ae (x:=(⟨p.aP,h7 p.parts i k l⟩,ab)) (ad.eq ?_) (ad.some rfl)));unfold kl;refine ae (o6 O e) (ae (iQ O O O) ?_);rw[cf,show(0:Int).toNat=0 from rfl,pE];refine ae (x:=p.parts.take i) (c' bP) (ae (x:=p.parts.take i++[l,k]) (c' bP) ?_);rw[bc O];refine ae (iQ O O O) ?_;rw[cf,dW,show((i:Int)+2).toNat=i+2 by omega];refine ae (x:=h7 p.parts i k l) ?_ (ae (lp O (PT bW c d).sm) ?_)
  ·rw[c' bP,fN];rfl
  rw[KI bW c d];exact b8 (ae (o6 O (PT bW c d)) (ad.some rfl))
def oF(i:Nat)(x:bN):bN:=if x.part=(i:Int) then⟨(i:Int)+1,x.stmt,x.bU⟩ else if x.part=(i:Int)+1 then⟨(i:Int),x.stmt,x.bU⟩ else x
theorem J6(h:x∈ew i P):x.part=(i:Int):=by
 unfold ew at h
 grind
theorem wc(h: ∀s q,G ⟨(i:Int),s,q⟩=⟨(j:Int),s,q⟩):(ew i P).map G=ew j P:=by unfold ew;rw[js,pC,pC];congr 1;refine lI λq _=>?_;rw[fv];exact lI λt _=>h _ _
theorem DI(P:Part)(a:List Part):I (P::a)=ew 0 P++(I a).map (fH 1):=by
 have c:=y3 [P] a;have d:I [P]=ew 0 P:=by unfold I;simp
 grind
theorem y5(A C:List Part)(a c:Part):I (A++a::c::C)=I A++(ew A.length a++(ew (A.length+1) c++((I C).map (fH 1)).map λx=>fH A.length (fH 1 x))):=by
 rw[y3,DI,DI,eM,eM,eM];congr 2
 ·exact wc λs q=>by unfold fH;simp
 rw[fv,fv];congr 1;exact wc λs q=>by unfold fH;simp<;>omega
theorem ac2(h:x.part<(i:Int)):oF i x=x:=by
 unfold oF
 grind
theorem abv(h:(i:Int)+1<x.part):oF i x=x:=by
 unfold oF
 grind
theorem nz{l:List Part}(h:x∈I l):0<=x.part/\x.part<(l.length:Int):=by
 obtain⟨i,k,P,s,a,_,c,_⟩:=fc h
 grind
theorem QW{p:Prog}(d:bM p=ab){x:bN}(k:da p x): ∀{a:List bN} {m:List Int},(∀y∈a,da p y)->(∀y∈a,oc p x y)->fD p.aP m->c4 p (eI p m x) a=eI p (c4 p m a) x
 | [],m,_,_,_=>rfl
 |y::a,m,e,h,i=>by show c4 p (eI p (eI p m x) y) a=eI p (c4 p (eI p m y) a) x;rw[h y eD m i];exact QW d k (λz c=>e z (eo _ c)) (λz c=>h z (eo _ c)) (sJ d i (e y eD))
theorem block{p:Prog}(c:bM p=ab): ∀{X a:List bN} {m:List Int},(∀x∈X,da p x)->(∀y∈a,da p y)->(∀x∈X,∀y∈a,oc p x y)->fD p.aP m->c4 p (c4 p m X) a=c4 p (c4 p m a) X
 | [],a,m,_,_,_,_=>rfl
 |x::X,a,m,d,h,i,k=>by show c4 p (c4 p (eI p m x) X) a=c4 p (eI p (c4 p m a) x) X;rw[block c (λz e=>d z (eo _ e)) h (λz e=>i z (eo _ e)) (sJ c k (d x eD)),QW c (d x eD) h (i x eD) k]
theorem YQ(k:p.parts[i]? =aa P)(e:p.parts[i+1]? =aa C):
  ∃A c d Z,I p.parts=A++(c++(d++Z))/\I (h7 p.parts i P C)=(A++(d++(c++Z))).map (oF i)/\(∀x∈c,x.part=(i:Int))/\(∀x∈d,x.part=(i:Int)+1):=by
 have hi:=(bR.1 e).1;have h:(p.parts.take i).length=i:=by rw[cZ];omega
 refine⟨I (p.parts.take i),ew i P,ew (i+1) C,((I (p.parts.drop (i+2))).map (fH 1)).map λx=>fH i (fH 1 x),?_,?_,λx a=>J6 a,λx a=>by have:=J6 a;omega⟩
 ·conv=>lhs;rw[ya k e]
  rw[y5,h]
 unfold h7;rw[y5,h,eM,eM,eM];congr 1
 ·exact(l0 λx a=>ac2 (by have:=nz a;omega)).symm
 congr 1
 ·exact(wc λs q=>by unfold oF;simp).symm
 congr 1
 ·exact(wc λs q=>by unfold oF;simp).symm
 refine(l0 λx a=>abv ?_).symm;obtain⟨y,l,rfl⟩:=eA.1 a;obtain⟨z,m,rfl⟩:=eA.1 l
 have:=nz m;unfold fH
 grind
theorem aab(e:p.parts[i]? =aa C)(c:p.parts[i+1]? =aa y)(l:da p x):ep ⟨p.aP,h7 p.parts i C y⟩ (oF i x)=ep p x/\(oF i x).bU=x.bU:=by
 have hi:=(bR.1 c).1;have n:(p.parts.take i).length=i:=by rw[cZ];omega
 obtain⟨o,q⟩:=abd (a:=C) (b:=y) hi;unfold oF;split
 ·rename_i h;refine⟨?_,rfl⟩;unfold ep
  grind
 split
 ·rename_i h;refine⟨?_,rfl⟩;unfold ep
  grind
 rename_i r w;refine⟨?_,rfl⟩;obtain⟨d,k,P,s,m,z,A,B,F⟩:=l;unfold ep;dsimp only;rw[m,cf]
 have:(h7 p.parts i C y)[d]? =p.parts[d]? :=by
  rw[<-N6 e c,jr O,jr O]
 rw[this]
theorem ajW(o:bM p=ab)(z:p.parts[i]? =aa P)(B:p.parts[i+1]? =aa C)(d:yy p (i:Int) ((i:Int)+1))(q:fD p.aP m):
  c4 ⟨p.aP,h7 p.parts i P C⟩ m (I (h7 p.parts i P C))=c4 p m (I p.parts):=by
 obtain⟨A,k,l,Z,n,F,G,H⟩:=YQ z B;have c: ∀x∈A++(k++(l++Z)),da p x:=λx a=>fc (by rw[n];exact a);have K: ∀x∈A,da p x:=λx a=>c x (by simp[a]);have e: ∀x∈k,da p x:=λx a=>c x (by simp[a]);have h: ∀x∈l,da p x:=λx a=>c x (by simp[a]);have R: ∀x∈Z,da p x:=λx a=>c x (by simp[a]);rw[F];have L:c4 ⟨p.aP,h7 p.parts i P C⟩ m ((A++(l++(k++Z))).map (oF i))=c4 p m (A++(l++(k++Z))):=by
  unfold c4;rw[List.foldl_map];refine wH λx a m=>?_;have r:da p x:=by
   grind
  obtain⟨W,X⟩:=aab z B r;unfold eI
  grind
 rw[L,n,hF,hF,hF,hF,hF,hF];have s:=sa o K q;rw[block o h e (λx a y w=>?_) s];have Q: ¬o0 p y x:=d y (by rw[n];simp[w]) x (by rw[n];simp[a]) (G y w) (H x a)
 have:=swap o (e y w) (h x a) Q;intro m q;exact(this m q).symm
def nn(a b:Loop):Bool:=oI a.lo b.lo&&oI a.hi b.hi
def pN(a b:List Loop):Bool:=k2 nn a b
theorem afq{a b:Loop}(h:nn a b=ab):a=b:=by unfold nn at h;simp only[b9] at h;obtain⟨aL,a2⟩:=a;obtain⟨c,d⟩:=b;dsimp only at h;rw[G3 h.1,G3 h.2]
theorem OU: ∀{a b:List Loop},pN a b=ab->a=b
 | [],[],_=>rfl
 |x::a,y::b,h=>by
  unfold pN at h;simp only[k2,b9] at h;rw[afq h.1,OU h.2]
 | [],y::b,h=>by cases h
 |x::a,[],h=>by cases h
theorem Wi(d:5000<=n){a b:List Loop}(c:rm a):ue n a b=aa (pN a b):=by unfold ue DX;refine ad.eq (ae (G4 (p:=nn) (f:=λk l=>wv n k l) (λx h y _=>?_) (by have:=c.1;omega) (by have:=c.1;omega)) (ad.some rfl));unfold wv nn;refine ad.eq (ad.aD (λz=>z=(oI x.lo y.lo&&oI x.hi y.hi)) (λj i=>ae (LI d (c.2 x h).1) (ad.cond (λe=>ae (LI d (c.2 x h).2) (i _ (by rw[e];rfl))) λe=>i _ (by rw[e];rfl))) λz m=>ad.some m)
theorem WL(m:5000<=n){a b:List Loop}(o:rm a):Ax n a b=aa (pN a b):=by
 unfold Ax pN;have cI:=o.1;refine ad.eq (fl (λh=>ad.some ?_) λh=>?_)
 ·cases c:k2 nn a b with
  |false=>rfl
  |true=>exact bB (by rw[GU c]) h
 refine ad.loop (λx:Int=> ∃i:Nat,x=i/\i<=a.length/\k2 nn (a.drop i) (b.drop i)=k2 nn a b) (λx=>a.length-x.toNat) ?_ n 0 ⟨0,rfl,O,rfl⟩ O;rintro k x ⟨i,rfl,H,c⟩ y;refine aW (λA=>?_) λB=>ad.some ?_
 ·have p:i<a.length:=O
  have q:i<b.length:=O
  have d:=bp p;have l:=bp q;have r:=o.2 _ (bx d);rw[lG p,lG q] at c;simp only[k2] at c;refine ad.aD (λz=>z= !nn a[i] b[i]) (λj s=>?_) λz C=>?_
  ·refine ae (bl d) (ae (bl l) (ae (LF m r.1) (ad.cond (λe=>s _ ?_) λe=>ae (LF m r.2) (s _ ?_))))
   ·unfold nn;rw[ua e];rfl
   unfold nn;rw[r8 e];rfl
  subst C;cases w:nn a[i] b[i] with
  |false=>rw[w] at c;exact bX (ad.some c)
  |true=>
   rw[w,gp] at c;refine b8 ?_;rw[bc O];exact y _ ⟨i+1,O,O,c⟩ O
 have F:a.drop i=[]:=lH O;have G:b.drop i=[]:=lH O;rw[F,G] at c;exact c
def hQ:List Int->List Int->Bool
 |a::as,b::c=>if a=b then hQ as c else ag (a<b)
 | [],_::_=>ab
 |_,[]=>ak
theorem OE{p q:List Int}(B:p.length<n)(C:p.length<=1000)(F:q.length<=1000):Ak n p q=aa (hQ p q):=by
 unfold Ak;refine ad.eq (ad.loop (λx:Int=> ∃i:Nat,x=i/\i<=p.length/\i<=q.length/\hQ (p.drop i) (q.drop i)=hQ p q) (λx=>p.length-x.toNat) ?_ n 0 ⟨0,rfl,O,O,rfl⟩ O);rintro c x ⟨i,rfl,G,H,a⟩ o;refine ad.aD (λz=>z=ag (i<p.length/\i<q.length)) (λj m=>aW (λh=>m _ ?_) λh=>m _ ?_) λz r=>?_
 ·rw[ig];simp only[decide_eq_true_eq];omega
 ·exact(bJ O).symm
 subst r;refine aW (λh=>?_) λh=>ad.some ?_
 ·have d:=bp h.1;have k:=bp h.2;rw[lG h.1,lG h.2] at a;simp only[hQ] at a;refine ae (bl d) (ae (bl k) (fl (λl=>ad.some ?_) λs=>?_))
  ·rw[aQ l] at a;exact a
  rw[aR s] at a;rw[bc O];exact o _ ⟨i+1,O,O,O,a⟩ O
 rw[<-a];by_cases e:i<p.length
 ·have w:q.drop i=[]:=lH O;rw[w,lG e];simp only[hQ]
  grind
 have y:p.drop i=[]:=lH O;rw[y];by_cases A:i<q.length
 ·rw[lG A];simp only[hQ]
  grind
 rw[lH (O:q.length<=i)];simp only[hQ]
 grind
theorem Zm(n:Nat)(x y:Int):DP n x y=aa (if x<y then-1 else if y<x then 1 else 0):=by
 unfold DP D4
 grind
theorem ab2{p q:List Int}(F:p.length<n)(G:p.length<=1000)(H:q.length<=1000):Bl n p q=aa (hQ p q):=by
 unfold Bl K4;refine ad.eq (ch (P:=λc:Int=>decide (c<0)=hQ p q) ?_ λc y=>ad.some y);refine ad.loop (λx:Int=> ∃i:Nat,x=i/\i<=p.length/\i<=q.length/\hQ (p.drop i) (q.drop i)=hQ p q) (λx=>p.length-x.toNat) ?_ n 0 ⟨0,rfl,O,O,rfl⟩ O;rintro d x ⟨i,rfl,K,L,a⟩ z;refine aW (λA=>?_) λB=>?_
 ·have e:i<p.length:=O
  have k:=bp e;refine ae (bl k) (aW (λh=>ad.some ?_) λh=>?_)
  ·rw[<-a,lH (O:q.length<=i),lG e];simp[hQ]
  have r:i<q.length:=O
  have l:=bp r;rw[lG e,lG r] at a;simp only[hQ] at a;refine ae (bl l) (ae (Zm n _ _) ?_);by_cases s:p[i]<q[i]
  ·rw[aR s];refine fl (λ_=>ad.some ?_) (λm=>bB m O)
   grind
  rw[aQ s];by_cases w:q[i]<p[i]
  ·rw[aR w];refine fl (λ_=>ad.some ?_) (λm=>bB m O)
   grind
  rw[aQ w];refine fl (λo=>bB rfl o) λ_=>?_;rw[aR O] at a;rw[bc O];exact z _ ⟨i+1,O,O,O,a⟩ O
 have C:p.drop i=[]:=lH O;rw[C] at a;refine aW (λh=>ad.some ?_) λh=>ad.some ?_
 ·rw[<-a,lG (O:i<q.length)];rfl
 rw[<-a,lH (O:q.length<=i)];rfl
theorem OD{v w:Int}(h:v<w)(a b:List Int): ∀p:List Int,hQ (p++v::a) (p++w::b)=ab
 | []=>by
  simp only[List.nil_append,hQ];rw[aQ O];exact bI h
 |x::p=>by simp only[List.cons_append,hQ,if_true];exact OD h a b p
theorem abq(c d:Int):(cL c d).Pairwise (λa b=>a<b):=by unfold cL;rw[List.pairwise_map];exact List.pairwise_lt_range.imp λh=>O
theorem P7: ∀(ls:List Loop) (p:List Int),(cW ls p).Pairwise (λa b=>hQ a b=ab)
 | [],p=>by simp[cW]
 |l::ls,p=>by unfold cW;rw[EU];refine⟨λv _=>P7 ls _,(abq _ _).imp fun {v w} h a c b d=>?_⟩;obtain⟨x,rfl,_⟩:=(xY ls _ _).1 c;obtain⟨y,rfl,_⟩:=(xY ls _ _).1 d;rw[fN,fN];exact OD h x y p
theorem GH{p:Prog}(i:bM p=ab){X d:List Int->List bN}: ∀{L:List (List Int)} {m:List Int},(∀q∈L,∀x∈X q,da p x)->(∀q∈L,∀y∈d q,da p y)->L.Pairwise (λa b=> ∀y∈d a,∀x∈X b,oc p y x)->fD p.aP m->
  c4 p m (L.flatMap λq=>X q++d q)=c4 p m (L.flatMap X++L.flatMap d)
 | [],m,_,_,_,_=>rfl
 |q::L,m,k,r,l,w=>by
  rw[nQ] at l;have z:=λx e=>k q eD x e;have s:=λy n=>r q eD y n;have iT:=sa i z w;have A:=sa i s iT;have o: ∀x∈L.flatMap X,da p x:=λx e=>by
   obtain⟨c,h,e⟩:=ho.1 e;exact k c (eo _ h) x e
  rw[nR,nR,nR,hF,hF,GH i (λc h=>k c (eo _ h)) (λc h=>r c (eo _ h)) l.2 A,hF,hF,hF,hF];rw[block i s o (λy n x e=>by obtain⟨c,h,e⟩:=ho.1 e;exact l.1 c h y n x e) iT]
theorem Qm{k:Type}{A l W Z:List k}{x y:k}(d:x∈l)(e:y∈W): ∃s t:Nat,s<t/\(A++(l++(W++Z)))[s]? =aa x/\(A++(l++(W++Z)))[t]? =aa y:=by
 obtain⟨i,a⟩:=jO.1 d;obtain⟨j,c⟩:=jO.1 e;have h:=(bR.1 a).1;have m:=(bR.1 c).1;refine⟨A.length+i,A.length+(l.length+j),O,?_,?_⟩
 ·rw[iD O,show A.length+i-A.length=i by omega,jo h];exact a
 rw[iD O,show A.length+(l.length+j)-A.length=l.length+j by omega,iD O,show l.length+j-l.length=j by omega,jo m];exact c
def f'(p:Prog)(i many:Nat)(a:List Part):Prog:=⟨p.aP,p.parts.take i++a++p.parts.drop (i+many)⟩
theorem Cz(a:dn 900 p)(k:ys.length<=4)(d: ∀y∈ys,gf 1000 y):dn 1000 (f' p i many ys):=by
 have e:=a.2.1;refine⟨(a.mono (O:900<=1000)).1,?_,λx c=>?_⟩
 ·show(p.parts.take i++ys++p.parts.drop (i+many)).length<=1000
  grind
 have c:x∈p.parts.take i++ys++p.parts.drop (i+many):=c;simp only[List.mem_append] at c;rcases c with (h|h)|h
 ·exact(a.mono (O:900<=1000)).2.2 x (gO h)
 ·exact d x h
 exact(a.mono (O:900<=1000)).2.2 x (fq h)
theorem G5(e:7000<=n)(a:dn 900 p)(o:i+many<=p.parts.length)(k:ys.length<=4)(l: ∀y∈ys,gf 1000 y):kl n p (i:Int) (many:Int) ys=aa (hW (f' p i many ys)):=by
 have m:=a.2.1;have c:=a.mono (O:900<=1000);have d:=Cz a (i:=i) (many:=many) k l;unfold kl hW;refine ad.eq (ae (o6 O c) (ae (iQ O O O) ?_));rw[cf,show(0:Int).toNat=0 from rfl,pE];refine ae (x:=p.parts.take i) (c' bP) (ae (x:=p.parts.take i++ys) (c' bP) ?_);rw[bc O];refine ae (iQ O O O) ?_;rw[cf,dW,show((i:Int)+(many:Int)).toNat=i+many by omega];refine ae (x:=(f' p i many ys).parts) ?_ ?_;rotate_left;show ad (bO (lS n (f' p i many ys)) _) _;refine(ae (lp e d.sm) (ad.cond (λh=>ad.some ?_) λh=>?_))
 ·rw[aQ (by simpa using h)]
 ·rw[aR (by simpa using h)];exact ae (o6 O d) (ad.some rfl)
 rw[c' bP];rfl
def lh(p:Prog)(c:Int)(d:gr):Bool:=match (I p.parts)[d.e3.toNat]?,(I p.parts)[d.e5.toNat]? with
 |some a,aa b=>decide (a.part=c)&&(ag (b.part=c+1)&&hQ b.bU a.bU)
 |_,_=>ak
def lJ(a c:Part):Part:=⟨a.nest,a.body++c.body⟩
abbrev mf(p:Prog):List gr:=gL p (I p.parts) (I p.parts).length
def C6(p:Prog)(a:Int)(c d:Part):Bool:=pN c.nest d.nest&& !(mf p).any (lh p a)
def qf(p:Prog)(a:Int):Prog×Bool:=
 if bM p=ab/\eT p a=ab then
  (match ax p.parts a,ax p.parts (a+1) with
  |some c,aa d=>if C6 p a c d=ab then hW (f' p a.toNat 2 [lJ c d]) else eV
  |_,_=>eV)
 else eV
theorem Ch(c:bM p=ab){d:gr}(i:d∈mf p): ∃(s t:Nat) (a b:bN),d.e3=s/\d.e5=t/\(I p.parts)[s]? =aa a/\(I p.parts)[t]? =aa b/\s<t/\a.bU.length<=4/\b.bU.length<=4:=by obtain⟨s,t,k,l,_,rfl⟩:=xN.1 i;have e:=bp (O:s<(I p.parts).length);have h:=bp l;exact⟨s,t,_,_,rfl,rfl,e,h,k,SZ c (fc (bx e)),SZ c (fc (bx h))⟩
theorem Bs(c:bM p=ab):(mf p).length<=14400:=by
 have d:=xq p (I p.parts) (I p.parts).length;have a:=(dZ c).2.2.2.2;have e:(I p.parts).length*(I p.parts).length<=120*120:=oL a a
 grind
theorem Bv(m:7000<=n)(i:dn 1000 p)(a:Int):kU n p a (-1)=aa (if bM p=ab/\eT p a=ab then(p,ab) else eV):=by
 unfold kU;refine ad.eq (ad.aD (λz=>z= !(bM p&&eT p a)) (λj d=>?_) λz o=>?_)
 ·refine ae (rD m i.sm) (ad.cond (λh=>d _ (by rw[ua h];rfl)) λh=>?_);have bW:=r8 h;refine ae (rW n i.2.1 a) (ad.cond (λe=>d _ ?_) λe=>fl (λh=>(h rfl).elim) λ_=>d _ ?_)
  ·rw[bW,show eT p a=ak from ua e];rfl
  rw[bW,show eT p a=ab from r8 e];rfl
 subst o;refine ad.cond (λh=>ad.some ?_) λh=>?_
 ·have:=ua h;rw[aQ λk=>by rw[k.1,k.2] at this;cases this];rfl
 have:=r8 h;simp only[b9] at this;obtain⟨bW,l⟩:=this;rw[aR ⟨bW,l⟩];have c:0<=a/\a<(p.parts.length:Int):=fF l;obtain⟨x,q,_⟩:=gT c.1 c.2;exact ae (uf O bW) (ae q (ad.some rfl))
theorem ad3{s:List Part}(a:i<j)(c:j<=s.length): ∃r,wj n s (i:Int) (j:Int)=aa r/\r.2.take r.1=s.take i++s.drop j:=by
 refine⟨(fm s i j,kL s i j (⟨[],[]⟩:Part)),?_,?_⟩
 ·unfold wj
  grind
 dsimp only;have d:(s.take (i:Int).toNat++s.drop (j:Int).toNat).length=fm s i j:=by
  unfold fm
  grind
 unfold kL
 grind
theorem Pq(c:bM p=ab){x:Part}(d:x∈p.parts)(e:P∈p.parts):gf 1000 (lJ x P):=by
 obtain⟨_,_,a⟩:=my c;obtain⟨aL,a2,a3⟩:=a x d;obtain⟨l,m,i⟩:=a P e;refine⟨aL.mono O,?_,λs k=>?_⟩
 ·show(x.body++P.body).length<=1000
  grind
 rcases eC.1 (show s∈x.body++P.body from k) with h|h
 ·exact(a3 s h).mono O
 exact(i s h).mono O
theorem aiq(cY:20000<=n)(K:dn 1000 p)(bb: -1<=c/\c<=9):Fp n p c=aa (qf p c):=by
 unfold Fp qf;refine ad.eq (ae (Bv O K c) ?_);by_cases B:bM p=ab/\eT p c=ab
 ·rw[aR B,aR B];obtain⟨o,U⟩:=B;have V:0<=c/\c<(p.parts.length:Int):=fF U;obtain⟨i,rfl⟩: ∃i:Nat,c=i:=⟨c.toNat,O⟩
  have e:=bp (O:i<p.parts.length);have L:=bl e;generalize ako:p.parts[i]=l at L e;have DC:=(dZ o).2.2.1;refine bX (ae L ?_);rw[bc (n:=(i:Int)+1) O,bc (n:=(i:Int)+2) O,L];by_cases C:i+1<p.parts.length
  ·have w:=bp C;generalize akp:p.parts[i+1]=m at w;have Q:ax p.parts ((i:Int)+1)=aa m:=bl w;have m1:=bx e;have v:=bx w;rw[Q];dsimp only;refine ad.aD (λz=>z= !pN l.nest m.nest) (λj q=>aW (λh=>bB h O) λ_=>ae rfl (ae (Wi O (K.sm.2.2 l m1).1) (q _ rfl))) λz F=>?_;subst F;unfold C6;cases hne:pN l.nest m.nest with
   |false=>exact bX (ad.some rfl)
   |true=>
    refine b8 (ae (z6 O K.sm) ?_);rw[aR o];refine bX (ae (GN O o) ?_);have R:=Bs o;have W: ∀d∈mf p,d∈mf p:=λ_ h=>h;show ad (bn _ n 0) _;rw[gp];generalize D:mf p=A at R W;rw[show gL p (I p.parts) (I p.parts).length=A from D];refine ad.loop (λx:Int=> ∃k:Nat,x=k/\k<=A.length/\(A.take k).any (lh p (i:Int))=ak) (λx=>A.length-x.toNat) ?_ n 0 ⟨0,rfl,O,rfl⟩ O;rintro X x ⟨k,rfl,hk,Z⟩ b7;refine aW (λhlt=>?_) λkp=>?_
    ·have cC:=bp (O:k<A.length);generalize JB:A[k]=d at cC;obtain⟨s,t,a,b,E,M,N,P,qu,Kc,Kf⟩:=Ch o (D▸bx cC);refine ae (bl cC) (ae (x:=a) (by rw[E];exact bl N) (ae (x:=b) (by rw[M];exact bl P) ?_));have G:lh p (i:Int) d=(ag (a.part=(i:Int))&&(ag (b.part=(i:Int)+1)&&hQ b.bU a.bU)):=by
      unfold lh;rw[E,M,Int.toNat_natCast,Int.toNat_natCast,N,P]
     refine ad.aD (λz=>z=lh p (i:Int) d) (λj q=>?_) λz F=>?_
     ·rw[G] at q;refine aW (λH=>aW (λC=>ae (ab2 O O O) (q _ ?_)) λC=>q _ ?_) λH=>q _ ?_
      ·rw[bI H,bI C];rfl
      ·rw[bI H,bJ C];rfl
      rw[bJ H];rfl
     subst F;refine ad.cond (λh=>ad.some ?_) λh=>?_
     ·rw[aQ]; · rfl
      have:A.any (lh p (i:Int))=ab:=iW.2 ⟨d,bx cC,h⟩;rw[this];simp
     rw[bc O];exact b7 _ ⟨k+1,O,O,by rw[gE cC,uH,Z];simp[h]⟩ O
    rw[l9 O] at Z;rw[Z,aR (by rfl)];have dI:=Cz (i:=i) (many:=2) (ys:=[lJ l m]) ((my o).mono (O:4<=900)) aX λy S=>by rw[pF] at S;subst S;exact Pq o m1 v
    obtain⟨_,_,T⟩:=my o;have dc:=(T l m1).2.1;have cS:=(T m v).2.1;obtain⟨r,f,g⟩:=ad3 (n:=n) (s:=p.parts.set i (lJ l m)) (i:=i+1) (j:=i+2) O (by rw[e6];omega);refine ae rfl (ae (x:=l.body++m.body) (c' O) (ae (x:=p.parts.set i (lJ l m)) (dU O _) (ae (x:=r) f ?_)));have u:(⟨p.aP,r.2.take r.1⟩:Prog)=f' p i 2 [lJ l m]:=by
     unfold f';rw[g];congr 1;rw[List.take_set,q5 O,eN,e,nP _ _ (by rw[cZ];omega)]
     have:i-(p.parts.take i).length=0:=by rw[cZ];omega
     rw[this];rfl
    rw[u,cf];exact ae (r2 O dI) (ad.some rfl)
  have Q:ax p.parts ((i:Int)+1)=none:=yn O;rw[Q];refine ad.aD (λz=>z=ab) (λj q=>aW (λ_=>q _ rfl) λh=>bB (show(p.parts.length:Int)<=(i:Int)+1 by omega) h) λz F=>?_;rw[F];exact bX (ad.some rfl)
 rw[aQ B,aQ B];exact b8 (ad.some rfl)
theorem ajL(cY:20000<=n)(A:dn 1000 p)(bb: -1<=c/\c<=9):Fe n p c=aa (qf p c):=by
 unfold Fe qf;refine ad.eq (ae (l2 O A) ?_);by_cases G:bM p=ab/\eT p c=ab
 ·rw[aR G];obtain⟨e,X⟩:=G;have P:0<=c/\c<(p.parts.length:Int):=fF X;obtain⟨i,rfl⟩: ∃i:Nat,c=i:=⟨c.toNat,O⟩
  have m:=bp (O:i<p.parts.length);have Z:=bl m;generalize S:p.parts[i]=o at Z m;have K:=(dZ e).2.2.1;rw[bc (n:=(i:Int)+1) O,bc (n:=(p.parts.length:Int)-1) O,Z];by_cases C:i+1<p.parts.length
  ·have q:=bp C;generalize T:p.parts[i+1]=B at q;have L:ax p.parts ((i:Int)+1)=aa B:=bl q;have m1:=bx m;have f:=bx q;rw[L];dsimp only;refine ad.aD (λz=>z= !pN o.nest B.nest) (λj l=>ae (lp O A.sm) ?_) λz r=>?_
   ·rw[e];refine b8 (aW (λh=>bB h O) λ_=>aW (λh=>bB h O) λ_=>ae rfl (ae rfl (ae (WL O (A.sm.2.2 o m1).1) (l _ rfl))))
   subst r;unfold C6;cases U:pN o.nest B.nest with
   |false=>exact bX (ad.some rfl)
   |true=>
    refine b8 (ae (we O e) (ae (GX O e) ?_));have Q:=Bs e;rw[gp];generalize g:mf p=w at Q;rw[show gL p (I p.parts) (I p.parts).length=w from g];refine ad.loop (λx:Int=> ∃k:Nat,x=k/\k<=w.length/\(w.take k).any (lh p (i:Int))=ak) (λx=>w.length-x.toNat) ?_ n 0 ⟨0,rfl,O,rfl⟩ O;rintro R x ⟨k,rfl,hk,W⟩ V;refine aW (λhlt=>?_) λkp=>?_
    ·have cC:=bp (O:k<w.length);generalize JB:w[k]=d at cC;obtain⟨s,t,a,b,u,v,D,E,qu,Kc,Kf⟩:=Ch e (g▸bx cC);refine ae (bl cC) (ae (x:=a) (by rw[u];exact bl D) (ae (x:=b) (by rw[v];exact bl E) ?_));have F:lh p (i:Int) d=(ag (a.part=(i:Int))&&(ag (b.part=(i:Int)+1)&&hQ b.bU a.bU)):=by
      unfold lh;rw[u,v,Int.toNat_natCast,Int.toNat_natCast,D,E]
     refine ad.aD (λz=>z=lh p (i:Int) d) (λj l=>?_) λz r=>?_
     ·rw[F] at l;refine aW (λH=>aW (λC=>ae (OE O O O) (l _ ?_)) λC=>l _ ?_) λH=>l _ ?_
      ·rw[bI H,bI C];rfl
      ·rw[bI H,bJ C];rfl
      rw[bJ H];rfl
     subst r;refine ad.cond (λh=>ad.some ?_) λh=>?_
     ·rw[aQ]; · rfl
      have:w.any (lh p (i:Int))=ab:=iW.2 ⟨d,bx cC,h⟩;rw[this];simp
     rw[bc O];exact V _ ⟨k+1,O,O,by rw[gE cC,uH,W];simp[h]⟩ O
    rw[l9 O] at W;rw[W,aR (by rfl)];obtain⟨_,_,M⟩:=my e;have dc:=(M o m1).2.1;have cS:=(M B f).2.1;refine ae rfl (ae (x:=o.body) (c' bP) (ae rfl (ae (x:=o.body++B.body) (c' O) ?_)));have hw:=G5 (n:=n) O ((my e).mono (O:4<=900)) (i:=i) (many:=2) O (ys:=[lJ o B]) aX λy N=>by rw[pF] at N;subst N;exact Pq e m1 f
    rw[cf];exact ae hw (ad.some rfl)
  have L:ax p.parts ((i:Int)+1)=none:=yn O;rw[L];refine ad.aD (λz=>z=ab) (λj l=>ae (lp O A.sm) ?_) λz r=>?_
  ·rw[e]
   grind
  rw[r];exact bX (ad.some rfl)
 rw[aQ G];refine ad.aD (λz=>z=ab) (λj l=>ae (lp O A.sm) ?_) λz r=>by rw[r];exact bX (ad.some rfl)
 by_cases e:bM p=ab
 ·have X: ¬(0<=c/\c<(p.parts.length:Int)):=λh=>G ⟨e,bI h⟩;rw[e];have K:=A.2.1;rw[bc (n:=(p.parts.length:Int)-1) O]
  grind
 rw[show bM p=ak by simpa using e]
 grind
def p2(i b:Nat)(x:bN):bN:=if x.part<(i:Int)+1 then x else if x.part=(i:Int)+1 then⟨(i:Int),x.stmt+(b:Int),x.bU⟩ else⟨x.part-1,x.stmt,x.bU⟩
def gv(i:Int)(k:Nat)(q:List Int):List bN:=(List.range k).map fun(k:Nat)=>(⟨i,(k:Int),q⟩:bN)
theorem J7(A C:List Part)(P:Part):I (A++P::C)=I A++(ew A.length P++((I C).map (fH 1)).map (fH A.length)):=by rw[y3,DI,eM];congr 2;exact wc λs q=>by unfold fH;simp
theorem tQ(i:Nat)(P:Part):ew i P=(dG P).flatMap (gv (i:Int) P.body.length):=rfl
theorem D1{k R H:Type}{f:k->List R}{g:R->H}{h:k->List H}: ∀{l:List k},(∀x∈l,(f x).map g=h x)->(l.flatMap f).map g=l.flatMap h
 | [],_=>rfl
 |x::l,a=>by rw[nR,nR,eM,a x eD,D1 λy c=>a y (eo _ c)]
theorem Qe(i:Int)(a b:Nat)(q:List Int):gv i (a+b) q=gv i a q++(List.range b).map (fun(k:Nat)=>(⟨i,(k:Int)+(a:Int),q⟩:bN)):=by
 unfold gv;rw[List.range_add,eM,fv];congr 1;refine lI (λk _=>?_)
 grind
theorem EI{Q:Part}(h:P.nest=Q.nest):dG P=dG Q:=by unfold dG;rw[h]
theorem ZB{s:Part}(e:p.parts[i]? =aa C)(c:p.parts[i+1]? =aa s)(h:C.nest=s.nest):
  ∃A Z,I p.parts=A++((dG C).flatMap (gv (i:Int) C.body.length)++((dG C).flatMap (gv ((i:Int)+1) s.body.length)++Z))/\
   I (f' p i 2 [lJ C s]).parts=(A++((dG C).flatMap (λq=>gv (i:Int) C.body.length q++gv ((i:Int)+1) s.body.length q)++Z)).map (p2 i C.body.length):=by
 have hi:=(bR.1 c).1;have d:(p.parts.take i).length=i:=by rw[cZ];omega
 refine⟨I (p.parts.take i),((I (p.parts.drop (i+2))).map (fH 1)).map λx=>fH i (fH 1 x),?_,?_⟩
 ·conv=>lhs;rw[ya e c]
  rw[y5,d,tQ,tQ,EI (P:=s) (Q:=C) h.symm];rfl
 show I (p.parts.take i++[lJ C s]++p.parts.drop (i+2))=_;rw[fN,List.singleton_append,J7,d,eM,eM];congr 1
 ·exact(l0 (λx a=>by
   have:=nz a;unfold p2;rw[aR O])).symm
 congr 1
 ·rw[tQ,EI (P:=lJ C s) (Q:=C) rfl];refine(D1 λq _=>?_).symm;show _=gv (i:Int) (C.body++s.body).length q;rw[ea,Qe,eM];congr 1
  ·refine l0 λx a=>?_;unfold gv at a;obtain⟨k,_,rfl⟩:=eA.1 a;unfold p2
   grind
  unfold gv;rw[fv];refine lI λk _=>?_;simp only[Function.comp_apply];unfold p2
  grind
 rw[fv,fv,fv];refine lI λx a=>?_
 have:=nz a;simp only[Function.comp_apply];unfold p2 fH
 grind
theorem nH{l:List Part}(a:i+n<=p.parts.length)(j:Nat):(f' p i n l).parts[j]? =if j<i then p.parts[j]? else if j<i+l.length then l[j-i]? else p.parts[j-l.length+n]? :=by
 show(p.parts.take i++l++p.parts.drop (i+n))[j]? =_
 grind
theorem aao(n:p.parts[i]? =aa C)(e:p.parts[i+1]? =aa y)(o:da p x):ep (f' p i 2 [lJ C y]) (p2 i C.body.length x)=ep p x/\(p2 i C.body.length x).bU=x.bU:=by
 have hi:=(bR.1 e).1;obtain⟨c,k,P,s,h,l,a,q,z⟩:=o;have r:=(bR.1 q).1;have w:=(bR.1 a).1;unfold p2;by_cases m:x.part<(i:Int)+1
 ·rw[aR m];refine⟨?_,rfl⟩;unfold ep;rw[h,l,cf,cf,nH O];by_cases d:c<i
  ·rw[aR d]
  have:c=i:=O
  subst this;rw[aQ d,aR aX,a,kB];rw[n] at a;cases a;show(C.body++y.body)[k]? =C.body[k]?;rw[jo r]
 rw[aQ m];by_cases d:x.part=(i:Int)+1
 ·rw[aR d];refine⟨?_,rfl⟩
  have:c=i+1:=O
  subst this;rw[e] at a;cases a;unfold ep;dsimp only;rw[h,l,cf,cf,nH O,aQ O,aR aX,kB,e,show((k:Int)+(C.body.length:Int)).toNat=C.body.length+k by omega];show(C.body++y.body)[C.body.length+k]? =y.body[k]?;rw[iD O];congr 1;omega
 rw[aQ d];refine⟨?_,rfl⟩;unfold ep;dsimp only;rw[h,l,cf,cf,show((c:Int)-1).toNat=c-1 by omega,nH O,aQ O,aQ bP];congr 2;simp only[List.length_singleton];omega
theorem Ez{p q:Prog}(a:q.aP=p.aP){σ:bN->bN}: ∀{l:List bN} {m:List Int},(∀x∈l,ep q (σ x)=ep p x/\(σ x).bU=x.bU)->c4 q m (l.map σ)=c4 p m l
 | [],m,_=>rfl
 |x::l,m,h=>by
  obtain⟨c,d⟩:=h x eD;have e:eI q m (σ x)=eI p m x:=by unfold eI;rw[c,d,a]
  show c4 q (eI q m (σ x)) (l.map σ)=c4 p (eI p m x) l;rw[e];exact Ez a λy i=>h y (eo _ i)
theorem yC{i:Int}{q:List Int}(h:x∈gv i k q):x.part=i/\x.bU=q/\0<=x.stmt/\x.stmt<(k:Int):=by
 unfold gv at h
 grind
theorem agB(o:bM p=ab)(r:p.parts[i]? =aa P)(K:p.parts[i+1]? =aa C)(j:P.nest=C.nest)(L:(mf p).any (lh p (i:Int))=ak)(u:fD p.aP m):
  c4 (f' p i 2 [lJ P C]) m (I (f' p i 2 [lJ P C]).parts)=c4 p m (I p.parts):=by
 obtain⟨A,Z,w,v⟩:=ZB r K j;have e: ∀x∈A++((dG P).flatMap (gv (i:Int) P.body.length)++((dG P).flatMap (gv ((i:Int)+1) C.body.length)++Z)),da p x:=λx c=>fc (by rw[w];exact c);have Q: ∀x∈A,da p x:=λx c=>e x (ka _ c);have R: ∀q∈dG P,∀x∈gv (i:Int) P.body.length q,da p x:=λq k x c=>e x (jq _ (ka _ (ho.2 ⟨q,k,c⟩)));have W: ∀q∈dG P,∀x∈gv ((i:Int)+1) C.body.length q,da p x:=λq k x c=>e x (jq _ (jq _ (ka _ (ho.2 ⟨q,k,c⟩))));have D: ∀x∈Z,da p x:=λx c=>e x (jq _ (jq _ (jq _ c)));have l:=(dZ o).2.2.2.1 P (bx r);rw[v,Ez (p:=p) (q:=f' p i 2 [lJ P C]) (σ:=p2 i P.body.length) rfl λx c=>aao r K ?_,w,hF,hF,hF,GH o R W ?_ (sa o Q u),hF,hF,hF]
 ·rw[l6 l];have z:=l6 l;refine(P7 P.nest []).imp_of_mem fun {a b} X f E y g x c=>?_;rw[<-z] at X f;obtain⟨s,t,B,F,G⟩:=Qm (A:=A) (Z:=Z) (ho.2 ⟨b,f,c⟩) (ho.2 ⟨a,X,g⟩);rw[<-w] at F G;refine Pj o (λx c=>fc c) s t x y B F G λd H n=>?_;obtain⟨M,N,_⟩:=yC c;obtain⟨S,T,_⟩:=yC g
  have:lh p (i:Int) d=ab:=by
   unfold lh;rw[show d.e3=(s:Int) from n.1,show d.e5=(t:Int) from n.2,cf,cf,F,G];dsimp only;rw[M,S,N,T,E,bI rfl,bI rfl];rfl
  rw[iW.2 ⟨d,H,this⟩] at L;cases L
 rcases eC.1 c with h|h
 ·exact Q x h
 rcases eC.1 h with h|h
 ·obtain⟨q,k,h⟩:=ho.1 h;rcases eC.1 h with h|h
  ·exact R q k x h
  exact W q k x h
 exact D x h
theorem agA(h:qf p a=(q,ab)):bM p=ab/\ ∃(i:Nat) (c d:Part),a=i/\p.parts[i]? =aa c/\p.parts[i+1]? =aa d/\c.nest=d.nest/\(mf p).any (lh p (i:Int))=ak/\q=f' p i 2 [lJ c d]/\bM q=ab:=by
 unfold qf at h;split at h
 ·rename_i m;split at h
  ·rename_i c d n o;split at h
   ·rename_i k;obtain⟨l,rfl,_,r⟩:=CG n;obtain⟨s,e,_,w⟩:=CG o
    have:s=l+1:=O
    subst this;unfold C6 at k;simp only[b9,Bool.not_eq_true'] at k;obtain⟨rfl,x⟩:=ts h;exact⟨m.1,l,c,d,rfl,r,w,OU k.1,k.2,rfl,x⟩
   cases h
  cases h
 cases h
def lj(p:Prog)(c k:Int)(d:gr):Bool:=match (I p.parts)[d.e3.toNat]?,(I p.parts)[d.e5.toNat]? with
 |some a,aa b=>decide (a.part=c)&&(ag (b.part=c)&&(ag (k<=a.stmt)&&ag (b.stmt<k)))
 |_,_=>ak
def C8(p:Prog)(a k:Int)(P:Part):Bool:=ag (1<=k/\k<(P.body.length:Int))&& !(mf p).any (lj p a k)
def iV(P:Part)(k:Nat):Part:=⟨P.nest,P.body.take k⟩
def j6(P:Part)(k:Nat):Part:=⟨P.nest,P.body.drop k⟩
def p9(p:Prog)(a k:Int):Prog×Bool:=
 if bM p=ab/\eT p a=ab then
  (match ax p.parts a with
  |some P=>if C8 p a k P=ab then hW (f' p a.toNat 1 [iV P k.toNat,j6 P k.toNat]) else eV
  |none=>eV)
 else eV
theorem Ph(d:bM p=ab)(e:P∈p.parts)(k:Nat): ∀y∈[iV P k,j6 P k],gf 1000 y:=by
 obtain⟨_,_,h⟩:=my d;obtain⟨aL,a2,a3⟩:=h P e;intro y c;simp only[List.mem_cons,List.not_mem_nil,or_false] at c;rcases c with rfl|rfl
 ·refine⟨aL.mono O,?_,λs a=>(a3 s (gO a)).mono O⟩;show(P.body.take k).length<=1000
  grind
 refine⟨aL.mono O,?_,λs a=>(a3 s (fq a)).mono O⟩;show(P.body.drop k).length<=1000
 grind
theorem Qj{s:List Part}{v:List Part}(a:i<=s.length)(c:s.length+v.length<=1000000000):wh n s (i:Int) v=aa (s.take i++v++s.drop i):=by unfold wh;rw[bI (show(0:Int)<=(i:Int) by omega),bI (show(i:Int)<=(s.length:Int) by omega),cond_true,cond_true,cf];exact c' (by simp only[ik,k8,lN];omega)
theorem aip(cY:20000<=n)(f:dn 1000 p){k:Int}(bb: -1<=c/\c<=9):D2 n p c k=aa (p9 p c k):=by
 unfold D2 p9;refine ad.eq (ae (Bv O f c) ?_);by_cases r:bM p=ab/\eT p c=ab
 ·rw[aR r,aR r];obtain⟨l,S⟩:=r;have T:0<=c/\c<(p.parts.length:Int):=fF S;obtain⟨i,rfl⟩: ∃i:Nat,c=i:=⟨c.toNat,O⟩
  have e:=bp (O:i<p.parts.length);have A:=bl e;generalize U:p.parts[i]=P at A e;have V:=(dZ l).2.2.1;have m1:=bx e;have w:=(dZ l).2.2.2.1 P m1;obtain⟨B,C⟩:=gU w;obtain⟨_,Dt,Sl,_⟩:=gx w;refine bX (ae A ?_);rw[bc (n:=(i:Int)+1) O,bc (n:=(P.body.length:Int)-1) O,A];dsimp only;refine ad.aD (λz=>z= !decide (1<=k/\k<(P.body.length:Int))) (λj g=>ae (jC n k 1 _) (g _ ?_)) λz F=>?_
  ·congr 1
   grind
  subst F;unfold C8;cases G:ag (1<=k/\k<(P.body.length:Int)) with
  |false=>exact bX (ad.some rfl)
  |true=>
   have hk:=fF G;obtain⟨t,rfl⟩: ∃t:Nat,k=t:=⟨k.toNat,O⟩
   refine b8 (ae (z6 O f.sm) ?_);rw[aR l];refine bX (ae (GN O l) ?_);have H:=Bs l;show ad (bn _ n 0) _;rw[gp];generalize v:mf p=m at H;rw[show gL p (I p.parts) (I p.parts).length=m from v];refine ad.loop (λx:Int=> ∃j:Nat,x=j/\j<=m.length/\(m.take j).any (lj p (i:Int) (t:Int))=ak) (λx=>m.length-x.toNat) ?_ n 0 ⟨0,rfl,O,rfl⟩ O;rintro K x ⟨j,rfl,g,L⟩ b7;refine aW (λhlt=>?_) λkp=>?_
   ·have cC:=bp (O:j<m.length);generalize JB:m[j]=d at cC;obtain⟨s,u,a,b,D,E,M,N,qu,Kc,Kf⟩:=Ch l (v▸bx cC);refine ae (bl cC) (ae (x:=a) (by rw[D];exact bl M) (ae (x:=b) (by rw[E];exact bl N) ?_));have y:lj p (i:Int) (t:Int) d=(ag (a.part=(i:Int))&&(ag (b.part=(i:Int))&&(ag ((t:Int)<=a.stmt)&&ag (b.stmt<(t:Int))))):=by
     unfold lj;rw[D,E,Int.toNat_natCast,Int.toNat_natCast,M,N]
    refine ad.aD (λz=>z=lj p (i:Int) (t:Int) d) (λq o=>?_) λz F=>?_
    ·rw[y] at o;refine aW (λQ=>aW (λR=>aW (λW=>o _ ?_) λW=>o _ ?_) λR=>o _ ?_) λQ=>o _ ?_
     ·rw[bI Q,bI R,bI W];simp
     ·rw[bJ W];simp
     ·rw[bJ R];simp
     rw[bJ Q];rfl
    subst F;refine ad.cond (λh=>ad.some ?_) λh=>?_
    ·rw[aQ]; · rfl
     have:m.any (lj p (i:Int) (t:Int))=ab:=iW.2 ⟨d,bx cC,h⟩;rw[this];simp
    rw[bc O];exact b7 _ ⟨j+1,O,O,by rw[gE cC,uH,L];simp[h]⟩ O
   rw[l9 O] at L;rw[L,aR (by rfl)];have o:=Cz (i:=i) (many:=1) (ys:=[iV P t,j6 P t]) ((my l).mono (O:4<=900)) aX (Ph l m1 t);refine ae (M9 O B C) (ae (iQ O O O) ?_);rw[cf,cf,dW];refine ae (x:=P.body.drop t) ?_ (ae (iQ O O O) ?_)
   ·unfold Fx
    have:(P.body.drop t).isEmpty=ak:=by
     cases X:P.body.drop t with
     |nil=>
      have:=congrArg List.length X;rw[fM,List.length_nil] at this;omega
     |cons=>rfl
    rw[this,cond_false];rw[c' bP];rfl
   rw[cf,show(0:Int).toNat=0 from rfl,pE];refine ae (x:=p.parts.set i (iV P t)) (dU O _) (ae (Qj (i:=i+1) (by rw[e6];omega) (by rw[e6];simp;omega)) ?_);have Z:(⟨p.aP,(p.parts.set i (iV P t)).take (i+1)++[j6 P t]++(p.parts.set i (iV P t)).drop (i+1)⟩:Prog)=f' p i 1 [iV P t,j6 P t]:=by
    unfold f';congr 1;rw[List.take_set,q5 O,eN,e,nP _ _ (by rw[cZ];omega)]
    have:i-(p.parts.take i).length=0:=by rw[cZ];omega
    rw[this];simp
   show ad (bO (mD n (⟨p.aP,(p.parts.set i (iV P t)).take (i+1)++[j6 P t]++(p.parts.set i (iV P t)).drop (i+1)⟩:Prog)) _) _;rw[Z];simp only[Int.toNat_natCast];exact ae (r2 O o) (ad.some rfl)
 rw[aQ r,aQ r];exact b8 (ad.some rfl)
theorem ajK(cY:20000<=n)(A:dn 1000 p){k:Int}(bb: -1<=c/\c<=9):DW n p c k=aa (p9 p c k):=by
 unfold DW p9;refine ad.eq (ae (l2 O A) ?_);by_cases y:bM p=ab/\eT p c=ab
 ·rw[aR y];obtain⟨e,R⟩:=y;have E:0<=c/\c<(p.parts.length:Int):=fF R;obtain⟨i,rfl⟩: ∃i:Nat,c=i:=⟨c.toNat,O⟩
  have l:=bp (O:i<p.parts.length);have W:=bl l;generalize M:p.parts[i]=P at W l;have N:=(dZ e).2.2.1;have m1:=bx l;have B:=(dZ e).2.2.2.1 P m1;obtain⟨_,S,T,_⟩:=gx B;rw[W];dsimp only;refine ad.aD (λz=>z= !decide (1<=k/\k<(P.body.length:Int))) (λj X=>ae (lp O A.sm) ?_) λz o=>?_
  ·rw[e]
   grind
  subst o;unfold C8;cases C:ag (1<=k/\k<(P.body.length:Int)) with
  |false=>exact bX (ad.some rfl)
  |true=>
   have hk:=fF C;obtain⟨t,rfl⟩: ∃t:Nat,k=t:=⟨k.toNat,O⟩
   refine b8 (ae (we O e) (ae (GX O e) ?_));have F:=Bs e;rw[gp];generalize Z:mf p=m at F;rw[show gL p (I p.parts) (I p.parts).length=m from Z];refine ad.loop (λx:Int=> ∃j:Nat,x=j/\j<=m.length/\(m.take j).any (lj p (i:Int) (t:Int))=ak) (λx=>m.length-x.toNat) ?_ n 0 ⟨0,rfl,O,rfl⟩ O;rintro G x ⟨j,rfl,X,H⟩ U;refine aW (λV=>?_) λkp=>?_
   ·have cC:=bp (O:j<m.length);generalize JB:m[j]=d at cC;obtain⟨s,u,a,b,f,g,v,D,qu,Kc,Kf⟩:=Ch e (Z▸bx cC);refine ae (bl cC) (ae (x:=a) (by rw[f];exact bl v) (ae (x:=b) (by rw[g];exact bl D) ?_));have r:lj p (i:Int) (t:Int) d=(ag (a.part=(i:Int))&&(ag (b.part=(i:Int))&&(ag ((t:Int)<=a.stmt)&&ag (b.stmt<(t:Int))))):=by
     unfold lj;rw[f,g,Int.toNat_natCast,Int.toNat_natCast,v,D]
    refine ad.aD (λz=>z=lj p (i:Int) (t:Int) d) (λq w=>?_) λz o=>?_
    ·rw[r] at w;refine aW (λK=>aW (λL=>aW (λQ=>w _ ?_) λQ=>w _ ?_) λL=>w _ ?_) λK=>w _ ?_
     ·rw[bI K,bI L,bI Q];simp
     ·rw[bJ Q];simp
     ·rw[bJ L];simp
     rw[bJ K];rfl
    subst o;refine ad.cond (λh=>ad.some ?_) λh=>?_
    ·rw[aQ]; · rfl
     have:m.any (lj p (i:Int) (t:Int))=ab:=iW.2 ⟨d,bx cC,h⟩;rw[this];simp
    rw[bc O];exact U _ ⟨j+1,O,O,by rw[gE cC,uH,H];simp[h]⟩ O
   rw[l9 O] at H;rw[H,aR (by rfl)];refine ae rfl (ae (iQ O O O) (ae (iQ O O O) ?_));rw[cf,cf,dW,show(0:Int).toNat=0 from rfl,pE,cf];have hw:=G5 (n:=n) O ((my e).mono (O:4<=900)) (i:=i) (many:=1) O (ys:=[iV P t,j6 P t]) aX (Ph e m1 t);exact ae hw (ad.some rfl)
 rw[aQ y];refine ad.aD (λz=>z=ab) (λj X=>ae (lp O A.sm) ?_) λz o=>by rw[o];exact bX (ad.some rfl)
 by_cases e:bM p=ab
 ·have R: ¬(0<=c/\c<(p.parts.length:Int)):=λh=>y ⟨e,bI h⟩
  grind
 rw[show bM p=ak by simpa using e]
 grind
theorem M7{k:Type}{R:k->k->Prop}: ∀{L:List k},(∀d a c,L=d++a::c-> ∀b∈c,R a b)->L.Pairwise R
 | [],_=>List.Pairwise.nil
 |x::L,h=>nQ.2 ⟨λb i=>h [] x L rfl b i,M7 λd a c e b i=>h (x::d) a c (by rw[e];rfl) b i⟩
def p3(i k:Nat)(x:bN):bN:=if x.part<(i:Int) then x else if x.part=(i:Int) then(if x.stmt<(k:Int) then x else⟨(i:Int)+1,x.stmt-(k:Int),x.bU⟩) else⟨x.part+1,x.stmt,x.bU⟩
def np(i:Int)(a b:Nat)(q:List Int):List bN:=(List.range b).map fun(k:Nat)=>(⟨i,(k:Int)+(a:Int),q⟩:bN)
theorem Zk(c:p.parts[i]? =aa P)(m:k<=P.body.length):
  ∃A Z,I p.parts=A++((dG P).flatMap (λq=>gv (i:Int) k q++np (i:Int) k (P.body.length-k) q)++Z)/\
   I (f' p i 1 [iV P k,j6 P k]).parts=(A++(((dG P).flatMap (gv (i:Int) k)++(dG P).flatMap (np (i:Int) k (P.body.length-k)))++Z)).map (p3 i k):=by
 have hi:=(bR.1 c).1;have e:(p.parts.take i).length=i:=by rw[cZ];omega
 have d:p.parts=p.parts.take i++P::p.parts.drop (i+1):=by
  have:=mX i p.parts;rw[lG hi] at this;rw[show p.parts[i]=P from by rw[bp hi] at c;exact Option.some.inj c] at this;exact this.symm
 refine⟨I (p.parts.take i),((I (p.parts.drop (i+1))).map (fH 1)).map (fH i),?_,?_⟩
 ·conv=>lhs;rw[d]
  rw[J7,e,tQ];congr 2;rw[pC,pC];congr 1;refine lI λq _=>?_
  conv=>lhs;rw[show P.body.length=k+(P.body.length-k) by omega]
  exact Qe _ _ _ _
 show I (p.parts.take i++[iV P k,j6 P k]++p.parts.drop (i+1))=_;rw[fN,show [iV P k,j6 P k]++p.parts.drop (i+1)=iV P k::j6 P k::p.parts.drop (i+1) from rfl,y5,e,eM,eM,eM];congr 1
 ·exact(l0 (λx a=>by
   have:=nz a;unfold p3;rw[aR O])).symm
 rw[fN];congr 1
 ·rw[tQ,EI (P:=iV P k) (Q:=P) rfl,show(iV P k).body.length=k from by show(P.body.take k).length=k;rw[cZ];omega];refine(l0 λx a=>?_).symm;obtain⟨q,_,a⟩:=ho.1 a;obtain⟨h,n,o,l⟩:=yC a;unfold p3;rw[aQ O,aR h,aR l]
 congr 1
 ·rw[tQ,EI (P:=j6 P k) (Q:=P) rfl,show(j6 P k).body.length=P.body.length-k from by show(P.body.drop k).length=_;rw[fM]];refine(D1 λq _=>?_).symm;unfold gv np;rw[fv];refine lI λj _=>?_;simp only[Function.comp_apply];unfold p3;rw[aQ J,aR rfl,aQ J];simp only[bN.mk.injEq,and_true];omega
 rw[fv,fv,fv];refine lI λx a=>?_
 have:=nz a;simp only[Function.comp_apply];unfold p3 fH;dsimp only;rw[aQ O,aQ O];simp only[bN.mk.injEq,and_true];omega
theorem aaA(c:p.parts[i]? =aa P)(w:k<=P.body.length)(o:da p x):ep (f' p i 1 [iV P k,j6 P k]) (p3 i k x)=ep p x/\(p3 i k x).bU=x.bU:=by
 have hi:=(bR.1 c).1;obtain⟨a,j,y,s,d,e,h,q,z⟩:=o;have A:=(bR.1 q).1;have r:=(bR.1 h).1;unfold p3;by_cases l:x.part<(i:Int)
 ·rw[aR l];refine⟨?_,rfl⟩;unfold ep;rw[d,e,cf,cf,nH O,aR O]
 rw[aQ l];by_cases m:x.part=(i:Int)
 ·rw[aR m]
  have:a=i:=O
  subst this;rw[c] at h;cases h;by_cases n:x.stmt<(k:Int)
  ·rw[aR n];refine⟨?_,rfl⟩;unfold ep;rw[d,e,cf,cf,nH O,aQ O,aR aX,kB,c];show(P.body.take k)[j]? =P.body[j]?
   grind
  rw[aQ n];refine⟨?_,rfl⟩;unfold ep;dsimp only;rw[d,e,show((a:Int)+1).toNat=a+1 by omega,show((j:Int)-(k:Int)).toNat=j-k by omega,cf,cf,nH O,aQ O,aR aX,show a+1-a=1 by omega,c];show(P.body.drop k)[j-k]? =P.body[j]?
  grind
 rw[aQ m];refine⟨?_,rfl⟩;unfold ep;dsimp only;rw[d,e,cf,cf,show((a:Int)+1).toNat=a+1 by omega,nH O,aQ O,aQ bP]
 grind
theorem aee{i:Int}{a b:Nat}{q:List Int}(h:x∈np i a b q):x.part=i/\x.bU=q/\(a:Int)<=x.stmt:=by
 unfold np at h
 grind
theorem ad5{a b:bN}(h:oc p a b):oc p b a:=λm c=>(h m c).symm
theorem agp(o:bM p=ab)(F:p.parts[i]? =aa P)(G:k<=P.body.length)(H:(mf p).any (lj p (i:Int) (k:Int))=ak)(g:fD p.aP m):
  c4 (f' p i 1 [iV P k,j6 P k]) m (I (f' p i 1 [iV P k,j6 P k]).parts)=c4 p m (I p.parts):=by
 obtain⟨A,Z,r,j⟩:=Zk F G;have e: ∀x∈A++((dG P).flatMap (λq=>gv (i:Int) k q++np (i:Int) k (P.body.length-k) q)++Z),da p x:=λx c=>fc (by rw[r];exact c);have K: ∀x∈A,da p x:=λx c=>e x (ka _ c);have L: ∀q∈dG P,∀x∈gv (i:Int) k q,da p x:=λq l x c=>e x (jq _ (ka _ (ho.2 ⟨q,l,ka _ c⟩)));have Q: ∀q∈dG P,∀x∈np (i:Int) k (P.body.length-k) q,da p x:=λq l x c=>e x (jq _ (ka _ (ho.2 ⟨q,l,jq _ c⟩)));have u: ∀x∈Z,da p x:=λx c=>e x (jq _ (jq _ c));rw[j,Ez (p:=p) (q:=f' p i 1 [iV P k,j6 P k]) (σ:=p3 i k) rfl λx c=>aaA F G ?_,r,hF p m A,hF p m A,hF p (c4 p m A) _ Z,hF p (c4 p m A) _ Z,GH o L Q ?_ (sa o K g)]
 ·refine M7 λR a X jD b v y f x c=>?_;have D:I p.parts=(A++R.flatMap λq=>gv (i:Int) k q++np (i:Int) k (P.body.length-k) q)++((gv (i:Int) k a++np (i:Int) k (P.body.length-k) a)++(X.flatMap (λq=>gv (i:Int) k q++np (i:Int) k (P.body.length-k) q)++Z)):=by
   rw[r,jD,mb,nR];simp only[List.append_assoc]
  obtain⟨s,t,w,z,B⟩:=Qm (A:=A++R.flatMap λq=>gv (i:Int) k q++np (i:Int) k (P.body.length-k) q) (Z:=Z) (x:=y) (y:=x) (jq _ f) (W:=X.flatMap λq=>gv (i:Int) k q++np (i:Int) k (P.body.length-k) q) (ho.2 ⟨b,v,ka _ c⟩);rw[<-D] at z B;refine ad5 (Pj o (λx c=>fc c) s t y x w z B λd C n=>?_);obtain⟨E,T,_,M⟩:=yC c;obtain⟨N,U,S⟩:=aee f
  have:lj p (i:Int) (k:Int) d=ab:=by
   unfold lj;rw[show d.e3=(s:Int) from n.1,show d.e5=(t:Int) from n.2,cf,cf,z,B];dsimp only;rw[E,N,bI rfl,bI S,bI M];rfl
  rw[iW.2 ⟨d,C,this⟩] at H;cases H
 rcases eC.1 c with h|h
 ·exact K x h
 rcases eC.1 h with h|h
 ·rcases eC.1 h with h|h
  ·obtain⟨q,l,h⟩:=ho.1 h;exact L q l x h
  obtain⟨q,l,h⟩:=ho.1 h;exact Q q l x h
 exact u x h
theorem ago{k:Int}(h:p9 p a k=(q,ab)):bM p=ab/\ ∃(i t:Nat) (P:Part),a=i/\k=t/\p.parts[i]? =aa P/\t<=P.body.length/\(mf p).any (lj p (i:Int) (t:Int))=ak/\q=f' p i 1 [iV P t,j6 P t]/\bM q=ab:=by
 unfold p9 at h;split at h
 ·rename_i d;split at h
  ·rename_i P e;split at h
   ·rename_i c;obtain⟨l,rfl,_,m⟩:=CG e;unfold C8 at c;simp only[b9,Bool.not_eq_true',decide_eq_true_eq] at c;obtain⟨t,rfl⟩: ∃t:Nat,k=t:=⟨k.toNat,O⟩
    obtain⟨rfl,n⟩:=ts h;exact⟨d.1,l,t,P,rfl,rfl,m,O,c.2,rfl,n⟩
   cases h
  cases h
 cases h
def fZ(k:Nat)(x:az):az:=⟨(x.aT.take k++0::x.aT.drop k).take 4,x.const⟩
def dK(c:Int):az:=⟨[0,0,0,0],c⟩
def iC(k:Nat)(s c:Int):az:=⟨[0,0,0,0].set k s,c⟩
theorem Ql(k:Nat): ∀x,cN x=ab->dD 4 (fZ k x):=λx a=>by unfold dD fZ;rw[cZ];omega
theorem aaf(l:5000<=n)(m:k<3): ∀x,cN x=ab->wm n x (k:Int)=aa (fZ k x):=λx h=>by obtain⟨i,_,_⟩:=fo h;obtain⟨a,b,c,d,e⟩:=mu i;unfold wm;rw[Be n x h];obtain⟨cs,lC⟩:=x;dsimp only at e;subst e;rcases(O:k=0\/k=1\/k=2) with rfl|rfl|rfl<;>rfl
theorem afH(m:Nat)(a b c d e:Int)(B:az)(h:k<3):km (m+6) ⟨[a,b,c,d],e⟩ 2 (k:Int) B=aa (fZ k ⟨[a,b,c,d],e⟩):=by rcases(O:k=0\/k=1\/k=2) with rfl|rfl|rfl<;>rfl
theorem aci(h:k<3)(B:az): ∀n,5000<=n-> ∀x,cN x=ab->km n x 2 (k:Int) B=aa (fZ k x):=λn o x i=>by
 obtain⟨m,rfl⟩: ∃m,n=m+6:=⟨n-6,O⟩
 obtain⟨l,_,_⟩:=fo i;obtain⟨a,b,c,d,e⟩:=mu l;obtain⟨cs,lC⟩:=x;dsimp only at e;subst e;exact afH m a b c d lC B h
def j8(l:List az):Bool:=l.all λa=>decide (e8 a.aT=0)
def eG(l:Loop):Bool:=ag (l.lo.length=1)&&(ag (l.hi.length=1)&&(j8 l.lo&&j8 l.hi))
def cM(l:List az):Int:=(l.headD ⟨[],0⟩).const
theorem MW(c:5000<=n){l:List az}(h:l.length<=2)(d: ∀x∈l,cN x=ab):An n l=aa (j8 l):=by
 unfold An;rw[zi (p:=λa=>decide (0<(e8 a.aT:Int))) (λx e=>by
  unfold E4;rw[AG c (show x.aT.length<=1000 by have:=(fo (d x e)).1;omega)];rfl) O O]
 show aa (!l.any _)=_;congr 1;unfold j8
 grind
theorem Hp(e:5000<=n)(h:gV l):wx n l=aa (if eG l=ab then(cM l.lo,cM l.hi,ab) else(0,0,ak)):=by
 obtain⟨⟨i,k⟩,m,o⟩:=h;unfold wx;refine ad.eq (ad.aD (λz=>z= !eG l) (λj a=>?_) λz p=>?_)
 ·refine fl (λh=>a _ ?_) λh=>fl (λq=>a _ ?_) λq=>ae (MW e i k) (ad.cond (λc=>a _ ?_) λc=>ae (MW e m o) (a _ ?_))
  ·unfold eG;rw[bJ (show¬l.lo.length=1 by omega)];rfl
  ·unfold eG;rw[bJ (show¬l.hi.length=1 by omega),Bool.false_and,k5];rfl
  ·unfold eG;rw[show j8 l.lo=ak by simpa using c];simp
  unfold eG;rw[show j8 l.lo=ab by simpa using c,bI (O:l.lo.length=1),bI (O:l.hi.length=1)];rfl
 subst p;cases d:eG l with
 |false=>exact bX (ad.some rfl)
 |true=>
  refine b8 ?_;unfold eG at d;simp only[b9,decide_eq_true_eq] at d;obtain⟨r,s,_⟩:=d;obtain⟨x,w⟩:=q9.1 r;obtain⟨y,A⟩:=q9.1 s;rw[w,A];exact ae (x:=x) rfl (ae (x:=y) rfl (ad.some rfl))
theorem adW(w:5000<=n)(h:gV l):BV n l=aa (j8 l.lo&&j8 l.hi):=by
 obtain⟨⟨C,y⟩,F,A⟩:=h;have s: ∀x,cN x=ab->pe n x=aa (e8 x.aT:Int):=λx c=>zQ w (show x.aT.length<=1000 by have:=(fo c).1;omega);have d: ∀(l:List az) (i:Nat) (x:az),l[i]? =aa x->e8 x.aT=0->j8 (l.take i)=ab->j8 (l.take (i+1))=ab:=λl i x c o k=>by
  unfold j8 at k⊢;rw[eN,c,List.all_append,k];simp[o]
 have p: ∀(l:List az) (i:Nat) (x:az),l[i]? =aa x-> ¬e8 x.aT=0->j8 l=ak:=λl i x c o=>by
  unfold j8
  grind
 unfold BV;refine ad.eq (ad.loop (λz:Int=> ∃i:Nat,z=i/\i<=l.lo.length/\j8 (l.lo.take i)=ab) (λz=>l.lo.length-z.toNat) ?_ n _ ⟨0,rfl,O,rfl⟩ O);rintro m z ⟨i,rfl,B,k⟩ q;refine aW (λa=>?_) λr=>?_
 ·have a:i<l.lo.length:=O
  have c:=bp a;refine ae (bl c) (ae (s _ (y _ (gB a))) (aW (λo=>ad.some ?_) λo=>?_))
  ·rw[p l.lo i _ c O];rfl
  rw[bc O];exact q _ ⟨i+1,O,O,d _ _ _ c O k⟩ O
 have e:i=l.lo.length:=O
 subst e;rw[dW] at k;rw[k,gp];refine ad.loop (λz:Int=> ∃i:Nat,z=i/\i<=l.hi.length/\j8 (l.hi.take i)=ab) (λz=>l.hi.length-z.toNat) ?_ n _ ⟨0,rfl,O,rfl⟩ O;rintro m z ⟨i,rfl,B,k⟩ q;refine aW (λa=>?_) λr=>ad.some ?_
 ·have a:i<l.hi.length:=O
  have c:=bp a;refine ae (bl c) (ae (s _ (A _ (gB a))) (aW (λo=>ad.some ?_) λo=>?_))
  ·exact(p l.hi i _ c O).symm
  rw[bc O];exact q _ ⟨i+1,O,O,d _ _ _ c O k⟩ O
 have e:i=l.hi.length:=O
 grind
theorem Gx(d:5000<=n)(h:gV l):wS n l=aa (if eG l=ab then(cM l.lo,cM l.hi,ab) else(0,0,ak)):=by
 unfold wS;refine ad.eq (ad.aD (λz=>z= !eG l) (λj a=>?_) λz e=>?_)
 ·refine fl (λi=>a _ ?_) λi=>fl (λk=>a _ ?_) λk=>ae (adW d h) (a _ ?_)
  ·unfold eG;rw[bJ (show¬l.lo.length=1 by omega)];rfl
  ·unfold eG;rw[bJ (show¬l.hi.length=1 by omega),Bool.false_and,k5];rfl
  unfold eG;rw[bI (O:l.lo.length=1),bI (O:l.hi.length=1)];rfl
 subst e;cases c:eG l with
 |false=>exact bX (ad.some rfl)
 |true=>
  refine b8 ?_;unfold eG at c;simp only[b9,decide_eq_true_eq] at c;obtain⟨m,o,_⟩:=c;obtain⟨x,p⟩:=q9.1 m;obtain⟨y,q⟩:=q9.1 o;rw[p,q];exact ae (x:=x) rfl (ae (x:=y) rfl (ad.some rfl))
def ln(a c s:Int):Int:=Int.tdiv (max 0 (c-a)+s-1) s
def oJ(k:Nat)(s:Int)(P:Part)(l:Loop):Part:=
 ⟨P.nest.take k++(⟨[dK 0],[dK (ln (cM l.lo) (cM l.hi) s)]⟩:Loop)::(⟨[dK (cM l.lo),iC k s (cM l.lo)],[dK (cM l.hi),iC k s (cM l.lo+s)]⟩:Loop)::(P.nest.drop (k+1)).map (c9 (fZ k)),P.body.map (gN (fZ k))⟩
def qV(p:Prog)(a c s:Int):Prog×Bool:=
 match ax p.parts a with
 |some P=>match ax P.nest c with
  |some l=>if cO p a c=ab/\P.nest.length<4/\(1<=s/\s<=6)/\eG l=ab then hW ⟨p.aP,p.parts.set a.toNat (oJ c.toNat s P l)⟩ else eV
  |none=>eV
 |none=>eV
theorem EA{b:Int}(h:cO p a b≠ab):qV p a b s=eV:=by
 unfold qV
 grind
theorem KH(a:p.parts[i]? =aa P)(c:P.nest[k]? =aa l)(s:Int):
  qV p (i:Int) (k:Int) s=if cO p (i:Int) (k:Int)=ab/\P.nest.length<4/\(1<=s/\s<=6)/\eG l=ab then hW ⟨p.aP,p.parts.set i (oJ k s P l)⟩ else eV:=by unfold qV;rw[bl a];dsimp only;rw[bl c];rfl
theorem yI(h:gV l)(k:eG l=ab): ∃a b,l=⟨[a],[b]⟩/\a=dK (cM l.lo)/\b=dK (cM l.hi)/\cV 99 (cM l.lo)/\cV 99 (cM l.hi):=by
 obtain⟨⟨o,n⟩,p,q⟩:=h;unfold eG at k;simp only[b9,decide_eq_true_eq] at k;obtain⟨r,s,w,A⟩:=k;obtain⟨lo,K⟩:=l;dsimp only at*;obtain⟨x,B⟩:=q9.1 r;obtain⟨y,C⟩:=q9.1 s;subst B;subst C;have m: ∀z:az,cN z=ab->j8 [z]=ab->z=dK z.const:=λz F k=>by
  obtain⟨G,_,_⟩:=fo F;obtain⟨a,b,c,d,e⟩:=mu G;obtain⟨cs,lC⟩:=z;dsimp only at e;subst e;unfold j8 at k;simp only[List.all_cons,List.all_nil,Bool.and_true,decide_eq_true_eq] at k;have H:=tZ (l:=[a,b,c,d]) (i:=0) rfl O;have o:=tZ (l:=[a,b,c,d]) (i:=1) rfl O;have n:=tZ (l:=[a,b,c,d]) (i:=2) rfl O;have p:=tZ (l:=[a,b,c,d]) (i:=3) rfl O;rw[H,o,n,p];rfl
 exact⟨x,y,rfl,m x (n x aX) w,m y (q y aX) A,(fo (n x aX)).2.1,(fo (q y aX)).2.1⟩
theorem RB{x:Int}(d:cV 99 c)(e:cV 99 x)(h:1<=s/\s<=6):0<=ln c x s/\ln c x s<=198:=by
 unfold cV at d e;unfold ln;rw[ES O];refine⟨Int.ediv_nonneg O O,?_⟩;refine Int.le_trans (Int.ediv_le_ediv (a:=max 0 (x-c)+s-1) (b:=198*s) O ?_) (by rw[Int.mul_ediv_cancel _ O];omega)
 grind
theorem O7(i:d' r P=ab)(w:P.nest.length<4)(x:k<P.nest.length)(s:Int):gf 4 (oJ k s P l):=by
 obtain⟨A,n⟩:=gU i;obtain⟨_,o,p,_⟩:=gx i;refine⟨⟨by simp only[oJ,ik,List.length_cons,List.length_map,k8,lN];omega,λy e=>?_⟩,by simp only[oJ,List.length_map];exact o.2,λs q=>?_⟩
 ·have h: ∀c,dD 4 (dK c):=λc=>by unfold dD dK;simp
  have m: ∀s c,dD 4 (iC k s c):=λs c=>by unfold dD iC;simp
  rcases eC.1 e with e|e
  ·exact((vd i).1.2 y (gO e))
  rcases ez.1 e with rfl|e
  ·exact⟨⟨aX,λa d=>by simp at d;subst d;exact h _⟩,aX,λa d=>by simp at d;subst d;exact h _⟩
  rcases ez.1 e with rfl|e
  ·exact⟨⟨aX,λa d=>by simp at d;rcases d with rfl|rfl;exact h _;exact m _ _⟩,aX,λa d=>by simp at d;rcases d with rfl|rfl;exact h _;exact m _ _⟩
  obtain⟨z,h,rfl⟩:=eA.1 e;exact x5 (Ql k) (n z (fq h))
 obtain⟨z,h,rfl⟩:=eA.1 q;exact CR (Ql k) (p z h)
theorem NF(n:Nat)(a:k<4)(s:Int):oq n (k:Int) s=aa (iC k s 0):=by rcases(O:k=0\/k=1\/k=2\/k=3) with rfl|rfl|rfl|rfl<;>rfl
theorem Bt(n:Nat)(c:Int):qC n c=aa (dK c):=rfl
theorem Q9{b:Int}(c:cV 99 a)(d:cV 99 b)(e:1<=s/\s<=6):wr (Int.tdiv (wr ((wr ((max 0 (wr (b-a)))+s))-1)) s)=ln a b s:=by obtain⟨h,i⟩:=RB c d e;unfold cV at c d;rw[bc (n:=b-a) O,bc (n:=max 0 (b-a)+s) O,bc (n:=max 0 (b-a)+s-1) O];exact bc (by unfold ln at h i;omega)
theorem aeT{l:List Loop}(a:k<=l.length)(c:l.length<=1000)(v:Loop):wi n l (k:Int) [v]=aa (l.take k++[v]++l.drop k):=by unfold wi;rw[bI (show(0:Int)<=(k:Int) by omega),bI (show(k:Int)<=(l.length:Int) by omega)];rw[cf];exact c' bP
theorem aiv(G:7000<=n)(H:dn 1000 p)(c d s:Int):E6 n p c d s=aa (qV p c d s):=by
 unfold E6;by_cases m:d= -1
 ·subst m;rw[EA (by rw[sd O];simp)];refine ad.eq (ae (Bv G H c) ?_);by_cases K:bM p=ab/\eT p c=ab
  ·rw[aR K];have hi:=K.2;unfold eT at hi;simp only[decide_eq_true_eq] at hi;obtain⟨x,u,_⟩:=gT hi.1 hi.2;exact bX (ae u (ad.aD (λz=>z=ab) (λj B=>aW (λ_=>B _ rfl) λh=>bB (show(-1:Int)<0 by omega) h) λz L=>by rw[L];exact bX (ad.some rfl)))
  rw[aQ K];exact b8 (ad.some rfl)
 refine ad.eq (ae (xT G H c d m) ?_);by_cases q:cO p c d=ab
 ·rw[aR q];obtain⟨V,i,k,P,l,rfl,rfl,Z,C,hi,Q,o,f⟩:=hX q;obtain⟨v,g⟩:=gU o;obtain⟨_,D,E,_⟩:=gx o;have r:=g l (bx C);rw[KH Z C];refine bX (ae (bl Z) (ad.aD (λz=>z= !(ag (P.nest.length<4)&&ag (1<=s/\s<=6))) (λj B=>?_) λz L=>?_))
  ·refine aW (λh=>bB h O) λ_=>aW (λh=>B _ ?_) λh=>ae (jC n s 1 6) (B _ ?_)
   ·rw[bJ (show¬P.nest.length<4 by omega)];rfl
   rw[bI (O:P.nest.length<4)];rfl
  subst L;by_cases e:P.nest.length<4
  ·by_cases w:1<=s/\s<=6
   ·rw[bI e,bI w];refine b8 (ae (bl C) (ae (Hp O r) ?_));by_cases A:eG l=ab
    ·rw[aR A,aR ⟨q,e,w,A⟩];obtain⟨a,b,_,_,_,I,M⟩:=yI r A;have W:=zo (n:=n) O (nest:=P.nest) (body:=P.body) (s:=k) O v (λy N=>g y (fq N)) D.2 E (F:=λT=>wm n T (k:Int)) (aaf O O);have X:(P.nest.take k++(P.nest.drop k).map (c9 (fZ k)))[k]? =aa (c9 (fZ k) l):=by
      grind
     refine bX (ae W (ae (dU J _) (ae (x:=()) (by unfold mR;rw[aQ O]) (ae (NF n f s) (ae (NF n f s) (ae (Bt n _) (ae (Bt n _) (ae (bl X) (ae (dU bP _) (ae (Bt n 0) (ae (Bt n _) (ae (aeT bP bP _) (ae (dU bP _) ?_)))))))))))));dsimp only;unfold cV at I M;rw[cf,cf,uL,bc (n:=cM l.lo+s) O,Q9 ⟨O,O⟩ ⟨O,O⟩ w];have cC:P.nest.drop k=l::P.nest.drop (k+1):=im C;have t:(P.nest.take k).length=k:=by rw[cZ];omega
     have U: ∀R S:Loop,(((P.nest.take k++(P.nest.drop k).map (c9 (fZ k))).set k R).take k++[S]++((P.nest.take k++(P.nest.drop k).map (c9 (fZ k))).set k R).drop k)=P.nest.take k++S::R::(P.nest.drop (k+1)).map (c9 (fZ k)):=λR S=>by
      grind
     rw[U];exact ae (r2 G (ym H i (O7 o e Q s))) (ad.some rfl)
    rw[aQ A,aQ λh=>A h.2.2.2];exact b8 (ad.some rfl)
   rw[aQ λh=>w h.2.2.1,bJ w,k5];exact bX (ad.some rfl)
  rw[aQ λh=>e h.2.1,bJ e];exact bX (ad.some rfl)
 rw[aQ q,EA q];exact b8 (ad.some rfl)
theorem UJ(a:k<4)(s c:Int):o1 (hZ k) s (dK c) 1=iC k s c:=by rcases(O:k=0\/k=1\/k=2\/k=3) with rfl|rfl|rfl|rfl<;>simp[o1,hZ,dK,iC]
theorem afy(a:k<4)(s c e:Int):o1 (iC k s c) 1 (dK e) 1=iC k s (c+e):=by rcases(O:k=0\/k=1\/k=2\/k=3) with rfl|rfl|rfl|rfl<;>simp[o1,dK,iC]
theorem RN(h:cV 1000 c):fQ 1000 (dK c):=⟨rfl,h,λx a=>by simp[dK] at a;subst a;exact⟨O,O⟩⟩
theorem UM(d:cV 1000 s)(h:cV 1000 c):fQ 1000 (iC k s c):=by refine⟨by simp[iC],h,qX (λc a=>?_) d⟩;simp at a;subst a;exact⟨O,O⟩
theorem ajQ(F:7000<=n)(A:dn 1000 p)(c d s:Int):E9 n p c d s=aa (qV p c d s):=by
 unfold E9;refine ad.eq (ae (l2 O A) ?_);by_cases B:cO p c d=ab
 ·obtain⟨D,i,k,P,l,rfl,rfl,G,H,Z,K,m,C⟩:=hX B;obtain⟨f,L⟩:=gU m;obtain⟨_,g,t,_⟩:=gx m;have r:=L l (bx H);rw[KH G H];refine ad.aD (λz=>z= !(ag (P.nest.length<4)&&ag (1<=s/\s<=6))) (λj o=>?_) λz w=>?_
  ·refine ae (x:=ab) (by rw[nM F A _ _,B]) ?_;refine b8 (ae (bl G) (aW (λh=>o _ ?_) λh=>aW (λu=>o _ ?_) λu=>o _ ?_))
   ·rw[bJ (show¬P.nest.length<4 by omega)];rfl
   ·rw[bJ (show¬(1<=s/\s<=6) by omega),k5];rfl
   rw[bI (O:P.nest.length<4),gp]
   grind
  subst w;by_cases e:P.nest.length<4
  ·by_cases q:1<=s/\s<=6
   ·rw[bI e,bI q];refine b8 (ae (bl G) (ae (bl H) (ae (Gx O r) ?_)));by_cases y:eG l=ab
    ·rw[aR y,aR ⟨B,e,q,y⟩];obtain⟨a,b,_,_,_,Q,W⟩:=yI r y;obtain⟨E,I⟩:=RB Q W q;unfold cV at Q W;refine b8 (ad.aD (λz=>z=ln (cM l.lo) (cM l.hi) s) (λj o=>aW (λh=>ae (x:=()) (by unfold mR;rw[aQ O]) (o _ ?_)) λh=>o _ ?_) λz w=>?_)
     ·dsimp only at h⊢;rw[<-Q9 ⟨O,O⟩ ⟨O,O⟩ q,bc (n:=cM l.hi-cM l.lo) O,show max 0 (cM l.hi-cM l.lo)=cM l.hi-cM l.lo by omega]
     ·dsimp only at h⊢;unfold ln;rw[show max 0 (cM l.hi-cM l.lo)=0 by omega,ES O];exact(Int.ediv_eq_zero_of_lt O O).symm
     subst w;have X:(P.nest.take k).length=k:=by rw[cZ];omega
     refine ae (AF O O f L g.2 t (aci O _)) (ae (BI n C) (ae (iq n _) (ae (uy O ((sH C).mono O) (RN ⟨J,J⟩) ⟨O,O⟩ ⟨O,O⟩) ?_)));dsimp only;rw[UJ C];refine ae (iq n _) (ae (iq n _) (ae (iq n _) (ae (uy O (UM ⟨O,O⟩ ⟨O,O⟩) (RN ⟨O,O⟩) ⟨O,O⟩ ⟨O,O⟩) ?_)));rw[afy C];refine ae (iQ O O bP) (ae (c' bP) (ae (show pj n=aa (dK 0) from rfl) (ae (iq n _) (ae (c' bP) ?_))));rw[bc O];refine ae (iQ O bP aX) (ae (c' bP) ?_);have v: ∀R S:Loop,([]++((P.nest.take (k+1)++(P.nest.drop (k+1)).map (c9 (fZ k))).take (k:Int).toNat).drop (0:Int).toNat++[S,R]++((P.nest.take (k+1)++(P.nest.drop (k+1)).map (c9 (fZ k))).take ((P.nest.take (k+1)++(P.nest.drop (k+1)).map (c9 (fZ k))).length:Int).toNat).drop ((k:Int)+1).toNat)=P.nest.take k++S::R::(P.nest.drop (k+1)).map (c9 (fZ k)):=λR S=>by
      have M:(P.nest.take (k+1)).length=k+1:=by rw[cZ];omega
      rw[cf,cf,show((k:Int)+1).toNat=k+1 by omega,show(0:Int).toNat=0 from rfl,pE,dW,sr O,List.take_take,Nat.min_eq_left O,ER O,List.drop_of_length_le O];simp
     rw[v];exact ae (xW F A Z ((O7 m e K s).mono O)) (ad.some rfl)
    rw[aQ y,aQ λh=>y h.2.2.2];exact bX (ad.some rfl)
   rw[aQ λh=>q h.2.2.1,bJ q,k5];exact bX (ad.some rfl)
  rw[aQ λh=>e h.2.1,bJ e];exact bX (ad.some rfl)
 rw[EA B];refine ad.aD (λz=>z=ab) (λj o=>ae (nM F A _ _) ?_) (λz w=>by rw[w];exact bX (ad.some rfl))
 grind
theorem vD(c:Int)(p:List Int):cT (dK c) p=c:=by
 unfold cT dK
 match p with
 | []=>simp[dx]
 | [a]=>simp[dx]
 | [a,b]=>simp[dx]
 | [a,b,d]=>simp[dx]
 |a::b::d::e::r=>simp[dx]
theorem QO(h:k<4){p:List Int}(e:p.length=k)(s c t:Int):cT (iC k s c) (p++[t])=c+s*t:=by
 unfold cT iC;rcases(O:k=0\/k=1\/k=2\/k=3) with rfl|rfl|rfl|rfl
 ·obtain rfl:=List.length_eq_zero_iff.1 e;simp[dx]
 ·obtain⟨a,rfl⟩:=q9.1 e;simp[dx]
 ·match p,e with
  | [a,b],_=>simp[dx]
 match p,e with
 | [a,b,d],_=>simp[dx]
def jM(k:Nat)(a s:Int)(p:List Int):List Int:=p.take k++(p.getD k 0-a) / s::p.drop k
theorem afd{p:List Int}(c:k<p.length)(v:Int):jM k a s (p++[v])=jM k a s p++[v]:=by
 unfold jM
 grind
theorem afD{p:List Int}(c:p.length=k){t:Int}(d:a+s*t<=v)(h:v<a+s*t+s):jM k a s (p++[v])=p++[t]++[v]:=by
 subst c;unfold jM;rw[sr (cR _),dW,GO,ER (cR _),pA];have e:(v-a) / s=t:=by
  rw[show v-a=(v-a-s*t)+s*t by omega,Int.add_mul_ediv_left _ _ O,Int.ediv_eq_zero_of_lt O O];omega
 grind
theorem Qq{M:Int}{x:az}(i:cN x=ab){p:List Int}(h:k<p.length)(l:p.length<=3):cT (fZ k x) (jM k M s p)=cT x p:=by
 obtain⟨a,b,c,d,e⟩:=mu (fo i).1;obtain⟨cs,lC⟩:=x;dsimp only at e;subst e;unfold cT fZ jM
 match p,h,l with
 | [u],h,_=>
  obtain rfl:k=0:=by simp at h;omega
  simp[dx]
 | [u,v],h,_=>
  rcases(show k=0\/k=1 by simp at h;omega) with rfl|rfl<;>simp[dx]
 | [u,v,w],h,_=>
  rcases(show k=0\/k=1\/k=2 by simp at h;omega) with rfl|rfl|rfl<;>simp[dx]
theorem P2{a b:Int}(c:a<=b): ∀n:Nat,cL a b++cL b (b+n)=cL a (b+n)
 |0=>by rw[show b+((0:Nat):Int)=b by omega,kq (gq b),kb]
 |n+1=>by rw[show b+((n+1:Nat):Int)=b+n+1 by omega,pn (O:b<=b+(n:Int)),pn (O:a<=b+(n:Int)),<-fN,P2 c n]
theorem Tn{b:Int}(d:a<=b)(e:b<=c):cL a b++cL b c=cL a c:=by
 have:=P2 d (c-b).toNat
 grind
theorem M4{lo hi s:Int}(a:0<s): ∀n:Nat,(cL 0 (n:Int)).flatMap (λt=>cL (lo+s*t) (min hi (lo+s*t+s)))=cL lo (min hi (lo+s*(n:Int)))
 |0=>by
  have c:s*((0:Nat):Int)=0:=Int.mul_zero s;rw[kq O,kq O];rfl
 |n+1=>by
  have d:0<=s*(n:Int):=mV O O;have e:s*((n+1:Nat):Int)=s*(n:Int)+s:=by rw[show((n+1:Nat):Int)=(n:Int)+1 by omega,Int.mul_add,Int.mul_one]
  rw[show((n+1:Nat):Int)=(n:Int)+1 by omega,pn O,mb,M4 a n];simp only[List.flatMap_cons,List.flatMap_nil,List.append_nil];rw[show s*((n:Int)+1)=s*(n:Int)+s by rw[Int.mul_add,Int.mul_one]];by_cases h:hi<=lo+s*(n:Int)
  ·rw[kq (O:min hi (lo+s*(n:Int)+s)<=lo+s*(n:Int)),kb];congr 1;omega
  rw[show min hi (lo+s*(n:Int))=lo+s*(n:Int) by omega,Tn O O];congr 1;omega
theorem Z4{hi:Int}(d:1<=s):cL lo hi=(cL 0 (ln lo hi s)).flatMap (λt=>cL (lo+s*t) (min hi (lo+s*t+s))):=by
 have a:ln lo hi s=(max 0 (hi-lo)+s-1) / s:=by unfold ln;exact ES O
 have e:0<=ln lo hi s:=by rw[a];exact Int.ediv_nonneg O O
 have c:=Int.lt_ediv_add_one_mul_self (max 0 (hi-lo)+s-1) (O:0<s);rw[<-a,Int.add_mul,Int.one_mul,Int.mul_comm] at c
 have:=M4 (lo:=lo) (hi:=hi) (O:0<s) (ln lo hi s).toNat
 grind
theorem Ro{k:Nat}{a s:Int}: ∀(ls:List Loop) (p:List Int),(∀l∈ls,gV l)->k<p.length->p.length+ls.length<=3->cW (ls.map (c9 (fZ k))) (jM k a s p)=(cW ls p).map (jM k a s)
 | [],p,_,_,_=>rfl
 |l::ls,p,h,d,i=>by
  have cI:=h l eD;have m:p.length+(ls.length+1)<=3:=by simpa using i
  have e: ∀{as:List az},(∀x∈as,cN x=ab)->fi (as.map (fZ k)) (jM k a s p)=fi as p:=λn=>by
   unfold fi;rw[fv];exact lZ λx c=>Qq (n x c) d O
  have o:cP (c9 (fZ k) l) (jM k a s p)=cP l p:=by unfold cP c9;rw[e cI.1.2]
  have q:dd (c9 (fZ k) l) (jM k a s p)=dd l p:=by unfold dd c9;rw[e cI.2.2]
  simp only[gd,cW];rw[o,q,js];refine kV λv _=>?_;rw[<-afd d];exact Ro ls (p++[v]) (λx c=>h x (eo _ c)) bP bP
theorem ac6{b:Int}(i:1<=s)(h: ∀l∈o,gV l){p:List Int}(d:p.length=k)(A:k+1+o.length<=3):
  cW ((⟨[dK 0],[dK (ln a b s)]⟩:Loop)::(⟨[dK a,iC k s a],[dK b,iC k s (a+s)]⟩:Loop)::o.map (c9 (fZ k))) p=(cW ((⟨[dK a],[dK b]⟩:Loop)::o) p).map (jM k a s):=by
 have m: ∀(c:Int) (q:List Int) (x:List az),cP ⟨[dK c],x⟩ q=c:=λc q x=>by unfold cP fi;simp[iT,vD]
 have n: ∀(c:Int) (q:List Int) (x:List az),dd ⟨x,[dK c]⟩ q=c:=λc q x=>by unfold dd fi;simp[kW,vD]
 simp only[cW,m,n];rw[js,Z4 (lo:=a) (hi:=b) i,List.flatMap_assoc];refine kV λt e=>?_;have e:=(x1.1 e).1;have B:0<=s*t:=mV O e;have r:cP ⟨[dK a,iC k s a],[dK b,iC k s (a+s)]⟩ (p++[t])=a+s*t:=by
  unfold cP fi;simp only[gd,List.map_nil,iT,List.foldl_cons,List.foldl_nil,vD,QO (O:k<4) d];omega
 have w:dd ⟨[dK a,iC k s a],[dK b,iC k s (a+s)]⟩ (p++[t])=min b (a+s*t+s):=by
  unfold dd fi;simp only[gd,List.map_nil,kW,List.foldl_cons,List.foldl_nil,vD,QO (O:k<4) d];omega
 rw[r,w];refine kV λv y=>?_;obtain⟨z,C⟩:=x1.1 y;rw[<-afD d z O];exact Ro o (p++[v]) h bP bP
theorem P6{k:Nat}{lo hi s:Int}(c:1<=s){ls:List Loop}(h: ∀l∈ls,gV l)(d:k+1+ls.length<=3): ∀(os:List Loop) (p:List Int),p.length+os.length=k->
  cW (os++(⟨[dK 0],[dK (ln lo hi s)]⟩:Loop)::(⟨[dK lo,iC k s lo],[dK hi,iC k s (lo+s)]⟩:Loop)::ls.map (c9 (fZ k))) p=(cW (os++(⟨[dK lo],[dK hi]⟩:Loop)::ls) p).map (jM k lo s)
 | [],p,a=>ac6 c h (by simpa using a) d
 |o::os,p,a=>by simp only[List.cons_append,cW];rw[js];refine kV λv _=>?_;exact P6 c h d os (p++[v]) (by simp at a ⊢; omega)
theorem aae(d:d' r P=ab)(c:P.nest[k]? =aa l)(i:1<=s)(z:P.nest.length<4)(m:eG l=ab)(n:d' r (oJ k s P l)=ab):
  dG (oJ k s P l)=(dG P).map (jM k (cM l.lo) s):=by
 obtain⟨A,h⟩:=gU d;have B:=(bR.1 c).1;obtain⟨a,b,o,p,q,_,_⟩:=yI (h l (bx c)) m;rw[l6 n,l6 d];have e:P.nest=P.nest.take k++l::P.nest.drop (k+1):=by rw[<-im c,mX]
 have:=P6 (k:=k) (lo:=cM l.lo) (hi:=cM l.hi) i (ls:=P.nest.drop (k+1)) (λy w=>h y (fq w)) (by rw[fM];omega) (P.nest.take k) [] bP;have x:(⟨[dK (cM l.lo)],[dK (cM l.hi)]⟩:Loop)=l:=by rw[<-p,<-q];exact o.symm
 rw[x,<-e] at this;exact this
def lb(i k:Nat)(a s:Int)(x:bN):bN:=if x.part=(i:Int) then⟨x.part,x.stmt,jM k a s x.bU⟩ else x
theorem MG: ∀x:bN,x.part≠(i:Int)->lb i k lo s x=x:=λx a=>by unfold lb;rw[aQ a]
theorem aiD{x:Part}(a:dG x=(dG P).map (jM k lo s))(c:x.body.length=P.body.length):ew i x=(ew i P).map (lb i k lo s):=by
 unfold ew;rw[a,c,pB,js];refine kV λq _=>?_;rw[fv];refine lZ λt _=>?_;show _=lb i k lo s _;unfold lb
 grind
theorem ME(F:bM p=ab)(z:p.parts[i]? =aa P)(R:k<P.nest.length)(W:P.nest.length<4)(G:q=⟨p.aP,p.parts.set i (oJ k s P l)⟩)(H:da p x):
  ∃st e d,ep p x=aa st/\ep q (lb i k lo s x)=aa e/\eS st d=ab/\
   (∀a,fX a d=ab->dS q.aP (if x.part=(i:Int) then gH (fZ k) a else a) (lb i k lo s x).bU 0=dS p.aP a x.bU 0)/\
   (e.write=if x.part=(i:Int) then gH (fZ k) st.write else st.write)/\
   (dv 5 e.value=(dv 5 st.value).map λa=>if x.part=(i:Int) then gH (fZ k) a else a)/\
   ∀m,er 5 q.aP m e.value (lb i k lo s x).bU=er 5 p.aP m st.value x.bU:=by
 obtain⟨A,X,Z,st,d,K,b,B,f,r,o,L,g⟩:=ov F H;have hi:=(bR.1 z).1;subst G;by_cases c:x.part=(i:Int)
 ·obtain rfl:A=i:=O
  rw[z] at B;cases B;have Q:x.bU.length=P.nest.length:=L.1;have n: ∀y,cN y=ab->cT (fZ k y) (jM k lo s x.bU)=cT y x.bU:=λy w=>Qq w O O;have h:lb A k lo s x=⟨x.part,x.stmt,jM k lo s x.bU⟩:=by unfold lb;rw[aR c]
  refine⟨st,gN (fZ k) st,d,r,?_,o,λa C=>?_,?_,?_,λm=>?_⟩
  ·rw[h];unfold ep;dsimp only;rw[K,cf,gC hi];show((P.body.map (gN (fZ k)))[x.stmt.toNat]?)=_
   grind
  ·rw[aR c,h];exact yl (λy w=>n y ((lM C).2.2 y w)) _ _
  ·rw[aR c];rfl
  ·simp only[if_pos c];exact Cx (gj o).2.1
  rw[h];exact yq n _ m (gj o).2.1
 have h:lb i k lo s x=x:=MG x c;refine⟨st,st,d,r,?_,o,λa C=>?_,?_,?_,λm=>?_⟩
 ·rw[h,<-r];unfold ep
  grind
 ·rw[aQ c,h]
 ·rw[aQ c]
 ·simp only[if_neg c,List.map_id']
 rw[h]
theorem ajV(n:bM p=ab)(c:p.parts[i]? =aa P)(B:P.nest[k]? =aa l)(W:1<=s)(o:P.nest.length<4)(X:eG l=ab)(h:q=⟨p.aP,p.parts.set i (oJ k s P l)⟩)(Z:bM q=ab):
  I q.parts=(I p.parts).map (lb i k (cM l.lo) s)/\(∀x∈I p.parts,rc q (lb i k (cM l.lo) s x)=rc p x/\c3 q (lb i k (cM l.lo) s x)=c3 p x)/\ ∀m,c4 q m (I q.parts)=c4 p m (I p.parts):=by
 have hi:=(bR.1 c).1;have C:=(bR.1 B).1;have r:=(dZ n).2.2.2.1 P (bx c);have e:d' p.aP (oJ k s P l)=ab:=by
  have:=(dZ Z).2.2.2.1;subst h;exact this _ (bx (gC hi))
 have F:I q.parts=(I p.parts).map (lb i k (cM l.lo) s):=by
  rw[h];exact S2 c (aiD (aae r B W o X e) (by simp[oJ])) MG
 refine⟨F,λx w=>?_,λm=>?_⟩
 ·obtain⟨st,y,d,G,H,z,A,K,L,b⟩:=ME n c C o (lo:=cM l.lo) (s:=s) h (fc w);obtain⟨Q,_,R,_⟩:=gj z;unfold rc c3;rw[G,H];dsimp only;rw[K,L,fv,A _ Q];exact⟨lZ λa f=>A a (R a f),rfl⟩
 unfold c4;rw[F,List.foldl_map];refine wH λx w m=>?_;obtain⟨st,y,d,G,H,z,A,K,L,b⟩:=ME n c C o (lo:=cM l.lo) (s:=s) h (fc w);obtain⟨Q,_,R,_⟩:=gj z;unfold eI
 grind
def e4(P:Part)(a b:Int):Part:=⟨(⟨[dK a],[dK b]⟩:Loop)::P.nest.drop 1,P.body⟩
def qU(p:Prog)(a c:Int):Prog×Bool:=
 match ax p.parts a with
 |some P=>match ax P.nest 0 with
  |some l=>if cO p a 0=ab/\eG l=ab/\cM l.lo<=c/\c<=cM l.hi then hW (f' p a.toNat 1 [e4 P (cM l.lo) c,e4 P c (cM l.hi)]) else eV
  |none=>eV
 |none=>eV
theorem Ey(h:cO p a 0≠ab):qU p a c=eV:=by
 unfold qU
 grind
theorem y6{k:Type}{l:List k}{x:k}(h:l[0]? =aa x):ax l 0=aa x:=bl h
theorem KG(a:p.parts[i]? =aa P)(d:P.nest[0]? =aa l)(c:Int):
  qU p (i:Int) c=if cO p (i:Int) 0=ab/\eG l=ab/\cM l.lo<=c/\c<=cM l.hi then hW (f' p i 1 [e4 P (cM l.lo) c,e4 P c (cM l.hi)]) else eV:=by unfold qU;rw[bl a];dsimp only;rw[y6 d];rfl
theorem Rk(k:d' r P=ab)(a b:Int):gf 4 (e4 P a b):=by
 obtain⟨h,l,m⟩:=vd k;have i: ∀c,dD 4 (dK c):=λc=>by unfold dD dK;simp
 have:=h.1;refine⟨⟨by simp only[e4,List.length_cons,lN];omega,λy e=>?_⟩,l,m⟩;rcases ez.1 e with rfl|e
 ·exact⟨⟨aX,λa d=>by simp at d;subst d;exact i _⟩,aX,λa d=>by simp at d;subst d;exact i _⟩
 exact h.2 y (fq e)
theorem N7(e:d' r P=ab)(a b c d:Int): ∀y∈[e4 P a b,e4 P c d],gf 1000 y:=by
 intro y h;simp only[List.mem_cons,List.not_mem_nil,or_false] at h;rcases h with rfl|rfl
 ·exact(Rk e a b).mono O
 exact(Rk e c d).mono O
theorem adT(a:bM p=ab)(c:p.parts[i]? =aa P):cO p (i:Int) 0=ag (0<P.nest.length):=by
 unfold cO;rw[a,bl c,gp]
 grind
theorem abc(a:i<p.parts.length)(A B:Part):(⟨p.aP,(p.parts.set i A).take (i+1)++[B]++(p.parts.set i A).drop (i+1)⟩:Prog)=f' p i 1 [A,B]:=by
 unfold f';congr 1;rw[List.take_set,q5 O,eN,bp a,nP _ _ (by rw[cZ];omega)]
 have:i-(p.parts.take i).length=0:=by rw[cZ];omega
 grind
theorem aiu(t:20000<=n)(F:dn 1000 p)(d c:Int):Fj n p d c=aa (qU p d c):=by
 unfold Fj;refine ad.eq (ae (Bv O F d) ?_);by_cases y:bM p=ab/\eT p d=ab
 ·rw[aR y];obtain⟨m,B⟩:=y;have G:0<=d/\d<(p.parts.length:Int):=fF B;obtain⟨i,rfl⟩: ∃i:Nat,d=i:=⟨d.toNat,O⟩
  have q:=bp (O:i<p.parts.length);generalize K:p.parts[i]=P at q;have Q:=(dZ m).2.2.1;have e:=(dZ m).2.2.2.1 P (bx q);obtain⟨W,A⟩:=gU e;have gk:=adT m q;refine bX (ae (bl q) (aW (λz=>ad.some ?_) λz=>?_))
  ·rw[Ey (by rw[gk,bJ O];simp)];rfl
  have z:0<P.nest.length:=O
  rw[bI z] at gk;have o:=bp z;generalize P.nest[0]=l at o;have r:=A l (bx o);rw[KG q o];refine ae (y6 o) (ae (Hp O r) ?_);by_cases s:eG l=ab
  ·rw[aR s];refine bX (ae (jC n c _ _) ?_);by_cases w:cM l.lo<=c/\c<=cM l.hi
   ·rw[aR ⟨gk,s,w.1,w.2⟩];dsimp only;rw[bI w];obtain⟨a,b,X,Z,f,u,v⟩:=yI r s;have g:=Cz (i:=i) (many:=1) (ys:=[e4 P (cM l.lo) c,e4 P c (cM l.hi)]) ((my m).mono (O:4<=900)) aX (N7 e _ _ _ _);generalize cM l.lo=L at*;generalize cM l.hi=H at*;subst Z;subst f;subst X;have D:P.nest=(⟨[dK L],[dK H]⟩:Loop)::P.nest.drop 1:=by
     have:=im o
     grind
    have C: ∀R:Loop,P.nest.set (0:Int).toNat R=R::P.nest.drop 1:=λR=>by
     grind
    refine bX (ae (M8 O e) (ae (x:=dK H) rfl (ae (x:=[dK c]) rfl (ae (dU O _) (ae (dU O _) (ae (y6 o) (ae (x:=dK L) rfl (ae (x:=[dK c]) rfl (ae (dU O _) ?_)))))))));rw[C,C,bc O,cf];refine ae (Qj (i:=i+1) (by rw[e6];omega) (by rw[e6];simp;omega)) ?_;show ad (bO (mD n (⟨p.aP,(p.parts.set i (e4 P L c)).take (i+1)++[e4 P c H]++(p.parts.set i (e4 P L c)).drop (i+1)⟩:Prog)) _) _;rw[abc O];exact ae (r2 O g) (ad.some rfl)
   rw[aQ λh=>w ⟨h.2.2.1,h.2.2.2⟩];dsimp only;rw[bJ w];exact b8 (ad.some rfl)
  rw[aQ s,aQ λh=>s h.2.1];exact b8 (ad.some rfl)
 rw[aQ y,Ey λj=>y ?_]
 ·exact b8 (ad.some rfl)
 obtain⟨m,i,k,P,l,rfl,_,E,_,B,_⟩:=hX j;exact⟨m,bI O⟩
theorem ajP(H:20000<=n)(A:dn 1000 p)(a c:Int):E' n p a c=aa (qU p a c):=by
 unfold E';refine ad.eq (ae (l2 O A) (ae (nM O A a 0) ?_));cases q:cO p a 0 with
 |false=>
  rw[Ey (by rw[q];simp)];exact bX (ad.some rfl)
 |true=>
  obtain⟨C,i,k,P,l,rfl,F,B,r,K,L,d,Q⟩:=hX q;obtain rfl:k=0:=O
  obtain⟨G,s⟩:=gU d;have w:=s l (bx r);rw[KG B r];refine b8 (ae (bl B) (ae (y6 r) (ae (Gx O w) ?_)));by_cases m:eG l=ab
  ·rw[aR m];dsimp only;refine ad.aD (λz=>z= !decide (cM l.lo<=c/\c<=cM l.hi)) (λj o=>b8 (aW (λh=>o _ ?_) λh=>o _ ?_)) λz x=>?_
   ·rw[bJ O];rfl
   ·rw[ig];simp only[Bool.not_eq_true',decide_eq_true_eq,decide_eq_false_iff_not];omega
   subst x;by_cases e:cM l.lo<=c/\c<=cM l.hi
   ·rw[aR ⟨q,m,e.1,e.2⟩,bI e];refine b8 (ae (iq n _) (ae (iq n _) (ae (iQ O O O) (ae (c' bP) (ae (iq n _) (ae (iq n _) (ae (iQ O O O) (ae (c' bP) ?_))))))));rw[cf,dW];have y:=G5 (n:=n) O ((my C).mono (O:4<=900)) (i:=i) (many:=1) O (ys:=[e4 P (cM l.lo) c,e4 P c (cM l.hi)]) aX (N7 d _ _ _ _);exact ae y (ad.some rfl)
   rw[aQ λh=>e ⟨h.2.2.1,h.2.2.2⟩,bJ e];exact bX (ad.some rfl)
  rw[aQ m,aQ λh=>m h.2.1];exact ad.aD (λz=>z=ab) (λj o=>bX (o _ rfl)) λz x=>by rw[x];exact bX (ad.some rfl)
end Go.Lift
