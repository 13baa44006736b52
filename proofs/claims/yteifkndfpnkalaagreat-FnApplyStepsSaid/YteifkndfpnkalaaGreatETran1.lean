/- Tools. -/
import Derived.Test.YteifkndfpnkalaaGreatERun1
set_option maxRecDepth 100000
set_option linter.unusedVariables false
namespace Go.Lift
open Go
open Option renaming some -> aa, bind -> bN
open Bool renaming true -> ab, false -> ak, and_eq_true -> b9
open Decidable renaming decide -> ag
open List renaming length_append -> im, length_take -> k', length_drop -> lP, replicate -> dA, map_cons -> gf
variable {n k i L j many:Nat}{p q:Prog}{R h:Type}{Q:R->Prop}{e:Expr}{m:List Int}{s d a v c lo:Int}{x:bO}{l:Loop}{F:az->Option az}{g f:az->az}{o nest:List Loop}{r:List cg}{b:az}{y P C:Part}{G:bO->bO}{ys:List Part}{K:List h->Option R}
theorem ad1(h:7100<=n)(c:jB p)(a:bG p=ab):EO n p=aa (gK p.aQ):=by refine ad.eq ?_;obtain⟨d,e,_⟩:=dZ a;unfold EO;refine ae (d5 O c) ?_;rw[a];exact b6 (ae (AG O d e) (ad.some rfl))
theorem CF{k:Type}{n:Int}(h:0<=n/\n<=1000000000)(x:k):mk n x=aa (dA n.toNat x):=by unfold mk;rw[aR h]
theorem ab3(A:5000<=n){T:Nat}(B:T<=1000){e:Int->Int}(l: ∀i,0<=i->i<(T:Int)->0<=e i/\e i<=999){K:List Int->Option R}(o: ∀m,m.length=T->(∀x∈m,0<=x/\x<=999)->ad (K m) Q):
  ad (bm (λa (z:(List Int)×Int)=>bif ag (z.2<(z.1.length:Int)) then(bN (ax z.1 z.2) λ_=>bN (ca z.1 z.2 (e z.2)) λy=>a (y,wr (z.2+1))) else(K z.1)) n (dA T 0,0)) Q:=by
 refine ad.loop (λz:List Int×Int=>0<=z.2/\z.2<=T/\z.1.length=T/\ ∀x∈z.1,0<=x/\x<=999) (λz=>T-z.2.toNat) ?_ n _ ⟨gu _,J,zV,λx p=>by rw[(uF.1 p).2];omega⟩ J;rintro a ⟨x,i⟩ ⟨c,q,d,h⟩ r;dsimp only at c q d h⊢;refine aW (λs=>?_) λw=>o _ d h;refine ae (s4 c O) (ae (xB c O _) ?_);rw[bc O];exact r _ ⟨J,J,by dsimp only;rw[e6,d],λy k=>by
  rcases uI k with k|rfl
  ·exact h y k
  exact l i c O⟩ J
theorem Pc(a:bG p=ab):0<=gK p.aQ/\gK p.aQ<=144:=by
 obtain⟨d,c,_⟩:=dZ a
 have:=P2 c;omega
theorem RM(a:bG p=ab)(c:fD p.aQ m):C9 p m=(c4 p m (I p.parts),ab):=by unfold C9;rw[aeI a c];rfl
theorem acX(A:jB p)(F:jB q)(d:bG p=ab)(G:bG q=ab)(H:q.aQ=p.aQ)(h: ∀m,fD p.aQ m->c4 q m (I q.parts)=c4 p m (I p.parts))(Z:0<=s/\s<=1048576):AW N p q s=aa ab:=by
 have b:N=100000:=rfl;have f:=Pc d;refine ad.eq ?_;unfold AW;refine ae (ad1 O A d) (ae (CF ⟨O,O⟩ 0) (ab3 (n:=N) (T:=(gK p.aQ).toNat) (e:=λi=>Int.tmod (wr ((wr ((wr (i*41))+(wr (s*17))))+3)) 1000) (K:=λB=>bN (tW N p B) λC=>bN (tW N q B) λk=>aD (fun(o:Bool)=>aa o) λc=>bif C.2 then(bif k.2 then(bN (xy N C.1 k.1) λr=>c r) else(c ak)) else(c ak)) O O (λi g L=>?_) λm L Q=>?_))
 ·rw[bc (n:=i*41) O,bc (n:=s*17) O,bc (n:=i*41+s*17) O,bc O]
  grind
 have a:fD p.aQ m:=⟨O,Q⟩
 have w:fD q.aQ m:=by rw[H];exact a
 have l:=Qy d a;refine ae (Lr O A l) (ae (Lr O F l) ?_);rw[RM d a,RM G w,h m a];have y: ∀x∈I p.parts,da p x:=λx R=>fe R;refine ad.aD (λz=>z=ab) (λj W=>bY (bY (ae (Yz O (Qy d (r' d y a))) (W _ rfl)))) λz X=>ad.some X
theorem S7(c:bG p=ab)(e:da p x):x.bU.length<=4:=by
 obtain⟨i,k,P,s,d,h,l,m,n,o,q,a,r⟩:=oA c e
 have:=a.1;have:=a.2.1;omega
theorem xP{β:Type}{l:List h}{F:h->(β->Option R)->Option R}{g:h->β}{K:List β->Option R}(e: ∀x∈l,∀k:β->Option R,ad (k (g x)) Q->ad (F x k) Q)
  {s:Nat} (B:s<=l.length) {pre:List β} (C:pre.length<=1000) (G:l.length<=1000) (H:5000<=n) (m:ad (K (pre++(l.drop s).map g)) Q):
  ad (bm (λa ((x,i):List β×Int)=>bif ag (i<(l.length:Int)) then(bN (ax l i) λy=>F y λz=>bN (app x [z]) λw=>a (w,wr (i+1))) else K x) n (pre,(s:Int))) Q:=by
 refine ad.loop (λz:List β×Int=> ∃i:Nat,z.2=i/\s<=i/\i<=l.length/\z.1=pre++((l.drop s).take (i-s)).map g) (λz=>l.length-z.2.toNat) ?_ n _ ⟨s,rfl,O,O,aX⟩ J;rintro a ⟨x,z⟩ ⟨i,d,o,L,c⟩ p;dsimp only at d c⊢;subst d;refine aW (λq=>?_) λr=>?_
 ·have bL:=bp (O:i<l.length);have A:x.length<=2000:=by rw[c,ea,dJ,cZ,fM];omega
  refine ae (bl bL) (e _ (bx bL) _ (ae (c' bQ) ?_));rw[bc O];refine p _ ⟨i+1,J,O,O,?_⟩ J;dsimp only;rw[show i+1-s=(i-s)+1 by omega,eO,gZ,show s+(i-s)=i by omega,bL,c,eN,fN];rfl
 have:i=l.length:=O
 subst this;rw[c,ma (by rw[fM];omega)];exact m
theorem pz{H:Type}{l:List H}{f:H->Option h}{g:H->h}(c: ∀x∈l,f x=aa (g x))(d:l.length<=1000)(e:5000<=n)(m:ad (K (l.map g)) Q):
  ad (bm (λa ((x,i):List h×Int)=>bif ag (i<(l.length:Int)) then(bN (ax l i) λy=>bN (f y) λz=>bN (app x [z]) λw=>a (w,wr (i+1))) else K x) n ([],0)) Q:=
 xP (F:=λy k=>bN (f y) k) (g:=g) (s:=0) (pre:=[]) (λx o k p=>ae (c x o) p) O aX d e (by simpa using m)
theorem zT{l:List h}{F:h->(h->Option R)->Option R}{W:List h->Option R->Option R}{m:List h->Int}{g:h->h}
  (B: ∀y o,y.length=l.length->ad o Q->ad (W y o) Q) (C: ∀y:List h,y.length=l.length->m y=(l.length:Int))
  {s:Nat} (f:s<=l.length) (G: ∀x∈l,∀k:h->Option R,ad (k (g x)) Q->ad (F x k) Q) (j:l.length<=1000) (t:5000<=n) (H:ad (K (l.take s++(l.drop s).map g)) Q):
  ad (bm (λa ((y,i):List h×Int)=>W y (bif ag (i<m y) then(bN (ax y i) λx=>F x λz=>bN (ca y i z) λw=>a (w,wr (i+1))) else K y)) n (l,(s:Int))) Q:=by
 refine ad.loop (λz:List h×Int=> ∃i:Nat,z.2=i/\s<=i/\i<=l.length/\z.1=l.take s++((l.drop s).take (i-s)).map g++l.drop i) (λz=>l.length-z.2.toNat) ?_ n _ ⟨s,rfl,O,O,aX⟩ J;rintro a ⟨x,z⟩ ⟨i,A,L,u,p⟩ X;dsimp only at A p⊢;subst A;have c:(l.take s++((l.drop s).take (i-s)).map g).length=i:=by rw[ea,dJ,cZ,cZ,fM];omega
 have d:x.length=l.length:=by rw[p,ea,c,fM];omega
 refine B _ _ d ?_;rw[C _ d];refine aW (λZ=>?_) λb=>?_
 ·obtain⟨e,q⟩: ∃e,l[i]? =aa e:=⟨_,bp (O:i<l.length)⟩
  have r:x[i]? =aa e:=by
   grind
  refine ae (bl r) (G _ (bx q) _ (ae (dU O _) ?_));rw[bc O];refine X _ ⟨i+1,J,O,O,?_⟩ J;dsimp only;rw[p,cf,nQ _ _ O,c,kC,hW q,zY,show i+1-s=(i-s)+1 by omega,eO,gZ,show s+(i-s)=i by omega,q];simp
 have:i=l.length:=O
 subst this;rw[p,ma (l:=l.drop s) (by rw[fM];omega),oO,ke];exact H
def gH(f:az->az)(a:b0):b0:=⟨a.array,a.bz.map f⟩
def kh(f:az->az):Nat->Expr->Expr
 |0,e=>e
 |L+1,e=>⟨e.kind,e.num,if e.kind=2 then f e.index else⟨[],0⟩,if e.kind=3 then gH f e.read else⟨[],[]⟩,e.bk.map (kh f L)⟩
def gO(f:az->az)(s:Stmt):Stmt:=⟨gH f s.write,kh f 5 s.value⟩
def c9(f:az->az)(l:Loop):Loop:=⟨l.lo.map f,l.hi.map f⟩
theorem pQ(h:eY e d=ab)(a:e.kind=2):cN e.index=ab/\k6 e.read=ab:=by
 unfold eY fz at h
 grind
theorem ri(h:eY e d=ab)(a:e.kind=3):fY e.read d=ab/\jN e.index=ab:=by
 unfold eY at h
 grind
theorem yf(h:eY e d=ab)(a: ¬e.kind=2)(c: ¬e.kind=3):jN e.index=ab/\k6 e.read=ab:=by
 unfold eY at h
 grind
theorem uL{a:az}(h:jN a=ab):a=⟨[],0⟩:=by
 obtain⟨c,k⟩:=a;simp only[jN,b9,decide_eq_true_eq] at h
 grind
theorem uM{a:b0}(h:k6 a=ab):a=⟨[],[]⟩:=by
 obtain⟨c,k⟩:=a;simp only[k6,b9,decide_eq_true_eq] at h
 grind
theorem LA(c:5000<=n){a:b0}(e:fY a d=ab)(h: ∀x,cN x=ab->F x=aa (f x)):t' n a F=aa (gH f a):=by obtain⟨m,o,i⟩:=lO e;refine ad.eq ?_;unfold t';exact pz (K:=λk=>aa (⟨a.array,k⟩:b0)) (λx l=>h x (i x l)) O c (ad.some rfl)
theorem Mf{d:Int}{F:az->Option az}{f:az->az}(i: ∀x,cN x=ab->F x=aa (f x)): ∀(L n:Nat) (e:Expr),5000+L<=n->dq L e d=ab->mL (n+1) e F=aa (kh f L e)
 |0,_,_,_,h=>by cases h
 |L+1,n,e,G,h=>by
  obtain⟨H,l,p⟩:=gk h;obtain⟨n,rfl⟩: ∃j,n=j+1:=⟨n-1,O⟩
  have q:e.bk.length<=2:=by have:=qN e.kind;omega
  unfold mL;refine ad.eq (ad.aD (λz=>(⟨z.1,z.2.1⟩:az)=(if e.kind=2 then f e.index else⟨[],0⟩)/\(⟨z.2.2.1,z.2.2.2⟩:b0)=(if e.kind=3 then gH f e.read else⟨[],[]⟩)) (λj k=>?_) λz r=>?_)
  ·refine aW (λa=>?_) λa=>aW (λc=>?_) λc=>?_
   ·exact ae (i _ (pQ l a).1) (k _ ⟨by rw[aR a],by rw[aP O]⟩)
   ·exact ae (LA O (ri l c).1 i) (k _ ⟨by rw[aP a],by rw[aR c]⟩)
   exact k _ ⟨by rw[aP a],by rw[aP c]⟩
  obtain⟨s,w,y,A⟩:=z;obtain⟨m,o⟩:=r;dsimp only at m o⊢;refine pz (K:=λB=>aa (⟨e.kind,e.num,(⟨s,w⟩:az),(⟨y,A⟩:b0),B⟩:Expr)) (λx C=>Mf i L n x O (p x C)) O O (ad.some ?_);rw[m,o];rfl
theorem Md(i:6000<=n){s:Stmt}(c:eT s d=ab)(a: ∀x,cN x=ab->F x=aa (f x)):qH n s F=aa (gO f s):=by
 obtain⟨e,h,_⟩:=gl c;obtain⟨n,rfl⟩: ∃j,n=j+1:=⟨n-1,O⟩
 unfold qH;rw[LA O e a,Mf a 5 n s.value O h];rfl
theorem l2{k:Type}{f:k->k}: ∀{l:List k},(∀x∈l,f x=x)->l.map f=l
 | [],_=>rfl
 |x::l,h=>by rw[w7,h x eD,l2 λy a=>h y (eo _ a)]
theorem N3{a:b0}(c:fY a d=ab)(e: ∀x,cN x=ab->f x=x):gH f a=a:=by obtain⟨k,l,h⟩:=lO c;unfold gH;rw[l2 λx i=>e x (h x i)]
theorem Qz{d:Int}{f:az->az}(l: ∀x,cN x=ab->f x=x): ∀{L:Nat} {e:Expr},dq L e d=ab->kh f L e=e
 |0,_,_=>rfl
 |L+1,e,h=>by
  obtain⟨o,i,m⟩:=gk h;obtain⟨kind,num,index,read,n⟩:=e;unfold kh;dsimp only at o i m⊢;rw[l2 λx p=>Qz l (m x p)];by_cases c:kind=2
  ·have a:=pQ i c;dsimp only at a;rw[aR c,aP O,l _ a.1,uM a.2]
  by_cases k:kind=3
  ·have a:=ri i k;dsimp only at a;rw[aP c,aR k,N3 a.1 l,uL a.2]
  have a:=yf i c k;dsimp only at a;rw[aP c,aP k,uL a.1,uM a.2]
theorem ad5(a: ∀x,cN x=ab->f x=x){s:Stmt}(c:eT s d=ab):gO f s=s:=by obtain⟨e,h,_⟩:=gl c;unfold gO;rw[N3 e a,Qz a h]
def gW(l:Loop):Prop:=(l.lo.length<=2/\ ∀x∈l.lo,cN x=ab)/\l.hi.length<=2/\ ∀x∈l.hi,cN x=ab
theorem afC(h:Fit o): ∀l∈o,gW l:=λl a=>by
 obtain⟨i,c⟩:=jQ.1 a
 have:=h.2 i l c;exact⟨(pP this.1).2,(pP this.2).2⟩
theorem gV{x:Part}(h:d' r x=ab):x.nest.length<=4/\ ∀l∈x.nest,gW l:=by have:=(o7 (gy h).1).1;exact⟨this.1,afC this⟩
theorem RD{a:az}(h:cN a=ab):dD 4 a:=by have:=(fo h).1;unfold dD;omega
theorem CS{l:List az}(e:l.length<=2)(c: ∀x∈l,cN x=ab):fp 4 l:=⟨O,λa d=>RD (c a d)⟩
theorem RC{d:Int}: ∀{L:Nat} {e:Expr},dq L e d=ab->jd 4 L e
 |0,_,h=>by cases h
 |L+1,e,h=>by
  obtain⟨m,a,n⟩:=gk h
  have:=qN e.kind;refine⟨O,?_,?_,λk m=>RC (n k m)⟩
  ·by_cases c:e.kind=2
   ·exact RD (pQ a c).1
   by_cases i:e.kind=3
   ·rw[uL (ri a i).2];unfold dD;simp
   rw[uL (yf a c i).1];unfold dD;simp
  by_cases i:e.kind=3
  ·have:=lO (ri a i).1;exact CS this.2.1 this.2.2
  by_cases c:e.kind=2
  ·rw[uM (pQ a c).2];exact⟨aX,λx l=>by cases l⟩
  rw[uM (yf a c i).2];exact⟨aX,λx l=>by cases l⟩
theorem RZ{s:Stmt}(a:eT s d=ab):jy 4 s:=by
 obtain⟨c,e,_⟩:=gl a
 have:=lO c;exact⟨CS this.2.1 this.2.2,RC e⟩
theorem ve{x:Part}(h:d' r x=ab):gg 4 x:=by obtain⟨d,a⟩:=gV h;obtain⟨_,e,i,_⟩:=gy h;exact⟨⟨d,λl c=>⟨CS (a l c).1.1 (a l c).1.2,CS (a l c).2.1 (a l c).2.2⟩⟩,e.2,λs k=>RZ (i s k)⟩
theorem RB{l:List cg}(a:l.length<=4)(c:i8 l):sH 4 l:=⟨a,λx d=>by have:=c x d;simp only[k1,b9,decide_eq_true_eq] at this;omega⟩
theorem lT(h:bG p=ab):di 4 p:=by obtain⟨a,c,d,e,_⟩:=dZ h;exact⟨RB a c,d,λx i=>ve (e x i)⟩
theorem Co{B:Nat}{l:List az}(h:l.length<=B)(c: ∀x∈l,dD B (f x)):fp B (l.map f):=⟨by rw[dJ];exact h,λa d=>by obtain⟨x,e,rfl⟩:=eA.1 d;exact c x e⟩
theorem Ri{d:Int}{f:az->az}(c: ∀x,cN x=ab->dD 4 (f x)): ∀{L:Nat} {e:Expr},dq L e d=ab->jd 4 L (kh f L e)
 |0,_,h=>by cases h
 |L+1,e,h=>by
  obtain⟨m,n,o⟩:=gk h
  have:=qN e.kind;unfold kh jd;refine⟨by dsimp only;rw[dJ];omega,?_,?_,λk m=>?_⟩
  ·dsimp only;by_cases i:e.kind=2
   ·rw[aR i];exact c _ (pQ n i).1
   rw[aP i];unfold dD;simp
  ·dsimp only;by_cases l:e.kind=3
   ·rw[aR l]
    have:=lO (ri n l).1;exact Co O λx a=>c x (this.2.2 x a)
   rw[aP l];exact⟨aX,λx a=>by cases a⟩
  obtain⟨x,a,rfl⟩:=eA.1 m;exact Ri c (o x a)
theorem CR(a: ∀x,cN x=ab->dD 4 (f x)){s:Stmt}(c:eT s d=ab):jy 4 (gO f s):=by
 obtain⟨e,h,_⟩:=gl c
 have:=lO e;exact⟨Co O λx i=>a x (this.2.2 x i),Ri a h⟩
theorem x6(c: ∀x,cN x=ab->dD 4 (f x))(h:gW l):fp 4 (c9 f l).lo/\fp 4 (c9 f l).hi:=
 ⟨Co (by have:=h.1.1;omega) λx a=>c x (h.1.2 x a),Co (by have:=h.2.1;omega) λx a=>c x (h.2.2 x a)⟩
theorem NU(n:Nat){a:az}(h:a.aT.length<=1000):mB n a=aa a:=by unfold mB jj;rw[aR O];rfl
theorem Bd(n:Nat): ∀x,cN x=ab->mB n x=aa x:=λx a=>NU n (by have:=(fo a).1;omega)
theorem MW(a:5000<=n){l:List az}(h:l.length<=2)(c: ∀x∈l,cN x=ab):rO n l=aa l:=by unfold rO;refine ad.eq (pz (g:=λx=>x) (K:=λd=>aa d) (λx e=>Bd n x (c x e)) O a (ad.some ?_));simp
theorem MV(d:5000<=n)(p:nest.length<=4)(a: ∀l∈nest,gW l):uj n nest=aa nest:=by unfold uj;refine ad.eq ?_;refine xP (β:=Loop) (l:=nest) (n:=n) (F:=λe k=>bN (rO n e.lo) λh=>bN (rO n e.hi) λi=>k (⟨h,i⟩:Loop)) (g:=λx=>x) (s:=0) (pre:=[]) (K:=λm=>aa m) ?_ O aX O d (ad.some aX);exact λx c k o=>ae (MW d (a x c).1.1 (a x c).1.2) (ae (MW d (a x c).2.1 (a x c).2.2) o)
theorem Tn(c:6000<=n){s:Stmt}(a:eT s d=ab):xn n s=aa s:=by unfold xn;rw[Md c a (F:=λe=>mB n e) (f:=λx=>x) (Bd n),ad5 (λ_ _=>rfl) a];rfl
theorem Nj(a:6000<=n){x:Part}(h:d' r x=ab):r8 n x=aa x:=by obtain⟨c,d⟩:=gV h;obtain⟨_,l,e,_⟩:=gy h;unfold r8;refine ad.eq (ae (MV O c d) (pz (g:=λx=>x) (K:=λi=>aa (⟨x.nest,i⟩:Part)) (λs k=>Tn a (e s k)) O O (ad.some ?_)));simp
theorem sa(q:6000<=n)(h:bG p=ab):pa n p=aa p:=by
 obtain⟨r,w,C,y,_⟩:=dZ h;unfold pa;refine ad.eq (xP (F:=λo k=>bN (jj o.b1) λz=>k (⟨o.name,z⟩:cg)) (g:=λx=>x) (s:=0) (pre:=[]) (K:=λA=>bm (λa ((c,d):(List Part)×Int)=>
    bif ag (d<(p.parts.length:Int)) then(
     bN (ax p.parts d) λe=>
     bN (r8 n e) λi=>
     bN (app c [i]) λl=>
     a (l,wr (d+1))
    ) else(
     aa (⟨A,c⟩:Prog)
    )
   ) n ([],0)) (λx m k B=>ae (x:=x.b1) ?_ B) O aX O O ?_)
 ·have:=(RB r w).2 x m;unfold jj
  grind
 refine pz (g:=λx=>x) (K:=λc=>aa (⟨_,c⟩:Prog)) (λx m=>Nj q (y x m)) O O (ad.some ?_);simp
theorem pC{k:Type}{a b:List k}(h:b.length=a.length):jh a b=aa ():=by unfold jh;rw[aR h]
theorem K6(p:5000<=n)(w:gW l)(q: ∀x,cN x=ab->F x=aa (f x)):tU n l F=aa (c9 f l):=by
 obtain⟨⟨aN,a2⟩,B,A⟩:=w;unfold tU;refine ad.eq (ad.loop (λz:Loop×Int=>(z.2=0/\z.1=l)\/(z.2=1/\z.1=⟨l.lo.map f,l.hi⟩)\/(z.2=2/\z.1=c9 f l)) (λz=>3-z.2.toNat) ?_ n _ (.inl ⟨rfl,rfl⟩) J);rintro a ⟨x,i⟩ r c;dsimp only at r c⊢;rcases r with ⟨rfl,rfl⟩|⟨rfl,rfl⟩|⟨rfl,rfl⟩
 ·refine ae (pC rfl) (ae (pC rfl) (aW (λ_=>aW (λ_=>?_) λh=>(h rfl).elim) λh=>bB h O));refine zT (F:=λx k=>bN (F x) k) (W:=λ_ o=>o) (m:=λ_=>(x.lo.length:Int)) (g:=f) (s:=0) (K:=λy=>a ((⟨y,x.hi⟩:Loop),wr (0+1))) (λ_ _ _ h=>h) (λ_ _=>rfl) O (λx d k e=>ae (q x (a2 x d)) e) O p ?_;rw[bc O];exact c _ (.inr (.inl ⟨J,aX⟩)) J
 ·refine ae (pC aX) (ae (pC rfl) (aW (λ_=>aW (λh=>bB h O) λ_=>aW (λ_=>?_) λh=>(h rfl).elim) λh=>bB h O));refine zT (F:=λx k=>bN (F x) k) (W:=λ_ o=>o) (m:=λ_=>(l.hi.length:Int)) (g:=f) (s:=0) (K:=λy=>a ((⟨l.lo.map f,y⟩:Loop),wr (1+1))) (λ_ _ _ h=>h) (λ_ _=>rfl) O (λx d k e=>ae (q x (A x d)) e) O p ?_;rw[bc O];exact c _ (.inr (.inr ⟨J,by simp[c9]⟩)) J
 refine ae (pC (by simp[c9])) (ae (pC (by simp[c9])) (aW (λh=>bB h O) λ_=>ad.some rfl))
def me(k:Nat)(g f:az->az)(x:Part)(l:Loop):Part:=⟨x.nest.take k++c9 g l::(x.nest.drop (k+1)).map (c9 f),x.body.map (gO f)⟩
theorem zo(Q:6000<=n){body:List Stmt}{s:Nat}(P:s<=nest.length)(S:nest.length<=4)(R: ∀l∈nest.drop s,gW l)(T:body.length<=4)(X: ∀s∈body,eT s d=ab)(H: ∀x,cN x=ab->F x=aa (f x)):
  f9 n ⟨nest,body⟩ (s:Int) F=aa ⟨nest.take s++(nest.drop s).map (c9 f),body.map (gO f)⟩:=by
 have A: ∀(a:List Loop),ad (bm (λc ((y,j):(List Stmt)×Int)=>
    bN (jh body y) λU=>
    bif ag (j<(body.length:Int)) then(
     bN (ax y j) λZ=>
     bN (qH n Z F) λb=>
     bN (ca y j b) λt=>
     c (t,wr (j+1))
    ) else(
     aa (⟨a,y⟩:Part)
    )
   ) n (body,0)) (λr=>r=⟨a,body.map (gO f)⟩):=λa=>
  zT (F:=λx k=>bN (qH n x F) k) (W:=λy o=>bN (jh body y) λ_=>o) (m:=λ_=>(body.length:Int)) (g:=gO f) (s:=0) (K:=λy=>aa (⟨a,y⟩:Part)) (λy o h u=>ae (pC h) u) (λ_ _=>rfl) O (λx p k v=>ae (Md Q (X x p) H) v) O O (ad.some aX)
 unfold f9;refine ad.eq ?_
 -- the loops ahead stay: only those behind are changed
 refine ad.loop (λz:List Loop×Int=> ∃i:Nat,z.2=i/\s<=i/\i<=nest.length/\z.1=nest.take s++((nest.drop s).take (i-s)).map (c9 f)++nest.drop i) (λz=>nest.length-z.2.toNat) ?_ n _ ⟨s,rfl,O,O,aX⟩ J;rintro B ⟨x,z⟩ ⟨i,L,D,V,p⟩ E;dsimp only at L p⊢;subst L;have q:(nest.take s++((nest.drop s).take (i-s)).map (c9 f)).length=i:=by rw[ea,dJ,cZ,cZ,fM];omega
 have C:x.length=nest.length:=by rw[p,ea,q,fM];omega
 refine ae (pC C) (aW (λI=>?_) λM=>?_)
 ·obtain⟨e,w⟩: ∃e,nest[i]? =aa e:=⟨_,bp (O:i<nest.length)⟩
  have G:x[i]? =aa e:=by
   rw[p,iE O,q,kC,gZ];exact w
  have N:e∈nest.drop s:=jQ.2 ⟨i-s,by rw[gZ,show s+(i-s)=i by omega];exact w⟩;refine ae (bl G) (ae (K6 O (R _ N) H) (ae (dU O _) ?_));rw[bc O];refine E _ ⟨i+1,J,O,O,?_⟩ J;dsimp only;rw[p,cf,nQ _ _ O,q,kC,hW w,zY,show i+1-s=(i-s)+1 by omega,eO,gZ,show s+(i-s)=i by omega,w];simp
 have:i=nest.length:=O
 subst this;rw[p,ma (l:=nest.drop s) (by rw[fM];omega),oO,ke];exact A _
theorem HS(c:5000<=n){l:List az}(k:l.length<=2)(d: ∀x∈l,cN x=ab)(e: ∀x,cN x=ab->ko n x a v b=aa (f x)):xe n l a v b=aa (l.map f):=by unfold xe;exact ad.eq (pz (K:=λh=>aa h) (λx i=>e x (d x i)) O c (ad.some rfl))
theorem abb(d:5000<=n)(c:gW l)(e: ∀x,cN x=ab->ko n x a v b=aa (f x)):xD n l a v b=aa (c9 f l):=by unfold xD;rw[HS d c.1.1 c.1.2 e,HS d c.2.1 c.2.2 e];rfl
theorem ML(e:5000<=n){a:b0}(h:fY a d=ab)(i: ∀x,cN x=ab->ko n x c v b=aa (f x)):wK n a c v b=aa (gH f a):=by have:=lO h;unfold wK;rw[HS e this.2.1 this.2.2 i];rfl
theorem NL{d a v:Int}{b:az}{f:az->az}(l: ∀n,5000<=n-> ∀x,cN x=ab->ko n x a v b=aa (f x)): ∀(L n:Nat) (e:Expr),5000+L<=n->dq L e d=ab->sp (n+1) e a v b=aa (kh f L e)
 |0,_,_,_,h=>by cases h
 |L+1,n,e,G,h=>by
  obtain⟨H,m,q⟩:=gk h;obtain⟨n,rfl⟩: ∃j,n=j+1:=⟨n-1,O⟩
  have r:e.bk.length<=2:=by have:=qN e.kind;omega
  unfold sp;refine ad.eq (ad.aD (λz=>(⟨z.1,z.2⟩:az)=(if e.kind=2 then f e.index else⟨[],0⟩)) (λj c=>?_) λz o=>ad.aD (λy=>(⟨y.1,y.2⟩:b0)=(if e.kind=3 then gH f e.read else⟨[],[]⟩)) (λj c=>?_) λy p=>?_)
  ·exact aW (λi=>ae (l _ O _ (pQ m i).1) (c _ (by rw[aR i]))) λi=>c _ (by rw[aP i])
  ·exact aW (λk=>ae (ML O (ri m k).1 (l _ O)) (c _ (by rw[aR k]))) λk=>c _ (by rw[aP k])
  obtain⟨s,w⟩:=z;obtain⟨A,B⟩:=y;dsimp only at o p⊢;refine pz (K:=λC=>aa (⟨e.kind,e.num,(⟨s,w⟩:az),(⟨A,B⟩:b0),C⟩:Expr)) (λx F=>NL l L n x O (q x F)) O O (ad.some ?_);rw[o,p];rfl
theorem abd(w:6000<=n){l:List Stmt}(e:l.length<=4)(c: ∀s∈l,eT s d=ab)(h: ∀n,5000<=n-> ∀x,cN x=ab->ko n x a v b=aa (f x)):BD n l a v b=aa (l.map (gO f)):=by
 obtain⟨n,rfl⟩: ∃j,n=j+1:=⟨n-1,O⟩
 unfold BD;refine ad.eq ?_;refine xP (β:=Stmt) (l:=l) (n:=n+1) (F:=λi k=>bN (wK (n+1) i.write a v b) λm=>bN (sp (n+1) i.value a v b) λo=>k (⟨m,o⟩:Stmt)) (g:=gO f) (s:=0) (pre:=[]) (K:=λp=>aa p) (λx q k r=>?_) O aX O O (ad.some aX);obtain⟨e,c,_⟩:=gl (c x q);exact ae (ML O e (h _ O)) (ae (NL h 5 n x.value O c) r)
theorem AD(c:6000<=n){x:Part}{s:Nat}(r:s+1<=x.nest.length)(w:x.nest.length<=4)(e: ∀l∈x.nest,gW l)(h:x.body.length<=4)(i: ∀s∈x.body,eT s d=ab){way:Int}(a: ∀n,5000<=n-> ∀x,cN x=ab->ko n x way v b=aa (f x)):
  um n x (s:Int) way v b=aa ⟨x.nest.take (s+1)++(x.nest.drop (s+1)).map (c9 f),x.body.map (gO f)⟩:=by unfold um;rw[bc O];refine ad.eq (ae (iR O O O) ?_);rw[show((s:Int)+1).toNat=s+1 by omega,show(0:Int).toNat=0 from rfl,pJ];refine ae (x:=x.nest.take (s+1)) (c' bQ) (ae (abd c h i a) ?_);exact xP (F:=λm k=>bN (xD n m way v b) k) (g:=c9 f) (s:=s+1) (pre:=x.nest.take (s+1)) (K:=λo=>aa (⟨o,x.body.map (gO f)⟩:Part)) (λl p k q=>ae (abb O (e l p) (a _ O)) q) O bQ O O (ad.some rfl)
theorem NX(n:Nat){a:az}(h:dD 1000 a):zf n a=aa a:=by unfold zf;rw[oj _ h];rfl
theorem Gb(a:5000<=n){l:List az}(h:fp 1000 l):vG n l=aa l:=by unfold vG;exact ad.eq (sg (K:=λc=>aa c) (λx d=>NX n (h.2 x d)) h.1 a (ad.some rfl))
theorem NY(c:5000<=n){a:b0}(h:fp 1000 a.bz):zg n a=aa a:=by unfold zg;rw[Gb c h];rfl
theorem MY: ∀(L n:Nat) (e:Expr),5000+L<=n->jd 1000 L e->qR (n+1) e=aa e
 |0,_,_,_,h=>h.elim
 |L+1,n,e,m,h=>by
  obtain⟨a,c,d,i⟩:=h;obtain⟨n,rfl⟩: ∃j,n=j+1:=⟨n-1,O⟩
  unfold qR Ku;rw[NX _ c,NY O d];refine ad.eq (ae rfl (ae rfl (ae (x:=e.bk) ?_ (ad.some (by cases e;rfl)))));exact ad.eq (sg (f:=qR (n+1)) (K:=λk=>aa k) (λx l=>MY L n x O (i x l)) a O (ad.some rfl))
theorem ZH(a:6000<=n){s:Stmt}(h:jy 1000 s):EH n s=aa s:=by
 obtain⟨n,rfl⟩: ∃j,n=j+1:=⟨n-1,O⟩
 unfold EH;rw[NY O h.1,MY 5 n s.value O h.2];rfl
theorem ZI(e:6000<=n){x:Part}(h:gg 1000 x):EI n x=aa x:=by
 obtain⟨⟨i,d⟩,k,m⟩:=h;have o:DW n x.nest=aa x.nest:=by
  unfold DW;refine ad.eq (sg (K:=λc=>aa c) (λl a=>?_) i O (ad.some rfl));unfold FB;rw[Gb O (d l a).1,Gb O (d l a).2];rfl
 have p:DU n x.body=aa x.body:=by
  unfold DU;exact ad.eq (sg (K:=λc=>aa c) (λl a=>ZH e (m l a)) k O (ad.some rfl))
 unfold EI;rw[o,p];rfl
theorem lE(d:6000<=n)(h:di 1000 p):kO n p=aa p:=by
 obtain⟨⟨e,i⟩,k,m⟩:=h;have o:DR n p.aQ=aa p.aQ:=by
  unfold DR;refine ad.eq (sg (K:=λa=>aa a) (λl c=>?_) e O (ad.some rfl));unfold K4;rw[oj _ (i l c)];rfl
 have q:DV n p.parts=aa p.parts:=by
  unfold DV;exact ad.eq (sg (K:=λa=>aa a) (λl c=>ZI d (m l c)) k O (ad.some rfl))
 unfold kO;rw[o,q];rfl
theorem xd{k:Type}{f:k->k->Option Bool}{l:List k}(o: ∀x∈l,f x x=aa ab)(y:l.length<n)(z:l.length<=1000000):
  (bif !decide ((l.length:Int)=(l.length:Int)) then(aa ak) else(bm (λa (c:Int)=>bif ag (c<(l.length:Int)) then(bN (ax l c) λp=>bN (ax l c) λq=>bN (f p q) λr=>bif !r then(aa ak) else(a (wr (c+1)))) else(aa ab)) n 0))=aa ab:=by
 refine ad.eq (fl (λh=>(h rfl).elim) λ_=>?_);refine ad.loop (λx:Int=> ∃i:Nat,x=i/\i<=l.length) (λx=>l.length-x.toNat) ?_ n 0 ⟨0,rfl,O⟩ O;rintro d x ⟨i,rfl,A⟩ s;refine aW (λw=>?_) λ_=>ad.some rfl;obtain⟨e,m⟩: ∃e,l[i]? =aa e:=⟨_,bp (O:i<l.length)⟩
 refine ae (bl m) (ae (bl m) (ae (o e (bx m)) (b6 ?_)));rw[bc O];exact s _ ⟨i+1,O,O⟩ O
theorem Oe{a:List Int}(m:a.length<n)(o:a.length<=1000000):tZ n a a=aa ab:=by
 unfold tZ;refine ad.eq (fl (λh=>(h rfl).elim) λ_=>?_);refine ad.loop (λx:Int=> ∃i:Nat,x=i/\i<=a.length) (λx=>a.length-x.toNat) ?_ n 0 ⟨0,rfl,O⟩ O;rintro c x ⟨i,rfl,p⟩ k;refine aW (λl=>?_) λ_=>ad.some rfl;obtain⟨e,d⟩: ∃e,a[i]? =aa e:=⟨_,bp (O:i<a.length)⟩
 refine ae (bl d) (ae (bl d) (fl (λh=>(h rfl).elim) λ_=>?_));rw[bc O];exact k _ ⟨i+1,O,O⟩ O
theorem Qq(e:5000<=n){a:az}(h:dD 1000 a):kQ n a a=aa ab:=by unfold dD at h;unfold kQ;refine ad.eq (ad.aD (λz=>z=ab) (λj c=>ae (Oe O O) (bY (c _ (bK rfl)))) λz d=>ad.some d)
theorem HE(a:5000<=n){l:List az}(h:fp 1000 l):d9 n l l (λc d=>kQ n c d)=aa ab:=by have:=h.1;unfold d9;exact xd (λx e=>Qq a (h.2 x e)) O O
theorem Qr(c:5000<=n){a:b0}(h:fp 1000 a.bz):zx n a a=aa ab:=by unfold zx;refine ad.eq (ad.aD (λz=>z=ab) (λj d=>?_) λz e=>ad.some e);exact aW (λ_=>ae (HE c h) (d _ rfl)) λh=>(h rfl).elim
theorem Pn: ∀(L n:Nat) (e:Expr),5000+L<=n->jd 1000 L e->rR (n+1) e e=aa ab
 |0,_,_,_,h=>h.elim
 |L+1,n,e,m,h=>by
  obtain⟨o,a,c,d⟩:=h;obtain⟨n,rfl⟩: ∃j,n=j+1:=⟨n-1,O⟩
  unfold rR;refine ad.eq (ad.aD (λz=>z=ab) (λj i=>?_) λz k=>ad.some k);refine aW (λ_=>aW (λ_=>ae (Qq O a) (bY (ae (Qr O c) (bY (ae (x:=ab) ?_ (i _ rfl)))))) λh=>(h rfl).elim) λh=>(h rfl).elim;unfold Kz;exact xd (λx l=>Pn L n x O (d x l)) O O
theorem abI(d:6000<=n){s:Stmt}(h:jy 1000 s):Ac n s s=aa ab:=by
 obtain⟨n,rfl⟩: ∃j,n=j+1:=⟨n-1,O⟩
 unfold Ac;refine ad.eq (ad.aD (λz=>z=ab) (λj a=>?_) λz c=>ad.some c);exact ae (Qr O h.1) (bY (ae (Pn 5 n s.value O h.2) (a _ rfl)))
theorem ab5(a:5000<=n)(h:la 1000 o):ug n o o=aa ab:=by
 have:=h.1;unfold ug DZ;rw[xd (λl c=>?_) O O]
 ·rfl
 unfold wv;refine ad.eq (ad.aD (λz=>z=ab) (λj d=>?_) λz e=>ad.some e);exact ae (HE a (h.2 l c).1) (bY (ae (HE a (h.2 l c).2) (d _ rfl)))
theorem acG(a:6000<=n){x:Part}(h:gg 1000 x):zd n x x=aa ab:=by have:=h.2.1;unfold zd;refine ad.eq (ad.aD (λz=>z=ab) (λj c=>?_) λz d=>ad.some d);refine ae (ab5 O h.1) (bY (ae (x:=ab) ?_ (c _ rfl)));unfold Kx;exact xd (λs e=>abI a (h.2.2 s e)) O O
theorem acD(e:6000<=n)(h:di 1000 p):tT n p p=aa ab:=by
 obtain⟨⟨l,i⟩,m,k⟩:=h;unfold tT;refine ad.eq (ad.aD (λz=>z=ab) (λj a=>?_) λz c=>ad.some c);refine ae (x:=ab) ?_ (bY (ae (x:=ab) ?_ (a _ rfl)))
 ·unfold Ks;refine xd (λx d=>?_) O O;unfold ze;refine ad.eq (ad.aD (λz=>z=ab) (λj a=>?_) λz c=>ad.some c)
  have:=i x d;exact aW (λ_=>ae (Oe O O) (a _ rfl)) λh=>(h rfl).elim
 unfold Ky;exact xd (λx d=>acG e (k x d)) O O
def cO(p:Prog)(c a:Int):Bool:=bG p&&match ax p.parts c with
 |some x=>decide (0<=a/\a<(x.nest.length:Int))
 |none=>ak
theorem yt{k:Type}{l:List k}{i:Int}(h: ¬(0<=i/\i<(l.length:Int))):ax l i=none:=by
 cases a:ax l i with
 |none=>rfl
 |some x=>
  obtain⟨c,d⟩:=nF a
  have:=(bS.1 d).1;exact bB ⟨c,O⟩ h
theorem CW{l:List R}{i:Int}{x:R}(h:ax l i=aa x): ∃k:Nat,i=k/\k<l.length/\l[k]? =aa x:=by
 obtain⟨a,c⟩:=nF h
 grind
theorem rV(n:Nat)(h:p.parts.length<=1000)(a:Int):lU n p a=aa (ag (0<=a/\a<(p.parts.length:Int))):=by
 unfold lU;rw[jE,bc O]
 grind
theorem xU(r:7000<=n)(l:di 1000 p)(a c:Int)(s:c≠ -1):kX n p a c=aa (if cO p a c=ab then(p,ab) else(⟨[],[]⟩,ak)):=by
 unfold kX;refine ad.eq (ad.aD (λz=>z= !cO p a c) (λj i=>?_) λz m=>?_)
 ·refine ae (d5 r l.sm) (ad.cond (λh=>?_) λh=>?_)
  ·refine i _ ?_;unfold cO
   grind
  have q:bG p=ab:=by simpa using h
  refine ae (rV n l.2.1 a) ?_;by_cases e:0<=a/\a<(p.parts.length:Int)
  ·obtain⟨x,k,o⟩:=gU e.1 e.2;rw[bK e];refine b6 (fl (λ_=>ae (x:=cO p a c) ?_ (i _ rfl)) λh=>bB h s);unfold Kt;refine ad.eq (ad.aD (λz=>z=cO p a c) (λj i=>?_) λz m=>ad.some m);rw[rV n l.2.1 a,bK e];refine ae rfl (bY (ae k ?_))
   have:=(l.2.2 x (bx o)).1.1;rw[bc O,jE];refine ae rfl (i _ ?_);unfold cO
   grind
  rw[bJ e];refine bY (i _ ?_);unfold cO;rw[yt e,k7];rfl
 subst m;by_cases d:cO p a c=ab
 ·rw[d];have q:bG p=ab:=by unfold cO at d;rw[nT] at d;exact d.1
  obtain⟨x,k⟩: ∃x,ax p.parts a=aa x:=by
   cases k:ax p.parts a with
   |some x=>exact⟨x,rfl⟩
   |none=>unfold cO at d;rw[k,k7] at d;cases d
  exact b6 (ae (sa O q) (ae k (ad.some rfl)))
 rw[show cO p a c=ak by simpa using d];exact bY (ad.some rfl)
def hY(q:Prog):Prog×Bool:=if bG q=ab then(q,ab) else(⟨[],[]⟩,ak)
theorem r1(c:7000<=n)(d:di 1000 p):mD n p=aa (hY p):=by
 unfold mD hY;refine ad.eq (ae (d5 c d.sm) (ad.cond (λh=>ad.some ?_) λh=>?_))
 ·rw[aP (by simpa using h)]
 have a:bG p=ab:=by simpa using h
 rw[aR a];exact ae (sa O a) (ad.some rfl)
theorem nM(k:7000<=n)(l:di 1000 p)(a c:Int):oE n p a c=aa (cO p a c):=by
 unfold oE;refine ad.eq (ad.aD (λz=>z=cO p a c) (λj d=>?_) λz m=>ad.some m);refine ae (kN k l.sm) (ad.cond (λe=>?_) λe=>d _ (by unfold cO;rw[e];rfl));refine aW (λh=>aW (λi=>?_) λi=>?_) λh=>?_
 ·obtain⟨x,o,q⟩:=gU h i;refine aW (λr=>ae o (d _ ?_)) λr=>d _ ?_
  ·unfold cO
   grind
  unfold cO
  grind
 ·exact d _ (by unfold cO;rw[yt O,k7])
 exact d _ (by unfold cO;rw[yt O,k7])
theorem xY(e:7000<=n)(a:di 1000 p)(k:i<p.parts.length)(l:gg 1000 y):kn n p (i:Int) 1 [y]=aa (hY ⟨p.aQ,p.parts.set i y⟩):=by
 have c:=a.2.1;have d:di 1000 ⟨p.aQ,p.parts.set i y⟩:=⟨a.1,by dsimp only;rw[e6];exact c,qY a.2.2 l⟩
 unfold kn hY;refine ad.eq (ae (oi O a) (ae (iR O O O) ?_));rw[cf,show(0:Int).toNat=0 from rfl,pJ];refine ae (x:=p.parts.take i) (c' bQ) (ae (x:=p.parts.take i++[y]) (c' bQ) ?_);rw[bc O];refine ae (iR O O O) ?_;rw[cf,dW,show((i:Int)+1).toNat=i+1 by omega];refine ae (x:=p.parts.set i y) ?_ (ae (kN e d.sm) (ad.cond (λh=>ad.some ?_) λh=>?_))
 ·rw[c' bQ,List.set_eq_take_append_cons_drop,aR k,fN];rfl
 ·rw[aP (by simpa using h)]
 rw[aR (by simpa using h)];exact ae (oi O d) (ad.some rfl)
def dY(a:az)(k:Int)(b:az):az:=⟨List.zipWith (λx y=>x+k*y) a.aT b.aT,a.const+k*b.const⟩
def h8(k:Nat):az:=⟨[0,0,0,0].set k 1,0⟩
def eJ(k:Nat)(b x:az):az:=dY x (-(x.aT.getD k 0)) b
def fQ(m:Int)(a:az):Prop:=a.aT.length=4/\cV m a.const/\ ∀c∈a.aT,cV m c
theorem fQ.mono{m b:Int}{a:az}(h:fQ m a)(e:m<=b):fQ b a:=⟨h.1,⟨by have:=h.2.1.1;omega,by have:=h.2.1.2;omega⟩,λc d=>⟨by have:=(h.2.2 c d).1;omega,by have:=(h.2.2 c d).2;omega⟩⟩
theorem mv{l:List Int}(h:l.length=4): ∃a b c d,l=[a,b,c,d]:=by
 match l,h with
 | [a,b,c,d],_=>exact⟨a,b,c,d,rfl⟩
theorem oQ{a:az}(h:cN a=ab):fQ 99 a:=by obtain⟨i,k,d⟩:=fo h;exact⟨i,k,λc e=>⟨by have:=(d c e).1;omega,by have:=(d c e).2;omega⟩⟩
theorem sI(a:k<4):fQ 6 (h8 k):=by rcases(O:k=0\/k=1\/k=2\/k=3) with rfl|rfl|rfl|rfl<;>(unfold fQ cV h8;simp)
theorem lp{k b:Int}(a:cV 1000 k)(c:cV 1000 b):cV 1000000 (k*b):=C4 O O a c
theorem Ae{x:Int}(c:cV 1000 a)(d:cV 1000000 x):wr (a+wr x)=a+x:=by unfold cV at c d;rw[bc (n:=x) O,bc O]
theorem afx(m:Nat)(a c d e ac k h i l n o:Int):s3 (m+6) ⟨[a,c,d,e],ac⟩ k ⟨[h,i,l,n],o⟩=
  aa ⟨[wr (a+wr (k*h)),wr (c+wr (k*i)),wr (d+wr (k*l)),wr (e+wr (k*n))],wr (ac+wr (k*o))⟩:=Y
theorem BL(y:5000<=n){a:az}(p:fQ 1000 a)(q:fQ 1000 b){k:Int}(c:cV 1000 k):s3 n a k b=aa (dY a k b):=by
 obtain⟨m,rfl⟩: ∃m,n=m+6:=⟨n-6,O⟩
 obtain⟨ac,a⟩:=a;obtain⟨z,b⟩:=b;obtain⟨h,i,d⟩:=p;obtain⟨l,o,e⟩:=q;dsimp only at h i d l o e;obtain⟨a0,aN,a2,a3,rfl⟩:=mv h;obtain⟨r,s,w,x,rfl⟩:=mv l;rw[afx,Ae (d a0 aX) (lp c (e r aX)),Ae (d aN aX) (lp c (e s aX)),Ae (d a2 aX) (lp c (e w aX)),Ae (d a3 aX) (lp c (e x aX)),Ae i (lp c o)];rfl
def o3(a:az)(x:Int)(b:az)(y:Int):az:=⟨List.zipWith (λp q=>x*p+y*q) a.aT b.aT,x*a.const+y*b.const⟩
theorem afS(m:Nat)(a c d e ac x h i k l n y:Int):jg (m+6) ⟨[a,c,d,e],ac⟩ x ⟨[h,i,k,l],n⟩ y=
  aa ⟨[wr (wr (x*a)+wr (y*h)),wr (wr (x*c)+wr (y*i)),wr (wr (x*d)+wr (y*k)),wr (wr (x*e)+wr (y*l))],wr (wr (x*ac)+wr (y*n))⟩:=Y
theorem Af{x:Int}(c:cV 1000000 a)(d:cV 1000000 x):wr (wr a+wr x)=a+x:=by unfold cV at c d;rw[bc (n:=x) O,bc (n:=a) O,bc O]
theorem uA(A:5000<=n){a:az}(p:fQ 1000 a)(q:fQ 1000 b){x y:Int}(c:cV 1000 x)(d:cV 1000 y):jg n a x b y=aa (o3 a x b y):=by
 obtain⟨m,rfl⟩: ∃m,n=m+6:=⟨n-6,O⟩
 obtain⟨ac,a⟩:=a;obtain⟨B,b⟩:=b;obtain⟨i,k,e⟩:=p;obtain⟨l,o,h⟩:=q;dsimp only at i k e l o h;obtain⟨a0,aN,a2,a3,rfl⟩:=mv i;obtain⟨r,s,w,z,rfl⟩:=mv l;rw[afS,Af (lp c (e a0 aX)) (lp d (h r aX)),Af (lp c (e aN aX)) (lp d (h s aX)),Af (lp c (e a2 aX)) (lp d (h w aX)),Af (lp c (e a3 aX)) (lp d (h z aX)),Af (lp c k) (lp d o)];rfl
theorem HW(a b:az)(k:Int):o3 a 1 b k=dY a k b:=by
 unfold o3 dY
 grind
theorem Rj(a b:az)(k:Int)(c:a.aT.length=4)(d:b.aT.length=4):(dY a k b).aT.length=4:=by
 unfold dY
 grind
def td(a:az)(k:Nat)(b:az):az:=dY ⟨a.aT.set k 0,a.const⟩ (a.aT.getD k 0) b
theorem Qc{a:az}(h:fQ 1000 a)(k:Nat):fQ 1000 ⟨a.aT.set k 0,a.const⟩:=⟨by dsimp only;rw[e6];exact h.1,h.2.1,qY h.2.2 ⟨O,O⟩⟩
theorem Qh{a:az}(h:fQ 1000 a)(d:k<4):a.aT[k]? =aa (a.aT.getD k 0)/\cV 1000 (a.aT.getD k 0):=by
 have c:k<a.aT.length:=by rw[h.1];exact d
 have e:=bp c;have i:a.aT.getD k 0=a.aT[k]:=by rw[eQ,e];rfl
 rw[i];exact⟨e,h.2.2 _ (gC c)⟩
theorem Gj(e:5000<=n){a:az}(c:fQ 1000 a)(h:fQ 1000 b)(d:k<4):u3 n a (k:Int) b=aa (td a k b):=by
 obtain⟨i,l⟩:=Qh c d;have m:k<a.aT.length:=by rw[c.1];exact d
 unfold u3;rw[NU n (by have:=c.1;omega)];refine ad.eq (ae rfl (ae (bl i) (ae (dU O _) (ae (BL e (Qc c k) h l) (ad.some rfl)))))
theorem M'(h:5000<=n){a:az}(c:fQ 1000 a)(i:fQ 1000 b)(d:k<4):A3 n a (k:Int) b=aa (td a k b):=by
 obtain⟨e,l⟩:=Qh c d;have m:k<a.aT.length:=by rw[c.1];exact d
 unfold A3;rw[oj _ (by have:=c.1;omega)];refine ad.eq (ae rfl (ae (bl e) (ae (dU O _) (ae (bl e) (ae (uA h (Qc c k) i ⟨O,O⟩ l) (ad.some ?_))))));rw[HW];rfl
theorem BK(n:Nat)(a:k<4):ow n (k:Int) 1=aa (h8 k):=by rcases(O:k=0\/k=1\/k=2\/k=3) with rfl|rfl|rfl|rfl<;>rfl
theorem BA(n:Nat)(a:k<4):mN n (k:Int)=aa (h8 k):=by rcases(O:k=0\/k=1\/k=2\/k=3) with rfl|rfl|rfl|rfl<;>rfl
def oJ(k:Nat)(b:az):az:=dY (h8 k) (-1) b
theorem Ii{a:az}(d:a.aT.length=4)(e:b.aT.length=4)(h:k<4)(c:b.aT.getD k 0=0):td a k (oJ k b)=eJ k b a:=by
 obtain⟨a,ac⟩:=a;obtain⟨b,i⟩:=b;dsimp only at d e c;obtain⟨a0,aN,a2,a3,rfl⟩:=mv d;obtain⟨l,m,n,o,rfl⟩:=mv e;rcases(O:k=0\/k=1\/k=2\/k=3) with rfl|rfl|rfl|rfl<;>
  (simp only[List.getD_cons_zero,List.getD_cons_succ] at c;subst c;simp[td,oJ,eJ,dY,h8,Int.mul_neg,Int.neg_mul])
def eK:Prog×Bool:=(⟨[],[]⟩,ak)
def qI(p:Prog)(a c:Int)(g f:az->az):Prog×Bool:=
 match ax p.parts a with
 |some P=>match ax P.nest c with
  |some l=>hY ⟨p.aQ,p.parts.set a.toNat (me c.toNat g f P l)⟩
  |none=>eK
 |none=>eK
theorem hZ{b:Int}(h:cO p a b=ab):bG p=ab/\ ∃(i k:Nat) (P:Part) (l:Loop),a=i/\b=k/\p.parts[i]? =aa P/\P.nest[k]? =aa l/\i<p.parts.length/\k<P.nest.length/\d' p.aQ P=ab/\k<4:=by
 unfold cO at h;rw[nT] at h;obtain⟨m,h⟩:=h;refine⟨m,?_⟩;cases d:ax p.parts a with
 |none=>rw[d] at h;cases h
 |some P=>
  rw[d] at h;obtain⟨i,rfl,o,n⟩:=CW d;obtain⟨q,r⟩:=fF h;obtain⟨l,s,e⟩:=gU q r;have c:=(dZ m).2.2.2.1 P (bx n)
  have:=(gV c).1;exact⟨i,b.toNat,P,l,rfl,O,n,e,o,O,c,O⟩
theorem CD(c:d' r P=ab)(e:P.nest[k]? =aa l)(m: ∀x,cN x=ab->dD 4 (g x))(h: ∀x,cN x=ab->dD 4 (f x)):gg 4 (me k g f P l):=by
 obtain⟨q,i⟩:=gV c;obtain⟨_,n,o,_⟩:=gy c;have w:=(bS.1 e).1;refine⟨⟨by simp only[me,im,List.length_cons,List.length_map,k',lP];omega,λy a=>?_⟩,by simp only[me,List.length_map];exact n.2,λs p=>?_⟩
 ·rcases eC.1 a with a|a
  ·exact((ve c).1.2 y (gP a))
  rcases ez.1 a with rfl|a
  ·exact x6 m (i l (bx e))
  obtain⟨z,d,rfl⟩:=eA.1 a;exact x6 h (i z (fq d))
 obtain⟨z,d,rfl⟩:=eA.1 p;exact CR h (o z d)
theorem yn(a:di 1000 p)(i:Nat)(c:gg 4 y):di 1000 ⟨p.aQ,p.parts.set i y⟩:=⟨a.1,by dsimp only;rw[e6];exact a.2.1,qY a.2.2 (c.mono O)⟩
theorem x7{k:Int}(a:b.aT.length=4): ∀x,cN x=ab->dD 4 (dY x k b):=λx c=>by have:=Rj x b k (fo c).1 a;unfold dD;omega
theorem C8(a:b.aT.length=4): ∀x,cN x=ab->dD 4 (eJ k b x):=λx c=>x7 a x c
theorem Ig(s:k<4)(h:fQ 6 b):fQ 1000 (oJ k b):=by
 obtain⟨b,w⟩:=b;obtain⟨d,e,a⟩:=h;dsimp only at d e a;obtain⟨i,l,m,n,rfl⟩:=mv d;have o:=a i aX;have p:=a l aX;have q:=a m aX;have r:=a n aX;unfold cV at e o p q r;rcases(O:k=0\/k=1\/k=2\/k=3) with rfl|rfl|rfl|rfl<;>
  (refine⟨rfl,?_,λc x=>?_⟩<;>unfold cV<;>simp[oJ,h8,dY] at* <;>omega)
theorem ad6(a:k<4)(c:fQ 6 b)(e:b.aT.getD k 0=0): ∀n,5000<=n-> ∀x,cN x=ab->ko n x 1 (k:Int) (oJ k b)=aa (eJ k b x):=λn h x d=>by unfold ko;rw[M' h ((oQ d).mono O) (Ig a c) a,Ii (oQ d).1 c.1 a e];rfl
theorem take_set{l r:List R}{x y:R}(h:l[k]? =aa x):(l.take (k+1)++r).set k y=l.take k++y::r:=by have a:=(bS.1 h).1;rw[eO,h,fN,nQ _ _ bQ,cZ,Nat.min_eq_left O,kC];rfl
theorem Qv(C:6000<=n)(z:d' r P=ab)(m:P.nest[k]? =aa l)(o:k<4)(p:fQ 6 b)(F:b.aT.getD k 0=0):
  xC n P (k:Int) b=aa (me k (λx=>dY x 1 b) (eJ k b) P l):=by
 obtain⟨G,A⟩:=gV z;obtain⟨_,H,L,_⟩:=gy z;have Q:=(bS.1 m).1;have c:=A l (bx m);have B: ∀x,cN x=ab->jg n x 1 b 1=aa (dY x 1 b):=λx e=>by
  rw[uA O ((oQ e).mono O) (p.mono O) ⟨O,O⟩ ⟨O,O⟩,HW]
 unfold xC;simp only[bl m,Option.bind_some];refine ad.eq (ae (BA n o) (ae (uA O ((sI o).mono O) (p.mono O) ⟨O,O⟩ ⟨O,O⟩) ?_));rw[HW];refine ae (AD C O G A H.2 L (ad6 o p F)) ?_;refine pz (n:=n) (l:=l.lo) (f:=λx=>jg n x 1 b 1) (K:=λR=>bm (λa ((d,h):(List az)×Int)=>
    bif ag (h<(l.hi.length:Int)) then(
     bN (ax l.hi h) λq=>
     bN (jg n q 1 b 1) λs=>
     bN (app d [s]) λw=>
     a (w,wr (h+1))
    ) else(
     bN (ax (P.nest.take (k+1)++(P.nest.drop (k+1)).map (c9 (eJ k b))) (k:Int)) λy=>
     bN (ca (P.nest.take (k+1)++(P.nest.drop (k+1)).map (c9 (eJ k b))) (k:Int) (⟨R,d⟩:Loop)) λi=>
     aa (⟨i,P.body.map (gO (eJ k b))⟩:Part)
    )
   ) n ([],0)) (λx e=>B x (c.1.2 x e)) (by have:=c.1.1;omega) O ?_
 refine pz (n:=n) (l:=l.hi) (f:=λx=>jg n x 1 b 1) (g:=λx=>dY x 1 b) (K:=λd=>bN (ax (P.nest.take (k+1)++(P.nest.drop (k+1)).map (c9 (eJ k b))) (k:Int)) λy=>bN (ca (P.nest.take (k+1)++(P.nest.drop (k+1)).map (c9 (eJ k b))) (k:Int) (⟨l.lo.map λx=>dY x 1 b,d⟩:Loop)) λi=>aa (⟨i,P.body.map (gO (eJ k b))⟩:Part)) (λx e=>B x (c.2.2 x e)) (by have:=c.2.1;omega) O ?_;have e:(P.nest.take (k+1)++(P.nest.drop (k+1)).map (c9 (eJ k b)))[k]? =aa l:=by
  grind
 refine ae (bl e) (ae (dU bQ _) (ad.some ?_));rw[cf,take_set m];rfl
def iC(s:Int):az:=⟨[0,0,0,0],s⟩
theorem C0(h: -6<=s/\s<=6):fQ 6 (iC s):=by unfold iC fQ cV;simp;omega
theorem RU(s:Int)(a:k<4):(iC s).aT.getD k 0=0:=by rcases(O:k=0\/k=1\/k=2\/k=3) with rfl|rfl|rfl|rfl<;>rfl
def qT(p:Prog)(d a c:Int):Prog×Bool:=
 if cO p d a=ab/\(-6<=c/\c<=6) then qI p d a (λx=>dY x 1 (iC c)) (eJ a.toNat (iC c)) else eK
theorem NO(n:Nat)(s:Int):xS n s=aa (ag (-6<=s/\s<=6)):=by unfold xS;rw[jE];rfl
theorem se{b:Int}(h:a<0):cO p b a=ak:=by
 cases c:cO p b a with
 |false=>rfl
 |true=>obtain⟨_,i,k,P,l,_,d,_⟩:=hZ c;omega
theorem zl(a:p.parts[i]? =aa P)(c:P.nest[k]? =aa l)(g f:az->az):qI p (i:Int) (k:Int) g f=hY ⟨p.aQ,p.parts.set i (me k g f P l)⟩:=by unfold qI;rw[bl a];dsimp only;rw[bl c];rfl
theorem aj1(r:7000<=n)(o:di 1000 p)(a c d:Int):Fg n p a c d=aa (qT p a c d):=by
 unfold Fg qT;refine ad.eq (ae (lE O o) (ad.aD (λz=>z= !(cO p a c&&ag (-6<=d/\d<=6))) (λj s=>?_) λz y=>?_))
 ·refine ae (nM r o a c) (ad.cond (λh=>s _ ?_) λh=>ae (zI n d 6 O) (s _ ?_))
  ·rw[show cO p a c=ak by simpa using h];rfl
  rw[show cO p a c=ab by simpa using h];rfl
 subst y;by_cases e:cO p a c=ab/\(-6<=d/\d<=6)
 ·rw[aR e,e.1,bK e.2];refine b6 ?_;obtain⟨G,i,k,P,l,rfl,rfl,w,q,A,B,m,x⟩:=hZ e.1;refine ae (bl w) (ae (ir n d) (ae (Qv O m q x (C0 e.2) (RU _ x)) (ae (xY r o A ((CD m q (x7 (C0 e.2).1) (C8 (C0 e.2).1)).mono O)) (ad.some ?_))));rw[zl w q];rfl
 rw[aP e,show(cO p a c&&ag (-6<=d/\d<=6))=ak by
  cases C:cO p a c with
  |false=>rfl
  |true=>exact bJ λF=>e ⟨C,F⟩]
 exact bY (ad.some rfl)
theorem aa0(c:5000<=n)(h: -6<=s/\s<=6): ∀x,cN x=ab->zp n x s=aa (dY x 1 (iC s)):=λx a=>by unfold zp;have d:qD n 1=aa ⟨[0,0,0,0],1⟩:=rfl;rw[d];refine ad.eq (ae rfl (ae (BL c ((oQ a).mono O) (b:=⟨[0,0,0,0],1⟩) (by unfold fQ cV;simp) ⟨O,O⟩) (ad.some ?_)));unfold dY iC;obtain⟨a0,aN,a2,a3,e⟩:=mv (fo a).1;rw[e];simp
theorem aaZ(d:5000<=n)(a:k<4)(h: -6<=s/\s<=6): ∀x,cN x=ab->wq n x (k:Int) (⟨(h8 k).aT,wr (0-s)⟩:az)=aa (eJ k (iC s) x):=λx c=>by
 have e:(⟨(h8 k).aT,wr (0-s)⟩:az)=oJ k (iC s):=by
  rw[bc O];rcases(O:k=0\/k=1\/k=2\/k=3) with rfl|rfl|rfl|rfl<;>(unfold h8 oJ iC dY h8;simp)
 unfold wq;rw[e,Gj d ((oQ c).mono O) (Ig a (C0 h)) a,Ii (oQ c).1 rfl a (RU _ a)];rfl
theorem Bt(i:7000<=n)(e:di 1000 p)(a:Int):ad (kX n p a (-1)) (λr=>r.2=ak->r=eK):=by
 unfold kX;refine ad.aD (λz=>z=ak->bG p=ab/\(0<=a/\a<(p.parts.length:Int))) (λj c=>?_) λz k=>?_
 ·refine ae (d5 i e.sm) (ad.cond (λh=>c _ λh=>by cases h) λh=>?_);refine ae (rV n e.2.1 a) (ad.cond (λh=>c _ λh=>by cases h) λd=>fl (λh=>(h rfl).elim) λ_=>c _ λ_=>⟨by simpa using h,by simpa using d⟩)
 refine ad.cond (λ_=>ad.some λ_=>rfl) λh=>?_;obtain⟨l,m,d⟩:=k h;obtain⟨x,o,q⟩:=gU m d;exact ae (sa O l) (ae o (ad.some λh=>by cases h))
theorem aiG(w:7000<=n)(A:di 1000 p)(c d a:Int):Fs n p c d a=aa (qT p c d a):=by
 unfold Fs qT;by_cases e:d= -1
 ·subst e;rw[aP λh=>by rw[se O] at h;cases h.1];refine ad.eq (cq (Bt w A c) λg R=>ad.cond (λ_=>ad.aD (λz=>z=ab) (λj B=>aW (λ_=>B _ rfl) λh=>bB (show(-1:Int)<0 by omega) h) λz C=>by rw[C];exact bY (ad.some rfl)) λ_=>ad.some rfl)
 refine ad.eq (ae (xU w A c d e) ?_);by_cases m:cO p c d=ab
 ·rw[aR m];refine bY (ad.aD (λz=>z= !decide (-6<=a/\a<=6)) (λj B=>?_) λz C=>?_)
  ·refine aW (λh=>?_) λ_=>ae (NO n a) (B _ rfl);rw[se h] at m;cases m
  subst C;by_cases q: -6<=a/\a<=6
  ·rw[aR ⟨m,q⟩,bK q];refine b6 ?_;obtain⟨t,i,k,P,l,rfl,rfl,H,r,u,W,o,K⟩:=hZ m;obtain⟨R,L⟩:=gV o;obtain⟨_,X,Z,_⟩:=gy o;refine ae (bl H) (ae (bl r) (ae (K6 O (L l (bx r)) (aa0 O q)) (ae (dU O _) (ae (dU J _) (ae (BK n K) ?_)))));rw[bc (n:=(k:Int)+1) O];have G:=zo (n:=n) O (nest:=P.nest.set k (c9 (λx=>dY x 1 (iC a)) l)) (body:=P.body) (s:=k+1) bQ bQ (λy Q=>by
    rw[q5 O] at Q;exact L y (fq Q)) X.2 Z (F:=λb=>wq n b (k:Int) (⟨(h8 k).aT,wr (0-a)⟩:az)) (aaZ O K q)
   rw[cf,cf];refine ae G (ae (dU bQ _) ?_);rw[cf,uK];have f:(⟨(P.nest.set k (c9 (λx=>dY x 1 (iC a)) l)).take (k+1)++((P.nest.set k (c9 (λx=>dY x 1 (iC a)) l)).drop (k+1)).map (c9 (eJ k (iC a))),P.body.map (gO (eJ k (iC a)))⟩:Part)=me k (λx=>dY x 1 (iC a)) (eJ k (iC a)) P l:=by
    rw[q5 O,eO,gD O,E4 (cR k),fN];rfl
   rw[f];refine ae (r1 w (yn A i (CD o r (x7 rfl) (C8 rfl)))) (ad.some ?_);rw[zl H r]
  rw[aP λh=>q h.2,bJ q];exact bY (ad.some rfl)
 rw[aP m,aP λh=>m h.1];exact b6 (ad.some rfl)
theorem Ty{k:Type}{l:List k}{x:k}(h:l[i]? =aa x):l.set i x=l:=by
 refine zZ (λj=>?_)
 grind
theorem ajE:di 1000 eK.1:=⟨⟨by simp[eK],λx a=>by cases a⟩,by simp[eK],λx a=>by cases a⟩
def fs(k:Nat)(s:Int):az:=⟨[0,0,0,0].set k s,0⟩
theorem r0(k:Nat)(h: -6<=s/\s<=6):fQ 6 (fs k s):=by refine⟨by simp[fs],⟨by simp[fs],by simp[fs]⟩,qY (λc a=>?_) ⟨h.1,h.2⟩⟩;simp at a;subst a;exact⟨O,O⟩
theorem L0(s:Int)(a:k+1<4):(fs k s).aT.getD (k+1) 0=0:=by rcases(O:k=0\/k=1\/k=2) with rfl|rfl|rfl<;>rfl
def qU(p:Prog)(c a s:Int):Prog×Bool:=
 if cO p c a=ab/\cO p c (a+1)=ab/\(-6<=s/\s<=6) then qI p c (a+1) (λx=>dY x 1 (fs a.toNat s)) (eJ (a.toNat+1) (fs a.toNat s)) else eK
theorem afb(a:k<4)(s:Int):o3 (h8 k) s ⟨[0,0,0,0],0⟩ 0=fs k s:=by rcases(O:k=0\/k=1\/k=2\/k=3) with rfl|rfl|rfl|rfl<;>simp[o3,h8,fs]
theorem afe(d:k<4)(s:Int){a:az}(c:a.aT.length=4):dY a s (h8 k)=dY a 1 (fs k s):=by obtain⟨a0,aN,a2,a3,e⟩:=mv c;rcases(O:k=0\/k=1\/k=2\/k=3) with rfl|rfl|rfl|rfl<;>simp[dY,h8,fs,e]
theorem aga(a:k+1<4)(s:Int):dY (h8 (k+1)) (-s) (h8 k)=oJ (k+1) (fs k s):=by rcases(O:k=0\/k=1\/k=2) with rfl|rfl|rfl<;>simp[oJ,dY,h8,fs]
theorem aj2(r:7000<=n)(o:di 1000 p)(a c s:Int):Au n p a c s=aa (qU p a c s):=by
 unfold Au qU;refine ad.eq (ae (lE O o) (ad.aD (λz=>z= !(cO p a c&&(cO p a (c+1)&&ag (-6<=s/\s<=6)))) (λj w=>?_) λz F=>?_))
 ·refine ae (nM r o a c) (ad.cond (λh=>w _ ?_) λh=>?_)
  ·rw[show cO p a c=ak by simpa using h];rfl
  have m:cO p a c=ab:=by simpa using h
  obtain⟨G,i,k,P,l,rfl,rfl,y,q,C,A,e,B⟩:=hZ m;rw[bc O];refine ae (nM r o _ _) (ad.cond (λh=>w _ ?_) λh=>ae (zI n s 6 O) (w _ ?_))
  ·rw[m,show cO p (i:Int) ((k:Int)+1)=ak by simpa using h];rfl
  rw[m,show cO p (i:Int) ((k:Int)+1)=ab by simpa using h];rfl
 subst F;by_cases d:cO p a c=ab/\cO p a (c+1)=ab/\(-6<=s/\s<=6)
 ·rw[aR d,d.1,d.2.1,bK d.2.2];refine b6 ?_;obtain⟨G,i,eM,P,l,rfl,H,y,q,C,A,e,B⟩:=hZ d.2.1;obtain⟨_,R,k,W,X,K,rfl,_⟩:=hZ d.1;obtain rfl:eM=k+1:=O
  refine ae (BA n O) (ae (x:=⟨[0,0,0,0],0⟩) rfl (ae (uA O ((sI O).mono O) (by unfold fQ cV;simp) ⟨O,O⟩ ⟨O,O⟩) ?_));rw[afb O,bc O];refine ae (bl y) (ae (Qv O e q B (r0 k d.2.2) (L0 s B)) (ae (xY r o C ((CD e q (x7 (r0 k d.2.2).1) (C8 (r0 k d.2.2).1)).mono O)) (ad.some ?_)));show hY _=_;rw[show((k:Int)+1)=((k+1:Nat):Int) by omega,zl y q];rfl
 rw[aP d,show(cO p a c&&(cO p a (c+1)&&ag (-6<=s/\s<=6)))=ak by
  cases m:cO p a c with
  |false=>rfl
  |true=>cases L:cO p a (c+1) with
   |false=>rfl
   |true=>exact bJ λQ=>d ⟨m,L,Q⟩]
 exact bY (ad.some rfl)
theorem abM(d:5000<=n)(a:k<4)(e: -6<=s/\s<=6): ∀x,cN x=ab->zz n x s (k:Int)=aa (dY x 1 (fs k s)):=λx c=>by unfold zz;rw[BK n a];refine ad.eq (ae rfl (ae (BL d ((oQ c).mono O) ((sI a).mono O) ⟨O,O⟩) (ad.some (afe a s (fo c).1))))
theorem abL(e:5000<=n)(a:k+1<4)(c: -6<=s/\s<=6): ∀x,cN x=ab->m9 n x (k:Int) (oJ (k+1) (fs k s))=aa (eJ (k+1) (fs k s) x):=λx d=>by unfold m9;rw[bc O,show((k:Int)+1)=((k+1:Nat):Int) by omega,Gj e ((oQ d).mono O) (Ig a (r0 k c)) a,Ii (oQ d).1 (r0 k c).1 a (L0 s a)];rfl
theorem aiH(C:7000<=n)(G:di 1000 p)(a c s:Int):AJ n p a c s=aa (qU p a c s):=by
 unfold AJ qU;by_cases e:c= -1
 ·subst e;rw[aP λh=>by rw[se O] at h;cases h.1];refine ad.eq (cq (Bt C G a) λv W=>ad.cond (λ_=>ad.aD (λz=>z=ab) (λj w=>aW (λ_=>w _ rfl) λh=>bB (show(-1:Int)<0 by omega) h) λz H=>by rw[H];exact bY (ad.some rfl)) λ_=>ad.some rfl)
 refine ad.eq (ae (xU C G a c e) ?_);by_cases q:cO p a c=ab
 ·rw[aR q];obtain⟨X,i,k,P,D,rfl,rfl,A,Z,E,b,o,K⟩:=hZ q;obtain⟨W,Q⟩:=gV o;obtain⟨_,f,g,_⟩:=gy o;have r:cO p (i:Int) ((k:Int)+1)=ag (k+1<P.nest.length):=by
   unfold cO;rw[X,bl A];exact decide_eq_decide.2 O
  refine bY (ad.aD (λz=>z= !(ag (k+1<P.nest.length)&&ag (-6<=s/\s<=6))) (λj w=>?_) λz H=>?_)
  ·refine aW (λh=>bB h O) λ_=>ae (bl A) ?_;rw[bc O];refine aW (λh=>w _ ?_) λh=>ae (NO n s) (w _ ?_)
   ·rw[bJ (show¬k+1<P.nest.length by omega)];rfl
   rw[bK (O:k+1<P.nest.length)];rfl
  subst H;by_cases d:k+1<P.nest.length
  ·by_cases m: -6<=s/\s<=6
   ·rw[aR ⟨q,by rw[r,bK d],m⟩,bK m,bK d];refine b6 ?_;obtain⟨l,B⟩: ∃l,P.nest[k+1]? =aa l:=⟨_,bp d⟩
    rw[bc (n:=(k:Int)+1) O,bc (n:=(k:Int)+2) O,bc (n:=0-s) O,show((k:Int)+1)=((k+1:Nat):Int) by omega,show((k:Int)+2)=((k+1+1:Nat):Int) by omega,show 0-s= -s by omega];refine ae (bl A) (ae (bl B) (ae (K6 O (Q l (bx B)) (abM O K m)) (ae (dU O _) (ae (dU J _) (ae (BK n O) (ae (BK n K) (ae (BL O ((sI O).mono O) ((sI K).mono O) ⟨O,O⟩) ?_)))))));rw[aga O];have L:=zo (n:=n) O (nest:=P.nest.set (k+1) (c9 (λx=>dY x 1 (fs k s)) l)) (body:=P.body) (s:=k+1+1) bQ bQ (λy R=>by
     rw[q5 O] at R;exact Q y (fq R)) f.2 g (F:=λt=>m9 n t (k:Int) (oJ (k+1) (fs k s))) (abL O O m)
    rw[cf,cf];refine ae L (ae (dU bQ _) ?_);rw[cf,uK];have u:(⟨(P.nest.set (k+1) (c9 (λx=>dY x 1 (fs k s)) l)).take (k+1+1)++((P.nest.set (k+1) (c9 (λx=>dY x 1 (fs k s)) l)).drop (k+1+1)).map (c9 (eJ (k+1) (fs k s))),P.body.map (gO (eJ (k+1) (fs k s)))⟩:Part)=me (k+1) (λx=>dY x 1 (fs k s)) (eJ (k+1) (fs k s)) P l:=by
     rw[q5 O,eO,gD O,E4 (cR _),fN];rfl
    rw[u];refine ae (r1 C (yn G i (CD o B (x7 (r0 k m).1) (C8 (r0 k m).1)))) (ad.some ?_);rw[zl A B];rfl
   rw[aP λh=>m h.2.2,bJ m,k7];exact bY (ad.some rfl)
  rw[aP (λh=>by rw[r,bJ d] at h;cases h.2.1),bJ d];exact bY (ad.some rfl)
 rw[aP q,aP λh=>q h.1];exact b6 (ad.some rfl)
theorem afA{B:Option Bool}{b:Int}(h:b<=1048576->ad B λr=>r=ab):ad (aD (fun(e:Bool)=>bif e then(aa ab) else B) λc=>bif ag ((1048576:Int)<a) then(c ab) else(c (ag ((1048576:Int)<b)))) (λr=>r=ab):=by exact ad.aD (λz=>z=ak->b<=1048576) (λj d=>aW (λ_=>d _ λh=>by cases h) λ_=>d _ λh=>by have:=of_decide_eq_false h;omega) λz i=>ad.cond (λ_=>ad.some rfl) λk=>h (i k)
theorem afz{a S:Option (Prog×Bool)}{REST:Prog×Bool->Prog×Bool->Option Bool}{R:Prog×Bool}(o:di 1000 R.1)(p:a=aa R)(q:S=aa R)(s:R.2=ab->ad (REST R R) λr=>r=ab):
  ad (bN a λc=>bN S λd=>aD (fun(w:Bool)=>
    bif w then(
     aD (fun(e:Bool)=>
      aa e
     ) (λl=>
      bif(c.2==d.2) then(
       bN (tT N c.1 d.1) λh=>
       l h
      ) else(
       l ak
      )
     )
    ) else(
     REST c d
    )
   ) (λi=>
    bif !(c.2==d.2) then(
     i ab
    ) else(
     bN (tT N c.1 d.1) λx=>
     bif !x then(
      i ab
     ) else(
      i (!c.2)
     )
    )
   )) (λr=>r=ab):=by
 have B:N=100000:=rfl;have hs:=acD (n:=N) O o;have y:(R.2==R.2)=ab:=by cases R.2<;>rfl
 refine ae p (ae q (ad.aD (λz=>z= !R.2) (λj m=>?_) λz k=>?_))
 ·rw[y]
  grind
 subst k;cases A:R.2 with
 |false=>exact bY (ad.aD (λz=>z=ab) (λj m=>bY (ae hs (m _ rfl))) λz k=>ad.some k)
 |true=>exact b6 (s A)
theorem l1{k R:Type}{f g:k->R}: ∀{l:List k},(∀x∈l,f x=g x)->l.map f=l.map g
 | [],_=>rfl
 |x::l,h=>by rw[w7,w7,h x eD,l1 λy a=>h y (eo _ a)]
theorem tt(h:hY p=(q,ab)):q=p/\bG p=ab:=by
 unfold hY at h
 grind
theorem aj7{b:Int}(h:qT p c a b=(q,ab)):cO p c a=ab/\(-6<=b/\b<=6)/\qI p c a (λx=>dY x 1 (iC b)) (eJ a.toNat (iC b))=(q,ab):=by
 unfold qT at h;split at h
 ·rename_i d;exact⟨d.1,d.2,h⟩
 cases h
theorem Ci(m:Int): ∀(a b p:List Int),a.length=b.length->dx (List.zipWith (λx y=>x+m*y) a b) p=dx a p+m*dx b p
 | [],[],p,_=>by simp[dx]
 |x::a,y::b,[],_=>by simp[dx]
 |x::a,y::b,z::p,h=>by simp only[List.zipWith_cons_cons,dx];rw[Ci m a b p (by simpa using h),Int.add_mul,Int.mul_add,Int.mul_assoc];omega
theorem Cj: ∀(cs p:List Int) (k:Nat) (v:Int),k<p.length->dx cs (p.set k v)=dx cs p+cs.getD k 0*(v-p.getD k 0)
 | [],p,k,v,_=>by simp[dx]
 |c::cs,x::p,0,v,_=>by
  simp only[List.set_cons_zero,dx,List.getD_cons_zero];rw[Int.mul_sub];omega
 |c::cs,x::p,k+1,v,h=>by simp only[List.set_cons_succ,dx,List.getD_cons_succ];rw[Cj cs p k v (by simpa using h)];omega
theorem Hy: ∀(cs p:List Int) (v:Int),cs.getD p.length 0=0->dx cs (p++[v])=dx cs p
 | [],p,v,_=>by simp[dx]
 |c::cs,[],v,h=>by
  simp only[List.length_nil,List.getD_cons_zero] at h;subst h;cases cs<;>simp[dx]
 |c::cs,x::p,v,h=>by simp only[List.cons_append,dx];rw[Hy cs p v (by simpa using h)]
def jP(k:Nat)(b:az)(p:List Int):List Int:=p.set k (p.getD k 0+cT b p)
theorem aei{x:az}(h:x.aT.length=b.aT.length)(p:List Int):cT (dY x 1 b) p=cT x p+cT b p:=by
 unfold cT dY;rw[Ci 1 _ _ _ h]
 grind
theorem QM{x:az}(h:x.aT.length=b.aT.length)(c:b.aT.getD k 0=0){p:List Int}(a:k<p.length):cT (eJ k b x) (jP k b p)=cT x p:=by
 unfold eJ cT dY jP;rw[Ci _ _ _ _ h];dsimp only;rw[Cj _ _ _ _ a,Cj _ _ _ _ a,c,show p.getD k 0+cT b p-p.getD k 0=cT b p by omega];unfold cT
 grind
def low(k:Nat)(b:az):Prop:= ∀j,k<=j->b.aT.getD j 0=0
theorem Ox(a:low k b){p:List Int}(c:k<=p.length)(v:Int):cT b (p++[v])=cT b p:=by unfold cT;rw[Hy _ _ _ (a _ c)]
theorem GS{k:Type}{l:List k}{v d:k}:(l++[v]).getD l.length d=v:=by grind
theorem Bo{l:List R}{v d:R}(h:k<l.length):(l++[v]).getD k d=l.getD k d:=by grind
theorem adC(c:low k b){p:List Int}(a:k<p.length)(v:Int):jP k b (p++[v])=jP k b p++[v]:=by unfold jP;rw[Ox c O,Bo a,E2 _ _ a]
theorem afL(a:low k b){p:List Int}(c:p.length=k)(v:Int):jP k b (p++[v])=p++[v+cT b p]:=by unfold jP;rw[Ox a O,<-c,GS,nQ _ _ (cR _),kC];rfl
theorem LQ(e:Int): ∀(l:List Int) (a:Int),(l.map λx=>x+e).foldl max (a+e)=l.foldl max a+e
 | [],a=>rfl
 |x::l,a=>by simp only[gf,List.foldl_cons];rw[show max (a+e) (x+e)=max a x+e by omega,LQ e l]
theorem LP(e:Int): ∀(l:List Int) (a:Int),(l.map λx=>x+e).foldl min (a+e)=l.foldl min a+e
 | [],a=>rfl
 |x::l,a=>by simp only[gf,List.foldl_cons];rw[show min (a+e) (x+e)=min a x+e by omega,LP e l]
theorem afl(e:Int){l:List Int}(h:l≠[]):iU (l.map λx=>x+e)=iU l+e:=by
 cases l with
 |nil=>exact bB rfl h
 |cons a l=>exact LQ e l a
theorem afn(e:Int){l:List Int}(h:l≠[]):kZ (l.map λx=>x+e)=kZ l+e:=by
 cases l with
 |nil=>exact bB rfl h
 |cons a l=>exact LP e l a
theorem aem(a b e:Int):cL (a+e) (b+e)=(cL a b).map (λv=>v+e):=by
 unfold cL;rw[show b+e-(a+e)=b-a by omega,fv];refine lK (λi _=>?_)
 grind
def Ki(l:Loop):Prop:=l.lo≠[]/\l.hi≠[]
theorem Rw(a:b.aT.length=4)(c:b.aT.getD k 0=0){p:List Int}(d:k<p.length){l:List az}(e: ∀x∈l,cN x=ab):fi (l.map (eJ k b)) (jP k b p)=fi l p:=by unfold fi;rw[fv];exact l1 λx h=>QM (by rw[(fo (e x h)).1,a]) c d
theorem Rv(a:b.aT.length=4)(p:List Int){l:List az}(c: ∀x∈l,cN x=ab):fi (l.map λx=>dY x 1 b) p=(fi l p).map (λy=>y+cT b p):=by unfold fi;rw[fv,fv];exact l1 λx d=>aei (by rw[(fo (c x d)).1,a]) p
theorem kY{k:Type}{f g:k->List R}{l:List k}(h: ∀x∈l,f x=g x):l.flatMap f=l.flatMap g:=by rw[pH,pH,l1 h]
theorem RQ{b:az}(c:b.aT.length=4){k:Nat}(a:low k b): ∀(ls:List Loop) (p:List Int),(∀l∈ls,gW l)->k<p.length->cW (ls.map (c9 (eJ k b))) (jP k b p)=(cW ls p).map (jP k b)
 | [],p,_,_=>rfl
 |l::ls,p,h,d=>by
  have cI:=h l eD;have e:cP (c9 (eJ k b) l) (jP k b p)=cP l p:=by unfold cP c9;rw[Rw c (a k (cR _)) d cI.1.2]
  have i:dd (c9 (eJ k b) l) (jP k b p)=dd l p:=by unfold dd c9;rw[Rw c (a k (cR _)) d cI.2.2]
  simp only[gf,cW];rw[e,i,jt];refine kY λv _=>?_;rw[<-adC a d];exact RQ c a ls (p++[v]) (λx m=>h x (eo _ m)) bQ
theorem afU(a:b.aT.length=4)(c:low k b)(d:gW l)(e:Ki l)(h: ∀l∈o,gW l){p:List Int}(i:p.length=k):
  cW (c9 (λx=>dY x 1 b) l::o.map (c9 (eJ k b))) p=(cW (l::o) p).map (jP k b):=by
 have m:cP (c9 (λx=>dY x 1 b) l) p=cP l p+cT b p:=by
  unfold cP c9;rw[Rv a p d.1.2,afl _ (by unfold fi;simpa using e.1)]
 have n:dd (c9 (λx=>dY x 1 b) l) p=dd l p+cT b p:=by
  unfold dd c9;rw[Rv a p d.2.2,afn _ (by unfold fi;simpa using e.2)]
 simp only[cW];rw[m,n,aem,pG,jt];refine kY λv _=>?_;rw[<-afL c i];exact RQ a c o (p++[v]) h bQ
theorem RO{b:az}(c:b.aT.length=4){k:Nat}(d:low k b){l:Loop}(e:gW l)(i:Ki l){ls:List Loop}(h: ∀l∈ls,gW l): ∀(os:List Loop) (p:List Int),p.length+os.length=k->
  cW (os++c9 (λx=>dY x 1 b) l::ls.map (c9 (eJ k b))) p=(cW (os++l::ls) p).map (jP k b)
 | [],p,a=>afU c d e i h (by simpa using a)
 |o::os,p,a=>by simp only[List.cons_append,cW];rw[jt];refine kY λv _=>?_;exact RO c d e i h os (p++[v]) (by simp at a ⊢; omega)
theorem acF{x:Part}(h:d' r x=ab): ∀l∈x.nest,Ki l:=λl d=>by
 obtain⟨i,k⟩:=jQ.1 d
 have:=(o7 (gy h).1).1.2 i l k;have a:=(pP this.1).1;have c:=(pP this.2).1;exact⟨λe=>by rw[e] at a;simp at a,λe=>by rw[e] at c;simp at c⟩
theorem l7{x:Part}(h:d' r x=ab):dG x=cW x.nest []:=(o7 (gy h).1).2.2.2.1
theorem aa9(c:d' r P=ab)(a:P.nest[k]? =aa l)(h:b.aT.length=4)(i:low k b)(m:d' r (me k (λx=>dY x 1 b) (eJ k b) P l)=ab):
  dG (me k (λx=>dY x 1 b) (eJ k b) P l)=(dG P).map (jP k b):=by
 obtain⟨o,d⟩:=gV c;have p:=(bS.1 a).1;rw[l7 m,l7 c];have e:P.nest=P.nest.take k++l::P.nest.drop (k+1):=by rw[<-hW a,mX]
 have:=RO h i (d l (bx a)) (acF c l (bx a)) (ls:=P.nest.drop (k+1)) (λy n=>d y (fq n)) (P.nest.take k) [] bQ;rw[<-e] at this;exact this
def sig(i k:Nat)(b:az)(x:bO):bO:=if x.part=(i:Int) then⟨x.part,x.stmt,jP k b x.bU⟩ else x
theorem S9{l:List Part}(k:l[i]? =aa P)(m:ew i C=(ew i P).map G)(n: ∀x,x.part≠(i:Int)->G x=x):I (l.set i C)=(I l).map G:=by
 unfold I;rw[jt];have e:(l.set i C).zipIdx=l.zipIdx.map (λy=>if y.2=i then(C,i) else y):=by
  refine zZ (λj=>?_)
  grind
 rw[e,pG];refine kY λy o=>?_;obtain⟨j,a⟩:=jQ.1 o;rw[List.getElem?_zipIdx] at a;cases d:l[j]? with
 |none=>rw[d] at a;cases a
 |some x=>
  rw[d] at a;simp at a;subst a;by_cases c:j=i
  ·subst c;rw[k] at d;cases d;simp[m]
  simp only[if_neg c];refine(l2 λz h=>n z ?_).symm;unfold ew at h;obtain⟨q,_,h⟩:=hq.1 h;obtain⟨t,_,rfl⟩:=eA.1 h;dsimp only;omega
theorem aiO{x:Part}(a:dG x=(dG P).map (jP k b))(c:x.body.length=P.body.length):ew i x=(ew i P).map (sig i k b):=by
 unfold ew;rw[a,c,pG,jt];refine kY λq _=>?_;rw[fv];refine l1 λt _=>?_;show _=sig i k b _;unfold sig
 grind
theorem Ob: ∀x:bO,x.part≠(i:Int)->sig i k b x=x:=λx a=>by unfold sig;rw[aP a]
theorem Rs{f:az->az}{t q:List Int}: ∀{e:List az} (c:List Int) (a:Int),(∀x∈e,cT (f x) t=cT x q)->gN (e.map f) c t a=gN e c q a
 | [],c,a,_=>by cases c<;>rfl
 |s::e,[],a,_=>rfl
 |s::e,d::c,a,h=>by
  simp only[gf,gN];rw[h s eD];split
  ·exact Rs c _ λx i=>h x (eo _ i)
  rfl
theorem yl{f:az->az}{t q:List Int}{a:b0}(h: ∀x∈a.bz,cT (f x) t=cT x q): ∀(d:List cg) (c:Int),dS d (gH f a) t c=dS d a q c
 | [],_=>rfl
 |x::d,c=>by
  have e:gN (gH f a).bz x.b1 t 0=gN a.bz x.b1 q 0:=Rs _ _ h;have i:(gH f a).bz.length=a.bz.length:=by simp[gH]
  have k:(gH f a).array=a.array:=rfl;simp only[dS,e,i,k,yl h d]
theorem CA{d:Int}{f:az->az}: ∀{L:Nat} {e:Expr},dq L e d=ab->dv L (kh f L e)=(dv L e).map (gH f)
 |0,_,h=>by cases h
 |L+1,e,h=>by
  obtain⟨k,l,c⟩:=gk h;show(if e.kind=3 then [if e.kind=3 then gH f e.read else⟨[],[]⟩] else [])++(e.bk.map (kh f L)).flatMap (dv L)=((if e.kind=3 then [e.read] else [])++e.bk.flatMap (dv L)).map (gH f);rw[eN,pG,jt];congr 1
  ·by_cases a:e.kind=3
   ·simp only[if_pos a];rfl
   simp only[if_neg a];rfl
  exact kY λx i=>CA (c x i)
theorem yq{d:Int}{f:az->az}{t q:List Int}(h: ∀x,cN x=ab->cT (f x) t=cT x q)(i:List cg)(m:List Int): ∀{L:Nat} {e:Expr},dq L e d=ab->er L i m (kh f L e) t=er L i m e q
 |0,_,_=>rfl
 |L+1,e,w=>by
  obtain⟨G,s,n⟩:=gk w;have y:(kh f (L+1) e).kind=e.kind:=rfl;have z:(kh f (L+1) e).num=e.num:=rfl;have A:(kh f (L+1) e).bk=e.bk.map (kh f L):=rfl;unfold er;rw[y,z,A];by_cases p:e.kind=1
  ·rw[aR p,aR p]
  rw[aP p,aP p];by_cases k:e.kind=2
  ·have B:(kh f (L+1) e).index=f e.index:=by show(if e.kind=2 then f e.index else _)=_;rw[aR k]
   rw[aR k,aR k,B,h _ (pQ s k).1]
  rw[aP k,aP k];by_cases l:e.kind=3
  ·have C:(kh f (L+1) e).read=gH f e.read:=by show(if e.kind=3 then gH f e.read else _)=_;rw[aR l]
   rw[aR l,aR l,C,yl λx F=>h x ((lO (ri s l).1).2.2 x F)]
  rw[aP l,aP l];obtain⟨kind,num,index,read,o⟩:=e;dsimp only at n⊢
  match o,n with
  | [],_=>rfl
  | [a],_=>rfl
  | [a,c],n=>
   simp only[gf,List.map_nil];rw[yq h i m (n a aX),yq h i m (n c aX)]
  |a::c::e::r,_=>rfl
theorem M0(G:bG p=ab)(A:p.parts[i]? =aa P)(H:k<P.nest.length)(K:b.aT.length=4)(L:b.aT.getD k 0=0)(Q:q=⟨p.aQ,p.parts.set i (me k g (eJ k b) P l)⟩)(R:da p x):
  ∃s n d,ep p x=aa s/\ep q (sig i k b x)=aa n/\eT s d=ab/\
   (∀a,fY a d=ab->dS q.aQ (if x.part=(i:Int) then gH (eJ k b) a else a) (sig i k b x).bU 0=dS p.aQ a x.bU 0)/\
   (n.write=if x.part=(i:Int) then gH (eJ k b) s.write else s.write)/\
   (dv 5 n.value=(dv 5 s.value).map λa=>if x.part=(i:Int) then gH (eJ k b) a else a)/\
   ∀m,er 5 q.aQ m n.value (sig i k b x).bU=er 5 p.aQ m s.value x.bU:=by
 obtain⟨B,Z,f,s,d,W,j,C,t,r,o,X,u⟩:=oA G R;have hi:=(bS.1 A).1;subst Q;by_cases c:x.part=(i:Int)
 ·obtain rfl:B=i:=O
  rw[A] at C;cases C;have w:k<x.bU.length:=by rw[X.1];exact H
  have h: ∀y,cN y=ab->cT (eJ k b y) (jP k b x.bU)=cT y x.bU:=λy z=>QM (by rw[(fo z).1,K]) L w;have e:sig B k b x=⟨x.part,x.stmt,jP k b x.bU⟩:=by unfold sig;rw[aR c]
  refine⟨s,gO (eJ k b) s,d,r,?_,o,λa F=>?_,?_,?_,λm=>?_⟩
  ·rw[e];unfold ep;dsimp only;rw[W,cf,gD hi];show((P.body.map (gO (eJ k b)))[x.stmt.toNat]?)=_
   grind
  ·rw[aR c,e];exact yl (λy z=>h y ((lO F).2.2 y z)) _ _
  ·rw[aR c];rfl
  ·simp only[if_pos c];exact CA (gl o).2.1
  rw[e];exact yq h _ m (gl o).2.1
 have e:sig i k b x=x:=Ob x c;refine⟨s,s,d,r,?_,o,λa F=>?_,?_,?_,λm=>?_⟩
 ·rw[e,<-r];unfold ep
  grind
 ·rw[aP c,e]
 ·rw[aP c]
 ·simp only[if_neg c,List.map_id']
 rw[e]
theorem ajA(n:bG p=ab)(c:p.parts[i]? =aa P)(B:P.nest[k]? =aa l)(o:b.aT.length=4)(r:low k b)(h:q=⟨p.aQ,p.parts.set i (me k (λx=>dY x 1 b) (eJ k b) P l)⟩)(W:bG q=ab):
  I q.parts=(I p.parts).map (sig i k b)/\(∀x∈I p.parts,rc q (sig i k b x)=rc p x/\c3 q (sig i k b x)=c3 p x)/\ ∀m,c4 q m (I q.parts)=c4 p m (I p.parts):=by
 have hi:=(bS.1 c).1;have C:=(bS.1 B).1;have w:=(dZ n).2.2.2.1 P (bx c);have e:d' p.aQ (me k (λx=>dY x 1 b) (eJ k b) P l)=ab:=by
  have:=(dZ W).2.2.2.1;subst h;exact this _ (bx (gD hi))
 have F:I q.parts=(I p.parts).map (sig i k b):=by
  rw[h];exact S9 c (aiO (aa9 w B o r e) (by simp[me])) Ob
 refine⟨F,λx y=>?_,λm=>?_⟩
 ·obtain⟨s,X,d,G,H,z,A,K,L,Z⟩:=M0 n c C (g:=λx=>dY x 1 b) o (r k (cR _)) h (fe y);obtain⟨Q,_,R,_⟩:=gl z;unfold rc c3;rw[G,H];dsimp only;rw[K,L,fv,A _ Q];exact⟨l1 λa f=>A a (R a f),rfl⟩
 unfold c4;rw[F,List.foldl_map];refine wI λx y m=>?_;obtain⟨s,X,d,G,H,z,A,K,L,Z⟩:=M0 n c C (g:=λx=>dY x 1 b) o (r k (cR _)) h (fe y);obtain⟨Q,_,R,_⟩:=gl z;unfold eI
 grind
theorem ajx(s:Int)(k:Nat):low k (iC s):=λj _=>by
 unfold iC;rcases(O:j=0\/j=1\/j=2\/j=3\/4<=j) with rfl|rfl|rfl|rfl|h
 ·rfl
 ·rfl
 ·rfl
 ·rfl
 rw[eQ,q' (by simpa using h)];rfl
theorem ajw(s:Int)(a:k+1<4):low (k+1) (fs k s):=λj c=>by
 unfold fs;rw[eQ,js O];rcases(O:j=0\/j=1\/j=2\/j=3\/4<=j) with rfl|rfl|rfl|rfl|h
 ·rfl
 ·rfl
 ·rfl
 ·rfl
 rw[q' (by simpa using h)];rfl
theorem aj8{b:Int}(h:qU p b a s=(q,ab)):cO p b a=ab/\cO p b (a+1)=ab/\(-6<=s/\s<=6)/\qI p b (a+1) (λx=>dY x 1 (fs a.toNat s)) (eJ (a.toNat+1) (fs a.toNat s))=(q,ab):=by
 unfold qU at h;split at h
 ·rename_i c;exact⟨c.1,c.2.1,c.2.2,h⟩
 cases h
def kJ(n:Int):Expr:=⟨1,n,⟨[],0⟩,⟨[],[]⟩,[]⟩
def gT(e:Expr)(n:Int):Bool:=ag (e.kind=1)&&ag (e.num=n)
def fO(k x y:Int):Int:=if k=5 then x-y else if k=6 then x*y else x+y
def iz(e:Expr):Expr:=
 if e.kind=2/\e8 e.index.aT=0/\0<=e.index.const then kJ e.index.const
 else match e.bk with
  | [a,b]=>
   if a.kind=1/\b.kind=1 then(if 0<=fO e.kind a.num b.num/\fO e.kind a.num b.num<=99 then kJ (fO e.kind a.num b.num) else e)
   else if(¬e.kind=6/\gT b 0=ab)\/(e.kind=6/\gT b 1=ab) then a
   else if(e.kind=4/\gT a 0=ab)\/(e.kind=6/\gT a 1=ab) then b
   else if e.kind=6/\(gT a 0=ab\/gT b 0=ab) then kJ 0
   else e
  |_=>e
def j8(e:Expr)(a:List Expr):Expr:=⟨e.kind,e.num,e.index,e.read,a⟩
def fI:Nat->Expr->Expr
 |0,e=>e
 |L+1,e=>iz (j8 e (e.bk.map (fI L)))
theorem Pk{d:Int}: ∀{L:Nat} {e:Expr},dq L e d=ab->dq (L+1) e d=ab
 |0,_,h=>by cases h
 |L+1,e,h=>by obtain⟨c,i,l⟩:=gk h;show(ag (fJ e.kind=e.bk.length)&&(eY e d&&e.bk.all λk=>dq (L+1) k d))=ab;rw[bK c,i,gr,gr];exact gQ.2 λk a=>Pk (l k a)
theorem Ez(a:fJ e.kind=e.bk.length)(c:eY e d=ab)(h: ∀k∈e.bk,dq L k d=ab):dq (L+1) e d=ab:=by
 show(ag (fJ e.kind=e.bk.length)&&(eY e d&&e.bk.all λk=>dq L k d))=ab
 grind
theorem Rf{d:Int}: ∀{L:Nat} {e:Expr},dq L e d=ab->dM (L+1) e=dM L e
 |0,_,h=>by cases h
 |L+1,e,h=>by obtain⟨i,l,c⟩:=gk h;show 1+(e.bk.map (dM (L+1))).sum=1+(e.bk.map (dM L)).sum;rw[show e.bk.map (dM (L+1))=e.bk.map (dM L) from lK λk a=>Rf (c k a)]
theorem O1{d:Int}: ∀{L:Nat} {e:Expr},dq L e d=ab->dv (L+1) e=dv L e
 |0,_,h=>by cases h
 |L+1,e,h=>by obtain⟨i,l,c⟩:=gk h;show(if e.kind=3 then [e.read] else [])++e.bk.flatMap (dv (L+1))=(if e.kind=3 then [e.read] else [])++e.bk.flatMap (dv L);rw[pH,pH,show e.bk.map (dv (L+1))=e.bk.map (dv L) from lK λk a=>O1 (c k a)]
theorem CI{d:Int}(i:List cg)(m q:List Int): ∀{L:Nat} {e:Expr},dq L e d=ab->er (L+1) i m e q=er L i m e q
 |0,_,h=>by cases h
 |L+1,e,h=>by
  obtain⟨n,o,k⟩:=gk h;obtain⟨kind,num,index,read,l⟩:=e;dsimp only at k;unfold er;dsimp only
  match l,k with
  | [],_=>rfl
  | [a],_=>rfl
  | [a,b],k=>simp only[CI i m q (k a aX),CI i m q (k b aX)]
  |a::b::c::r,_=>rfl
theorem HV(l:eY e d=ab):iz e=e\/(∃n,iz e=kJ n/\0<=n/\n<=99)\/ ∃k∈e.bk,iz e=k:=by
 obtain⟨kind,num,index,read,i⟩:=e;unfold iz;dsimp only;split
 ·rename_i h
  have:=(fo (pQ l h.1).1).2.1;exact .inr (.inl ⟨_,rfl,h.2.2,this.2⟩)
 match i with
 | []=>exact .inl rfl
 | [a]=>exact .inl rfl
 | [a,b]=>
  dsimp only;split
  ·split
   ·rename_i h;exact .inr (.inl ⟨_,rfl,h⟩)
   exact .inl rfl
  split
  ·exact .inr (.inr ⟨a,aX,rfl⟩)
  split
  ·exact .inr (.inr ⟨b,aX,rfl⟩)
  split
  ·exact .inr (.inl ⟨0,rfl,O,O⟩)
  exact .inl rfl
 |a::b::c::r=>exact .inl rfl
theorem aa8(L:Nat){n:Int}(h:0<=n/\n<=99)(d:Int):dq (L+1) (kJ n) d=ab:=by
 refine Ez (by simp[kJ,fJ]) ?_ λk a=>by cases a
 unfold eY kJ jN k6;simp;omega
theorem GU(h:eY e d=ab)(a:List Expr):eY (j8 e a) d=ab:=h
theorem qg{d:Int}: ∀{L:Nat} {e:Expr},dq L e d=ab->dq L (fI L e) d=ab
 |0,_,h=>by cases h
 |L+1,e,h=>by
  obtain⟨o,l,m⟩:=gk h;have p:dq (L+1) (j8 e (e.bk.map (fI L))) d=ab:=Ez (by simp only[j8,List.length_map];exact o) l (λk a=>by
   obtain⟨y,i,rfl⟩:=eA.1 a;exact qg (m y i))
  show dq (L+1) (iz (j8 e (e.bk.map (fI L)))) d=ab;rcases HV (GU l (e.bk.map (fI L))) with c|⟨n,c,q⟩|⟨k,a,c⟩
  ·rw[c];exact p
  ·rw[c];exact aa8 L q d
  rw[c];obtain⟨y,i,rfl⟩:=eA.1 a;exact Pk (qg (m y i))
theorem P9{k:Type}(f:k->Int)(c: ∀x,0<=f x): ∀{l:List k} {x:k},x∈l->f x<=(l.map f).sum
 |y::l,x,h=>by
  have d: ∀l:List k,0<=(l.map f).sum:=λl=>by
   induction l with
   |nil=>simp
   |cons a l e=>simp only[gf,List.sum_cons];have:=c a;omega
  simp only[gf,List.sum_cons];rcases ez.1 h with rfl|h
  ·have:=d l;omega
  have:=P9 f c h;have:=c y;omega
theorem Pg{k:Type}(f g:k->Int): ∀{l:List k},(∀x∈l,f x<=g x)->(l.map f).sum<=(l.map g).sum
 | [],_=>gu _
 |x::l,h=>by
  simp only[gf,List.sum_cons]
  have:=h x eD
  have:=Pg f g λy a=>h y (eo _ a);omega
theorem Sa{d:Int}: ∀{L:Nat} {e:Expr},dq L e d=ab->dM L (fI L e)<=dM L e
 |0,_,h=>by cases h
 |L+1,e,h=>by
  obtain⟨q,o,i⟩:=gk h;have m:dM (L+1) (j8 e (e.bk.map (fI L)))<=dM (L+1) e:=by
   show 1+((e.bk.map (fI L)).map (dM L)).sum<=1+(e.bk.map (dM L)).sum;rw[fv]
   have:=Pg (dM L ∘ fI L) (dM L) (l:=e.bk) λk a=>Sa (i k a);omega
  show dM (L+1) (iz (j8 e (e.bk.map (fI L))))<=dM (L+1) e;rcases HV (GU o (e.bk.map (fI L))) with c|⟨n,c,r⟩|⟨k,a,c⟩
  ·rw[c];exact m
  ·rw[c];exact sD (L+1) e
  rw[c];refine Int.le_trans ?_ m;obtain⟨y,p,rfl⟩:=eA.1 a;rw[Rf (qg (i y p))];have s:dM L (fI L y)<=((e.bk.map (fI L)).map (dM L)).sum:=P9 (dM L) (λx=>by have:=sD L x;omega) a;show _<=1+((e.bk.map (fI L)).map (dM L)).sum;omega
theorem Sb{d:Int}: ∀{L:Nat} {e:Expr},dq L e d=ab-> ∀a∈dv L (fI L e),a∈dv L e
 |0,_,h=>by cases h
 |L+1,e,h=>by
  obtain⟨w,s,p⟩:=gk h;have q: ∀a∈dv (L+1) (j8 e (e.bk.map (fI L))),a∈dv (L+1) e:=λa c=>by
   have c:a∈(if e.kind=3 then [e.read] else [])++(e.bk.map (fI L)).flatMap (dv L):=c;show a∈(if e.kind=3 then [e.read] else [])++e.bk.flatMap (dv L);rcases eC.1 c with c|c
   ·exact kd _ c
   refine jr _ ?_;obtain⟨y,m,o⟩:=hq.1 c;obtain⟨z,r,rfl⟩:=eA.1 m;exact hq.2 ⟨z,r,Sb (p z r) a o⟩
  intro a c;have c:a∈dv (L+1) (iz (j8 e (e.bk.map (fI L)))):=c;rcases HV (GU s (e.bk.map (fI L))) with i|⟨n,i,x⟩|⟨k,l,i⟩
  ·rw[i] at c;exact q a c
  ·rw[i] at c;simp[dv,kJ] at c
  rw[i] at c;obtain⟨y,m,rfl⟩:=eA.1 l;rw[O1 (qg (p y m))] at c;refine q a ?_;show a∈(if e.kind=3 then [e.read] else [])++(e.bk.map (fI L)).flatMap (dv L);exact jr _ (hq.2 ⟨_,l,c⟩)
theorem yr: ∀{cs:List Int},e8 cs=0-> ∀p,dx cs p=0
 | [],_,_=>by simp[dx]
 |c::cs,h,[]=>by simp[dx]
 |c::cs,h,x::p=>by
  have a:c=0:=ua (l:=c::cs) (i:=0) rfl O;have d:e8 cs=0:=by
   cases e:e8 cs with
   |zero=>rfl
   |succ k=>unfold e8 at h;rw[e] at h;simp at h
  simp only[dx];rw[a,yr d];simp
theorem HP(L:Nat)(a:List cg)(m q:List Int)(n:Int):er (L+1) a m (kJ n) q=n:=by simp[er,kJ]
theorem uX{q:List Int}{a:Expr}{n:Int}(h:gT a n=ab):er (L+1) r m a q=n:=by
 unfold gT at h;rw[nT,decide_eq_true_eq,decide_eq_true_eq] at h;unfold er
 grind
theorem N8{q:List Int}{a:Expr}(h:a.kind=1):er (L+1) r m a q=a.num:=by
 unfold er
 grind
theorem Oc(h:dq L e d=ab): ∃K,L=K+1:=by
 cases L with
 |zero=>cases h
 |succ K=>exact⟨K,rfl⟩
theorem acJ{w:List cg}(p:fD w m){q:List Int}(h:dq (L+1) e d=ab):er (L+1) w m (iz e) q=er (L+1) w m e q:=by
 obtain⟨k,A,l⟩:=gk h;have B:=vd p (q:=q) h;obtain⟨kind,num,index,read,n⟩:=e;unfold iz;dsimp only at k l⊢;split
 ·rename_i y;have hi:=(fo (pQ A y.1).1).2.1;dsimp only at hi;have C:index.const<=99:=hi.2;rw[HP];obtain⟨rfl,F,H⟩:=y;simp only[er];unfold cT;rw[yr F];simp;omega
 match n,l,k with
 | [],_,_=>rfl
 | [a],_,_=>rfl
 |a::b::c::r,_,_=>rfl
 | [a,b],l,k=>
  have s:=l a aX;have bb:=l b aX;obtain⟨K,rfl⟩:=Oc s;have Q:=vd p (q:=q) s;have hS:=vd p (q:=q) bb;have x:kind=4\/kind=5\/kind=6:=by
   unfold fJ at k;split at k
   ·simp at k
   split at k
   ·assumption
   simp at k
  have o:er (K+1+1) w m ⟨kind,num,index,read,[a,b]⟩ q=fO kind (er (K+1) w m a q) (er (K+1) w m b q)%1000:=by
   simp only[er,fO];rcases x with rfl|rfl|rfl<;>simp
  dsimp only;split
  ·rename_i z;split
   ·rename_i i;rw[HP,o,N8 z.1,N8 z.2];omega
   rfl
  split
  ·rename_i i;rw[CI w m q s,o];rcases i with ⟨G,i⟩|⟨rfl,i⟩
   ·rw[uX i];unfold fO;rw[aP G];split<;>omega
   rw[uX i];unfold fO;simp;omega
  split
  ·rename_i i;rw[CI w m q bb,o];rcases i with ⟨rfl,i⟩|⟨rfl,i⟩
   ·rw[uX i];unfold fO;simp;omega
   rw[uX i];unfold fO;simp;omega
  split
  ·rename_i i;rw[HP,o];obtain⟨rfl,i|i⟩:=i
   ·rw[uX i];unfold fO;simp
   rw[uX i];unfold fO;simp
  rfl
theorem Jl{w:List cg}{m:List Int}(n:fD w m){d:Int}{q:List Int}: ∀{L:Nat} {e:Expr},dq L e d=ab->er L w m (fI L e) q=er L w m e q
 |0,_,h=>by cases h
 |L+1,e,h=>by
  obtain⟨p,s,i⟩:=gk h;have x:dq (L+1) (j8 e (e.bk.map (fI L))) d=ab:=Ez (by simp only[j8,List.length_map];exact p) s (λk o=>by
   obtain⟨y,z,rfl⟩:=eA.1 o;exact qg (i y z))
  show er (L+1) w m (iz (j8 e (e.bk.map (fI L)))) q=_;rw[acJ n x];obtain⟨kind,num,index,read,l⟩:=e;dsimp only at i;unfold j8 er;dsimp only
  match l,i with
  | [],_=>rfl
  | [a],_=>rfl
  | [a,b],i=>
   simp only[gf,List.map_nil];rw[Jl n (i a aX),Jl n (i b aX)]
  |a::b::c::r,_=>rfl
theorem ZN(n:Nat)(e:Expr)(k:Int):jH n e k=aa (gT e k):=by unfold jH gT;cases ag (e.kind=1)<;>rfl
theorem YO(n:Nat)(e:Expr)(k:Int):qZ n e k=aa (gT e k):=by unfold qZ gT;cases ag (e.kind=1)<;>rfl
def Dj(a:Expr):Prop:=a.kind=1->0<=a.num/\a.num<=99
theorem II(h:dq L e d=ab):Dj e:=λc=>by obtain⟨K,rfl⟩:=Oc h;obtain⟨_,a,_⟩:=gk h;unfold eY at a;rw[aP O,aP O,aR c] at a;simp only[b9,decide_eq_true_eq] at a;exact a.1
theorem Ro{b:Int}(d:0<=a/\a<=99)(c:0<=b/\b<=99):0<=a*b/\a*b<=9801:=by
 refine⟨mV d.1 c.1,?_⟩
 have:=q7 d.2 c.2 c.1 (by omega:(0:Int)<=99);omega
theorem afw(n:Nat)(R:c=4\/c=5\/c=6){a b:Expr}(W:Dj a)(X:Dj b):
  aD (fun(s:Bool)=>
      bif s then(
       aD (fun(q:Int)=>
        bN (fG n q 0 99) λd=>
        bif d then(
         bN (oZ n q) λe=>
         aa e
        ) else(
         aa (⟨c,0,(⟨[],0⟩:az),(⟨[],[]⟩:b0),[a,b]⟩:Expr)
        )
       ) (λl=>
        bif ag (c=5) then(
         l (wr (a.num-b.num))
        ) else(
         bif ag (c=6) then(
          l (wr (a.num*b.num))
         ) else(
          l (wr (a.num+b.num))
         )
        )
       )
      ) else(
       aD (fun(w:Bool)=>
        bif w then(
         aa a
        ) else(
         aD (fun(x:Bool)=>
          bif x then(
           aa b
          ) else(
           aD (fun(y:Bool)=>
            bif y then(
             bN (oZ n 0) λA=>
             aa A
            ) else(
             aa (⟨c,0,(⟨[],0⟩:az),(⟨[],[]⟩:b0),[a,b]⟩:Expr)
            )
           ) (λm=>
            bif ag (c=6) then(
             bN (jH n a 0) λB=>
             bif B then(
              m ab
             ) else(
              bN (jH n b 0) λC=>
              m C
             )
            ) else(
             m ak
            )
           )
          )
         ) (λi=>
          bif ag (c=4) then(
           bN (jH n a 0) λF=>
           bif F then(
            i ab
           ) else(
            bif ag (c=6) then(
             bN (jH n a 1) λG=>
             i G
            ) else(
             i ak
            )
           )
          ) else(
           bif ag (c=6) then(
            bN (jH n a 1) λH=>
            i H
           ) else(
            i ak
           )
          )
         )
        )
       ) (λk=>
        bif !(ag (c=6)) then(
         bN (jH n b 0) λK=>
         bif K then(
          k ab
         ) else(
          bif ag (c=6) then(
           bN (jH n b 1) λL=>
           k L
          ) else(
           k ak
          )
         )
        ) else(
         bif ag (c=6) then(
          bN (jH n b 1) λQ=>
          k Q
         ) else(
          k ak
         )
        )
       )
      )
     ) (λr=>
      bif ag (a.kind=1) then(
       r (ag (b.kind=1))
      ) else(
       r ak
      )
     )=aa (iz ⟨c,0,⟨[],0⟩,⟨[],[]⟩,[a,b]⟩):=by
 have Z: ¬(c=2/\e8 ([]:List Int)=0/\(0:Int)<=0):=λh=>O
 unfold iz;dsimp only;rw[aP Z];simp only[ZN,Option.bind_some,aD];by_cases o:a.kind=1/\b.kind=1
 ·have g:=W o.1;have j:=X o.2;have E:=Ro g j;rw[aR o,bK o.1,bK o.2];simp only[cond_true];have t:(bif ag (c=5) then(bN (fG n (wr (a.num-b.num)) 0 99) λd=>bif d then(bN (oZ n (wr (a.num-b.num))) λe=>aa e) else(aa (⟨c,0,⟨[],0⟩,⟨[],[]⟩,[a,b]⟩:Expr)))
    else bif ag (c=6) then(bN (fG n (wr (a.num*b.num)) 0 99) λd=>bif d then(bN (oZ n (wr (a.num*b.num))) λe=>aa e) else(aa (⟨c,0,⟨[],0⟩,⟨[],[]⟩,[a,b]⟩:Expr)))
    else(bN (fG n (wr (a.num+b.num)) 0 99) λd=>bif d then(bN (oZ n (wr (a.num+b.num))) λe=>aa e) else(aa (⟨c,0,⟨[],0⟩,⟨[],[]⟩,[a,b]⟩:Expr))))
    =bN (fG n (fO c a.num b.num) 0 99) λd=>bif d then(bN (oZ n (fO c a.num b.num)) λe=>aa e) else(aa (⟨c,0,⟨[],0⟩,⟨[],[]⟩,[a,b]⟩:Expr)):=by
   rw[bc (n:=a.num-b.num) O,bc (n:=a.num*b.num) O,bc (n:=a.num+b.num) O];unfold fO;rcases R with rfl|rfl|rfl<;>rfl
  refine t.trans ?_;rw[jE,Option.bind_some];by_cases p:0<=fO c a.num b.num/\fO c a.num b.num<=99
  ·rw[aR p,bK p];rfl
  rw[aP p,bJ p];rfl
 rw[aP o];have I:(bif ag (a.kind=1) then ag (b.kind=1) else ak)=ak:=by
  cases u:ag (a.kind=1) with
  |false=>rfl
  |true=>
   have: ¬b.kind=1:=λh=>o ⟨fF u,h⟩;rw[bJ this];rfl
 have p: ∀{f:Bool->Option Expr},(bif ag (a.kind=1) then f (ag (b.kind=1)) else f ak)=f ak:=fun {f}=>by
  grind
 refine(p (f:=λz=>bif z then _ else _)).trans ?_;generalize gT a 0=a0;generalize gT a 1=aN;generalize gT b 0=v;generalize gT b 1=D;rcases R with rfl|rfl|rfl<;>cases a0<;>cases aN<;>cases v<;>cases D<;>rfl
theorem aaG(n:Nat)(k:Int):sW n k=aa (ag (4<=k/\k<=6)):=by unfold sW;rw[jE];rfl
theorem HM(h:fJ e.kind=e.bk.length):((e.kind=1\/e.kind=2\/e.kind=3)/\e.bk=[])\/((e.kind=4\/e.kind=5\/e.kind=6)/\ ∃a b,e.bk=[a,b]):=by
 unfold fJ at h;split at h
 ·rename_i d;exact .inl ⟨d,oN O⟩
 split at h
 ·rename_i d;refine .inr ⟨d,?_⟩
  match i:e.bk,h with
  | [a,b],_=>exact⟨a,b,rfl⟩
  | [],h=>simp at h
  | [a],h=>simp at h
  |a::b::c::r,h=>simp at h;omega
 omega
theorem afi(a:eY e d=ab)(h:e.kind=4\/e.kind=5\/e.kind=6):e.num=0/\e.index=⟨[],0⟩/\e.read=⟨[],[]⟩:=by have c:=yf a O O;unfold eY at a;rw[aP O,aP O,aP O] at a;simp only[b9,decide_eq_true_eq] at a;exact⟨a.1,uL c.1,uM c.2⟩
theorem CL(a:eY e d=ab):ki e.index/\ln e.read.bz:=by
 by_cases h:e.kind=2
 ·have:=pQ a h;refine⟨by have:=(fo this.1).1;unfold ki;omega,?_⟩;rw[uM this.2];exact⟨aX,λx c=>by cases c⟩
 by_cases i:e.kind=3
 ·have:=ri a i;have k:=lO this.1;refine⟨?_,Qs k.2.1 k.2.2⟩;rw[uL this.2];unfold ki;simp
 have:=yf a h i;refine⟨?_,?_⟩
 ·rw[uL this.1];unfold ki;simp
 rw[uM this.2];exact⟨aX,λx c=>by cases c⟩
def nP(e:Expr):Bool:=ag (e.kind=2)&&(ag (e8 e.index.aT=0)&&ag (0<=e.index.const))
theorem NF(e:Expr):nP e=ab↔e.kind=2/\e8 e.index.aT=0/\0<=e.index.const:=by unfold nP;simp
theorem MZ(h:nP e=ab):iz e=kJ e.index.const:=by unfold iz;rw[aR ((NF e).1 h)]
theorem NZ(h:nP e=ak)(a:e.bk=[]):iz e=e:=by unfold iz;rw[aP (λc=>by rw[(NF e).2 c] at h;cases h),a]
theorem J5{d:Int}: ∀(L n:Nat) (e:Expr),6000+L<=n->dq L e d=ab->rS (n+1) e=aa (fI L e)
 |0,_,_,_,h=>by cases h
 |L+1,n,e,R,h=>by
  obtain⟨r,s,w⟩:=gk h;obtain⟨n,rfl⟩: ∃j,n=j+1:=⟨n-1,O⟩
  unfold rS;refine ad.eq (ad.aD (λz=>z=nP e) (λj m=>?_) λz B=>?_)
  ·refine aW (λo=>ae (AF O (CL s).1) (aW (λC=>m _ ?_) λC=>m _ ?_)) λo=>m _ ?_
   ·unfold nP;rw[bK o,bK (O:e8 e.index.aT=0)];rfl
   ·unfold nP;rw[bJ (show¬e8 e.index.aT=0 by omega),Bool.false_and,k7]
   unfold nP;rw[bJ o];rfl
  subst B;have p:fI (L+1) e=iz (j8 e (e.bk.map (fI L))):=rfl;refine ad.cond (λq=>?_) λq=>?_
  ·refine ae (x:=kJ e.index.const) rfl (ad.some ?_);rw[p];exact(MZ (e:=j8 e (e.bk.map (fI L))) q).symm
  refine ae (aaG _ _) (fl (λl=>ad.some ?_) λl=>?_)
  ·rcases HM r with ⟨_,k⟩|⟨i,_⟩
   ·rw[p,k]
    have:j8 e []=e:=by cases e;cases k;rfl
    show e=iz (j8 e []);rw[this];exact(NZ q k).symm
   exact bB O l
  rcases HM r with ⟨i,_⟩|⟨i,a,b,c⟩
  ·omega
  have y:=w a (by rw[c];simp);have A:=w b (by rw[c];simp);have F:ax e.bk 0=aa a:=by rw[c];rfl
  have G:ax e.bk 1=aa b:=by rw[c];rfl
  refine ae F (ae (J5 L n a O y) (ae G (ae (J5 L n b O A) (ad.of (afw (n+1) i (II (qg y)) (II (qg A))) ?_))));obtain⟨H,K,Q⟩:=afi s i;rw[p,c];unfold j8;rw[H,K,Q];rfl
theorem abk(n:Nat)(o:e.kind=4\/e.kind=5\/e.kind=6){x y:Int}(l:0<=x/\x<=99)(m:0<=y/\y<=99):B1 n e x y=aa (if 0<=fO e.kind x y/\fO e.kind x y<=99 then kJ (fO e.kind x y) else e):=by
 have p:=Ro l m;unfold B1;refine ad.eq (ad.aD (λz=>z=fO e.kind x y) (λj a=>?_) λz d=>?_)
 ·rw[bc (n:=x+y) O,bc (n:=x-y) O,bc (n:=x*y) O];refine aW (λh=>a _ ?_) λh=>aW (λi=>a _ ?_) λi=>a _ ?_
  ·unfold fO;rw[aP O,aP O]
  ·unfold fO;rw[aR i]
  unfold fO;rw[aP i,aR O]
 subst d;refine ad.aD (λz=>z= !decide (0<=fO e.kind x y/\fO e.kind x y<=99)) (λj a=>aW (λh=>a _ ?_) λh=>a _ ?_) λz d=>?_
 ·rw[bJ O];rfl
 ·by_cases k:(99:Int)<fO e.kind x y
  ·rw[bK k,bJ O];rfl
  rw[bJ k,bK O];rfl
 subst d;by_cases c:0<=fO e.kind x y/\fO e.kind x y<=99
 ·rw[bK c,aR c];exact b6 (ae rfl (ad.some rfl))
 rw[bJ c,aP c];exact bY (ad.some rfl)
theorem aa1(Q:5000<=n)(A:ki e.index)(B:fJ e.kind=e.bk.length)(w: ∀k∈e.bk,Dj k):Ak n e=aa (iz e):=by
 unfold Ak;refine ad.eq (ad.aD (λz=>z=nP e) (λj l=>?_) λz q=>?_)
 ·refine aW (λC=>ae (zR O A) (aW (λF=>l _ ?_) λF=>l _ ?_)) λC=>l _ ?_
  ·unfold nP
   grind
  ·unfold nP
   grind
  unfold nP
  grind
 subst q;refine ad.cond (λr=>ae (x:=kJ e.index.const) rfl (ad.some (MZ r).symm)) λr=>?_;rcases HM B with ⟨_,o⟩|⟨d,a,b,c⟩
 ·refine aW (λ_=>ad.some (NZ r o).symm) λh=>bB (by rw[o];rfl) h
 have G:=w a (by rw[c];simp);have H:=w b (by rw[c];simp);refine aW (λh=>by rw[c] at h;simp at h) λ_=>ae (show ax e.bk 0=aa a by rw[c];rfl) (ae (show ax e.bk 1=aa b by rw[c];rfl) ?_);have i:iz e=(if a.kind=1/\b.kind=1 then(if 0<=fO e.kind a.num b.num/\fO e.kind a.num b.num<=99 then kJ (fO e.kind a.num b.num) else e)
   else if(¬e.kind=6/\gT b 0=ab)\/(e.kind=6/\gT b 1=ab) then a
   else if(e.kind=4/\gT a 0=ab)\/(e.kind=6/\gT a 1=ab) then b
   else if e.kind=6/\(gT a 0=ab\/gT b 0=ab) then kJ 0
   else e):=by
  unfold iz;rw[aP (λh=>O),c]
 rw[i];refine ad.aD (λz=>z=ag (a.kind=1/\b.kind=1)) (λj l=>aW (λh=>l _ ?_) λh=>l _ ?_) λz q=>?_
 ·by_cases p:b.kind=1
  ·rw[bK p,bK ⟨h,p⟩]
  rw[bJ p,bJ λs=>p s.2]
 ·rw[bJ λs=>h s.1]
 subst q;by_cases m:a.kind=1/\b.kind=1
 ·rw[bK m,aR m];exact bY (ae (abk n d (G m.1) (H m.2)) (ad.some rfl))
 rw[bJ m,aP m];refine b6 ?_;simp only[YO,Option.bind_some,aD];generalize gT a 0=a0;generalize gT a 1=aN;generalize gT b 0=K;generalize gT b 1=L;obtain⟨kind,num,index,read,y⟩:=e;dsimp only at d⊢;rcases d with rfl|rfl|rfl<;>cases a0<;>cases aN<;>cases K<;>cases L<;>exact ad.some rfl
theorem Tx{d:Int}: ∀(L n:Nat) (e:Expr),6000+L<=n->dq L e d=ab->si (n+1) e=aa (fI L e)
 |0,_,_,_,h=>by cases h
 |L+1,n,e,s,h=>by
  obtain⟨m,a,l⟩:=gk h;obtain⟨n,rfl⟩: ∃j,n=j+1:=⟨n-1,O⟩
  have o:e.bk.length<=2:=by have:=qN e.kind;omega
  unfold si;refine ad.eq (ae (AN _ (CL a).1) (ae (v6 O (CL a).2) ?_));refine pz (f:=si (n+1)) (g:=fI L) (K:=λp=>bN (Ak (n+1) (⟨e.kind,e.num,e.index,e.read,p⟩:Expr)) λc=>aa c) (λx q=>Tx L n x O (l x q)) O O ?_;refine ae (aa1 O (CL a).1 (by simpa using m) λk i=>?_) (ad.some rfl);obtain⟨y,r,rfl⟩:=eA.1 i;exact II (qg (l y r))
def kt(l:List bO)(p:Prog)(a:Int)(c:Nat):Prop:= ∃x∈l,x.part=a/\c3 p x=c
def lC(l:List bO)(p:Prog)(a:Int)(c:Nat):Prop:= ∃x∈l,x.part=a/\(c:Int)∈rc p x
theorem xQ{l:List bO}{c:Nat}:kt (l++[x]) p a c↔kt l p a c\/(x.part=a/\c3 p x=c):=by
 unfold kt
 grind
theorem xR{l:List bO}{c:Nat}:lC (l++[x]) p a c↔lC l p a c\/(x.part=a/\(c:Int)∈rc p x):=by
 unfold lC
 grind
def iJ(T:Nat)(f:List Bool)(S:Nat->Prop):Prop:=f.length=T/\ ∀c,c<T->(f.getD c ak=ab↔S c)
theorem Hr(T:Nat):iJ T (dA T ak) (λ_=>False):=⟨zV,λc a=>by rw[eQ,uE];split<;>simp⟩
theorem H0{T:Nat}{f:List Bool}{S:Nat->Prop}(h:iJ T f S){d:Nat}(a:d<T):iJ T (f.set d ab) (λc=>S c\/c=d):=⟨by rw[e6];exact h.1,λc i=>by
 by_cases e:d=c
 ·subst e;rw[eQ,gD (by rw[h.1];exact a)];simp
 rw[eQ,js e,<-eQ,h.2 c i];constructor
 ·exact .inl
 rintro(h|h)
 ·exact h
 exact bB h.symm e⟩
theorem mO{T:Nat}{f:List Bool}{S X:Nat->Prop}(h:iJ T f S)(d: ∀c,c<T->(S c↔X c)):iJ T f X:=⟨h.1,λc a=>(h.2 c a).trans (d c a)⟩
theorem sX{T:Nat}{f:List Bool}{S:Nat->Prop}(h:iJ T f S){c:Nat}(d:c<T):ax f (c:Int)=aa (f.getD c ak):=by
 have a:c<f.length:=by rw[h.1];exact d
 rw[bl (bp a),eQ,bp a];rfl
theorem Ov(A:5000<=n){T:Nat}{cs:List Int}(B:cs.length<=1000)(m: ∀c∈cs,0<=c/\c<(T:Int)){K:List Bool->Option R}{f:List Bool}{S:Nat->Prop}(o:iJ T f S)(p: ∀g,iJ T g (λc=>S c\/(c:Int)∈cs)->ad (K g) Q):
  ad (bm (λa (z:(List Bool)×Int)=>bif ag (z.2<(cs.length:Int)) then(bN (ax cs z.2) λx=>bN (ax z.1 x) λ_=>bN (ca z.1 x ab) λy=>a (y,wr (z.2+1))) else(K z.1)) n (f,0)) Q:=by
 refine ad.loop (λz:List Bool×Int=> ∃i:Nat,z.2=i/\i<=cs.length/\iJ T z.1 λc=>S c\/(c:Int)∈cs.take i) (λz=>cs.length-z.2.toNat) ?_ n _ ⟨0,rfl,O,mO o λc _=>aX⟩ J;rintro a ⟨x,z⟩ ⟨i,l,C,h⟩ q;dsimp only at l h⊢;subst l;refine aW (λr=>?_) λs=>?_
 ·obtain⟨c,k⟩: ∃c,cs[i]? =aa c:=⟨_,bp (O:i<cs.length)⟩
  have bb:=m c (bx k);have w:=h.1;refine ae (bl k) (ae (s4 bb.1 O) (ae (xB bb.1 O ab) ?_));rw[bc O];refine q _ ⟨i+1,J,O,mO (H0 h (d:=c.toNat) O) λe F=>?_⟩ J;rw[gF k,eC,pK]
  grind
 have e:i=cs.length:=O
 refine p x (mO h λc _=>?_)
 grind
theorem x8(a:bG p=ab):((jn p:Nat):Int)=gK p.aQ/\jn p<=144:=by
 have:=Pc a
 grind
theorem NI(cY:7100<=n)(w:bG p=ab)(a:Int):ad (y9 n (gY p) a) (λr=>iJ (jn p) r.1 (lC (I p.parts) p a)/\iJ (jn p) r.2 (kt (I p.parts) p a)):=by
 obtain⟨Q,R,_,_,X⟩:=dZ w;have gJ:=x8 w;unfold y9;refine ae (AG (p:=p) O Q R) (ae (CF ⟨O,O⟩ ak) (ae (AG (p:=p) O Q R) (ae (CF ⟨O,O⟩ ak) ?_)));show ad (bm _ n (dA (jn p) ak,dA (jn p) ak,0)) _;refine ad.loop (λz:List Bool×List Bool×Int=> ∃i:Nat,z.2.2=i/\i<=(I p.parts).length/\iJ (jn p) z.1 (lC ((I p.parts).take i) p a)/\iJ (jn p) z.2.1 (kt ((I p.parts).take i) p a)) (λz=>(I p.parts).length-z.2.2.toNat) ?_ n _ ⟨0,rfl,O,mO (Hr _) (λc _=>by simp[lC]),mO (Hr _) λc _=>by simp[kt]⟩ J;rintro A ⟨x,y,z⟩ ⟨i,m,hi,B,o⟩ Z;dsimp only at m B o⊢;subst m;have l:(gY p).list=I p.parts:=rfl;rw[l];refine aW (λb=>?_) λt=>ad.some ?_
 ·obtain⟨u,k⟩: ∃u,(I p.parts)[i]? =aa u:=⟨_,bp (O:i<(I p.parts).length)⟩
  have v:=fe (bx k);obtain⟨hr,D,al_,_⟩:=oz w v;have C:(gY p).reads[i]? =aa (rc p u):=l0 k;have F:(gY p).jR[i]? =aa (c3 p u:Int):=l0 (f:=λx=>(c3 p x:Int)) k;refine ad.aD (λz:List Bool×List Bool×Int×Int×List Int=>iJ (jn p) z.1 (lC ((I p.parts).take (i+1)) p a)/\iJ (jn p) z.2.1 (kt ((I p.parts).take (i+1)) p a)) (λj W=>?_) λz m=>?_
  ·refine ae (bl k) (fl (λq=>W _ ⟨mO B λc _=>?_,mO o λc _=>?_⟩) λhe=>ae (bl C) ?_)
   ·rw[gF k,xR];exact⟨.inl,λh=>h.elim id λh=>bB h.1 q⟩
   ·rw[gF k,xQ];exact⟨.inl,λh=>h.elim id λh=>bB h.1 q⟩
   refine Ov (T:=jn p) O (cs:=rc p u) O (λc E=>by have:=D c E;omega) (K:=λG=>bN (ax (gY p).jR (i:Int)) λs=>bN (ax y s) λM=>bN (ca y s ab) λH=>j (G,H,u.part,u.stmt,u.bU)) B λg L=>?_;refine ae (bl F) (ae (sX o O) (ae (xB O (by rw[o.1];omega) ab) (W _ ⟨mO L λc _=>?_,?_⟩)))
   ·rw[gF k,xR]
    grind
   refine mO (H0 o (d:=c3 p u) O) λc _=>?_;rw[gF k,xQ]
   grind
  obtain⟨N,P,S,U,V⟩:=z;dsimp only at m⊢;rw[bc O];exact Z _ ⟨i+1,J,O,m.1,m.2⟩ J
 have e:i=(I p.parts).length:=O
 grind
theorem As(L:7100<=n)(o:bG p=ab)(a:Int)(w:Bool):ad (ud n p a w) (λr=>r.length<=144/\ ∀c:Int,c∈r↔0<=c/\c.toNat<jn p/\(if w=ab then kt (I p.parts) p a c.toNat else lC (I p.parts) p a c.toNat)):=by
 obtain⟨Q,R,_,_,W⟩:=dZ o;have M:=x8 o;unfold ud;refine ae (M9 O Q R) (ae (CF ⟨O,O⟩ ak) (ae (wg O o) (ae (GW L o) ?_)));show ad (bm _ n (dA (jn p) ak,0)) _;refine ad.loop (λz:List Bool×Int=> ∃i:Nat,z.2=i/\i<=(I p.parts).length/\iJ (jn p) z.1 λc=>if w=ab then kt ((I p.parts).take i) p a c else lC ((I p.parts).take i) p a c) (λz=>(I p.parts).length-z.2.toNat) ?_ n _ ⟨0,rfl,O,mO (Hr _) λc _=>by simp[lC,kt]⟩ J;rintro y ⟨x,z⟩ ⟨i,s,N,l⟩ X;dsimp only at s l⊢;subst s;refine aW (λk=>?_) λZ=>?_
 ·obtain⟨u,m⟩: ∃u,(I p.parts)[i]? =aa u:=⟨_,bp (O:i<(I p.parts).length)⟩
  have b:=fe (bx m);obtain⟨P,t,S,_⟩:=oz o b;have q:(nd p)[i]? =aa (⟨rc p u,(c3 p u:Int)⟩:lQ):=l0 (f:=λx=>(⟨rc p x,(c3 p x:Int)⟩:lQ)) m;refine ad.aD (λz:List Bool=>iJ (jn p) z λc=>if w=ab then kt ((I p.parts).take (i+1)) p a c else lC ((I p.parts).take (i+1)) p a c) (λj A=>?_) λz s=>?_
  ·refine ae (bl m) (fl (λv=>A _ (mO l λc _=>?_)) λH=>?_)
   ·rw[gF m,xQ,xR]
    grind
   cases w with
   |true=>
    refine bY (ae (bl q) (ae (sX l O) (ae (xB (by(try dsimp only);omega) (by rw[l.1];(try dsimp only);omega) ab) (A _ ?_))));refine mO (H0 l (d:=c3 p u) O) λc _=>?_;rw[gF m,xQ,xR];exact or_congr Iff.rfl ⟨λh=>⟨H,h.symm⟩,λh=>h.2.symm⟩
   |false=>
    refine b6 ?_;simp only[bl q,Option.bind_some];refine Ov (T:=jn p) O (cs:=rc p u) O (λc D=>by have:=t c D;omega) (K:=λB=>j B) l λg C=>A _ (mO C λc _=>?_);rw[gF m,xQ,xR];exact or_congr Iff.rfl ⟨λh=>⟨H,h⟩,λh=>h.2⟩
  rw[bc O];exact X _ ⟨i+1,J,O,s⟩ J
 have e:i=(I p.parts).length:=O
 rw[e,dW] at l;have E:=l.1;refine ae (Mn O O) (ad.some ⟨by have:=Mp x;omega,λc=>?_⟩);rw[FV];constructor
 ·rintro⟨F,G⟩;have k:c.toNat<jn p:=by
   grind
  exact⟨F,k,(l.2 _ k).1 G⟩
 rintro⟨F,k,G⟩;exact⟨F,(l.2 _ k).2 G⟩
theorem HL(r:5000<=n){a b:List Int}(s:a.length<=1000)(m:b.length<=1000):wV n a b=aa (a.any λc=>decide (c∈b)):=by
 refine ad.eq ?_;unfold wV;refine ad.loop (λz:Int=> ∃i:Nat,z=i/\i<=a.length/\(a.take i).any (λc=>decide (c∈b))=ak) (λz=>a.length-z.toNat) ?_ n 0 ⟨0,rfl,O,aX⟩ O;rintro d z ⟨i,rfl,w,k⟩ o;refine aW (λp=>?_) λq=>ad.some ?_
 ·obtain⟨c,l⟩: ∃c,a[i]? =aa c:=⟨_,bp (O:i<a.length)⟩
  refine ae (bl l) (ae (Hl O m c) (ad.cond (λh=>ad.some ?_) λh=>?_))
  ·exact(iX.2 ⟨c,bx l,h⟩).symm
  rw[bc O];refine o _ ⟨i+1,O,O,?_⟩ O;rw[gF l,uH,k]
  grind
 have e:i=a.length:=O
 grind
def yB(p:Prog)(a b:Int):Prop:= ∀x∈I p.parts,∀y∈I p.parts,x.part=a->y.part=b-> ¬o2 p x y
noncomputable def tk(p:Prog)(a b:Int):Bool:= @decide (yB p a b) (Classical.propDecidable _)
theorem J6{b:Int}:tk p a b=ab↔yB p a b:=by unfold tk;exact @decide_eq_true_iff _ (Classical.propDecidable _)
theorem MR(n:bG p=ab){b:Int}:yB p a b↔ ∀c,c<jn p-> ¬(kt (I p.parts) p a c/\(lC (I p.parts) p b c\/kt (I p.parts) p b c))/\ ¬(kt (I p.parts) p b c/\lC (I p.parts) p a c):=by
 have o:=x8 n;constructor
 ·intro h c _;refine⟨?_,?_⟩
  ·rintro⟨⟨x,l,e,m⟩,⟨y,k,d,i⟩|⟨y,k,d,i⟩⟩
   ·exact h x l y k e d (.inl (by rw[m];exact i))
   exact h x l y k e d (.inr (.inr (by rw[m,i])))
  rintro⟨⟨y,k,d,i⟩,⟨x,l,e,m⟩⟩;exact h x l y k e d (.inr (.inl (by rw[i];exact m)))
 intro h x l y k e d bT;have q:=(oz n (fe l)).1;have r:=(oz n (fe k)).1;rcases bT with bT|bT|bT
 ·exact(h (c3 p x) O).1 ⟨⟨x,l,e,rfl⟩,.inl ⟨y,k,d,bT⟩⟩
 ·exact(h (c3 p y) O).2 ⟨⟨y,k,d,rfl⟩,⟨x,l,e,bT⟩⟩
 exact(h (c3 p x) O).1 ⟨⟨x,l,e,rfl⟩,.inr ⟨y,k,d,bT.symm⟩⟩
def eU(p:Prog)(a:Int):Bool:=ag (0<=a/\a<(p.parts.length:Int))
noncomputable def j5(p:Prog)(a b:Int):Bool:=bG p&&(eU p a&&(eU p b&&(!decide (a=b)&&tk p a b)))
theorem uc{b:Bool}(h:(!b)=ab):b=ak:=by cases b with
 |false=>rfl
 |true=>cases h
theorem r7{b:Bool}(h:(!b)=ak):b=ab:=by cases b with
 |false=>cases h
 |true=>rfl
theorem ZO(cY:5000<=n){T:Nat}(lz:T<=1000){G E I H:List Bool}{s o p k:Nat->Prop}(B:iJ T G s)(K:iJ T E o)(L:iJ T I p)(x:iJ T H k){v:Bool}(M:v=ab↔ ∀c,c<T-> ¬(o c/\(p c\/k c))/\ ¬(k c/\s c)):
  ad (bm (λl (e:Int)=>
     bif ag (e<(G.length:Int)) then(
      aD (fun(Q:Bool)=>
       bif Q then(
        aa ak
       ) else(
        l (wr (e+1))
       )
      ) (λm=>
       bN (ax E e) λR=>
       bif R then(
        bN (ax I e) λW=>
        bif W then(
         m ab
        ) else(
         bN (ax H e) λX=>
         bif X then(
          m ab
         ) else(
          m ak
         )
        )
       ) else(
        bN (ax H e) λZ=>
        bif Z then(
         bN (ax G e) λb=>
         m b
        ) else(
         m ak
        )
       )
      )
     ) else(
      aa ab
     )
    ) n 0) (λr=>r=v):=by
 have y: ∀c,c<T->((o c/\(p c\/k c))\/(k c/\s c))->v=ak:=λc f h=>by
  cases g:v with
  |false=>rfl
  |true=>
   have:=M.1 g c f;rcases h with h|h
   ·exact bB h this.1
   exact bB h this.2
 have t:=B.1;refine ad.loop (λz:Int=> ∃i:Nat,z=i/\i<=T/\ ∀c,c<i-> ¬(o c/\(p c\/k c))/\ ¬(k c/\s c)) (λz=>T-z.toNat) ?_ n 0 ⟨0,rfl,O,λc h=>O⟩ O;rintro u z ⟨i,rfl,hi,D⟩ P;rw[t];refine aW (λS=>?_) λU=>ad.some ?_
 ·have a:i<T:=O
  refine ad.aD (λz=>(z=ab->(o i/\(p i\/k i))\/(k i/\s i))/\(z=ak-> ¬(o i/\(p i\/k i))/\ ¬(k i/\s i))) (λj A=>?_) λz V=>ad.cond (λh=>ad.some (y i a (V.1 h)).symm) λh=>?_
  ·refine ae (sX K a) (ad.cond (λC=>?_) λC=>?_)
   ·have w:=(K.2 i a).1 C;refine ae (sX L a) (ad.cond (λF=>A _ ⟨λ_=> .inl ⟨w,.inl ((L.2 i a).1 F)⟩,λh=>(by cases h)⟩) λF=>ae (sX x a) (ad.cond (λd=>A _ ⟨λ_=> .inl ⟨w,.inr ((x.2 i a).1 d)⟩,λh=>(by cases h)⟩) λd=>A _ ⟨λh=>(by cases h),λ_=>?_⟩));have al3: ¬p i:=λh=>by rw[(L.2 i a).2 h] at F;cases F
    have ala: ¬k i:=λh=>by rw[(x.2 i a).2 h] at d;cases d
    grind
   have N: ¬o i:=λh=>by rw[(K.2 i a).2 h] at C;cases C
   refine ae (sX x a) (ad.cond (λd=>ae (sX B a) (A _ ⟨λh=> .inr ⟨(x.2 i a).1 d,(B.2 i a).1 h⟩,λh=>⟨λq=>N q.1,λq=>by rw[(B.2 i a).2 q.2] at h;cases h⟩⟩)) λd=>A _ ⟨λh=>(by cases h),λ_=>⟨λq=>N q.1,λq=>by rw[(x.2 i a).2 q.1] at d;cases d⟩⟩)
  rw[bc O];refine P _ ⟨i+1,O,O,λc f=>?_⟩ O
  grind
 exact(M.2 λc f=>D c O).symm
theorem acm(i:7100<=n)(m:jB p)(a b:Int):DP n p a b=aa (j5 p a b):=by
 unfold DP;refine ad.eq (ae (z6 i m) ?_);by_cases c:bG p=ab
 ·rw[aR c];have C:=x8 c;have d:=m.2.1;refine bY (ad.aD (λz=>z= !(eU p a&&(eU p b&& !decide (a=b)))) (λj e=>b6 (ae (rV n d a) (ad.cond (λh=>e _ ?_) λh=>ae (rV n d b) (ad.cond (λk=>e _ ?_) λk=>e _ ?_)))) λz l=>?_)
  ·have:eU p a=ak:=uc h
   grind
  ·have o:eU p a=ab:=r7 h;have q:eU p b=ak:=uc k
   grind
  ·have o:eU p a=ab:=r7 h;have q:eU p b=ab:=r7 k
   grind
  subst l;unfold j5;rw[c];cases o:eU p a with
  |false=>exact bY (ad.some rfl)
  |true=>
   cases q:eU p b with
   |false=>exact bY (ad.some rfl)
   |true=>
    cases F:ag (a=b) with
    |true=>exact bY (ad.some rfl)
    |false=>
     refine b6 (cq (NI i c a) λr ⟨w,x⟩=>cq (NI i c b) λs ⟨y,A⟩=>?_);exact(ZO O (T:=jn p) O w x y A (v:=tk p a b) (by rw[J6,MR c])).mono λr B=>B
 rw[aP c];refine b6 (ad.aD (λz=>z=ab) (λj e=>bY (e _ rfl)) λz l=>?_);rw[l];refine bY (ad.some ?_);unfold j5
 grind
theorem abm(B:7100<=n)(f:jB p)(a b:Int):DM n p a b=aa (j5 p a b):=by
 unfold DM;refine ad.eq (ad.aD (λz=>z= !(bG p&&(eU p a&&(eU p b&& !decide (a=b))))) (λj i=>?_) λz G=>?_)
 ·refine ae (kN O f) (ad.cond (λh=>i _ ?_) λh=>?_)
  ·rw[show bG p=ak by simpa using h];rfl
  have l:bG p=ab:=by simpa using h
  rw[l] at i;refine aW (λR=>i _ ?_) λR=>aW (λg=>i _ ?_) λg=>aW (λW=>i _ ?_) λW=>aW (λt=>i _ ?_) λt=>i _ ?_
  ·rw[show eU p a=ak from bJ O];rfl
  ·rw[show eU p b=ak from bJ O];simp
  ·rw[show eU p a=ak from bJ O];rfl
  ·rw[show eU p b=ak from bJ O];simp
  rw[show eU p a=ab from bK O,show eU p b=ab from bK O];simp
 subst G;unfold j5;by_cases l:bG p=ab
 ·rw[l];have D:=x8 l;cases R:eU p a with
  |false=>exact bY (ad.some rfl)
  |true=>
   cases W:eU p b with
   |false=>exact bY (ad.some rfl)
   |true=>
    cases E:ag (a=b) with
    |true=>exact bY (ad.some rfl)
    |false=>
     have m:=J6.trans (MR l (a:=a) (b:=b));have k: ∀c,c<jn p->((kt (I p.parts) p a c/\(lC (I p.parts) p b c\/kt (I p.parts) p b c))\/(kt (I p.parts) p b c/\lC (I p.parts) p a c))->tk p a b=ak:=λc o h=>by
      cases H:tk p a b with
      |false=>rfl
      |true=>
       have:=m.1 H c o;rcases h with h|h
       ·exact bB h this.1
       exact bB h this.2
     refine b6 (cq (As B l a ab) λq ⟨M,C⟩=>cq (As B l b ab) λr ⟨N,F⟩=>ad.aD (λz=>z=tk p a b) (λj i=>?_) λz G=>ad.some G);refine ae (HL O O O) (ad.cond (λh=>?_) λh=>i _ ?_)
     ·have u: ∀c,c∈q->c∈r->False:=λc e d=>by
       have:q.any (λc=>decide (c∈r))=ab:=iX.2 ⟨c,e,bK d⟩;rw[this] at h;cases h
      refine cq (As B l b ak) λK ⟨P,X⟩=>ae (HL O O O) (ad.cond (λh=>?_) λh=>i _ ?_)
      ·have v: ∀c,c∈q->c∈K->False:=λc e d=>by
        have:q.any (λc=>decide (c∈K))=ab:=iX.2 ⟨c,e,bK d⟩;rw[this] at h;cases h
       refine cq (As B l a ak) λs ⟨l10,w⟩=>ae (HL O O O) (i _ ?_);cases L:r.any (λc=>decide (c∈s)) with
       |true=>
        obtain⟨c,e,d⟩:=iX.1 L;obtain⟨Z,x,y⟩:=(F c).1 e;obtain⟨_,_,A⟩:=(w c).1 (fF d);exact(k c.toNat x (.inr ⟨y,A⟩)).symm
       |false=>
        refine(m.2 λc o=>⟨?_,?_⟩).symm
        ·rintro⟨e,d|d⟩
         ·exact v (c:Int) ((C _).2 ⟨O,o,e⟩) ((X _).2 ⟨O,o,d⟩)
         exact u (c:Int) ((C _).2 ⟨O,o,e⟩) ((F _).2 ⟨O,o,d⟩)
        rintro⟨e,d⟩
        have:r.any (λc=>decide (c∈s))=ab:=iX.2 ⟨(c:Int),(F _).2 ⟨O,o,e⟩,bK ((w _).2 ⟨O,o,d⟩)⟩;rw[this] at L;cases L
      have Q:q.any (λc=>decide (c∈K))=ab:=by simpa using h
      obtain⟨c,e,d⟩:=iX.1 Q;obtain⟨Z,x,y⟩:=(C c).1 e;obtain⟨_,_,A⟩:=(X c).1 (fF d);exact(k c.toNat x (.inl ⟨y,.inl A⟩)).symm
     have Q:q.any (λc=>decide (c∈r))=ab:=by simpa using h
     obtain⟨c,e,d⟩:=iX.1 Q;obtain⟨Z,x,y⟩:=(C c).1 e;obtain⟨_,_,A⟩:=(F c).1 (fF d);exact(k c.toNat x (.inl ⟨y,.inr A⟩)).symm
 rw[show bG p=ak by simpa using l];exact bY (ad.some rfl)
def h'{k:Type}(l:List k)(i:Nat)(a b:k):List k:=l.take i++b::a::l.drop (i+2)
theorem yc{k:Type}{l:List k}{a b:k}(c:l[i]? =aa a)(d:l[i+1]? =aa b):l=l.take i++a::b::l.drop (i+2):=by have e:l.drop i=a::l.drop (i+1):=hW c;have h:l.drop (i+1)=b::l.drop (i+2):=hW d;rw[<-h,<-e,mX]
noncomputable def pE(p:Prog)(a:Int):Prog×Bool:=
 if j5 p a (a+1)=ab then
  (match ax p.parts a,ax p.parts (a+1) with
  |some c,aa d=>(⟨p.aQ,h' p.parts a.toNat c d⟩,ab)
  |_,_=>eK)
 else eK
theorem tQ{b:Int}(h:j5 p a b=ab):bG p=ab/\(0<=a/\a<(p.parts.length:Int))/\(0<=b/\b<(p.parts.length:Int))/\yB p a b:=by unfold j5 at h;simp only[b9] at h;exact⟨h.1,fF h.2.1,fF h.2.2.1,J6.1 h.2.2.2.2⟩
theorem DI(h:j5 p a (a+1)=ab): ∃(i:Nat) (c d:Part),a=i/\p.parts[i]? =aa c/\p.parts[i+1]? =aa d/\i+1<p.parts.length:=by
 obtain⟨e,k,l,_⟩:=tQ h;obtain⟨i,rfl⟩: ∃i:Nat,a=i:=⟨a.toNat,O⟩
 exact⟨i,_,_,rfl,bp O,bp O,O⟩
theorem EE{x:Part}(h:j5 p (i:Int) ((i:Int)+1)=ab)(a:p.parts[i]? =aa x)(c:p.parts[i+1]? =aa P):pE p (i:Int)=(⟨p.aQ,h' p.parts i x P⟩,ab):=by unfold pE;rw[aR h,bl a,show((i:Int)+1)=((i+1:Nat):Int) by omega,bl c];rfl
theorem aal{k:Type}{l:List k}{a b:k}(c:l[i]? =aa a)(d:l[i+1]? =aa b){x:k}:x∈h' l i a b↔x∈l:=by
 conv=>rhs;rw[yc c d]
 unfold h'
 grind
theorem aam{k:Type}{l:List k}{a b:k}(h:i+1<l.length):(h' l i a b).length=l.length:=by
 unfold h'
 grind
theorem N'{k:Type}{l:List k}{a b:k}(e:l[i]? =aa a)(c:l[i+1]? =aa b):(l.set i b).set (i+1) a=h' l i a b:=by
 have hi:=(bS.1 c).1;have d:(l.take i).length=i:=by rw[cZ];omega
 conv=>lhs;rw[yc e c]
 rw[nQ _ _ O,d,kC,zY,nQ _ _ O,d,show i+1-i=1 by omega];rfl
theorem abG{k:Type}{l:List k}{a b:k}(h:i+1<l.length):(h' l i a b)[i]? =aa b/\(h' l i a b)[i+1]? =aa a:=by
 have c:(l.take i).length=i:=by rw[cZ];omega
 unfold h'
 grind
theorem KJ(a:bG p=ab)(d:p.parts[i]? =aa P)(c:p.parts[i+1]? =aa C):bG ⟨p.aQ,h' p.parts i P C⟩=ab:=by
 have hi:=(bS.1 c).1;unfold bG kz at a⊢;simp only[b9,decide_eq_true_eq,List.all_eq_true] at a⊢;obtain⟨⟨aN,a2,a3⟩,a4⟩:=a;refine⟨⟨aN,by rw[aam hi];exact a2,λx h=>a3 x ((aal d c).1 h)⟩,?_⟩;have e:=yc d c
 have:(p.parts.map d6).sum=((h' p.parts i P C).map d6).sum:=by
  conv=>lhs;rw[e]
  unfold h'
  grind
 grind
theorem P5(a:bG p=ab){x:Part}(c:p.parts[i]? =aa x)(d:p.parts[i+1]? =aa P):di 1000 ⟨p.aQ,h' p.parts i x P⟩:=(lT (KJ a c d)).mono O
theorem aiK(m:7100<=n)(o:di 1000 p)(s: -1<=a/\a<=9):Fm n p a=aa (pE p a):=by
 unfold Fm;rw[bc (n:=a+1) O];refine ad.eq (ad.aD (λz=>z= !j5 p a (a+1)) (λj e=>?_) λz q=>?_)
 ·refine aW (λh=>e _ ?_) λh=>aW (λd=>e _ ?_) λd=>ae (acm m o.sm a (a+1)) (e _ rfl)
  ·cases c:j5 p a (a+1) with
   |false=>rfl
   |true=>have:=tQ c;omega
  cases c:j5 p a (a+1) with
  |false=>rfl
  |true=>have:=tQ c;omega
 subst q;cases c:j5 p a (a+1) with
 |false=>
  refine bY (ad.some ?_);unfold pE;rw[aP (by rw[c];simp)];rfl
 |true=>
  refine b6 ?_;obtain⟨i,w,l,rfl,k,d,x⟩:=DI c;rw[EE c k d,show((i:Int)+1)=((i+1:Nat):Int) by omega];refine ae (sa O (tQ c).1) (ae (bl d) (ae (bl k) (ae (dU O _) ?_)));rw[cf];have r:(p.parts.set i l)[i+1]? =aa l:=by rw[js O];exact d
  refine ae (bl r) (ae (dU (by rw[e6];omega) _) (ad.some ?_));rw[cf,N' k d]
theorem aj5(m:7100<=n)(e:di 1000 p)(q: -1<=a/\a<=9):Fc n p a=aa (pE p a):=by
 unfold Fc;rw[bc (n:=a+1) O];refine ad.eq (ae (lE O e) (ae (abm m e.sm a (a+1)) ?_));cases h:j5 p a (a+1) with
 |false=>
  refine bY (ad.some ?_);unfold pE;rw[aP (by rw[h];simp)];rfl
 |true=>
  refine b6 ?_;obtain⟨i,k,l,rfl,c,d,r⟩:=DI h;have bW:=(tQ h).1;have o:=e.2.1;rw[EE h c d,show((i:Int)+1)=((i+1:Nat):Int) by omega];refine ae (bl d) (ae (bl c) (ae (x:=(⟨p.aQ,h' p.parts i k l⟩,ab)) (ad.eq ?_) (ad.some rfl)));unfold kn;refine ae (oi O e) (ae (iR O O O) ?_);rw[cf,show(0:Int).toNat=0 from rfl,pJ];refine ae (x:=p.parts.take i) (c' bQ) (ae (x:=p.parts.take i++[l,k]) (c' bQ) ?_);rw[bc O];refine ae (iR O O O) ?_;rw[cf,dW,show((i:Int)+2).toNat=i+2 by omega];refine ae (x:=h' p.parts i k l) ?_ (ae (kN O (P5 bW c d).sm) ?_)
  ·rw[c' bQ,fN];rfl
  rw[KJ bW c d];exact b6 (ae (oi O (P5 bW c d)) (ad.some rfl))
def oI(i:Nat)(x:bO):bO:=if x.part=(i:Int) then⟨(i:Int)+1,x.stmt,x.bU⟩ else if x.part=(i:Int)+1 then⟨(i:Int),x.stmt,x.bU⟩ else x
theorem J8(h:x∈ew i P):x.part=(i:Int):=by
 unfold ew at h
 grind
theorem we(h: ∀s q,G ⟨(i:Int),s,q⟩=⟨(j:Int),s,q⟩):(ew i P).map G=ew j P:=by unfold ew;rw[jt,pH,pH];congr 1;refine lK λq _=>?_;rw[fv];exact lK λt _=>h _ _
theorem DJ(P:Part)(a:List Part):I (P::a)=ew 0 P++(I a).map (fH 1):=by
 have c:=y5 [P] a;have d:I [P]=ew 0 P:=by unfold I;simp
 grind
theorem y7(A C:List Part)(a c:Part):I (A++a::c::C)=I A++(ew A.length a++(ew (A.length+1) c++((I C).map (fH 1)).map λx=>fH A.length (fH 1 x))):=by
 rw[y5,DJ,DJ,eN,eN,eN];congr 2
 ·exact we λs q=>by unfold fH;simp
 rw[fv,fv];congr 1;exact we λs q=>by unfold fH;simp<;>omega
theorem aev(h:x.part<(i:Int)):oI i x=x:=by
 unfold oI
 grind
theorem acu(h:(i:Int)+1<x.part):oI i x=x:=by
 unfold oI
 grind
theorem nA{l:List Part}(h:x∈I l):0<=x.part/\x.part<(l.length:Int):=by
 obtain⟨i,k,P,s,a,_,c,_⟩:=fe h
 grind
theorem Rh{p:Prog}(d:bG p=ab){x:bO}(k:da p x): ∀{a:List bO} {m:List Int},(∀y∈a,da p y)->(∀y∈a,od p x y)->fD p.aQ m->c4 p (eI p m x) a=eI p (c4 p m a) x
 | [],m,_,_,_=>rfl
 |y::a,m,e,h,i=>by show c4 p (eI p (eI p m x) y) a=eI p (c4 p (eI p m y) a) x;rw[h y eD m i];exact Rh d k (λz c=>e z (eo _ c)) (λz c=>h z (eo _ c)) (sK d i (e y eD))
theorem block{p:Prog}(c:bG p=ab): ∀{X a:List bO} {m:List Int},(∀x∈X,da p x)->(∀y∈a,da p y)->(∀x∈X,∀y∈a,od p x y)->fD p.aQ m->c4 p (c4 p m X) a=c4 p (c4 p m a) X
 | [],a,m,_,_,_,_=>rfl
 |x::X,a,m,d,h,i,k=>by show c4 p (c4 p (eI p m x) X) a=c4 p (eI p (c4 p m a) x) X;rw[block c (λz e=>d z (eo _ e)) h (λz e=>i z (eo _ e)) (sK c k (d x eD)),Rh c (d x eD) h (i x eD) k]
theorem Y3(k:p.parts[i]? =aa P)(e:p.parts[i+1]? =aa C):
  ∃A c d Z,I p.parts=A++(c++(d++Z))/\I (h' p.parts i P C)=(A++(d++(c++Z))).map (oI i)/\(∀x∈c,x.part=(i:Int))/\(∀x∈d,x.part=(i:Int)+1):=by
 have hi:=(bS.1 e).1;have h:(p.parts.take i).length=i:=by rw[cZ];omega
 refine⟨I (p.parts.take i),ew i P,ew (i+1) C,((I (p.parts.drop (i+2))).map (fH 1)).map λx=>fH i (fH 1 x),?_,?_,λx a=>J8 a,λx a=>by have:=J8 a;omega⟩
 ·conv=>lhs;rw[yc k e]
  rw[y7,h]
 unfold h';rw[y7,h,eN,eN,eN];congr 1
 ·exact(l2 λx a=>aev (by have:=nA a;omega)).symm
 congr 1
 ·exact(we λs q=>by unfold oI;simp).symm
 congr 1
 ·exact(we λs q=>by unfold oI;simp).symm
 refine(l2 λx a=>acu ?_).symm;obtain⟨y,l,rfl⟩:=eA.1 a;obtain⟨z,m,rfl⟩:=eA.1 l
 have:=nA m;unfold fH
 grind
theorem aak(e:p.parts[i]? =aa C)(c:p.parts[i+1]? =aa y)(l:da p x):ep ⟨p.aQ,h' p.parts i C y⟩ (oI i x)=ep p x/\(oI i x).bU=x.bU:=by
 have hi:=(bS.1 c).1;have n:(p.parts.take i).length=i:=by rw[cZ];omega
 obtain⟨o,q⟩:=abG (a:=C) (b:=y) hi;unfold oI;split
 ·rename_i h;refine⟨?_,rfl⟩;unfold ep
  grind
 split
 ·rename_i h;refine⟨?_,rfl⟩;unfold ep
  grind
 rename_i r w;refine⟨?_,rfl⟩;obtain⟨d,k,P,s,m,z,A,B,F⟩:=l;unfold ep;dsimp only;rw[m,cf]
 have:(h' p.parts i C y)[d]? =p.parts[d]? :=by
  rw[<-N' e c,js O,js O]
 rw[this]
theorem aj'(o:bG p=ab)(z:p.parts[i]? =aa P)(B:p.parts[i+1]? =aa C)(d:yB p (i:Int) ((i:Int)+1))(q:fD p.aQ m):
  c4 ⟨p.aQ,h' p.parts i P C⟩ m (I (h' p.parts i P C))=c4 p m (I p.parts):=by
 obtain⟨A,k,l,Z,n,F,G,H⟩:=Y3 z B;have c: ∀x∈A++(k++(l++Z)),da p x:=λx a=>fe (by rw[n];exact a);have K: ∀x∈A,da p x:=λx a=>c x (by simp[a]);have e: ∀x∈k,da p x:=λx a=>c x (by simp[a]);have h: ∀x∈l,da p x:=λx a=>c x (by simp[a]);have R: ∀x∈Z,da p x:=λx a=>c x (by simp[a]);rw[F];have L:c4 ⟨p.aQ,h' p.parts i P C⟩ m ((A++(l++(k++Z))).map (oI i))=c4 p m (A++(l++(k++Z))):=by
  unfold c4;rw[List.foldl_map];refine wI λx a m=>?_;have r:da p x:=by
   grind
  obtain⟨W,X⟩:=aak z B r;unfold eI
  grind
 rw[L,n,hG,hG,hG,hG,hG,hG];have s:=r' o K q;rw[block o h e (λx a y w=>?_) s];have Q: ¬o2 p y x:=d y (by rw[n];simp[w]) x (by rw[n];simp[a]) (G y w) (H x a)
 have:=swap o (e y w) (h x a) Q;intro m q;exact(this m q).symm
def np(a b:Loop):Bool:=oL a.lo b.lo&&oL a.hi b.hi
def pS(a b:List Loop):Bool:=k5 np a b
theorem afo{a b:Loop}(h:np a b=ab):a=b:=by unfold np at h;simp only[b9] at h;obtain⟨aN,a2⟩:=a;obtain⟨c,d⟩:=b;dsimp only at h;rw[G8 h.1,G8 h.2]
theorem OI: ∀{a b:List Loop},pS a b=ab->a=b
 | [],[],_=>rfl
 |x::a,y::b,h=>by
  unfold pS at h;simp only[k5,b9] at h;rw[afo h.1,OI h.2]
 | [],y::b,h=>by cases h
 |x::a,[],h=>by cases h
theorem WL(d:5000<=n){a b:List Loop}(c:rm a):ug n a b=aa (pS a b):=by unfold ug DZ;refine ad.eq (ae (Hh (p:=np) (f:=λk l=>wv n k l) (λx h y _=>?_) (by have:=c.1;omega) (by have:=c.1;omega)) (ad.some rfl));unfold wv np;refine ad.eq (ad.aD (λz=>z=(oL x.lo y.lo&&oL x.hi y.hi)) (λj i=>ae (LM d (c.2 x h).1) (ad.cond (λe=>ae (LM d (c.2 x h).2) (i _ (by rw[e];rfl))) λe=>i _ (by rw[e];rfl))) λz m=>ad.some m)
theorem Xe(m:5000<=n){a b:List Loop}(o:rm a):Av n a b=aa (pS a b):=by
 unfold Av pS;have cI:=o.1;refine ad.eq (fl (λh=>ad.some ?_) λh=>?_)
 ·cases c:k5 np a b with
  |false=>rfl
  |true=>exact bB (by rw[GV c]) h
 refine ad.loop (λx:Int=> ∃i:Nat,x=i/\i<=a.length/\k5 np (a.drop i) (b.drop i)=k5 np a b) (λx=>a.length-x.toNat) ?_ n 0 ⟨0,rfl,O,rfl⟩ O;rintro k x ⟨i,rfl,H,c⟩ y;refine aW (λA=>?_) λB=>ad.some ?_
 ·have p:i<a.length:=O
  have q:i<b.length:=O
  have d:=bp p;have l:=bp q;have r:=o.2 _ (bx d);rw[lI p,lI q] at c;simp only[k5] at c;refine ad.aD (λz=>z= !np a[i] b[i]) (λj s=>?_) λz C=>?_
  ·refine ae (bl d) (ae (bl l) (ae (LI m r.1) (ad.cond (λe=>s _ ?_) λe=>ae (LI m r.2) (s _ ?_))))
   ·unfold np;rw[uc e];rfl
   unfold np;rw[r7 e];rfl
  subst C;cases w:np a[i] b[i] with
  |false=>rw[w] at c;exact bY (ad.some c)
  |true=>
   rw[w,gr] at c;refine b6 ?_;rw[bc O];exact y _ ⟨i+1,O,O,c⟩ O
 have F:a.drop i=[]:=lJ O;have G:b.drop i=[]:=lJ O;rw[F,G] at c;exact c
def hR:List Int->List Int->Bool
 |a::as,b::c=>if a=b then hR as c else ag (a<b)
 | [],_::_=>ab
 |_,[]=>ak
theorem OS{p q:List Int}(B:p.length<n)(C:p.length<=1000)(F:q.length<=1000):Al n p q=aa (hR p q):=by
 unfold Al;refine ad.eq (ad.loop (λx:Int=> ∃i:Nat,x=i/\i<=p.length/\i<=q.length/\hR (p.drop i) (q.drop i)=hR p q) (λx=>p.length-x.toNat) ?_ n 0 ⟨0,rfl,O,O,rfl⟩ O);rintro c x ⟨i,rfl,G,H,a⟩ o;refine ad.aD (λz=>z=ag (i<p.length/\i<q.length)) (λj m=>aW (λh=>m _ ?_) λh=>m _ ?_) λz r=>?_
 ·rw[ij];simp only[decide_eq_true_eq];omega
 ·exact(bJ O).symm
 subst r;refine aW (λh=>?_) λh=>ad.some ?_
 ·have d:=bp h.1;have k:=bp h.2;rw[lI h.1,lI h.2] at a;simp only[hR] at a;refine ae (bl d) (ae (bl k) (fl (λl=>ad.some ?_) λs=>?_))
  ·rw[aP l] at a;exact a
  rw[aR s] at a;rw[bc O];exact o _ ⟨i+1,O,O,O,a⟩ O
 rw[<-a];by_cases e:i<p.length
 ·have w:q.drop i=[]:=lJ O;rw[w,lI e];simp only[hR]
  grind
 have y:p.drop i=[]:=lJ O;rw[y];by_cases A:i<q.length
 ·rw[lI A];simp only[hR]
  grind
 rw[lJ (O:q.length<=i)];simp only[hR]
 grind
theorem Zk(n:Nat)(x y:Int):DQ n x y=aa (if x<y then-1 else if y<x then 1 else 0):=by
 unfold DQ D7
 grind
theorem aco{p q:List Int}(F:p.length<n)(G:p.length<=1000)(H:q.length<=1000):Bn n p q=aa (hR p q):=by
 unfold Bn K7;refine ad.eq (cq (P:=λc:Int=>decide (c<0)=hR p q) ?_ λc y=>ad.some y);refine ad.loop (λx:Int=> ∃i:Nat,x=i/\i<=p.length/\i<=q.length/\hR (p.drop i) (q.drop i)=hR p q) (λx=>p.length-x.toNat) ?_ n 0 ⟨0,rfl,O,O,rfl⟩ O;rintro d x ⟨i,rfl,K,L,a⟩ z;refine aW (λA=>?_) λB=>?_
 ·have e:i<p.length:=O
  have k:=bp e;refine ae (bl k) (aW (λh=>ad.some ?_) λh=>?_)
  ·rw[<-a,lJ (O:q.length<=i),lI e];simp[hR]
  have r:i<q.length:=O
  have l:=bp r;rw[lI e,lI r] at a;simp only[hR] at a;refine ae (bl l) (ae (Zk n _ _) ?_);by_cases s:p[i]<q[i]
  ·rw[aR s];refine fl (λ_=>ad.some ?_) (λm=>bB m O)
   grind
  rw[aP s];by_cases w:q[i]<p[i]
  ·rw[aR w];refine fl (λ_=>ad.some ?_) (λm=>bB m O)
   grind
  rw[aP w];refine fl (λo=>bB rfl o) λ_=>?_;rw[aR O] at a;rw[bc O];exact z _ ⟨i+1,O,O,O,a⟩ O
 have C:p.drop i=[]:=lJ O;rw[C] at a;refine aW (λh=>ad.some ?_) λh=>ad.some ?_
 ·rw[<-a,lI (O:i<q.length)];rfl
 rw[<-a,lJ (O:q.length<=i)];rfl
theorem Pz{v w:Int}(h:v<w)(a b:List Int): ∀p:List Int,hR (p++v::a) (p++w::b)=ab
 | []=>by
  simp only[List.nil_append,hR];rw[aP O];exact bK h
 |x::p=>by simp only[List.cons_append,hR,if_true];exact Pz h a b p
theorem abq(c d:Int):(cL c d).Pairwise (λa b=>a<b):=by unfold cL;rw[List.pairwise_map];exact List.pairwise_lt_range.imp λh=>O
theorem PW: ∀(ls:List Loop) (p:List Int),(cW ls p).Pairwise (λa b=>hR a b=ab)
 | [],p=>by simp[cW]
 |l::ls,p=>by unfold cW;rw[E1];refine⟨λv _=>PW ls _,(abq _ _).imp fun {v w} h a c b d=>?_⟩;obtain⟨x,rfl,_⟩:=(x0 ls _ _).1 c;obtain⟨y,rfl,_⟩:=(x0 ls _ _).1 d;rw[fN,fN];exact Pz h x y p
theorem GL{p:Prog}(i:bG p=ab){X d:List Int->List bO}: ∀{L:List (List Int)} {m:List Int},(∀q∈L,∀x∈X q,da p x)->(∀q∈L,∀y∈d q,da p y)->L.Pairwise (λa b=> ∀y∈d a,∀x∈X b,od p y x)->fD p.aQ m->
  c4 p m (L.flatMap λq=>X q++d q)=c4 p m (L.flatMap X++L.flatMap d)
 | [],m,_,_,_,_=>rfl
 |q::L,m,k,r,l,w=>by
  rw[nR] at l;have z:=λx e=>k q eD x e;have s:=λy n=>r q eD y n;have iU:=r' i z w;have A:=r' i s iU;have o: ∀x∈L.flatMap X,da p x:=λx e=>by
   obtain⟨c,h,e⟩:=hq.1 e;exact k c (eo _ h) x e
  rw[nS,nS,nS,hG,hG,GL i (λc h=>k c (eo _ h)) (λc h=>r c (eo _ h)) l.2 A,hG,hG,hG,hG];rw[block i s o (λy n x e=>by obtain⟨c,h,e⟩:=hq.1 e;exact l.1 c h y n x e) iU]
theorem QH{k:Type}{A l W Z:List k}{x y:k}(d:x∈l)(e:y∈W): ∃s t:Nat,s<t/\(A++(l++(W++Z)))[s]? =aa x/\(A++(l++(W++Z)))[t]? =aa y:=by
 obtain⟨i,a⟩:=jQ.1 d;obtain⟨j,c⟩:=jQ.1 e;have h:=(bS.1 a).1;have m:=(bS.1 c).1;refine⟨A.length+i,A.length+(l.length+j),O,?_,?_⟩
 ·rw[iE O,show A.length+i-A.length=i by omega,jq h];exact a
 rw[iE O,show A.length+(l.length+j)-A.length=l.length+j by omega,iE O,show l.length+j-l.length=j by omega,jq m];exact c
def ga(p:Prog)(i many:Nat)(a:List Part):Prog:=⟨p.aQ,p.parts.take i++a++p.parts.drop (i+many)⟩
theorem CC(a:di 900 p)(k:ys.length<=4)(d: ∀y∈ys,gg 1000 y):di 1000 (ga p i many ys):=by
 have e:=a.2.1;refine⟨(a.mono (O:900<=1000)).1,?_,λx c=>?_⟩
 ·show(p.parts.take i++ys++p.parts.drop (i+many)).length<=1000
  grind
 have c:x∈p.parts.take i++ys++p.parts.drop (i+many):=c;simp only[List.mem_append] at c;rcases c with (h|h)|h
 ·exact(a.mono (O:900<=1000)).2.2 x (gP h)
 ·exact d x h
 exact(a.mono (O:900<=1000)).2.2 x (fq h)
theorem G9(e:7000<=n)(a:di 900 p)(o:i+many<=p.parts.length)(k:ys.length<=4)(l: ∀y∈ys,gg 1000 y):kn n p (i:Int) (many:Int) ys=aa (hY (ga p i many ys)):=by
 have m:=a.2.1;have c:=a.mono (O:900<=1000);have d:=CC a (i:=i) (many:=many) k l;unfold kn hY;refine ad.eq (ae (oi O c) (ae (iR O O O) ?_));rw[cf,show(0:Int).toNat=0 from rfl,pJ];refine ae (x:=p.parts.take i) (c' bQ) (ae (x:=p.parts.take i++ys) (c' bQ) ?_);rw[bc O];refine ae (iR O O O) ?_;rw[cf,dW,show((i:Int)+(many:Int)).toNat=i+many by omega];refine ae (x:=(ga p i many ys).parts) ?_ ?_;rotate_left;show ad (bN (lu n (ga p i many ys)) _) _;refine(ae (kN e d.sm) (ad.cond (λh=>ad.some ?_) λh=>?_))
 ·rw[aP (by simpa using h)]
 ·rw[aR (by simpa using h)];exact ae (oi O d) (ad.some rfl)
 rw[c' bQ];rfl
def lj(p:Prog)(c:Int)(d:gv):Bool:=match (I p.parts)[d.e3.toNat]?,(I p.parts)[d.e5.toNat]? with
 |some a,aa b=>decide (a.part=c)&&(ag (b.part=c+1)&&hR b.bU a.bU)
 |_,_=>ak
def lL(a c:Part):Part:=⟨a.nest,a.body++c.body⟩
abbrev mg(p:Prog):List gv:=gM p (I p.parts) (I p.parts).length
def C7(p:Prog)(a:Int)(c d:Part):Bool:=pS c.nest d.nest&& !(mg p).any (lj p a)
def qh(p:Prog)(a:Int):Prog×Bool:=
 if bG p=ab/\eU p a=ab then
  (match ax p.parts a,ax p.parts (a+1) with
  |some c,aa d=>if C7 p a c d=ab then hY (ga p a.toNat 2 [lL c d]) else eK
  |_,_=>eK)
 else eK
theorem Ck(c:bG p=ab){d:gv}(i:d∈mg p): ∃(s t:Nat) (a b:bO),d.e3=s/\d.e5=t/\(I p.parts)[s]? =aa a/\(I p.parts)[t]? =aa b/\s<t/\a.bU.length<=4/\b.bU.length<=4:=by obtain⟨s,t,k,l,_,rfl⟩:=xO.1 i;have e:=bp (O:s<(I p.parts).length);have h:=bp l;exact⟨s,t,_,_,rfl,rfl,e,h,k,S7 c (fe (bx e)),S7 c (fe (bx h))⟩
theorem Br(c:bG p=ab):(mg p).length<=14400:=by
 have d:=xr p (I p.parts) (I p.parts).length;have a:=(dZ c).2.2.2.2;have e:(I p.parts).length*(I p.parts).length<=120*120:=oP a a
 grind
theorem Bu(m:7000<=n)(i:di 1000 p)(a:Int):kX n p a (-1)=aa (if bG p=ab/\eU p a=ab then(p,ab) else eK):=by
 unfold kX;refine ad.eq (ad.aD (λz=>z= !(bG p&&eU p a)) (λj d=>?_) λz o=>?_)
 ·refine ae (d5 m i.sm) (ad.cond (λh=>d _ (by rw[uc h];rfl)) λh=>?_);have bW:=r7 h;refine ae (rV n i.2.1 a) (ad.cond (λe=>d _ ?_) λe=>fl (λh=>(h rfl).elim) λ_=>d _ ?_)
  ·rw[bW,show eU p a=ak from uc e];rfl
  rw[bW,show eU p a=ab from r7 e];rfl
 subst o;refine ad.cond (λh=>ad.some ?_) λh=>?_
 ·have:=uc h;rw[aP λk=>by rw[k.1,k.2] at this;cases this];rfl
 have:=r7 h;simp only[b9] at this;obtain⟨bW,l⟩:=this;rw[aR ⟨bW,l⟩];have c:0<=a/\a<(p.parts.length:Int):=fF l;obtain⟨x,q,_⟩:=gU c.1 c.2;exact ae (sa O bW) (ae q (ad.some rfl))
theorem adY{s:List Part}(a:i<j)(c:j<=s.length): ∃r,wk n s (i:Int) (j:Int)=aa r/\r.2.take r.1=s.take i++s.drop j:=by
 refine⟨(fm s i j,kM s i j (⟨[],[]⟩:Part)),?_,?_⟩
 ·unfold wk
  grind
 dsimp only;have d:(s.take (i:Int).toNat++s.drop (j:Int).toNat).length=fm s i j:=by
  unfold fm
  grind
 unfold kM
 grind
theorem PC(c:bG p=ab){x:Part}(d:x∈p.parts)(e:P∈p.parts):gg 1000 (lL x P):=by
 obtain⟨_,_,a⟩:=lT c;obtain⟨aN,a2,a3⟩:=a x d;obtain⟨l,m,i⟩:=a P e;refine⟨aN.mono O,?_,λs k=>?_⟩
 ·show(x.body++P.body).length<=1000
  grind
 rcases eC.1 (show s∈x.body++P.body from k) with h|h
 ·exact(a3 s h).mono O
 exact(i s h).mono O
theorem aiE(cY:20000<=n)(K:di 1000 p)(bb: -1<=c/\c<=9):Fw n p c=aa (qh p c):=by
 unfold Fw qh;refine ad.eq (ae (Bu O K c) ?_);by_cases B:bG p=ab/\eU p c=ab
 ·rw[aR B,aR B];obtain⟨o,U⟩:=B;have V:0<=c/\c<(p.parts.length:Int):=fF U;obtain⟨i,rfl⟩: ∃i:Nat,c=i:=⟨c.toNat,O⟩
  have e:=bp (O:i<p.parts.length);have L:=bl e;generalize akC:p.parts[i]=l at L e;have DD:=(dZ o).2.2.1;refine bY (ae L ?_);rw[bc (n:=(i:Int)+1) O,bc (n:=(i:Int)+2) O,L];by_cases C:i+1<p.parts.length
  ·have w:=bp C;generalize akD:p.parts[i+1]=m at w;have Q:ax p.parts ((i:Int)+1)=aa m:=bl w;have m1:=bx e;have v:=bx w;rw[Q];dsimp only;refine ad.aD (λz=>z= !pS l.nest m.nest) (λj q=>aW (λh=>bB h O) λ_=>ae rfl (ae (WL O (K.sm.2.2 l m1).1) (q _ rfl))) λz F=>?_;subst F;unfold C7;cases hne:pS l.nest m.nest with
   |false=>exact bY (ad.some rfl)
   |true=>
    refine b6 (ae (z6 O K.sm) ?_);rw[aR o];refine bY (ae (GR O o) ?_);have R:=Br o;have W: ∀d∈mg p,d∈mg p:=λ_ h=>h;show ad (bm _ n 0) _;rw[gr];generalize D:mg p=A at R W;rw[show gM p (I p.parts) (I p.parts).length=A from D];refine ad.loop (λx:Int=> ∃k:Nat,x=k/\k<=A.length/\(A.take k).any (lj p (i:Int))=ak) (λx=>A.length-x.toNat) ?_ n 0 ⟨0,rfl,O,rfl⟩ O;rintro X x ⟨k,rfl,hk,Z⟩ b8;refine aW (λhlt=>?_) λkr=>?_
    ·have cD:=bp (O:k<A.length);generalize JD:A[k]=d at cD;obtain⟨s,t,a,b,E,M,N,P,qv,Ke,Kh⟩:=Ck o (D▸bx cD);refine ae (bl cD) (ae (x:=a) (by rw[E];exact bl N) (ae (x:=b) (by rw[M];exact bl P) ?_));have G:lj p (i:Int) d=(ag (a.part=(i:Int))&&(ag (b.part=(i:Int)+1)&&hR b.bU a.bU)):=by
      unfold lj;rw[E,M,Int.toNat_natCast,Int.toNat_natCast,N,P]
     refine ad.aD (λz=>z=lj p (i:Int) d) (λj q=>?_) λz F=>?_
     ·rw[G] at q;refine aW (λH=>aW (λC=>ae (aco O O O) (q _ ?_)) λC=>q _ ?_) λH=>q _ ?_
      ·rw[bK H,bK C];rfl
      ·rw[bK H,bJ C];rfl
      rw[bJ H];rfl
     subst F;refine ad.cond (λh=>ad.some ?_) λh=>?_
     ·rw[aP]; · rfl
      have:A.any (lj p (i:Int))=ab:=iX.2 ⟨d,bx cD,h⟩;rw[this];simp
     rw[bc O];exact b8 _ ⟨k+1,O,O,by rw[gF cD,uH,Z];simp[h]⟩ O
    rw[ma O] at Z;rw[Z,aR (by rfl)];have dI:=CC (i:=i) (many:=2) (ys:=[lL l m]) ((lT o).mono (O:4<=900)) aX λy S=>by rw[pK] at S;subst S;exact PC o m1 v
    obtain⟨_,_,T⟩:=lT o;have dc:=(T l m1).2.1;have cS:=(T m v).2.1;obtain⟨r,f,g⟩:=adY (n:=n) (s:=p.parts.set i (lL l m)) (i:=i+1) (j:=i+2) O (by rw[e6];omega);refine ae rfl (ae (x:=l.body++m.body) (c' O) (ae (x:=p.parts.set i (lL l m)) (dU O _) (ae (x:=r) f ?_)));have u:(⟨p.aQ,r.2.take r.1⟩:Prog)=ga p i 2 [lL l m]:=by
     unfold ga;rw[g];congr 1;rw[List.take_set,q5 O,eO,e,nQ _ _ (by rw[cZ];omega)]
     have:i-(p.parts.take i).length=0:=by rw[cZ];omega
     rw[this];rfl
    rw[u,cf];exact ae (r1 O dI) (ad.some rfl)
  have Q:ax p.parts ((i:Int)+1)=none:=yt O;rw[Q];refine ad.aD (λz=>z=ab) (λj q=>aW (λ_=>q _ rfl) λh=>bB (show(p.parts.length:Int)<=(i:Int)+1 by omega) h) λz F=>?_;rw[F];exact bY (ad.some rfl)
 rw[aP B,aP B];exact b6 (ad.some rfl)
theorem ajZ(cY:20000<=n)(A:di 1000 p)(bb: -1<=c/\c<=9):Fj n p c=aa (qh p c):=by
 unfold Fj qh;refine ad.eq (ae (lE O A) ?_);by_cases G:bG p=ab/\eU p c=ab
 ·rw[aR G];obtain⟨e,X⟩:=G;have P:0<=c/\c<(p.parts.length:Int):=fF X;obtain⟨i,rfl⟩: ∃i:Nat,c=i:=⟨c.toNat,O⟩
  have m:=bp (O:i<p.parts.length);have Z:=bl m;generalize S:p.parts[i]=o at Z m;have K:=(dZ e).2.2.1;rw[bc (n:=(i:Int)+1) O,bc (n:=(p.parts.length:Int)-1) O,Z];by_cases C:i+1<p.parts.length
  ·have q:=bp C;generalize T:p.parts[i+1]=B at q;have L:ax p.parts ((i:Int)+1)=aa B:=bl q;have m1:=bx m;have f:=bx q;rw[L];dsimp only;refine ad.aD (λz=>z= !pS o.nest B.nest) (λj l=>ae (kN O A.sm) ?_) λz r=>?_
   ·rw[e];refine b6 (aW (λh=>bB h O) λ_=>aW (λh=>bB h O) λ_=>ae rfl (ae rfl (ae (Xe O (A.sm.2.2 o m1).1) (l _ rfl))))
   subst r;unfold C7;cases U:pS o.nest B.nest with
   |false=>exact bY (ad.some rfl)
   |true=>
    refine b6 (ae (wg O e) (ae (GY O e) ?_));have Q:=Br e;rw[gr];generalize g:mg p=w at Q;rw[show gM p (I p.parts) (I p.parts).length=w from g];refine ad.loop (λx:Int=> ∃k:Nat,x=k/\k<=w.length/\(w.take k).any (lj p (i:Int))=ak) (λx=>w.length-x.toNat) ?_ n 0 ⟨0,rfl,O,rfl⟩ O;rintro R x ⟨k,rfl,hk,W⟩ V;refine aW (λhlt=>?_) λkr=>?_
    ·have cD:=bp (O:k<w.length);generalize JD:w[k]=d at cD;obtain⟨s,t,a,b,u,v,D,E,qv,Ke,Kh⟩:=Ck e (g▸bx cD);refine ae (bl cD) (ae (x:=a) (by rw[u];exact bl D) (ae (x:=b) (by rw[v];exact bl E) ?_));have F:lj p (i:Int) d=(ag (a.part=(i:Int))&&(ag (b.part=(i:Int)+1)&&hR b.bU a.bU)):=by
      unfold lj;rw[u,v,Int.toNat_natCast,Int.toNat_natCast,D,E]
     refine ad.aD (λz=>z=lj p (i:Int) d) (λj l=>?_) λz r=>?_
     ·rw[F] at l;refine aW (λH=>aW (λC=>ae (OS O O O) (l _ ?_)) λC=>l _ ?_) λH=>l _ ?_
      ·rw[bK H,bK C];rfl
      ·rw[bK H,bJ C];rfl
      rw[bJ H];rfl
     subst r;refine ad.cond (λh=>ad.some ?_) λh=>?_
     ·rw[aP]; · rfl
      have:w.any (lj p (i:Int))=ab:=iX.2 ⟨d,bx cD,h⟩;rw[this];simp
     rw[bc O];exact V _ ⟨k+1,O,O,by rw[gF cD,uH,W];simp[h]⟩ O
    rw[ma O] at W;rw[W,aR (by rfl)];obtain⟨_,_,M⟩:=lT e;have dc:=(M o m1).2.1;have cS:=(M B f).2.1;refine ae rfl (ae (x:=o.body) (c' bQ) (ae rfl (ae (x:=o.body++B.body) (c' O) ?_)));have hw:=G9 (n:=n) O ((lT e).mono (O:4<=900)) (i:=i) (many:=2) O (ys:=[lL o B]) aX λy N=>by rw[pK] at N;subst N;exact PC e m1 f
    rw[cf];exact ae hw (ad.some rfl)
  have L:ax p.parts ((i:Int)+1)=none:=yt O;rw[L];refine ad.aD (λz=>z=ab) (λj l=>ae (kN O A.sm) ?_) λz r=>?_
  ·rw[e]
   grind
  rw[r];exact bY (ad.some rfl)
 rw[aP G];refine ad.aD (λz=>z=ab) (λj l=>ae (kN O A.sm) ?_) λz r=>by rw[r];exact bY (ad.some rfl)
 by_cases e:bG p=ab
 ·have X: ¬(0<=c/\c<(p.parts.length:Int)):=λh=>G ⟨e,bK h⟩;rw[e];have K:=A.2.1;rw[bc (n:=(p.parts.length:Int)-1) O]
  grind
 rw[show bG p=ak by simpa using e]
 grind
def p8(i b:Nat)(x:bO):bO:=if x.part<(i:Int)+1 then x else if x.part=(i:Int)+1 then⟨(i:Int),x.stmt+(b:Int),x.bU⟩ else⟨x.part-1,x.stmt,x.bU⟩
def gw(i:Int)(k:Nat)(q:List Int):List bO:=(List.range k).map fun(k:Nat)=>(⟨i,(k:Int),q⟩:bO)
theorem J9(A C:List Part)(P:Part):I (A++P::C)=I A++(ew A.length P++((I C).map (fH 1)).map (fH A.length)):=by rw[y5,DJ,eN];congr 2;exact we λs q=>by unfold fH;simp
theorem tR(i:Nat)(P:Part):ew i P=(dG P).flatMap (gw (i:Int) P.body.length):=rfl
theorem D3{k R H:Type}{f:k->List R}{g:R->H}{h:k->List H}: ∀{l:List k},(∀x∈l,(f x).map g=h x)->(l.flatMap f).map g=l.flatMap h
 | [],_=>rfl
 |x::l,a=>by rw[nS,nS,eN,a x eD,D3 λy c=>a y (eo _ c)]
theorem Qp(i:Int)(a b:Nat)(q:List Int):gw i (a+b) q=gw i a q++(List.range b).map (fun(k:Nat)=>(⟨i,(k:Int)+(a:Int),q⟩:bO)):=by
 unfold gw;rw[List.range_add,eN,fv];congr 1;refine lK (λk _=>?_)
 grind
theorem EM{Q:Part}(h:P.nest=Q.nest):dG P=dG Q:=by unfold dG;rw[h]
theorem Zr{s:Part}(e:p.parts[i]? =aa C)(c:p.parts[i+1]? =aa s)(h:C.nest=s.nest):
  ∃A Z,I p.parts=A++((dG C).flatMap (gw (i:Int) C.body.length)++((dG C).flatMap (gw ((i:Int)+1) s.body.length)++Z))/\
   I (ga p i 2 [lL C s]).parts=(A++((dG C).flatMap (λq=>gw (i:Int) C.body.length q++gw ((i:Int)+1) s.body.length q)++Z)).map (p8 i C.body.length):=by
 have hi:=(bS.1 c).1;have d:(p.parts.take i).length=i:=by rw[cZ];omega
 refine⟨I (p.parts.take i),((I (p.parts.drop (i+2))).map (fH 1)).map λx=>fH i (fH 1 x),?_,?_⟩
 ·conv=>lhs;rw[yc e c]
  rw[y7,d,tR,tR,EM (P:=s) (Q:=C) h.symm];rfl
 show I (p.parts.take i++[lL C s]++p.parts.drop (i+2))=_;rw[fN,List.singleton_append,J9,d,eN,eN];congr 1
 ·exact(l2 (λx a=>by
   have:=nA a;unfold p8;rw[aR O])).symm
 congr 1
 ·rw[tR,EM (P:=lL C s) (Q:=C) rfl];refine(D3 λq _=>?_).symm;show _=gw (i:Int) (C.body++s.body).length q;rw[ea,Qp,eN];congr 1
  ·refine l2 λx a=>?_;unfold gw at a;obtain⟨k,_,rfl⟩:=eA.1 a;unfold p8
   grind
  unfold gw;rw[fv];refine lK λk _=>?_;simp only[Function.comp_apply];unfold p8
  grind
 rw[fv,fv,fv];refine lK λx a=>?_
 have:=nA a;simp only[Function.comp_apply];unfold p8 fH
 grind
theorem nI{l:List Part}(a:i+n<=p.parts.length)(j:Nat):(ga p i n l).parts[j]? =if j<i then p.parts[j]? else if j<i+l.length then l[j-i]? else p.parts[j-l.length+n]? :=by
 show(p.parts.take i++l++p.parts.drop (i+n))[j]? =_
 grind
theorem aaM(n:p.parts[i]? =aa C)(e:p.parts[i+1]? =aa y)(o:da p x):ep (ga p i 2 [lL C y]) (p8 i C.body.length x)=ep p x/\(p8 i C.body.length x).bU=x.bU:=by
 have hi:=(bS.1 e).1;obtain⟨c,k,P,s,h,l,a,q,z⟩:=o;have r:=(bS.1 q).1;have w:=(bS.1 a).1;unfold p8;by_cases m:x.part<(i:Int)+1
 ·rw[aR m];refine⟨?_,rfl⟩;unfold ep;rw[h,l,cf,cf,nI O];by_cases d:c<i
  ·rw[aR d]
  have:c=i:=O
  subst this;rw[aP d,aR aX,a,kC];rw[n] at a;cases a;show(C.body++y.body)[k]? =C.body[k]?;rw[jq r]
 rw[aP m];by_cases d:x.part=(i:Int)+1
 ·rw[aR d];refine⟨?_,rfl⟩
  have:c=i+1:=O
  subst this;rw[e] at a;cases a;unfold ep;dsimp only;rw[h,l,cf,cf,nI O,aP O,aR aX,kC,e,show((k:Int)+(C.body.length:Int)).toNat=C.body.length+k by omega];show(C.body++y.body)[C.body.length+k]? =y.body[k]?;rw[iE O];congr 1;omega
 rw[aP d];refine⟨?_,rfl⟩;unfold ep;dsimp only;rw[h,l,cf,cf,show((c:Int)-1).toNat=c-1 by omega,nI O,aP O,aP bQ];congr 2;simp only[List.length_singleton];omega
theorem EC{p q:Prog}(a:q.aQ=p.aQ){σ:bO->bO}: ∀{l:List bO} {m:List Int},(∀x∈l,ep q (σ x)=ep p x/\(σ x).bU=x.bU)->c4 q m (l.map σ)=c4 p m l
 | [],m,_=>rfl
 |x::l,m,h=>by
  obtain⟨c,d⟩:=h x eD;have e:eI q m (σ x)=eI p m x:=by unfold eI;rw[c,d,a]
  show c4 q (eI q m (σ x)) (l.map σ)=c4 p (eI p m x) l;rw[e];exact EC a λy i=>h y (eo _ i)
theorem yD{i:Int}{q:List Int}(h:x∈gw i k q):x.part=i/\x.bU=q/\0<=x.stmt/\x.stmt<(k:Int):=by
 unfold gw at h
 grind
theorem agP(o:bG p=ab)(r:p.parts[i]? =aa P)(K:p.parts[i+1]? =aa C)(j:P.nest=C.nest)(L:(mg p).any (lj p (i:Int))=ak)(u:fD p.aQ m):
  c4 (ga p i 2 [lL P C]) m (I (ga p i 2 [lL P C]).parts)=c4 p m (I p.parts):=by
 obtain⟨A,Z,w,v⟩:=Zr r K j;have e: ∀x∈A++((dG P).flatMap (gw (i:Int) P.body.length)++((dG P).flatMap (gw ((i:Int)+1) C.body.length)++Z)),da p x:=λx c=>fe (by rw[w];exact c);have Q: ∀x∈A,da p x:=λx c=>e x (kd _ c);have R: ∀q∈dG P,∀x∈gw (i:Int) P.body.length q,da p x:=λq k x c=>e x (jr _ (kd _ (hq.2 ⟨q,k,c⟩)));have W: ∀q∈dG P,∀x∈gw ((i:Int)+1) C.body.length q,da p x:=λq k x c=>e x (jr _ (jr _ (kd _ (hq.2 ⟨q,k,c⟩))));have D: ∀x∈Z,da p x:=λx c=>e x (jr _ (jr _ (jr _ c)));have l:=(dZ o).2.2.2.1 P (bx r);rw[v,EC (p:=p) (q:=ga p i 2 [lL P C]) (σ:=p8 i P.body.length) rfl λx c=>aaM r K ?_,w,hG,hG,hG,GL o R W ?_ (r' o Q u),hG,hG,hG]
 ·rw[l7 l];have z:=l7 l;refine(PW P.nest []).imp_of_mem fun {a b} X f E y g x c=>?_;rw[<-z] at X f;obtain⟨s,t,B,F,G⟩:=QH (A:=A) (Z:=Z) (hq.2 ⟨b,f,c⟩) (hq.2 ⟨a,X,g⟩);rw[<-w] at F G;refine Ps o (λx c=>fe c) s t x y B F G λd H n=>?_;obtain⟨M,N,_⟩:=yD c;obtain⟨S,T,_⟩:=yD g
  have:lj p (i:Int) d=ab:=by
   unfold lj;rw[show d.e3=(s:Int) from n.1,show d.e5=(t:Int) from n.2,cf,cf,F,G];dsimp only;rw[M,S,N,T,E,bK rfl,bK rfl];rfl
  rw[iX.2 ⟨d,H,this⟩] at L;cases L
 rcases eC.1 c with h|h
 ·exact Q x h
 rcases eC.1 h with h|h
 ·obtain⟨q,k,h⟩:=hq.1 h;rcases eC.1 h with h|h
  ·exact R q k x h
  exact W q k x h
 exact D x h
theorem agO(h:qh p a=(q,ab)):bG p=ab/\ ∃(i:Nat) (c d:Part),a=i/\p.parts[i]? =aa c/\p.parts[i+1]? =aa d/\c.nest=d.nest/\(mg p).any (lj p (i:Int))=ak/\q=ga p i 2 [lL c d]/\bG q=ab:=by
 unfold qh at h;split at h
 ·rename_i m;split at h
  ·rename_i c d n o;split at h
   ·rename_i k;obtain⟨l,rfl,_,r⟩:=CW n;obtain⟨s,e,_,w⟩:=CW o
    have:s=l+1:=O
    subst this;unfold C7 at k;simp only[b9,Bool.not_eq_true'] at k;obtain⟨rfl,x⟩:=tt h;exact⟨m.1,l,c,d,rfl,r,w,OI k.1,k.2,rfl,x⟩
   cases h
  cases h
 cases h
def lk(p:Prog)(c k:Int)(d:gv):Bool:=match (I p.parts)[d.e3.toNat]?,(I p.parts)[d.e5.toNat]? with
 |some a,aa b=>decide (a.part=c)&&(ag (b.part=c)&&(ag (k<=a.stmt)&&ag (b.stmt<k)))
 |_,_=>ak
def C1(p:Prog)(a k:Int)(P:Part):Bool:=ag (1<=k/\k<(P.body.length:Int))&& !(mg p).any (lk p a k)
def iW(P:Part)(k:Nat):Part:=⟨P.nest,P.body.take k⟩
def j9(P:Part)(k:Nat):Part:=⟨P.nest,P.body.drop k⟩
def qc(p:Prog)(a k:Int):Prog×Bool:=
 if bG p=ab/\eU p a=ab then
  (match ax p.parts a with
  |some P=>if C1 p a k P=ab then hY (ga p a.toNat 1 [iW P k.toNat,j9 P k.toNat]) else eK
  |none=>eK)
 else eK
theorem Pr(d:bG p=ab)(e:P∈p.parts)(k:Nat): ∀y∈[iW P k,j9 P k],gg 1000 y:=by
 obtain⟨_,_,h⟩:=lT d;obtain⟨aN,a2,a3⟩:=h P e;intro y c;simp only[List.mem_cons,List.not_mem_nil,or_false] at c;rcases c with rfl|rfl
 ·refine⟨aN.mono O,?_,λs a=>(a3 s (gP a)).mono O⟩;show(P.body.take k).length<=1000
  grind
 refine⟨aN.mono O,?_,λs a=>(a3 s (fq a)).mono O⟩;show(P.body.drop k).length<=1000
 grind
theorem QE{s:List Part}{v:List Part}(a:i<=s.length)(c:s.length+v.length<=1000000000):wi n s (i:Int) v=aa (s.take i++v++s.drop i):=by unfold wi;rw[bK (show(0:Int)<=(i:Int) by omega),bK (show(i:Int)<=(s.length:Int) by omega),cond_true,cond_true,cf];exact c' (by simp only[im,k',lP];omega)
theorem aiD(cY:20000<=n)(f:di 1000 p){k:Int}(bb: -1<=c/\c<=9):D5 n p c k=aa (qc p c k):=by
 unfold D5 qc;refine ad.eq (ae (Bu O f c) ?_);by_cases r:bG p=ab/\eU p c=ab
 ·rw[aR r,aR r];obtain⟨l,S⟩:=r;have T:0<=c/\c<(p.parts.length:Int):=fF S;obtain⟨i,rfl⟩: ∃i:Nat,c=i:=⟨c.toNat,O⟩
  have e:=bp (O:i<p.parts.length);have A:=bl e;generalize U:p.parts[i]=P at A e;have V:=(dZ l).2.2.1;have m1:=bx e;have w:=(dZ l).2.2.2.1 P m1;obtain⟨B,C⟩:=gV w;obtain⟨_,Du,St,_⟩:=gy w;refine bY (ae A ?_);rw[bc (n:=(i:Int)+1) O,bc (n:=(P.body.length:Int)-1) O,A];dsimp only;refine ad.aD (λz=>z= !decide (1<=k/\k<(P.body.length:Int))) (λj g=>ae (jE n k 1 _) (g _ ?_)) λz F=>?_
  ·congr 1
   grind
  subst F;unfold C1;cases G:ag (1<=k/\k<(P.body.length:Int)) with
  |false=>exact bY (ad.some rfl)
  |true=>
   have hk:=fF G;obtain⟨t,rfl⟩: ∃t:Nat,k=t:=⟨k.toNat,O⟩
   refine b6 (ae (z6 O f.sm) ?_);rw[aR l];refine bY (ae (GR O l) ?_);have H:=Br l;show ad (bm _ n 0) _;rw[gr];generalize v:mg p=m at H;rw[show gM p (I p.parts) (I p.parts).length=m from v];refine ad.loop (λx:Int=> ∃j:Nat,x=j/\j<=m.length/\(m.take j).any (lk p (i:Int) (t:Int))=ak) (λx=>m.length-x.toNat) ?_ n 0 ⟨0,rfl,O,rfl⟩ O;rintro K x ⟨j,rfl,g,L⟩ b8;refine aW (λhlt=>?_) λkr=>?_
   ·have cD:=bp (O:j<m.length);generalize JD:m[j]=d at cD;obtain⟨s,u,a,b,D,E,M,N,qv,Ke,Kh⟩:=Ck l (v▸bx cD);refine ae (bl cD) (ae (x:=a) (by rw[D];exact bl M) (ae (x:=b) (by rw[E];exact bl N) ?_));have y:lk p (i:Int) (t:Int) d=(ag (a.part=(i:Int))&&(ag (b.part=(i:Int))&&(ag ((t:Int)<=a.stmt)&&ag (b.stmt<(t:Int))))):=by
     unfold lk;rw[D,E,Int.toNat_natCast,Int.toNat_natCast,M,N]
    refine ad.aD (λz=>z=lk p (i:Int) (t:Int) d) (λq o=>?_) λz F=>?_
    ·rw[y] at o;refine aW (λQ=>aW (λR=>aW (λW=>o _ ?_) λW=>o _ ?_) λR=>o _ ?_) λQ=>o _ ?_
     ·rw[bK Q,bK R,bK W];simp
     ·rw[bJ W];simp
     ·rw[bJ R];simp
     rw[bJ Q];rfl
    subst F;refine ad.cond (λh=>ad.some ?_) λh=>?_
    ·rw[aP]; · rfl
     have:m.any (lk p (i:Int) (t:Int))=ab:=iX.2 ⟨d,bx cD,h⟩;rw[this];simp
    rw[bc O];exact b8 _ ⟨j+1,O,O,by rw[gF cD,uH,L];simp[h]⟩ O
   rw[ma O] at L;rw[L,aR (by rfl)];have o:=CC (i:=i) (many:=1) (ys:=[iW P t,j9 P t]) ((lT l).mono (O:4<=900)) aX (Pr l m1 t);refine ae (MV O B C) (ae (iR O O O) ?_);rw[cf,cf,dW];refine ae (x:=P.body.drop t) ?_ (ae (iR O O O) ?_)
   ·unfold FD
    have:(P.body.drop t).isEmpty=ak:=by
     cases X:P.body.drop t with
     |nil=>
      have:=congrArg List.length X;rw[fM,List.length_nil] at this;omega
     |cons=>rfl
    rw[this,cond_false];rw[c' bQ];rfl
   rw[cf,show(0:Int).toNat=0 from rfl,pJ];refine ae (x:=p.parts.set i (iW P t)) (dU O _) (ae (QE (i:=i+1) (by rw[e6];omega) (by rw[e6];simp;omega)) ?_);have Z:(⟨p.aQ,(p.parts.set i (iW P t)).take (i+1)++[j9 P t]++(p.parts.set i (iW P t)).drop (i+1)⟩:Prog)=ga p i 1 [iW P t,j9 P t]:=by
    unfold ga;congr 1;rw[List.take_set,q5 O,eO,e,nQ _ _ (by rw[cZ];omega)]
    have:i-(p.parts.take i).length=0:=by rw[cZ];omega
    rw[this];simp
   show ad (bN (mD n (⟨p.aQ,(p.parts.set i (iW P t)).take (i+1)++[j9 P t]++(p.parts.set i (iW P t)).drop (i+1)⟩:Prog)) _) _;rw[Z];simp only[Int.toNat_natCast];exact ae (r1 O o) (ad.some rfl)
 rw[aP r,aP r];exact b6 (ad.some rfl)
theorem ajY(cY:20000<=n)(A:di 1000 p){k:Int}(bb: -1<=c/\c<=9):DY n p c k=aa (qc p c k):=by
 unfold DY qc;refine ad.eq (ae (lE O A) ?_);by_cases y:bG p=ab/\eU p c=ab
 ·rw[aR y];obtain⟨e,R⟩:=y;have E:0<=c/\c<(p.parts.length:Int):=fF R;obtain⟨i,rfl⟩: ∃i:Nat,c=i:=⟨c.toNat,O⟩
  have l:=bp (O:i<p.parts.length);have W:=bl l;generalize M:p.parts[i]=P at W l;have N:=(dZ e).2.2.1;have m1:=bx l;have B:=(dZ e).2.2.2.1 P m1;obtain⟨_,S,T,_⟩:=gy B;rw[W];dsimp only;refine ad.aD (λz=>z= !decide (1<=k/\k<(P.body.length:Int))) (λj X=>ae (kN O A.sm) ?_) λz o=>?_
  ·rw[e]
   grind
  subst o;unfold C1;cases C:ag (1<=k/\k<(P.body.length:Int)) with
  |false=>exact bY (ad.some rfl)
  |true=>
   have hk:=fF C;obtain⟨t,rfl⟩: ∃t:Nat,k=t:=⟨k.toNat,O⟩
   refine b6 (ae (wg O e) (ae (GY O e) ?_));have F:=Br e;rw[gr];generalize Z:mg p=m at F;rw[show gM p (I p.parts) (I p.parts).length=m from Z];refine ad.loop (λx:Int=> ∃j:Nat,x=j/\j<=m.length/\(m.take j).any (lk p (i:Int) (t:Int))=ak) (λx=>m.length-x.toNat) ?_ n 0 ⟨0,rfl,O,rfl⟩ O;rintro G x ⟨j,rfl,X,H⟩ U;refine aW (λV=>?_) λkr=>?_
   ·have cD:=bp (O:j<m.length);generalize JD:m[j]=d at cD;obtain⟨s,u,a,b,f,g,v,D,qv,Ke,Kh⟩:=Ck e (Z▸bx cD);refine ae (bl cD) (ae (x:=a) (by rw[f];exact bl v) (ae (x:=b) (by rw[g];exact bl D) ?_));have r:lk p (i:Int) (t:Int) d=(ag (a.part=(i:Int))&&(ag (b.part=(i:Int))&&(ag ((t:Int)<=a.stmt)&&ag (b.stmt<(t:Int))))):=by
     unfold lk;rw[f,g,Int.toNat_natCast,Int.toNat_natCast,v,D]
    refine ad.aD (λz=>z=lk p (i:Int) (t:Int) d) (λq w=>?_) λz o=>?_
    ·rw[r] at w;refine aW (λK=>aW (λL=>aW (λQ=>w _ ?_) λQ=>w _ ?_) λL=>w _ ?_) λK=>w _ ?_
     ·rw[bK K,bK L,bK Q];simp
     ·rw[bJ Q];simp
     ·rw[bJ L];simp
     rw[bJ K];rfl
    subst o;refine ad.cond (λh=>ad.some ?_) λh=>?_
    ·rw[aP]; · rfl
     have:m.any (lk p (i:Int) (t:Int))=ab:=iX.2 ⟨d,bx cD,h⟩;rw[this];simp
    rw[bc O];exact U _ ⟨j+1,O,O,by rw[gF cD,uH,H];simp[h]⟩ O
   rw[ma O] at H;rw[H,aR (by rfl)];refine ae rfl (ae (iR O O O) (ae (iR O O O) ?_));rw[cf,cf,dW,show(0:Int).toNat=0 from rfl,pJ,cf];have hw:=G9 (n:=n) O ((lT e).mono (O:4<=900)) (i:=i) (many:=1) O (ys:=[iW P t,j9 P t]) aX (Pr e m1 t);exact ae hw (ad.some rfl)
 rw[aP y];refine ad.aD (λz=>z=ab) (λj X=>ae (kN O A.sm) ?_) λz o=>by rw[o];exact bY (ad.some rfl)
 by_cases e:bG p=ab
 ·have R: ¬(0<=c/\c<(p.parts.length:Int)):=λh=>y ⟨e,bK h⟩
  grind
 rw[show bG p=ak by simpa using e]
 grind
theorem Ni{k:Type}{R:k->k->Prop}: ∀{L:List k},(∀d a c,L=d++a::c-> ∀b∈c,R a b)->L.Pairwise R
 | [],_=>List.Pairwise.nil
 |x::L,h=>nR.2 ⟨λb i=>h [] x L rfl b i,Ni λd a c e b i=>h (x::d) a c (by rw[e];rfl) b i⟩
def p9(i k:Nat)(x:bO):bO:=if x.part<(i:Int) then x else if x.part=(i:Int) then(if x.stmt<(k:Int) then x else⟨(i:Int)+1,x.stmt-(k:Int),x.bU⟩) else⟨x.part+1,x.stmt,x.bU⟩
def ns(i:Int)(a b:Nat)(q:List Int):List bO:=(List.range b).map fun(k:Nat)=>(⟨i,(k:Int)+(a:Int),q⟩:bO)
theorem ZB(c:p.parts[i]? =aa P)(m:k<=P.body.length):
  ∃A Z,I p.parts=A++((dG P).flatMap (λq=>gw (i:Int) k q++ns (i:Int) k (P.body.length-k) q)++Z)/\
   I (ga p i 1 [iW P k,j9 P k]).parts=(A++(((dG P).flatMap (gw (i:Int) k)++(dG P).flatMap (ns (i:Int) k (P.body.length-k)))++Z)).map (p9 i k):=by
 have hi:=(bS.1 c).1;have e:(p.parts.take i).length=i:=by rw[cZ];omega
 have d:p.parts=p.parts.take i++P::p.parts.drop (i+1):=by
  have:=mX i p.parts;rw[lI hi] at this;rw[show p.parts[i]=P from by rw[bp hi] at c;exact Option.some.inj c] at this;exact this.symm
 refine⟨I (p.parts.take i),((I (p.parts.drop (i+1))).map (fH 1)).map (fH i),?_,?_⟩
 ·conv=>lhs;rw[d]
  rw[J9,e,tR];congr 2;rw[pH,pH];congr 1;refine lK λq _=>?_
  conv=>lhs;rw[show P.body.length=k+(P.body.length-k) by omega]
  exact Qp _ _ _ _
 show I (p.parts.take i++[iW P k,j9 P k]++p.parts.drop (i+1))=_;rw[fN,show [iW P k,j9 P k]++p.parts.drop (i+1)=iW P k::j9 P k::p.parts.drop (i+1) from rfl,y7,e,eN,eN,eN];congr 1
 ·exact(l2 (λx a=>by
   have:=nA a;unfold p9;rw[aR O])).symm
 rw[fN];congr 1
 ·rw[tR,EM (P:=iW P k) (Q:=P) rfl,show(iW P k).body.length=k from by show(P.body.take k).length=k;rw[cZ];omega];refine(l2 λx a=>?_).symm;obtain⟨q,_,a⟩:=hq.1 a;obtain⟨h,n,o,l⟩:=yD a;unfold p9;rw[aP O,aR h,aR l]
 congr 1
 ·rw[tR,EM (P:=j9 P k) (Q:=P) rfl,show(j9 P k).body.length=P.body.length-k from by show(P.body.drop k).length=_;rw[fM]];refine(D3 λq _=>?_).symm;unfold gw ns;rw[fv];refine lK λj _=>?_;simp only[Function.comp_apply];unfold p9;rw[aP J,aR rfl,aP J];simp only[bO.mk.injEq,and_true];omega
 rw[fv,fv,fv];refine lK λx a=>?_
 have:=nA a;simp only[Function.comp_apply];unfold p9 fH;dsimp only;rw[aP O,aP O];simp only[bO.mk.injEq,and_true];omega
theorem aaY(c:p.parts[i]? =aa P)(w:k<=P.body.length)(o:da p x):ep (ga p i 1 [iW P k,j9 P k]) (p9 i k x)=ep p x/\(p9 i k x).bU=x.bU:=by
 have hi:=(bS.1 c).1;obtain⟨a,j,y,s,d,e,h,q,z⟩:=o;have A:=(bS.1 q).1;have r:=(bS.1 h).1;unfold p9;by_cases l:x.part<(i:Int)
 ·rw[aR l];refine⟨?_,rfl⟩;unfold ep;rw[d,e,cf,cf,nI O,aR O]
 rw[aP l];by_cases m:x.part=(i:Int)
 ·rw[aR m]
  have:a=i:=O
  subst this;rw[c] at h;cases h;by_cases n:x.stmt<(k:Int)
  ·rw[aR n];refine⟨?_,rfl⟩;unfold ep;rw[d,e,cf,cf,nI O,aP O,aR aX,kC,c];show(P.body.take k)[j]? =P.body[j]?
   grind
  rw[aP n];refine⟨?_,rfl⟩;unfold ep;dsimp only;rw[d,e,show((a:Int)+1).toNat=a+1 by omega,show((j:Int)-(k:Int)).toNat=j-k by omega,cf,cf,nI O,aP O,aR aX,show a+1-a=1 by omega,c];show(P.body.drop k)[j-k]? =P.body[j]?
  grind
 rw[aP m];refine⟨?_,rfl⟩;unfold ep;dsimp only;rw[d,e,cf,cf,show((a:Int)+1).toNat=a+1 by omega,nI O,aP O,aP bQ]
 grind
theorem ae3{i:Int}{a b:Nat}{q:List Int}(h:x∈ns i a b q):x.part=i/\x.bU=q/\(a:Int)<=x.stmt:=by
 unfold ns at h
 grind
theorem ad0{a b:bO}(h:od p a b):od p b a:=λm c=>(h m c).symm
theorem agD(o:bG p=ab)(F:p.parts[i]? =aa P)(G:k<=P.body.length)(H:(mg p).any (lk p (i:Int) (k:Int))=ak)(g:fD p.aQ m):
  c4 (ga p i 1 [iW P k,j9 P k]) m (I (ga p i 1 [iW P k,j9 P k]).parts)=c4 p m (I p.parts):=by
 obtain⟨A,Z,r,j⟩:=ZB F G;have e: ∀x∈A++((dG P).flatMap (λq=>gw (i:Int) k q++ns (i:Int) k (P.body.length-k) q)++Z),da p x:=λx c=>fe (by rw[r];exact c);have K: ∀x∈A,da p x:=λx c=>e x (kd _ c);have L: ∀q∈dG P,∀x∈gw (i:Int) k q,da p x:=λq l x c=>e x (jr _ (kd _ (hq.2 ⟨q,l,kd _ c⟩)));have Q: ∀q∈dG P,∀x∈ns (i:Int) k (P.body.length-k) q,da p x:=λq l x c=>e x (jr _ (kd _ (hq.2 ⟨q,l,jr _ c⟩)));have u: ∀x∈Z,da p x:=λx c=>e x (jr _ (jr _ c));rw[j,EC (p:=p) (q:=ga p i 1 [iW P k,j9 P k]) (σ:=p9 i k) rfl λx c=>aaY F G ?_,r,hG p m A,hG p m A,hG p (c4 p m A) _ Z,hG p (c4 p m A) _ Z,GL o L Q ?_ (r' o K g)]
 ·refine Ni λR a X jF b v y f x c=>?_;have D:I p.parts=(A++R.flatMap λq=>gw (i:Int) k q++ns (i:Int) k (P.body.length-k) q)++((gw (i:Int) k a++ns (i:Int) k (P.body.length-k) a)++(X.flatMap (λq=>gw (i:Int) k q++ns (i:Int) k (P.body.length-k) q)++Z)):=by
   rw[r,jF,mc,nS];simp only[List.append_assoc]
  obtain⟨s,t,w,z,B⟩:=QH (A:=A++R.flatMap λq=>gw (i:Int) k q++ns (i:Int) k (P.body.length-k) q) (Z:=Z) (x:=y) (y:=x) (jr _ f) (W:=X.flatMap λq=>gw (i:Int) k q++ns (i:Int) k (P.body.length-k) q) (hq.2 ⟨b,v,kd _ c⟩);rw[<-D] at z B;refine ad0 (Ps o (λx c=>fe c) s t y x w z B λd C n=>?_);obtain⟨E,T,_,M⟩:=yD c;obtain⟨N,U,S⟩:=ae3 f
  have:lk p (i:Int) (k:Int) d=ab:=by
   unfold lk;rw[show d.e3=(s:Int) from n.1,show d.e5=(t:Int) from n.2,cf,cf,z,B];dsimp only;rw[E,N,bK rfl,bK S,bK M];rfl
  rw[iX.2 ⟨d,C,this⟩] at H;cases H
 rcases eC.1 c with h|h
 ·exact K x h
 rcases eC.1 h with h|h
 ·rcases eC.1 h with h|h
  ·obtain⟨q,l,h⟩:=hq.1 h;exact L q l x h
  obtain⟨q,l,h⟩:=hq.1 h;exact Q q l x h
 exact u x h
theorem agC{k:Int}(h:qc p a k=(q,ab)):bG p=ab/\ ∃(i t:Nat) (P:Part),a=i/\k=t/\p.parts[i]? =aa P/\t<=P.body.length/\(mg p).any (lk p (i:Int) (t:Int))=ak/\q=ga p i 1 [iW P t,j9 P t]/\bG q=ab:=by
 unfold qc at h;split at h
 ·rename_i d;split at h
  ·rename_i P e;split at h
   ·rename_i c;obtain⟨l,rfl,_,m⟩:=CW e;unfold C1 at c;simp only[b9,Bool.not_eq_true',decide_eq_true_eq] at c;obtain⟨t,rfl⟩: ∃t:Nat,k=t:=⟨k.toNat,O⟩
    obtain⟨rfl,n⟩:=tt h;exact⟨d.1,l,t,P,rfl,rfl,m,O,c.2,rfl,n⟩
   cases h
  cases h
 cases h
def f'(k:Nat)(x:az):az:=⟨(x.aT.take k++0::x.aT.drop k).take 4,x.const⟩
def dK(c:Int):az:=⟨[0,0,0,0],c⟩
def iD(k:Nat)(s c:Int):az:=⟨[0,0,0,0].set k s,c⟩
theorem QG(k:Nat): ∀x,cN x=ab->dD 4 (f' k x):=λx a=>by unfold dD f';rw[cZ];omega
theorem aao(l:5000<=n)(m:k<3): ∀x,cN x=ab->wo n x (k:Int)=aa (f' k x):=λx h=>by obtain⟨i,_,_⟩:=fo h;obtain⟨a,b,c,d,e⟩:=mv i;unfold wo;rw[Bd n x h];obtain⟨cs,lD⟩:=x;dsimp only at e;subst e;rcases(O:k=0\/k=1\/k=2) with rfl|rfl|rfl<;>rfl
theorem afW(m:Nat)(a b c d e:Int)(B:az)(h:k<3):ko (m+6) ⟨[a,b,c,d],e⟩ 2 (k:Int) B=aa (f' k ⟨[a,b,c,d],e⟩):=by rcases(O:k=0\/k=1\/k=2) with rfl|rfl|rfl<;>rfl
theorem ab7(h:k<3)(B:az): ∀n,5000<=n-> ∀x,cN x=ab->ko n x 2 (k:Int) B=aa (f' k x):=λn o x i=>by
 obtain⟨m,rfl⟩: ∃m,n=m+6:=⟨n-6,O⟩
 obtain⟨l,_,_⟩:=fo i;obtain⟨a,b,c,d,e⟩:=mv l;obtain⟨cs,lD⟩:=x;dsimp only at e;subst e;exact afW m a b c d lD B h
def ka(l:List az):Bool:=l.all λa=>decide (e8 a.aT=0)
def eG(l:Loop):Bool:=ag (l.lo.length=1)&&(ag (l.hi.length=1)&&(ka l.lo&&ka l.hi))
def cM(l:List az):Int:=(l.headD ⟨[],0⟩).const
theorem M6(c:5000<=n){l:List az}(h:l.length<=2)(d: ∀x∈l,cN x=ab):xo n l=aa (ka l):=by
 unfold xo;rw[zj (p:=λa=>decide (0<(e8 a.aT:Int))) (λx e=>by
  unfold Fl;rw[AF c (show x.aT.length<=1000 by have:=(fo (d x e)).1;omega)];rfl) O O]
 show aa (!l.any _)=_;congr 1;unfold ka
 grind
theorem Hs(e:5000<=n)(h:gW l):wx n l=aa (if eG l=ab then(cM l.lo,cM l.hi,ab) else(0,0,ak)):=by
 obtain⟨⟨i,k⟩,m,o⟩:=h;unfold wx;refine ad.eq (ad.aD (λz=>z= !eG l) (λj a=>?_) λz p=>?_)
 ·refine fl (λh=>a _ ?_) λh=>fl (λq=>a _ ?_) λq=>ae (M6 e i k) (ad.cond (λc=>a _ ?_) λc=>ae (M6 e m o) (a _ ?_))
  ·unfold eG;rw[bJ (show¬l.lo.length=1 by omega)];rfl
  ·unfold eG;rw[bJ (show¬l.hi.length=1 by omega),Bool.false_and,k7];rfl
  ·unfold eG;rw[show ka l.lo=ak by simpa using c];simp
  unfold eG;rw[show ka l.lo=ab by simpa using c,bK (O:l.lo.length=1),bK (O:l.hi.length=1)];rfl
 subst p;cases d:eG l with
 |false=>exact bY (ad.some rfl)
 |true=>
  refine b6 ?_;unfold eG at d;simp only[b9,decide_eq_true_eq] at d;obtain⟨r,s,_⟩:=d;obtain⟨x,w⟩:=q9.1 r;obtain⟨y,A⟩:=q9.1 s;rw[w,A];exact ae (x:=x) rfl (ae (x:=y) rfl (ad.some rfl))
theorem aeh(w:5000<=n)(h:gW l):BX n l=aa (ka l.lo&&ka l.hi):=by
 obtain⟨⟨C,y⟩,F,A⟩:=h;have s: ∀x,cN x=ab->po n x=aa (e8 x.aT:Int):=λx c=>zR w (show x.aT.length<=1000 by have:=(fo c).1;omega);have d: ∀(l:List az) (i:Nat) (x:az),l[i]? =aa x->e8 x.aT=0->ka (l.take i)=ab->ka (l.take (i+1))=ab:=λl i x c o k=>by
  unfold ka at k⊢;rw[eO,c,List.all_append,k];simp[o]
 have p: ∀(l:List az) (i:Nat) (x:az),l[i]? =aa x-> ¬e8 x.aT=0->ka l=ak:=λl i x c o=>by
  unfold ka
  grind
 unfold BX;refine ad.eq (ad.loop (λz:Int=> ∃i:Nat,z=i/\i<=l.lo.length/\ka (l.lo.take i)=ab) (λz=>l.lo.length-z.toNat) ?_ n _ ⟨0,rfl,O,rfl⟩ O);rintro m z ⟨i,rfl,B,k⟩ q;refine aW (λa=>?_) λr=>?_
 ·have a:i<l.lo.length:=O
  have c:=bp a;refine ae (bl c) (ae (s _ (y _ (gC a))) (aW (λo=>ad.some ?_) λo=>?_))
  ·rw[p l.lo i _ c O];rfl
  rw[bc O];exact q _ ⟨i+1,O,O,d _ _ _ c O k⟩ O
 have e:i=l.lo.length:=O
 subst e;rw[dW] at k;rw[k,gr];refine ad.loop (λz:Int=> ∃i:Nat,z=i/\i<=l.hi.length/\ka (l.hi.take i)=ab) (λz=>l.hi.length-z.toNat) ?_ n _ ⟨0,rfl,O,rfl⟩ O;rintro m z ⟨i,rfl,B,k⟩ q;refine aW (λa=>?_) λr=>ad.some ?_
 ·have a:i<l.hi.length:=O
  have c:=bp a;refine ae (bl c) (ae (s _ (A _ (gC a))) (aW (λo=>ad.some ?_) λo=>?_))
  ·exact(p l.hi i _ c O).symm
  rw[bc O];exact q _ ⟨i+1,O,O,d _ _ _ c O k⟩ O
 have e:i=l.hi.length:=O
 grind
theorem GD(d:5000<=n)(h:gW l):wS n l=aa (if eG l=ab then(cM l.lo,cM l.hi,ab) else(0,0,ak)):=by
 unfold wS;refine ad.eq (ad.aD (λz=>z= !eG l) (λj a=>?_) λz e=>?_)
 ·refine fl (λi=>a _ ?_) λi=>fl (λk=>a _ ?_) λk=>ae (aeh d h) (a _ ?_)
  ·unfold eG;rw[bJ (show¬l.lo.length=1 by omega)];rfl
  ·unfold eG;rw[bJ (show¬l.hi.length=1 by omega),Bool.false_and,k7];rfl
  unfold eG;rw[bK (O:l.lo.length=1),bK (O:l.hi.length=1)];rfl
 subst e;cases c:eG l with
 |false=>exact bY (ad.some rfl)
 |true=>
  refine b6 ?_;unfold eG at c;simp only[b9,decide_eq_true_eq] at c;obtain⟨m,o,_⟩:=c;obtain⟨x,p⟩:=q9.1 m;obtain⟨y,q⟩:=q9.1 o;rw[p,q];exact ae (x:=x) rfl (ae (x:=y) rfl (ad.some rfl))
def lq(a c s:Int):Int:=Int.tdiv (max 0 (c-a)+s-1) s
def oM(k:Nat)(s:Int)(P:Part)(l:Loop):Part:=
 ⟨P.nest.take k++(⟨[dK 0],[dK (lq (cM l.lo) (cM l.hi) s)]⟩:Loop)::(⟨[dK (cM l.lo),iD k s (cM l.lo)],[dK (cM l.hi),iD k s (cM l.lo+s)]⟩:Loop)::(P.nest.drop (k+1)).map (c9 (f' k)),P.body.map (gO (f' k))⟩
def qW(p:Prog)(a c s:Int):Prog×Bool:=
 match ax p.parts a with
 |some P=>match ax P.nest c with
  |some l=>if cO p a c=ab/\P.nest.length<4/\(1<=s/\s<=6)/\eG l=ab then hY ⟨p.aQ,p.parts.set a.toNat (oM c.toNat s P l)⟩ else eK
  |none=>eK
 |none=>eK
theorem ED{b:Int}(h:cO p a b≠ab):qW p a b s=eK:=by
 unfold qW
 grind
theorem KI(a:p.parts[i]? =aa P)(c:P.nest[k]? =aa l)(s:Int):
  qW p (i:Int) (k:Int) s=if cO p (i:Int) (k:Int)=ab/\P.nest.length<4/\(1<=s/\s<=6)/\eG l=ab then hY ⟨p.aQ,p.parts.set i (oM k s P l)⟩ else eK:=by unfold qW;rw[bl a];dsimp only;rw[bl c];rfl
theorem yK(h:gW l)(k:eG l=ab): ∃a b,l=⟨[a],[b]⟩/\a=dK (cM l.lo)/\b=dK (cM l.hi)/\cV 99 (cM l.lo)/\cV 99 (cM l.hi):=by
 obtain⟨⟨o,n⟩,p,q⟩:=h;unfold eG at k;simp only[b9,decide_eq_true_eq] at k;obtain⟨r,s,w,A⟩:=k;obtain⟨lo,K⟩:=l;dsimp only at*;obtain⟨x,B⟩:=q9.1 r;obtain⟨y,C⟩:=q9.1 s;subst B;subst C;have m: ∀z:az,cN z=ab->ka [z]=ab->z=dK z.const:=λz F k=>by
  obtain⟨G,_,_⟩:=fo F;obtain⟨a,b,c,d,e⟩:=mv G;obtain⟨cs,lD⟩:=z;dsimp only at e;subst e;unfold ka at k;simp only[List.all_cons,List.all_nil,Bool.and_true,decide_eq_true_eq] at k;have H:=ua (l:=[a,b,c,d]) (i:=0) rfl O;have o:=ua (l:=[a,b,c,d]) (i:=1) rfl O;have n:=ua (l:=[a,b,c,d]) (i:=2) rfl O;have p:=ua (l:=[a,b,c,d]) (i:=3) rfl O;rw[H,o,n,p];rfl
 exact⟨x,y,rfl,m x (n x aX) w,m y (q y aX) A,(fo (n x aX)).2.1,(fo (q y aX)).2.1⟩
theorem Rz{x:Int}(d:cV 99 c)(e:cV 99 x)(h:1<=s/\s<=6):0<=lq c x s/\lq c x s<=198:=by
 unfold cV at d e;unfold lq;rw[EY O];refine⟨Int.ediv_nonneg O O,?_⟩;refine Int.le_trans (Int.ediv_le_ediv (a:=max 0 (x-c)+s-1) (b:=198*s) O ?_) (by rw[Int.mul_ediv_cancel _ O];omega)
 grind
theorem Ph(i:d' r P=ab)(w:P.nest.length<4)(x:k<P.nest.length)(s:Int):gg 4 (oM k s P l):=by
 obtain⟨A,n⟩:=gV i;obtain⟨_,o,p,_⟩:=gy i;refine⟨⟨by simp only[oM,im,List.length_cons,List.length_map,k',lP];omega,λy e=>?_⟩,by simp only[oM,List.length_map];exact o.2,λs q=>?_⟩
 ·have h: ∀c,dD 4 (dK c):=λc=>by unfold dD dK;simp
  have m: ∀s c,dD 4 (iD k s c):=λs c=>by unfold dD iD;simp
  rcases eC.1 e with e|e
  ·exact((ve i).1.2 y (gP e))
  rcases ez.1 e with rfl|e
  ·exact⟨⟨aX,λa d=>by simp at d;subst d;exact h _⟩,aX,λa d=>by simp at d;subst d;exact h _⟩
  rcases ez.1 e with rfl|e
  ·exact⟨⟨aX,λa d=>by simp at d;rcases d with rfl|rfl;exact h _;exact m _ _⟩,aX,λa d=>by simp at d;rcases d with rfl|rfl;exact h _;exact m _ _⟩
  obtain⟨z,h,rfl⟩:=eA.1 e;exact x6 (QG k) (n z (fq h))
 obtain⟨z,h,rfl⟩:=eA.1 q;exact CR (QG k) (p z h)
theorem NR(n:Nat)(a:k<4)(s:Int):ow n (k:Int) s=aa (iD k s 0):=by rcases(O:k=0\/k=1\/k=2\/k=3) with rfl|rfl|rfl|rfl<;>rfl
theorem Bs(n:Nat)(c:Int):qD n c=aa (dK c):=rfl
theorem Re{b:Int}(c:cV 99 a)(d:cV 99 b)(e:1<=s/\s<=6):wr (Int.tdiv (wr ((wr ((max 0 (wr (b-a)))+s))-1)) s)=lq a b s:=by obtain⟨h,i⟩:=Rz c d e;unfold cV at c d;rw[bc (n:=b-a) O,bc (n:=max 0 (b-a)+s) O,bc (n:=max 0 (b-a)+s-1) O];exact bc (by unfold lq at h i;omega)
theorem afv{l:List Loop}(a:k<=l.length)(c:l.length<=1000)(v:Loop):wj n l (k:Int) [v]=aa (l.take k++[v]++l.drop k):=by unfold wj;rw[bK (show(0:Int)<=(k:Int) by omega),bK (show(k:Int)<=(l.length:Int) by omega)];rw[cf];exact c' bQ
theorem aiJ(G:7000<=n)(H:di 1000 p)(c d s:Int):Fo n p c d s=aa (qW p c d s):=by
 unfold Fo;by_cases m:d= -1
 ·subst m;rw[ED (by rw[se O];simp)];refine ad.eq (ae (Bu G H c) ?_);by_cases K:bG p=ab/\eU p c=ab
  ·rw[aR K];have hi:=K.2;unfold eU at hi;simp only[decide_eq_true_eq] at hi;obtain⟨x,u,_⟩:=gU hi.1 hi.2;exact bY (ae u (ad.aD (λz=>z=ab) (λj B=>aW (λ_=>B _ rfl) λh=>bB (show(-1:Int)<0 by omega) h) λz L=>by rw[L];exact bY (ad.some rfl)))
  rw[aP K];exact b6 (ad.some rfl)
 refine ad.eq (ae (xU G H c d m) ?_);by_cases q:cO p c d=ab
 ·rw[aR q];obtain⟨V,i,k,P,l,rfl,rfl,Z,C,hi,Q,o,f⟩:=hZ q;obtain⟨v,g⟩:=gV o;obtain⟨_,D,E,_⟩:=gy o;have r:=g l (bx C);rw[KI Z C];refine bY (ae (bl Z) (ad.aD (λz=>z= !(ag (P.nest.length<4)&&ag (1<=s/\s<=6))) (λj B=>?_) λz L=>?_))
  ·refine aW (λh=>bB h O) λ_=>aW (λh=>B _ ?_) λh=>ae (jE n s 1 6) (B _ ?_)
   ·rw[bJ (show¬P.nest.length<4 by omega)];rfl
   rw[bK (O:P.nest.length<4)];rfl
  subst L;by_cases e:P.nest.length<4
  ·by_cases w:1<=s/\s<=6
   ·rw[bK e,bK w];refine b6 (ae (bl C) (ae (Hs O r) ?_));by_cases A:eG l=ab
    ·rw[aR A,aR ⟨q,e,w,A⟩];obtain⟨a,b,_,_,_,I,M⟩:=yK r A;have W:=zo (n:=n) O (nest:=P.nest) (body:=P.body) (s:=k) O v (λy N=>g y (fq N)) D.2 E (F:=λT=>wo n T (k:Int)) (aao O O);have X:(P.nest.take k++(P.nest.drop k).map (c9 (f' k)))[k]? =aa (c9 (f' k) l):=by
      grind
     refine bY (ae W (ae (dU J _) (ae (x:=()) (by unfold mR;rw[aP O]) (ae (NR n f s) (ae (NR n f s) (ae (Bs n _) (ae (Bs n _) (ae (bl X) (ae (dU bQ _) (ae (Bs n 0) (ae (Bs n _) (ae (afv bQ bQ _) (ae (dU bQ _) ?_)))))))))))));dsimp only;unfold cV at I M;rw[cf,cf,uK,bc (n:=cM l.lo+s) O,Re ⟨O,O⟩ ⟨O,O⟩ w];have cD:P.nest.drop k=l::P.nest.drop (k+1):=hW C;have t:(P.nest.take k).length=k:=by rw[cZ];omega
     have U: ∀R S:Loop,(((P.nest.take k++(P.nest.drop k).map (c9 (f' k))).set k R).take k++[S]++((P.nest.take k++(P.nest.drop k).map (c9 (f' k))).set k R).drop k)=P.nest.take k++S::R::(P.nest.drop (k+1)).map (c9 (f' k)):=λR S=>by
      grind
     rw[U];exact ae (r1 G (yn H i (Ph o e Q s))) (ad.some rfl)
    rw[aP A,aP λh=>A h.2.2.2];exact b6 (ad.some rfl)
   rw[aP λh=>w h.2.2.1,bJ w,k7];exact bY (ad.some rfl)
  rw[aP λh=>e h.2.1,bJ e];exact bY (ad.some rfl)
 rw[aP q,ED q];exact b6 (ad.some rfl)
theorem UJ(a:k<4)(s c:Int):o3 (h8 k) s (dK c) 1=iD k s c:=by rcases(O:k=0\/k=1\/k=2\/k=3) with rfl|rfl|rfl|rfl<;>simp[o3,h8,dK,iD]
theorem U2(a:k<4)(s c e:Int):o3 (iD k s c) 1 (dK e) 1=iD k s (c+e):=by rcases(O:k=0\/k=1\/k=2\/k=3) with rfl|rfl|rfl|rfl<;>simp[o3,dK,iD]
theorem RV(h:cV 1000 c):fQ 1000 (dK c):=⟨rfl,h,λx a=>by simp[dK] at a;subst a;exact⟨O,O⟩⟩
theorem UK(d:cV 1000 s)(h:cV 1000 c):fQ 1000 (iD k s c):=by refine⟨by simp[iD],h,qY (λc a=>?_) d⟩;simp at a;subst a;exact⟨O,O⟩
theorem aj4(F:7000<=n)(A:di 1000 p)(c d s:Int):Fe n p c d s=aa (qW p c d s):=by
 unfold Fe;refine ad.eq (ae (lE O A) ?_);by_cases B:cO p c d=ab
 ·obtain⟨D,i,k,P,l,rfl,rfl,G,H,Z,K,m,C⟩:=hZ B;obtain⟨f,L⟩:=gV m;obtain⟨_,g,t,_⟩:=gy m;have r:=L l (bx H);rw[KI G H];refine ad.aD (λz=>z= !(ag (P.nest.length<4)&&ag (1<=s/\s<=6))) (λj o=>?_) λz w=>?_
  ·refine ae (x:=ab) (by rw[nM F A _ _,B]) ?_;refine b6 (ae (bl G) (aW (λh=>o _ ?_) λh=>aW (λu=>o _ ?_) λu=>o _ ?_))
   ·rw[bJ (show¬P.nest.length<4 by omega)];rfl
   ·rw[bJ (show¬(1<=s/\s<=6) by omega),k7];rfl
   rw[bK (O:P.nest.length<4),gr]
   grind
  subst w;by_cases e:P.nest.length<4
  ·by_cases q:1<=s/\s<=6
   ·rw[bK e,bK q];refine b6 (ae (bl G) (ae (bl H) (ae (GD O r) ?_)));by_cases y:eG l=ab
    ·rw[aR y,aR ⟨B,e,q,y⟩];obtain⟨a,b,_,_,_,Q,W⟩:=yK r y;obtain⟨E,I⟩:=Rz Q W q;unfold cV at Q W;refine b6 (ad.aD (λz=>z=lq (cM l.lo) (cM l.hi) s) (λj o=>aW (λh=>ae (x:=()) (by unfold mR;rw[aP O]) (o _ ?_)) λh=>o _ ?_) λz w=>?_)
     ·dsimp only at h⊢;rw[<-Re ⟨O,O⟩ ⟨O,O⟩ q,bc (n:=cM l.hi-cM l.lo) O,show max 0 (cM l.hi-cM l.lo)=cM l.hi-cM l.lo by omega]
     ·dsimp only at h⊢;unfold lq;rw[show max 0 (cM l.hi-cM l.lo)=0 by omega,EY O];exact(Int.ediv_eq_zero_of_lt O O).symm
     subst w;have X:(P.nest.take k).length=k:=by rw[cZ];omega
     refine ae (AD O O f L g.2 t (ab7 O _)) (ae (BA n C) (ae (ir n _) (ae (uA O ((sI C).mono O) (RV ⟨J,J⟩) ⟨O,O⟩ ⟨O,O⟩) ?_)));dsimp only;rw[UJ C];refine ae (ir n _) (ae (ir n _) (ae (ir n _) (ae (uA O (UK ⟨O,O⟩ ⟨O,O⟩) (RV ⟨O,O⟩) ⟨O,O⟩ ⟨O,O⟩) ?_)));rw[U2 C];refine ae (iR O O bQ) (ae (c' bQ) (ae (show ps n=aa (dK 0) from rfl) (ae (ir n _) (ae (c' bQ) ?_))));rw[bc O];refine ae (iR O bQ aX) (ae (c' bQ) ?_);have v: ∀R S:Loop,([]++((P.nest.take (k+1)++(P.nest.drop (k+1)).map (c9 (f' k))).take (k:Int).toNat).drop (0:Int).toNat++[S,R]++((P.nest.take (k+1)++(P.nest.drop (k+1)).map (c9 (f' k))).take ((P.nest.take (k+1)++(P.nest.drop (k+1)).map (c9 (f' k))).length:Int).toNat).drop ((k:Int)+1).toNat)=P.nest.take k++S::R::(P.nest.drop (k+1)).map (c9 (f' k)):=λR S=>by
      have M:(P.nest.take (k+1)).length=k+1:=by rw[cZ];omega
      rw[cf,cf,show((k:Int)+1).toNat=k+1 by omega,show(0:Int).toNat=0 from rfl,pJ,dW,ss O,List.take_take,Nat.min_eq_left O,EX O,List.drop_of_length_le O];simp
     rw[v];exact ae (xY F A Z ((Ph m e K s).mono O)) (ad.some rfl)
    rw[aP y,aP λh=>y h.2.2.2];exact bY (ad.some rfl)
   rw[aP λh=>q h.2.2.1,bJ q,k7];exact bY (ad.some rfl)
  rw[aP λh=>e h.2.1,bJ e];exact bY (ad.some rfl)
 rw[ED B];refine ad.aD (λz=>z=ab) (λj o=>ae (nM F A _ _) ?_) (λz w=>by rw[w];exact bY (ad.some rfl))
 grind
theorem vE(c:Int)(p:List Int):cT (dK c) p=c:=by
 unfold cT dK
 match p with
 | []=>simp[dx]
 | [a]=>simp[dx]
 | [a,b]=>simp[dx]
 | [a,b,d]=>simp[dx]
 |a::b::d::e::r=>simp[dx]
theorem QX(h:k<4){p:List Int}(e:p.length=k)(s c t:Int):cT (iD k s c) (p++[t])=c+s*t:=by
 unfold cT iD;rcases(O:k=0\/k=1\/k=2\/k=3) with rfl|rfl|rfl|rfl
 ·obtain rfl:=List.length_eq_zero_iff.1 e;simp[dx]
 ·obtain⟨a,rfl⟩:=q9.1 e;simp[dx]
 ·match p,e with
  | [a,b],_=>simp[dx]
 match p,e with
 | [a,b,d],_=>simp[dx]
def jO(k:Nat)(a s:Int)(p:List Int):List Int:=p.take k++(p.getD k 0-a) / s::p.drop k
theorem afQ{p:List Int}(c:k<p.length)(v:Int):jO k a s (p++[v])=jO k a s p++[v]:=by
 unfold jO
 grind
theorem agb{p:List Int}(c:p.length=k){t:Int}(d:a+s*t<=v)(h:v<a+s*t+s):jO k a s (p++[v])=p++[t]++[v]:=by
 subst c;unfold jO;rw[ss (cR _),dW,GS,EX (cR _),oO];have e:(v-a) / s=t:=by
  rw[show v-a=(v-a-s*t)+s*t by omega,Int.add_mul_ediv_left _ _ O,Int.ediv_eq_zero_of_lt O O];omega
 grind
theorem QL{M:Int}{x:az}(i:cN x=ab){p:List Int}(h:k<p.length)(l:p.length<=3):cT (f' k x) (jO k M s p)=cT x p:=by
 obtain⟨a,b,c,d,e⟩:=mv (fo i).1;obtain⟨cs,lD⟩:=x;dsimp only at e;subst e;unfold cT f' jO
 match p,h,l with
 | [u],h,_=>
  obtain rfl:k=0:=by simp at h;omega
  simp[dx]
 | [u,v],h,_=>
  rcases(show k=0\/k=1 by simp at h;omega) with rfl|rfl<;>simp[dx]
 | [u,v,w],h,_=>
  rcases(show k=0\/k=1\/k=2 by simp at h;omega) with rfl|rfl|rfl<;>simp[dx]
theorem PQ{a b:Int}(c:a<=b): ∀n:Nat,cL a b++cL b (b+n)=cL a (b+n)
 |0=>by rw[show b+((0:Nat):Int)=b by omega,ks (gu b),ke]
 |n+1=>by rw[show b+((n+1:Nat):Int)=b+n+1 by omega,pv (O:b<=b+(n:Int)),pv (O:a<=b+(n:Int)),<-fN,PQ c n]
theorem Tt{b:Int}(d:a<=b)(e:b<=c):cL a b++cL b c=cL a c:=by
 have:=PQ d (c-b).toNat
 grind
theorem Nf{lo hi s:Int}(a:0<s): ∀n:Nat,(cL 0 (n:Int)).flatMap (λt=>cL (lo+s*t) (min hi (lo+s*t+s)))=cL lo (min hi (lo+s*(n:Int)))
 |0=>by
  have c:s*((0:Nat):Int)=0:=Int.mul_zero s;rw[ks O,ks O];rfl
 |n+1=>by
  have d:0<=s*(n:Int):=mV O O;have e:s*((n+1:Nat):Int)=s*(n:Int)+s:=by rw[show((n+1:Nat):Int)=(n:Int)+1 by omega,Int.mul_add,Int.mul_one]
  rw[show((n+1:Nat):Int)=(n:Int)+1 by omega,pv O,mc,Nf a n];simp only[List.flatMap_cons,List.flatMap_nil,List.append_nil];rw[show s*((n:Int)+1)=s*(n:Int)+s by rw[Int.mul_add,Int.mul_one]];by_cases h:hi<=lo+s*(n:Int)
  ·rw[ks (O:min hi (lo+s*(n:Int)+s)<=lo+s*(n:Int)),ke];congr 1;omega
  rw[show min hi (lo+s*(n:Int))=lo+s*(n:Int) by omega,Tt O O];congr 1;omega
theorem aa6{hi:Int}(d:1<=s):cL lo hi=(cL 0 (lq lo hi s)).flatMap (λt=>cL (lo+s*t) (min hi (lo+s*t+s))):=by
 have a:lq lo hi s=(max 0 (hi-lo)+s-1) / s:=by unfold lq;exact EY O
 have e:0<=lq lo hi s:=by rw[a];exact Int.ediv_nonneg O O
 have c:=Int.lt_ediv_add_one_mul_self (max 0 (hi-lo)+s-1) (O:0<s);rw[<-a,Int.add_mul,Int.one_mul,Int.mul_comm] at c
 have:=Nf (lo:=lo) (hi:=hi) (O:0<s) (lq lo hi s).toNat
 grind
theorem RP{k:Nat}{a s:Int}: ∀(ls:List Loop) (p:List Int),(∀l∈ls,gW l)->k<p.length->p.length+ls.length<=3->cW (ls.map (c9 (f' k))) (jO k a s p)=(cW ls p).map (jO k a s)
 | [],p,_,_,_=>rfl
 |l::ls,p,h,d,i=>by
  have cI:=h l eD;have m:p.length+(ls.length+1)<=3:=by simpa using i
  have e: ∀{as:List az},(∀x∈as,cN x=ab)->fi (as.map (f' k)) (jO k a s p)=fi as p:=λn=>by
   unfold fi;rw[fv];exact l1 λx c=>QL (n x c) d O
  have o:cP (c9 (f' k) l) (jO k a s p)=cP l p:=by unfold cP c9;rw[e cI.1.2]
  have q:dd (c9 (f' k) l) (jO k a s p)=dd l p:=by unfold dd c9;rw[e cI.2.2]
  simp only[gf,cW];rw[o,q,jt];refine kY λv _=>?_;rw[<-afQ d];exact RP ls (p++[v]) (λx c=>h x (eo _ c)) bQ bQ
theorem aez{b:Int}(i:1<=s)(h: ∀l∈o,gW l){p:List Int}(d:p.length=k)(A:k+1+o.length<=3):
  cW ((⟨[dK 0],[dK (lq a b s)]⟩:Loop)::(⟨[dK a,iD k s a],[dK b,iD k s (a+s)]⟩:Loop)::o.map (c9 (f' k))) p=(cW ((⟨[dK a],[dK b]⟩:Loop)::o) p).map (jO k a s):=by
 have m: ∀(c:Int) (q:List Int) (x:List az),cP ⟨[dK c],x⟩ q=c:=λc q x=>by unfold cP fi;simp[iU,vE]
 have n: ∀(c:Int) (q:List Int) (x:List az),dd ⟨x,[dK c]⟩ q=c:=λc q x=>by unfold dd fi;simp[kZ,vE]
 simp only[cW,m,n];rw[jt,aa6 (lo:=a) (hi:=b) i,List.flatMap_assoc];refine kY λt e=>?_;have e:=(x3.1 e).1;have B:0<=s*t:=mV O e;have r:cP ⟨[dK a,iD k s a],[dK b,iD k s (a+s)]⟩ (p++[t])=a+s*t:=by
  unfold cP fi;simp only[gf,List.map_nil,iU,List.foldl_cons,List.foldl_nil,vE,QX (O:k<4) d];omega
 have w:dd ⟨[dK a,iD k s a],[dK b,iD k s (a+s)]⟩ (p++[t])=min b (a+s*t+s):=by
  unfold dd fi;simp only[gf,List.map_nil,kZ,List.foldl_cons,List.foldl_nil,vE,QX (O:k<4) d];omega
 rw[r,w];refine kY λv y=>?_;obtain⟨z,C⟩:=x3.1 y;rw[<-agb d z O];exact RP o (p++[v]) h bQ bQ
theorem PV{k:Nat}{lo hi s:Int}(c:1<=s){ls:List Loop}(h: ∀l∈ls,gW l)(d:k+1+ls.length<=3): ∀(os:List Loop) (p:List Int),p.length+os.length=k->
  cW (os++(⟨[dK 0],[dK (lq lo hi s)]⟩:Loop)::(⟨[dK lo,iD k s lo],[dK hi,iD k s (lo+s)]⟩:Loop)::ls.map (c9 (f' k))) p=(cW (os++(⟨[dK lo],[dK hi]⟩:Loop)::ls) p).map (jO k lo s)
 | [],p,a=>aez c h (by simpa using a) d
 |o::os,p,a=>by simp only[List.cons_append,cW];rw[jt];refine kY λv _=>?_;exact PV c h d os (p++[v]) (by simp at a ⊢; omega)
theorem aan(d:d' r P=ab)(c:P.nest[k]? =aa l)(i:1<=s)(z:P.nest.length<4)(m:eG l=ab)(n:d' r (oM k s P l)=ab):
  dG (oM k s P l)=(dG P).map (jO k (cM l.lo) s):=by
 obtain⟨A,h⟩:=gV d;have B:=(bS.1 c).1;obtain⟨a,b,o,p,q,_,_⟩:=yK (h l (bx c)) m;rw[l7 n,l7 d];have e:P.nest=P.nest.take k++l::P.nest.drop (k+1):=by rw[<-hW c,mX]
 have:=PV (k:=k) (lo:=cM l.lo) (hi:=cM l.hi) i (ls:=P.nest.drop (k+1)) (λy w=>h y (fq w)) (by rw[fM];omega) (P.nest.take k) [] bQ;have x:(⟨[dK (cM l.lo)],[dK (cM l.hi)]⟩:Loop)=l:=by rw[<-p,<-q];exact o.symm
 rw[x,<-e] at this;exact this
def lg(i k:Nat)(a s:Int)(x:bO):bO:=if x.part=(i:Int) then⟨x.part,x.stmt,jO k a s x.bU⟩ else x
theorem M8: ∀x:bO,x.part≠(i:Int)->lg i k lo s x=x:=λx a=>by unfold lg;rw[aP a]
theorem aiR{x:Part}(a:dG x=(dG P).map (jO k lo s))(c:x.body.length=P.body.length):ew i x=(ew i P).map (lg i k lo s):=by
 unfold ew;rw[a,c,pG,jt];refine kY λq _=>?_;rw[fv];refine l1 λt _=>?_;show _=lg i k lo s _;unfold lg
 grind
theorem MN(F:bG p=ab)(z:p.parts[i]? =aa P)(R:k<P.nest.length)(W:P.nest.length<4)(G:q=⟨p.aQ,p.parts.set i (oM k s P l)⟩)(H:da p x):
  ∃st e d,ep p x=aa st/\ep q (lg i k lo s x)=aa e/\eT st d=ab/\
   (∀a,fY a d=ab->dS q.aQ (if x.part=(i:Int) then gH (f' k) a else a) (lg i k lo s x).bU 0=dS p.aQ a x.bU 0)/\
   (e.write=if x.part=(i:Int) then gH (f' k) st.write else st.write)/\
   (dv 5 e.value=(dv 5 st.value).map λa=>if x.part=(i:Int) then gH (f' k) a else a)/\
   ∀m,er 5 q.aQ m e.value (lg i k lo s x).bU=er 5 p.aQ m st.value x.bU:=by
 obtain⟨A,X,Z,st,d,K,b,B,f,r,o,L,g⟩:=oA F H;have hi:=(bS.1 z).1;subst G;by_cases c:x.part=(i:Int)
 ·obtain rfl:A=i:=O
  rw[z] at B;cases B;have Q:x.bU.length=P.nest.length:=L.1;have n: ∀y,cN y=ab->cT (f' k y) (jO k lo s x.bU)=cT y x.bU:=λy w=>QL w O O;have h:lg A k lo s x=⟨x.part,x.stmt,jO k lo s x.bU⟩:=by unfold lg;rw[aR c]
  refine⟨st,gO (f' k) st,d,r,?_,o,λa C=>?_,?_,?_,λm=>?_⟩
  ·rw[h];unfold ep;dsimp only;rw[K,cf,gD hi];show((P.body.map (gO (f' k)))[x.stmt.toNat]?)=_
   grind
  ·rw[aR c,h];exact yl (λy w=>n y ((lO C).2.2 y w)) _ _
  ·rw[aR c];rfl
  ·simp only[if_pos c];exact CA (gl o).2.1
  rw[h];exact yq n _ m (gl o).2.1
 have h:lg i k lo s x=x:=M8 x c;refine⟨st,st,d,r,?_,o,λa C=>?_,?_,?_,λm=>?_⟩
 ·rw[h,<-r];unfold ep
  grind
 ·rw[aP c,h]
 ·rw[aP c]
 ·simp only[if_neg c,List.map_id']
 rw[h]
theorem aj9(n:bG p=ab)(c:p.parts[i]? =aa P)(B:P.nest[k]? =aa l)(W:1<=s)(o:P.nest.length<4)(X:eG l=ab)(h:q=⟨p.aQ,p.parts.set i (oM k s P l)⟩)(Z:bG q=ab):
  I q.parts=(I p.parts).map (lg i k (cM l.lo) s)/\(∀x∈I p.parts,rc q (lg i k (cM l.lo) s x)=rc p x/\c3 q (lg i k (cM l.lo) s x)=c3 p x)/\ ∀m,c4 q m (I q.parts)=c4 p m (I p.parts):=by
 have hi:=(bS.1 c).1;have C:=(bS.1 B).1;have r:=(dZ n).2.2.2.1 P (bx c);have e:d' p.aQ (oM k s P l)=ab:=by
  have:=(dZ Z).2.2.2.1;subst h;exact this _ (bx (gD hi))
 have F:I q.parts=(I p.parts).map (lg i k (cM l.lo) s):=by
  rw[h];exact S9 c (aiR (aan r B W o X e) (by simp[oM])) M8
 refine⟨F,λx w=>?_,λm=>?_⟩
 ·obtain⟨st,y,d,G,H,z,A,K,L,b⟩:=MN n c C o (lo:=cM l.lo) (s:=s) h (fe w);obtain⟨Q,_,R,_⟩:=gl z;unfold rc c3;rw[G,H];dsimp only;rw[K,L,fv,A _ Q];exact⟨l1 λa f=>A a (R a f),rfl⟩
 unfold c4;rw[F,List.foldl_map];refine wI λx w m=>?_;obtain⟨st,y,d,G,H,z,A,K,L,b⟩:=MN n c C o (lo:=cM l.lo) (s:=s) h (fe w);obtain⟨Q,_,R,_⟩:=gl z;unfold eI
 grind
def e4(P:Part)(a b:Int):Part:=⟨(⟨[dK a],[dK b]⟩:Loop)::P.nest.drop 1,P.body⟩
def qV(p:Prog)(a c:Int):Prog×Bool:=
 match ax p.parts a with
 |some P=>match ax P.nest 0 with
  |some l=>if cO p a 0=ab/\eG l=ab/\cM l.lo<=c/\c<=cM l.hi then hY (ga p a.toNat 1 [e4 P (cM l.lo) c,e4 P c (cM l.hi)]) else eK
  |none=>eK
 |none=>eK
theorem EB(h:cO p a 0≠ab):qV p a c=eK:=by
 unfold qV
 grind
theorem CE{k:Type}{l:List k}{x:k}(h:l[0]? =aa x):ax l 0=aa x:=bl h
theorem KH(a:p.parts[i]? =aa P)(d:P.nest[0]? =aa l)(c:Int):
  qV p (i:Int) c=if cO p (i:Int) 0=ab/\eG l=ab/\cM l.lo<=c/\c<=cM l.hi then hY (ga p i 1 [e4 P (cM l.lo) c,e4 P c (cM l.hi)]) else eK:=by unfold qV;rw[bl a];dsimp only;rw[CE d];rfl
theorem RL(k:d' r P=ab)(a b:Int):gg 4 (e4 P a b):=by
 obtain⟨h,l,m⟩:=ve k;have i: ∀c,dD 4 (dK c):=λc=>by unfold dD dK;simp
 have:=h.1;refine⟨⟨by simp only[e4,List.length_cons,lP];omega,λy e=>?_⟩,l,m⟩;rcases ez.1 e with rfl|e
 ·exact⟨⟨aX,λa d=>by simp at d;subst d;exact i _⟩,aX,λa d=>by simp at d;subst d;exact i _⟩
 exact h.2 y (fq e)
theorem Oa(e:d' r P=ab)(a b c d:Int): ∀y∈[e4 P a b,e4 P c d],gg 1000 y:=by
 intro y h;simp only[List.mem_cons,List.not_mem_nil,or_false] at h;rcases h with rfl|rfl
 ·exact(RL e a b).mono O
 exact(RL e c d).mono O
theorem aee(a:bG p=ab)(c:p.parts[i]? =aa P):cO p (i:Int) 0=ag (0<P.nest.length):=by
 unfold cO;rw[a,bl c,gr]
 grind
theorem acC(a:i<p.parts.length)(A B:Part):(⟨p.aQ,(p.parts.set i A).take (i+1)++[B]++(p.parts.set i A).drop (i+1)⟩:Prog)=ga p i 1 [A,B]:=by
 unfold ga;congr 1;rw[List.take_set,q5 O,eO,bp a,nQ _ _ (by rw[cZ];omega)]
 have:i-(p.parts.take i).length=0:=by rw[cZ];omega
 grind
theorem aiI(t:20000<=n)(F:di 1000 p)(d c:Int):Fq n p d c=aa (qV p d c):=by
 unfold Fq;refine ad.eq (ae (Bu O F d) ?_);by_cases y:bG p=ab/\eU p d=ab
 ·rw[aR y];obtain⟨m,B⟩:=y;have G:0<=d/\d<(p.parts.length:Int):=fF B;obtain⟨i,rfl⟩: ∃i:Nat,d=i:=⟨d.toNat,O⟩
  have q:=bp (O:i<p.parts.length);generalize K:p.parts[i]=P at q;have Q:=(dZ m).2.2.1;have e:=(dZ m).2.2.2.1 P (bx q);obtain⟨W,A⟩:=gV e;have gm:=aee m q;refine bY (ae (bl q) (aW (λz=>ad.some ?_) λz=>?_))
  ·rw[EB (by rw[gm,bJ O];simp)];rfl
  have z:0<P.nest.length:=O
  rw[bK z] at gm;have o:=bp z;generalize P.nest[0]=l at o;have r:=A l (bx o);rw[KH q o];refine ae (CE o) (ae (Hs O r) ?_);by_cases s:eG l=ab
  ·rw[aR s];refine bY (ae (jE n c _ _) ?_);by_cases w:cM l.lo<=c/\c<=cM l.hi
   ·rw[aR ⟨gm,s,w.1,w.2⟩];dsimp only;rw[bK w];obtain⟨a,b,X,Z,f,u,v⟩:=yK r s;have g:=CC (i:=i) (many:=1) (ys:=[e4 P (cM l.lo) c,e4 P c (cM l.hi)]) ((lT m).mono (O:4<=900)) aX (Oa e _ _ _ _);generalize cM l.lo=L at*;generalize cM l.hi=H at*;subst Z;subst f;subst X;have D:P.nest=(⟨[dK L],[dK H]⟩:Loop)::P.nest.drop 1:=by
     have:=hW o
     grind
    have C: ∀R:Loop,P.nest.set (0:Int).toNat R=R::P.nest.drop 1:=λR=>by
     grind
    refine bY (ae (Nj O e) (ae (x:=dK H) rfl (ae (x:=[dK c]) rfl (ae (dU O _) (ae (dU O _) (ae (CE o) (ae (x:=dK L) rfl (ae (x:=[dK c]) rfl (ae (dU O _) ?_)))))))));rw[C,C,bc O,cf];refine ae (QE (i:=i+1) (by rw[e6];omega) (by rw[e6];simp;omega)) ?_;show ad (bN (mD n (⟨p.aQ,(p.parts.set i (e4 P L c)).take (i+1)++[e4 P c H]++(p.parts.set i (e4 P L c)).drop (i+1)⟩:Prog)) _) _;rw[acC O];exact ae (r1 O g) (ad.some rfl)
   rw[aP λh=>w ⟨h.2.2.1,h.2.2.2⟩];dsimp only;rw[bJ w];exact b6 (ad.some rfl)
  rw[aP s,aP λh=>s h.2.1];exact b6 (ad.some rfl)
 rw[aP y,EB λj=>y ?_]
 ·exact b6 (ad.some rfl)
 obtain⟨m,i,k,P,l,rfl,_,E,_,B,_⟩:=hZ j;exact⟨m,bK O⟩
theorem aj3(H:20000<=n)(A:di 1000 p)(a c:Int):Ff n p a c=aa (qV p a c):=by
 unfold Ff;refine ad.eq (ae (lE O A) (ae (nM O A a 0) ?_));cases q:cO p a 0 with
 |false=>
  rw[EB (by rw[q];simp)];exact bY (ad.some rfl)
 |true=>
  obtain⟨C,i,k,P,l,rfl,F,B,r,K,L,d,Q⟩:=hZ q;obtain rfl:k=0:=O
  obtain⟨G,s⟩:=gV d;have w:=s l (bx r);rw[KH B r];refine b6 (ae (bl B) (ae (CE r) (ae (GD O w) ?_)));by_cases m:eG l=ab
  ·rw[aR m];dsimp only;refine ad.aD (λz=>z= !decide (cM l.lo<=c/\c<=cM l.hi)) (λj o=>b6 (aW (λh=>o _ ?_) λh=>o _ ?_)) λz x=>?_
   ·rw[bJ O];rfl
   ·rw[ij];simp only[Bool.not_eq_true',decide_eq_true_eq,decide_eq_false_iff_not];omega
   subst x;by_cases e:cM l.lo<=c/\c<=cM l.hi
   ·rw[aR ⟨q,m,e.1,e.2⟩,bK e];refine b6 (ae (ir n _) (ae (ir n _) (ae (iR O O O) (ae (c' bQ) (ae (ir n _) (ae (ir n _) (ae (iR O O O) (ae (c' bQ) ?_))))))));rw[cf,dW];have y:=G9 (n:=n) O ((lT C).mono (O:4<=900)) (i:=i) (many:=1) O (ys:=[e4 P (cM l.lo) c,e4 P c (cM l.hi)]) aX (Oa d _ _ _ _);exact ae y (ad.some rfl)
   rw[aP λh=>e ⟨h.2.2.1,h.2.2.2⟩,bJ e];exact bY (ad.some rfl)
  rw[aP m,aP λh=>m h.2.1];exact ad.aD (λz=>z=ab) (λj o=>bY (o _ rfl)) λz x=>by rw[x];exact bY (ad.some rfl)
end Go.Lift
