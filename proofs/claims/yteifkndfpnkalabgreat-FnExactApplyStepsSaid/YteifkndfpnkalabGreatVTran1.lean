/- Tools. -/
import Derived.Test.YteifkndfpnkalabGreatVDrawD
set_option maxRecDepth 110000000
set_option linter.unusedVariables false
namespace Go.Lift
open Go
open Option renaming some -> aa, bind -> bQ
open Bool renaming true -> ab, false -> al, and_eq_true -> cB
open Decidable renaming decide -> aj
open List renaming length_append -> iI, all_eq_true -> kr, length_take -> mi, length_drop -> nj, replicate -> dh, map_cons -> hg
section
theorem HS{k:Type}{n:Int}(h:0<=n/\n<=1000000000)(x:k):mk n x=aa (dh n.toNat x):=by unfold mk;rw[bg h]
variable {k n i L many:Nat}{p:Prog}{x y P:Part}{h R:Type}{l:Loop}{F:aE->Option aE}{K:List h->Option R}{Q:R->Prop}{s d a v c:Int}{f:aE->aE}{e:Expr}{r:List cz}{nest:List Loop}{b:aE}{q:List Int}{ys:List Part}
theorem abH(a:b6 p=ab):0<=gY p.a7/\gY p.a7<=144:=by
 obtain⟨c,b,_⟩:=en a
 have:=adq b;omega
theorem Se(b:b6 p=ab){x:cN}(c:gF p x):x.db.length<=4:=by
 obtain⟨i,k,P,s,d,e,h,l,m,n,o,a,q⟩:=vT b c
 have:=a.1;have:=a.2.1;omega
theorem xD{β:Type}{l:List h}{F:h->(β->Option R)->Option R}{g:h->β}{K:List β->Option R}(d: ∀x∈l,∀k:β->Option R,ae (k (g x)) Q->ae (F x k) Q)
  {s:Nat} (A:s<=l.length) {pre:List β} (B:pre.length<=1100000) (C:l.length<=1100000) (D:5500000<=n) (e:ae (K (pre++(l.drop s).map g)) Q):
  ae (bz (λa ((x,i):List β×Int)=>bif aj (i<(l.length:Int)) then(bQ (aB l i) λy=>F y λz=>bQ (app x [z]) λw=>a (w,wr (i+1))) else K x) n (pre,(s:Int))) Q:=by
 refine ae.loop (λz:List β×Int=> ∃i:Nat,z.2=i/\s<=i/\i<=l.length/\z.1=pre++((l.drop s).take (i-s)).map g) (λz=>l.length-z.2.toNat) ?_ n _ ⟨s,rfl,O,O,bl⟩ Z;rintro a ⟨x,z⟩ ⟨i,c,m,G,b⟩ o;dsimp only at c b⊢;subst c;refine a1 (λp=>?_) λq=>?_
 ·have bV:=bC (O:i<l.length);have r:x.length<=2200000:=by rw[b,dP,dF,c6,fN];omega
  refine ah (bo bV) (d _ (bX bV) _ (ah (dM ca) ?_));rw[bc O];refine o _ ⟨i+1,Z,O,O,?_⟩ Z;dsimp only;rw[show i+1-s=(i-s)+1 by omega,eK,fv,show s+(i-s)=i by omega,bV,b,ic,gL];rfl
 have:i=l.length:=O
 subst this;rw[b,jN (by rw[fN];omega)];exact e
theorem oY{H:Type}{l:List H}{f:H->Option h}{g:H->h}(b: ∀x∈l,f x=aa (g x))(c:l.length<=1100000)(d:5500000<=n)(e:ae (K (l.map g)) Q):
  ae (bz (λa ((x,i):List h×Int)=>bif aj (i<(l.length:Int)) then(bQ (aB l i) λy=>bQ (f y) λz=>bQ (app x [z]) λw=>a (w,wr (i+1))) else K x) n ([],0)) Q:=
 xD (F:=λy k=>bQ (f y) k) (g:=g) (s:=0) (pre:=[]) (λx m k o=>ah (b x m) o) O bl c d (by simpa using e)
theorem xN{l:List h}{F:h->(h->Option R)->Option R}{W:List h->Option R->Option R}{m:List h->Int}{g:h->h}
  (A: ∀y o,y.length=l.length->ae o Q->ae (W y o) Q) (B: ∀y:List h,y.length=l.length->m y=(l.length:Int))
  {s:Nat} (f:s<=l.length) (C: ∀x∈l,∀k:h->Option R,ae (k (g x)) Q->ae (F x k) Q) (j:l.length<=1100000) (t:5500000<=n) (D:ae (K (l.take s++(l.drop s).map g)) Q):
  ae (bz (λa ((y,i):List h×Int)=>W y (bif aj (i<m y) then(bQ (aB y i) λx=>F x λz=>bQ (cd y i z) λw=>a (w,wr (i+1))) else K y)) n (l,(s:Int))) Q:=by
 refine ae.loop (λz:List h×Int=> ∃i:Nat,z.2=i/\s<=i/\i<=l.length/\z.1=l.take s++((l.drop s).take (i-s)).map g++l.drop i) (λz=>l.length-z.2.toNat) ?_ n _ ⟨s,rfl,O,O,bl⟩ Z;rintro a ⟨x,z⟩ ⟨i,r,G,u,d⟩ H;dsimp only at r d⊢;subst r;have b:(l.take s++((l.drop s).take (i-s)).map g).length=i:=by rw[dP,dF,c6,c6,fN];omega
 have c:x.length=l.length:=by rw[d,dP,b,fN];omega
 refine A _ _ c ?_;rw[B _ c];refine a1 (λL=>?_) λX=>?_
 ·obtain⟨e,p⟩: ∃e,l[i]? =aa e:=⟨_,bC (O:i<l.length)⟩
  have q:x[i]? =aa e:=by
   grind
  refine ah (bo q) (C _ (bX p) _ (ah (dJ O _) ?_));rw[bc O];refine H _ ⟨i+1,Z,O,O,?_⟩ Z;dsimp only;rw[d,c7,l6 _ _ O,b,kX,kP p,rE,show i+1-s=(i-s)+1 by omega,eK,fv,show s+(i-s)=i by omega,p];simp
 have:i=l.length:=O
 subst this;rw[d,jN (l:=l.drop s) (by rw[fN];omega),o5,jr];exact D
def qn(f:aE->aE)(a:cx):cx:=⟨a.array,a.ba.map f⟩
def qC(f:aE->aE):Nat->Expr->Expr
 |0,e=>e
 |L+1,e=>⟨e.kind,e.num,if e.kind=2 then f e.index else⟨[],0⟩,if e.kind=3 then qn f e.read else⟨[],[]⟩,e.aZ.map (qC f L)⟩
def iF(f:aE->aE)(s:Stmt):Stmt:=⟨qn f s.write,qC f 5 s.value⟩
def d6(f:aE->aE)(l:Loop):Loop:=⟨l.bq.map f,l.aL.map f⟩
theorem o9(h:eJ e d=ab)(a:e.kind=2):de e.index=ab/\kj e.read=ab:=by
 unfold eJ fA at h
 grind
theorem o'(h:eJ e d=ab)(a:e.kind=3):fV e.read d=ab/\iV e.index=ab:=by
 unfold eJ at h
 grind
theorem sa(h:eJ e d=ab)(a: ¬e.kind=2)(b: ¬e.kind=3):iV e.index=ab/\kj e.read=ab:=by
 unfold eJ at h
 grind
theorem pP{a:aE}(h:iV a=ab):a=⟨[],0⟩:=by
 obtain⟨c,k⟩:=a;simp only[iV,cB,decide_eq_true_eq] at h
 grind
theorem pQ{a:cx}(h:kj a=ab):a=⟨[],[]⟩:=by
 obtain⟨c,k⟩:=a;simp only[kj,cB,decide_eq_true_eq] at h
 grind
theorem K4(b:5500000<=n){a:cx}(c:fV a d=ab)(e: ∀x,de x=ab->F x=aa (f x)):q8 n a F=aa (qn f a):=by obtain⟨l,m,h⟩:=mh c;refine ae.eq ?_;unfold q8;exact oY (K:=λi=>aa (⟨a.array,i⟩:cx)) (λx k=>e x (h x k)) O b (ae.some rfl)
theorem LQ{d:Int}{F:aE->Option aE}{f:aE->aE}(c: ∀x,de x=ab->F x=aa (f x)): ∀(L n:Nat) (e:Expr),5500000+L<=n->dD L e d=ab->kb (n+1) e F=aa (qC f L e)
 |0,_,_,_,h=>by cases h
 |L+1,n,e,C,h=>by
  obtain⟨D,k,o⟩:=hn h;obtain⟨n,rfl⟩: ∃j,n=j+1:=⟨n-1,O⟩
  have p:e.aZ.length<=2:=by have:=oW e.kind;omega
  unfold kb;refine ae.eq (ae.aS (λz=>(⟨z.1,z.2.1⟩:aE)=(if e.kind=2 then f e.index else⟨[],0⟩)/\(⟨z.2.2.1,z.2.2.2⟩:cx)=(if e.kind=3 then qn f e.read else⟨[],[]⟩)) (λj i=>?_) λz q=>?_)
  ·refine a1 (λa=>?_) λa=>a1 (λb=>?_) λb=>?_
   ·exact ah (c _ (o9 k a).1) (i _ ⟨by rw[bg a],by rw[be O]⟩)
   ·exact ah (K4 O (o' k b).1 c) (i _ ⟨by rw[be a],by rw[bg b]⟩)
   exact i _ ⟨by rw[be a],by rw[be b]⟩
  obtain⟨r,s,w,y⟩:=z;obtain⟨l,m⟩:=q;dsimp only at l m⊢;refine oY (K:=λA=>aa (⟨e.kind,e.num,(⟨r,s⟩:aE),(⟨w,y⟩:cx),A⟩:Expr)) (λx B=>LQ c L n x O (o x B)) O O (ae.some ?_);rw[l,m];rfl
theorem LO(h:6600000<=n){s:Stmt}(b:eN s d=ab)(a: ∀x,de x=ab->F x=aa (f x)):oS n s F=aa (iF f s):=by
 obtain⟨c,e,_⟩:=ke b;obtain⟨n,rfl⟩: ∃j,n=j+1:=⟨n-1,O⟩
 unfold oS;rw[K4 O c a,LQ a 5 n s.value O e];rfl
theorem HT{k:Type}{f:k->k}: ∀{l:List k},(∀x∈l,f x=x)->l.map f=l
 | [],_=>rfl
 |x::l,h=>by rw[hg,h x fi,HT λy a=>h y (eW _ a)]
theorem Nc{a:cx}(b:fV a d=ab)(c: ∀x,de x=ab->f x=x):qn f a=a:=by obtain⟨i,k,e⟩:=mh b;unfold qn;rw[HT λx h=>c x (e x h)]
theorem Pw{d:Int}{f:aE->aE}(k: ∀x,de x=ab->f x=x): ∀{L:Nat} {e:Expr},dD L e d=ab->qC f L e=e
 |0,_,_=>rfl
 |L+1,e,h=>by
  obtain⟨n,c,l⟩:=hn h;obtain⟨kind,num,index,read,m⟩:=e;unfold qC;dsimp only at n c l⊢;rw[HT λx o=>Pw k (l x o)];by_cases b:kind=2
  ·have a:=o9 c b;dsimp only at a;rw[bg b,be O,k _ a.1,pQ a.2]
  by_cases i:kind=3
  ·have a:=o' c i;dsimp only at a;rw[be b,bg i,Nc a.1 k,pP a.2]
  have a:=sa c b i;dsimp only at a;rw[be b,be i,pP a.1,pQ a.2]
theorem aen(a: ∀x,de x=ab->f x=x){s:Stmt}(b:eN s d=ab):iF f s=s:=by obtain⟨c,e,_⟩:=ke b;unfold iF;rw[Nc c a,Pw a e]
def kE(l:Loop):Prop:=(l.bq.length<=2/\ ∀x∈l.bq,de x=ab)/\l.aL.length<=2/\ ∀x∈l.aL,de x=ab
theorem aeZ{o:List Loop}(h:Fit o): ∀l∈o,kE l:=λl a=>by
 obtain⟨i,b⟩:=jq.1 a
 have:=h.2 i l b;exact⟨(qg this.1).2,(qg this.2).2⟩
theorem ia(h:eM r x=ab):x.nest.length<=4/\ ∀l∈x.nest,kE l:=by have:=(sC (gu h).1).1;exact⟨this.1,aeZ this⟩
theorem QQ{a:aE}(h:de a=ab):fr 4 a:=by have:=(fT h).1;unfold fr;omega
theorem CB{l:List aE}(d:l.length<=2)(b: ∀x∈l,de x=ab):ks 4 l:=⟨O,λa c=>QQ (b a c)⟩
theorem QP{d:Int}: ∀{L:Nat} {e:Expr},dD L e d=ab->kt 4 L e
 |0,_,h=>by cases h
 |L+1,e,h=>by
  obtain⟨l,a,m⟩:=hn h
  have:=oW e.kind;refine⟨O,?_,?_,λk l=>QP (m k l)⟩
  ·by_cases b:e.kind=2
   ·exact QQ (o9 a b).1
   by_cases c:e.kind=3
   ·rw[pP (o' a c).2];unfold fr;simp
   rw[pP (sa a b c).1];unfold fr;simp
  by_cases c:e.kind=3
  ·have:=mh (o' a c).1;exact CB this.2.1 this.2.2
  by_cases b:e.kind=2
  ·rw[pQ (o9 a b).2];exact⟨bl,λx i=>by cases i⟩
  rw[pQ (sa a b c).2];exact⟨bl,λx i=>by cases i⟩
theorem QN{s:Stmt}(a:eN s d=ab):nk 4 s:=by
 obtain⟨b,c,_⟩:=ke a
 have:=mh b;exact⟨CB this.2.1 this.2.2,QP c⟩
theorem uH(h:eM r x=ab):im 4 x:=by obtain⟨c,a⟩:=ia h;obtain⟨_,d,e,_⟩:=gu h;exact⟨⟨c,λl b=>⟨CB (a l b).1.1 (a l b).1.2,CB (a l b).2.1 (a l b).2.2⟩⟩,d.2,λs i=>QN (e s i)⟩
theorem QO{l:List cz}(a:l.length<=4)(b:lk l):xk 4 l:=⟨a,λx c=>by have:=b x c;simp only[jG,cB,decide_eq_true_eq] at this;omega⟩
theorem gH(h:b6 p=ab):eo 4 p:=by obtain⟨a,b,c,d,_⟩:=en h;exact⟨QO a b,c,λx e=>uH (d x e)⟩
theorem Cj{B:Nat}{l:List aE}(h:l.length<=B)(b: ∀x∈l,fr B (f x)):ks B (l.map f):=⟨by rw[dF];exact h,λa c=>by obtain⟨x,d,rfl⟩:=eH.1 c;exact b x d⟩
theorem Qk{d:Int}{f:aE->aE}(b: ∀x,de x=ab->fr 4 (f x)): ∀{L:Nat} {e:Expr},dD L e d=ab->kt 4 L (qC f L e)
 |0,_,h=>by cases h
 |L+1,e,h=>by
  obtain⟨l,m,n⟩:=hn h
  have:=oW e.kind;unfold qC kt;refine⟨by dsimp only;rw[dF];omega,?_,?_,λk l=>?_⟩
  ·dsimp only;by_cases c:e.kind=2
   ·rw[bg c];exact b _ (o9 m c).1
   rw[be c];unfold fr;simp
  ·dsimp only;by_cases i:e.kind=3
   ·rw[bg i]
    have:=mh (o' m i).1;exact Cj O λx a=>b x (this.2.2 x a)
   rw[be i];exact⟨bl,λx a=>by cases a⟩
  obtain⟨x,a,rfl⟩:=eH.1 l;exact Qk b (n x a)
theorem CA(a: ∀x,de x=ab->fr 4 (f x)){s:Stmt}(b:eN s d=ab):nk 4 (iF f s):=by
 obtain⟨c,e,_⟩:=ke b
 have:=mh c;exact⟨Cj O λx h=>a x (this.2.2 x h),Qk a e⟩
theorem xS(b: ∀x,de x=ab->fr 4 (f x))(h:kE l):ks 4 (d6 f l).bq/\ks 4 (d6 f l).aL:=
 ⟨Cj (by have:=h.1.1;omega) λx a=>b x (h.1.2 x a),Cj (by have:=h.2.1;omega) λx a=>b x (h.2.2 x a)⟩
theorem NJ(n:Nat){a:aE}(h:a.aM.length<=1100000):k7 n a=aa a:=by unfold k7 jH;rw[bg O];rfl
theorem AX(n:Nat): ∀x,de x=ab->k7 n x=aa x:=λx a=>NJ n (by have:=(fT a).1;omega)
theorem MB(a:5500000<=n){l:List aE}(e:l.length<=2)(b: ∀x∈l,de x=ab):px n l=aa l:=by unfold px;refine ae.eq (oY (g:=λx=>x) (K:=λc=>aa c) (λx d=>AX n x (b x d)) O a (ae.some ?_));simp
theorem MA(c:5500000<=n)(o:nest.length<=4)(a: ∀l∈nest,kE l):rl n nest=aa nest:=by unfold rl;refine ae.eq ?_;refine xD (β:=Loop) (l:=nest) (n:=n) (F:=λd k=>bQ (px n d.bq) λe=>bQ (px n d.aL) λh=>k (⟨e,h⟩:Loop)) (g:=λx=>x) (s:=0) (pre:=[]) (K:=λi=>aa i) ?_ O bl O c (ae.some bl);exact λx b k m=>ah (MB c (a x b).1.1 (a x b).1.2) (ah (MB c (a x b).2.1 (a x b).2.2) m)
theorem My(b:6600000<=n){s:Stmt}(a:eN s d=ab):wU n s=aa s:=by unfold wU;rw[LO b a (F:=λc=>k7 n c) (f:=λx=>x) (AX n),aen (λ_ _=>rfl) a];rfl
theorem Mz(a:6600000<=n)(h:eM r x=ab):rk n x=aa x:=by obtain⟨b,c⟩:=ia h;obtain⟨_,k,d,_⟩:=gu h;unfold rk;refine ae.eq (ah (MA O b c) (oY (g:=λx=>x) (K:=λe=>aa (⟨x.nest,e⟩:Part)) (λs i=>My a (d s i)) O O (ae.some ?_)));simp
theorem qj(o:6600000<=n)(h:b6 p=ab):oA n p=aa p:=by
 obtain⟨q,r,B,w,_⟩:=en h;unfold oA;refine ae.eq (xD (F:=λm k=>bQ (jH m.b9) λy=>k (⟨m.name,y⟩:cz)) (g:=λx=>x) (s:=0) (pre:=[]) (K:=λz=>bz (λa ((b,c):(List Part)×Int)=>
    bif aj (c<(p.parts.length:Int)) then(
     bQ (aB p.parts c) λd=>
     bQ (rk n d) λe=>
     bQ (app b [e]) λi=>
     a (i,wr (c+1))
    ) else(
     aa (⟨z,b⟩:Prog)
    )
   ) n ([],0)) (λx l k A=>ah (x:=x.b9) ?_ A) O bl O O ?_)
 ·have:=(QO q r).2 x l;unfold jH
  grind
 refine oY (g:=λx=>x) (K:=λb=>aa (⟨_,b⟩:Prog)) (λx l=>Mz o (w x l)) O O (ae.some ?_);simp
theorem gr{k:Type}{a b:List k}(h:b.length=a.length):fe a b=aa ():=by unfold fe;rw[bg h]
theorem KG(e:5500000<=n)(r:kE l)(p: ∀x,de x=ab->F x=aa (f x)):tf n l F=aa (d6 f l):=by
 obtain⟨⟨aP,a2⟩,A,w⟩:=r;unfold tf;refine ae.eq (ae.loop (λz:Loop×Int=>(z.2=0/\z.1=l)\/(z.2=1/\z.1=⟨l.bq.map f,l.aL⟩)\/(z.2=2/\z.1=d6 f l)) (λz=>3-z.2.toNat) ?_ n _ (.inl ⟨rfl,rfl⟩) Z);rintro a ⟨x,i⟩ q b;dsimp only at q b⊢;rcases q with ⟨rfl,rfl⟩|⟨rfl,rfl⟩|⟨rfl,rfl⟩
 ·refine ah (gr rfl) (ah (gr rfl) (a1 (λ_=>a1 (λ_=>?_) λh=>(h rfl).elim) λh=>br h O));refine xN (F:=λx k=>bQ (F x) k) (W:=λ_ o=>o) (m:=λ_=>(x.bq.length:Int)) (g:=f) (s:=0) (K:=λy=>a ((⟨y,x.aL⟩:Loop),wr (0+1))) (λ_ _ _ h=>h) (λ_ _=>rfl) O (λx c k d=>ah (p x (a2 x c)) d) O e ?_;rw[bc O];exact b _ (.inr (.inl ⟨Z,bl⟩)) Z
 ·refine ah (gr bl) (ah (gr rfl) (a1 (λ_=>a1 (λh=>br h O) λ_=>a1 (λ_=>?_) λh=>(h rfl).elim) λh=>br h O));refine xN (F:=λx k=>bQ (F x) k) (W:=λ_ o=>o) (m:=λ_=>(l.aL.length:Int)) (g:=f) (s:=0) (K:=λy=>a ((⟨l.bq.map f,y⟩:Loop),wr (1+1))) (λ_ _ _ h=>h) (λ_ _=>rfl) O (λx c k d=>ah (p x (w x c)) d) O e ?_;rw[bc O];exact b _ (.inr (.inr ⟨Z,by simp[d6]⟩)) Z
 refine ah (gr (by simp[d6])) (ah (gr (by simp[d6])) (a1 (λh=>br h O) λ_=>ae.some rfl))
def qu(k:Nat)(g f:aE->aE)(x:Part)(l:Loop):Part:=⟨x.nest.take k++d6 g l::(x.nest.drop (k+1)).map (d6 f),x.body.map (iF f)⟩
theorem y9(H:6600000<=n){body:List Stmt}{s:Nat}(S:s<=nest.length)(T:nest.length<=4)(L: ∀l∈nest.drop s,kE l)(U:body.length<=4)(Q: ∀s∈body,eN s d=ab)(D: ∀x,de x=ab->F x=aa (f x)):
  pw n ⟨nest,body⟩ (s:Int) F=aa ⟨nest.take s++(nest.drop s).map (d6 f),body.map (iF f)⟩:=by
 have w: ∀(a:List Loop),ae (bz (λb ((y,j):(List Stmt)×Int)=>
    bQ (fe body y) λV=>
    bif aj (j<(body.length:Int)) then(
     bQ (aB y j) λR=>
     bQ (oS n R F) λX=>
     bQ (cd y j X) λt=>
     b (t,wr (j+1))
    ) else(
     aa (⟨a,y⟩:Part)
    )
   ) n (body,0)) (λr=>r=⟨a,body.map (iF f)⟩):=λa=>
  xN (F:=λx k=>bQ (oS n x F) k) (W:=λy o=>bQ (fe body y) λ_=>o) (m:=λ_=>(body.length:Int)) (g:=iF f) (s:=0) (K:=λy=>aa (⟨a,y⟩:Part)) (λy o h u=>ah (gr h) u) (λ_ _=>rfl) O (λx c k v=>ah (LO H (Q x c) D) v) O O (ae.some bl)
 unfold pw;refine ae.eq ?_
 -- the loops ahead stay: only those behind are changed
 refine ae.loop (λz:List Loop×Int=> ∃i:Nat,z.2=i/\s<=i/\i<=nest.length/\z.1=nest.take s++((nest.drop s).take (i-s)).map (d6 f)++nest.drop i) (λz=>nest.length-z.2.toNat) ?_ n _ ⟨s,rfl,O,O,bl⟩ Z;rintro A ⟨x,z⟩ ⟨i,G,E,Y,c⟩ I;dsimp only at G c⊢;subst G;have p:(nest.take s++((nest.drop s).take (i-s)).map (d6 f)).length=i:=by rw[dP,dF,c6,c6,fN];omega
 have B:x.length=nest.length:=by rw[c,dP,p,fN];omega
 refine ah (gr B) (a1 (λM=>?_) λN=>?_)
 ·obtain⟨e,q⟩: ∃e,nest[i]? =aa e:=⟨_,bC (O:i<nest.length)⟩
  have C:x[i]? =aa e:=by
   rw[c,hS O,p,kX,fv];exact q
  have P:e∈nest.drop s:=jq.2 ⟨i-s,by rw[fv,show s+(i-s)=i by omega];exact q⟩;refine ah (bo C) (ah (KG O (L _ P) D) (ah (dJ O _) ?_));rw[bc O];refine I _ ⟨i+1,Z,O,O,?_⟩ Z;dsimp only;rw[c,c7,l6 _ _ O,p,kX,kP q,rE,show i+1-s=(i-s)+1 by omega,eK,fv,show s+(i-s)=i by omega,q];simp
 have:i=nest.length:=O
 subst this;rw[c,jN (l:=nest.drop s) (by rw[fN];omega),o5,jr];exact w _
theorem Hz(c:5500000<=n){l:List aE}(k:l.length<=2)(d: ∀x∈l,de x=ab)(e: ∀x,de x=ab->jB n x a v b=aa (f x)):xa n l a v b=aa (l.map f):=by unfold xa;exact ae.eq (oY (K:=λh=>aa h) (λx i=>e x (d x i)) O c (ae.some rfl))
theorem aa6(d:5500000<=n)(c:kE l)(e: ∀x,de x=ab->jB n x a v b=aa (f x)):xu n l a v b=aa (d6 f l):=by unfold xu;rw[Hz d c.1.1 c.1.2 e,Hz d c.2.1 c.2.2 e];rfl
theorem L2(e:5500000<=n){a:cx}(h:fV a d=ab)(i: ∀x,de x=ab->jB n x c v b=aa (f x)):wE n a c v b=aa (qn f a):=by have:=mh h;unfold wE;rw[Hz e this.2.1 this.2.2 i];rfl
theorem Ni{d a v:Int}{b:aE}{f:aE->aE}(l: ∀n,5500000<=n-> ∀x,de x=ab->jB n x a v b=aa (f x)): ∀(L n:Nat) (e:Expr),5500000+L<=n->dD L e d=ab->rB (n+1) e a v b=aa (qC f L e)
 |0,_,_,_,h=>by cases h
 |L+1,n,e,F,h=>by
  obtain⟨G,m,q⟩:=hn h;obtain⟨n,rfl⟩: ∃j,n=j+1:=⟨n-1,O⟩
  have r:e.aZ.length<=2:=by have:=oW e.kind;omega
  unfold rB;refine ae.eq (ae.aS (λz=>(⟨z.1,z.2⟩:aE)=(if e.kind=2 then f e.index else⟨[],0⟩)) (λj c=>?_) λz o=>ae.aS (λy=>(⟨y.1,y.2⟩:cx)=(if e.kind=3 then qn f e.read else⟨[],[]⟩)) (λj c=>?_) λy p=>?_)
  ·exact a1 (λi=>ah (l _ O _ (o9 m i).1) (c _ (by rw[bg i]))) λi=>c _ (by rw[be i])
  ·exact a1 (λk=>ah (L2 O (o' m k).1 (l _ O)) (c _ (by rw[bg k]))) λk=>c _ (by rw[be k])
  obtain⟨s,w⟩:=z;obtain⟨A,B⟩:=y;dsimp only at o p⊢;refine oY (K:=λC=>aa (⟨e.kind,e.num,(⟨s,w⟩:aE),(⟨A,B⟩:cx),C⟩:Expr)) (λx D=>Ni l L n x O (q x D)) O O (ae.some ?_);rw[o,p];rfl
theorem aa7(w:6600000<=n){l:List Stmt}(e:l.length<=4)(c: ∀s∈l,eN s d=ab)(h: ∀n,5500000<=n-> ∀x,de x=ab->jB n x a v b=aa (f x)):BD n l a v b=aa (l.map (iF f)):=by
 obtain⟨n,rfl⟩: ∃j,n=j+1:=⟨n-1,O⟩
 unfold BD;refine ae.eq ?_;refine xD (β:=Stmt) (l:=l) (n:=n+1) (F:=λi k=>bQ (wE (n+1) i.write a v b) λm=>bQ (rB (n+1) i.value a v b) λo=>k (⟨m,o⟩:Stmt)) (g:=iF f) (s:=0) (pre:=[]) (K:=λp=>aa p) (λx q k r=>?_) O bl O O (ae.some bl);obtain⟨e,c,_⟩:=ke (c x q);exact ah (L2 O e (h _ O)) (ah (Ni h 5 n x.value O c) r)
theorem Av(c:6600000<=n){s:Nat}(r:s+1<=x.nest.length)(w:x.nest.length<=4)(e: ∀l∈x.nest,kE l)(h:x.body.length<=4)(i: ∀s∈x.body,eN s d=ab){way:Int}(a: ∀n,5500000<=n-> ∀x,de x=ab->jB n x way v b=aa (f x)):
  tM n x (s:Int) way v b=aa ⟨x.nest.take (s+1)++(x.nest.drop (s+1)).map (d6 f),x.body.map (iF f)⟩:=by unfold tM;rw[bc O];refine ae.eq (ah (iR O O O) ?_);rw[show((s:Int)+1).toNat=s+1 by omega,show(0:Int).toNat=0 from rfl,p5];refine ah (x:=x.nest.take (s+1)) (dM ca) (ah (aa7 c h i a) ?_);exact xD (F:=λm k=>bQ (xu n m way v b) k) (g:=d6 f) (s:=s+1) (pre:=x.nest.take (s+1)) (K:=λo=>aa (⟨o,x.body.map (iF f)⟩:Part)) (λl p k q=>ah (aa6 O (e l p) (a _ O)) q) O ca O O (ae.some rfl)
theorem NL(n:Nat){a:aE}(h:fr 1100000 a):y4 n a=aa a:=by unfold y4;rw[mE _ h];rfl
theorem As(a:5500000<=n){l:List aE}(h:ks 1100000 l):sF n l=aa l:=by unfold sF;exact ae.eq (mO (K:=λb=>aa b) (λx c=>NL n (h.2 x c)) h.1 a (ae.some rfl))
theorem NM(b:5500000<=n){a:cx}(h:ks 1100000 a.ba):ta n a=aa a:=by unfold ta;rw[As b h];rfl
theorem FK: ∀(L n:Nat) (e:Expr),5500000+L<=n->kt 1100000 L e->o1 (n+1) e=aa e
 |0,_,_,_,h=>h.elim
 |L+1,n,e,l,h=>by
  obtain⟨a,b,c,d⟩:=h;obtain⟨n,rfl⟩: ∃j,n=j+1:=⟨n-1,O⟩
  unfold o1 Kj;rw[NL _ b,NM O c];refine ae.eq (ah rfl (ah rfl (ah (x:=e.aZ) ?_ (ae.some (by cases e;rfl)))));exact ae.eq (mO (f:=o1 (n+1)) (K:=λi=>aa i) (λx k=>FK L n x O (d x k)) a O (ae.some rfl))
theorem YN(a:6600000<=n){s:Stmt}(h:nk 1100000 s):zg n s=aa s:=by
 obtain⟨n,rfl⟩: ∃j,n=j+1:=⟨n-1,O⟩
 unfold zg;rw[NM O h.1,FK 5 n s.value O h.2];rfl
theorem YO(d:6600000<=n)(h:im 1100000 x):zh n x=aa x:=by
 obtain⟨⟨e,c⟩,i,k⟩:=h;have m:vr n x.nest=aa x.nest:=by
  unfold vr;refine ae.eq (mO (K:=λb=>aa b) (λl a=>?_) e O (ae.some rfl));unfold Ec;rw[As O (c l a).1,As O (c l a).2];rfl
 have o:vo n x.body=aa x.body:=by
  unfold vo;exact ae.eq (mO (K:=λb=>aa b) (λl a=>YN d (k l a)) i O (ae.some rfl))
 unfold zh;rw[m,o];rfl
theorem jf(c:6600000<=n)(h:eo 1100000 p):iL n p=aa p:=by
 obtain⟨⟨d,e⟩,i,k⟩:=h;have m:vm n p.a7=aa p.a7:=by
  unfold vm;refine ae.eq (mO (K:=λa=>aa a) (λl b=>?_) d O (ae.some rfl));unfold DS;rw[mE _ (e l b)];rfl
 have o:vp n p.parts=aa p.parts:=by
  unfold vp;exact ae.eq (mO (K:=λa=>aa a) (λl b=>YO c (k l b)) i O (ae.some rfl))
 unfold iL;rw[m,o];rfl
def dj(p:Prog)(b a:Int):Bool:=b6 p&&match aB p.parts b with
 |some x=>decide (0<=a/\a<(x.nest.length:Int))
 |none=>al
theorem x'{k:Type}{l:List k}{i:Int}(h: ¬(0<=i/\i<(l.length:Int))):aB l i=none:=by
 cases a:aB l i with
 |none=>rfl
 |some x=>
  obtain⟨b,c⟩:=kc a
  have:=(d0.1 c).1;exact br ⟨b,O⟩ h
theorem afn{l:List R}{i:Int}{x:R}(h:aB l i=aa x): ∃k:Nat,i=k/\k<l.length/\l[k]? =aa x:=by
 obtain⟨a,b⟩:=kc h
 grind
theorem oR(n:Nat)(h:p.parts.length<=1100000)(a:Int):k6 n p a=aa (aj (0<=a/\a<(p.parts.length:Int))):=by
 unfold k6;rw[jg,bc O]
 grind
theorem xJ(q:7700000<=n)(k:eo 1100000 p)(a b:Int)(r:b≠ -1):jl n p a b=aa (if dj p a b=ab then(p,ab) else(⟨[],[]⟩,al)):=by
 unfold jl;refine ae.eq (ae.aS (λz=>z= !dj p a b) (λj e=>?_) λz l=>?_)
 ·refine ah (sG q k.sm) (ae.cond (λh=>?_) λh=>?_)
  ·refine e _ ?_;unfold dj
   grind
  have o:b6 p=ab:=by simpa using h
  refine ah (oR n k.2.1 a) ?_;by_cases d:0<=a/\a<(p.parts.length:Int)
  ·obtain⟨x,i,m⟩:=pj d.1 d.2;rw[bS d];refine b3 (dL (λ_=>ah (x:=dj p a b) ?_ (e _ rfl)) λh=>br h r);unfold Ki;refine ae.eq (ae.aS (λz=>z=dj p a b) (λj e=>?_) λz l=>ae.some l);rw[oR n k.2.1 a,bS d];refine ah rfl (b7 (ah i ?_))
   have:=(k.2.2 x (bX m)).1.1;rw[bc O,jg];refine ah rfl (e _ ?_);unfold dj
   grind
  rw[bN d];refine b7 (e _ ?_);unfold dj;rw[x' d,ko];rfl
 subst l;by_cases c:dj p a b=ab
 ·rw[c];have o:b6 p=ab:=by unfold dj at c;rw[p3] at c;exact c.1
  obtain⟨x,i⟩: ∃x,aB p.parts a=aa x:=by
   cases i:aB p.parts a with
   |some x=>exact⟨x,rfl⟩
   |none=>unfold dj at c;rw[i,ko] at c;cases c
  exact b3 (ah (qj O o) (ah i (ae.some rfl)))
 rw[show dj p a b=al by simpa using c];exact b7 (ae.some rfl)
def hd(q:Prog):Prog×Bool:=if b6 q=ab then(q,ab) else(⟨[],[]⟩,al)
theorem q9(b:7700000<=n)(c:eo 1100000 p):lP n p=aa (hd p):=by
 unfold lP hd;refine ae.eq (ah (sG b c.sm) (ae.cond (λh=>ae.some ?_) λh=>?_))
 ·rw[be (by simpa using h)]
 have a:b6 p=ab:=by simpa using h
 rw[bg a];exact ah (qj O a) (ae.some rfl)
theorem mZ(i:7700000<=n)(k:eo 1100000 p)(a b:Int):nN n p a b=aa (dj p a b):=by
 unfold nN;refine ae.eq (ae.aS (λz=>z=dj p a b) (λj c=>?_) λz l=>ae.some l);refine ah (jc i k.sm) (ae.cond (λd=>?_) λd=>c _ (by unfold dj;rw[d];rfl));refine a1 (λe=>a1 (λh=>?_) λh=>?_) λe=>?_
 ·obtain⟨x,m,o⟩:=pj e h;refine a1 (λq=>ah m (c _ ?_)) λq=>c _ ?_
  ·unfold dj
   grind
  unfold dj
  grind
 ·exact c _ (by unfold dj;rw[x' O,ko])
 exact c _ (by unfold dj;rw[x' O,ko])
theorem xQ(d:7700000<=n)(a:eo 1100000 p)(e:i<p.parts.length)(k:im 1100000 y):jA n p (i:Int) 1 [y]=aa (hd ⟨p.a7,p.parts.set i y⟩):=by
 have b:=a.2.1;have c:eo 1100000 ⟨p.a7,p.parts.set i y⟩:=⟨a.1,by dsimp only;rw[fX];exact b,xP a.2.2 k⟩
 unfold jA hd;refine ae.eq (ah (oD O a) (ah (iR O O O) ?_));rw[c7,show(0:Int).toNat=0 from rfl,p5];refine ah (x:=p.parts.take i) (dM ca) (ah (x:=p.parts.take i++[y]) (dM ca) ?_);rw[bc O];refine ah (iR O O O) ?_;rw[c7,dZ,show((i:Int)+1).toNat=i+1 by omega];refine ah (x:=p.parts.set i y) ?_ (ah (jc d c.sm) (ae.cond (λh=>ae.some ?_) λh=>?_))
 ·rw[dM ca,List.set_eq_take_append_cons_drop,bg e,gL];rfl
 ·rw[be (by simpa using h)]
 rw[bg (by simpa using h)];exact ah (oD O c) (ae.some rfl)
def fg(a:aE)(k:Int)(b:aE):aE:=⟨List.zipWith (λx y=>x+k*y) a.aM b.aM,a.const+k*b.const⟩
def ho(k:Nat):aE:=⟨[0,0,0,0].set k 1,0⟩
def hF(k:Nat)(b x:aE):aE:=fg x (-(x.aM.getD k 0)) b
def fx(m:Int)(a:aE):Prop:=a.aM.length=4/\c3 m a.const/\ ∀c∈a.aM,c3 m c
theorem fx.mono{m b:Int}{a:aE}(h:fx m a)(e:m<=b):fx b a:=⟨h.1,⟨by have:=h.2.1.1;omega,by have:=h.2.1.2;omega⟩,λc d=>⟨by have:=(h.2.2 c d).1;omega,by have:=(h.2.2 c d).2;omega⟩⟩
theorem mz{l:List Int}(h:l.length=4): ∃a b c d,l=[a,b,c,d]:=by
 match l,h with
 | [a,b,c,d],_=>exact⟨a,b,c,d,rfl⟩
theorem nR{a:aE}(h:de a=ab):fx 99 a:=by obtain⟨e,i,b⟩:=fT h;exact⟨e,i,λc d=>⟨by have:=(b c d).1;omega,by have:=(b c d).2;omega⟩⟩
theorem uu(a:k<4):fx 6 (ho k):=by rcases(O:k=0\/k=1\/k=2\/k=3) with rfl|rfl|rfl|rfl<;>(unfold fx c3 ho;simp)
theorem kC{k b:Int}(a:c3 1000 k)(c:c3 1000 b):c3 1000000 (k*b):=CH O O a c
theorem zX{x:Int}(b:c3 1000 a)(c:c3 1000000 x):wr (a+wr x)=a+x:=by unfold c3 at b c;rw[bc (n:=x) O,bc O]
theorem aeU(m:Nat)(a b c d ac k e h i l n:Int):sr (m+6) ⟨[a,b,c,d],ac⟩ k ⟨[e,h,i,l],n⟩=
  aa ⟨[wr (a+wr (k*e)),wr (b+wr (k*h)),wr (c+wr (k*i)),wr (d+wr (k*l))],wr (ac+wr (k*n))⟩:=J
theorem BW(y:5500000<=n){a:aE}(p:fx 1000 a)(q:fx 1000 b){k:Int}(c:c3 1000 k):sr n a k b=aa (fg a k b):=by
 obtain⟨m,rfl⟩: ∃m,n=m+6:=⟨n-6,O⟩
 obtain⟨ac,a⟩:=a;obtain⟨z,b⟩:=b;obtain⟨h,i,d⟩:=p;obtain⟨l,o,e⟩:=q;dsimp only at h i d l o e;obtain⟨a0,aP,a2,a3,rfl⟩:=mz h;obtain⟨r,s,w,x,rfl⟩:=mz l;rw[aeU,zX (d a0 bl) (kC c (e r bl)),zX (d aP bl) (kC c (e s bl)),zX (d a2 bl) (kC c (e w bl)),zX (d a3 bl) (kC c (e x bl)),zX i (kC c o)];rfl
def ov(a:aE)(x:Int)(b:aE)(y:Int):aE:=⟨List.zipWith (λp q=>x*p+y*q) a.aM b.aM,x*a.const+y*b.const⟩
theorem afc(m:Nat)(a b c d ac x e h i k l y:Int):j3 (m+6) ⟨[a,b,c,d],ac⟩ x ⟨[e,h,i,k],l⟩ y=
  aa ⟨[wr (wr (x*a)+wr (y*e)),wr (wr (x*b)+wr (y*h)),wr (wr (x*c)+wr (y*i)),wr (wr (x*d)+wr (y*k))],wr (wr (x*ac)+wr (y*l))⟩:=J
theorem zY{x:Int}(b:c3 1000000 a)(c:c3 1000000 x):wr (wr a+wr x)=a+x:=by unfold c3 at b c;rw[bc (n:=x) O,bc (n:=a) O,bc O]
theorem tW(A:5500000<=n){a:aE}(p:fx 1000 a)(q:fx 1000 b){x y:Int}(c:c3 1000 x)(d:c3 1000 y):j3 n a x b y=aa (ov a x b y):=by
 obtain⟨m,rfl⟩: ∃m,n=m+6:=⟨n-6,O⟩
 obtain⟨ac,a⟩:=a;obtain⟨B,b⟩:=b;obtain⟨i,k,e⟩:=p;obtain⟨l,o,h⟩:=q;dsimp only at i k e l o h;obtain⟨a0,aP,a2,a3,rfl⟩:=mz i;obtain⟨r,s,w,z,rfl⟩:=mz l;rw[afc,zY (kC c (e a0 bl)) (kC d (h r bl)),zY (kC c (e aP bl)) (kC d (h s bl)),zY (kC c (e a2 bl)) (kC d (h w bl)),zY (kC c (e a3 bl)) (kC d (h z bl)),zY (kC c k) (kC d o)];rfl
theorem HN(a b:aE)(k:Int):ov a 1 b k=fg a k b:=by
 unfold ov fg
 grind
theorem Ql(a b:aE)(k:Int)(c:a.aM.length=4)(d:b.aM.length=4):(fg a k b).aM.length=4:=by
 unfold fg
 grind
def ve(a:aE)(k:Nat)(b:aE):aE:=fg ⟨a.aM.set k 0,a.const⟩ (a.aM.getD k 0) b
theorem O8{a:aE}(h:fx 1000 a)(k:Nat):fx 1000 ⟨a.aM.set k 0,a.const⟩:=⟨by dsimp only;rw[fX];exact h.1,h.2.1,xP h.2.2 ⟨O,O⟩⟩
theorem Pk{a:aE}(h:fx 1000 a)(c:k<4):a.aM[k]? =aa (a.aM.getD k 0)/\c3 1000 (a.aM.getD k 0):=by
 have b:k<a.aM.length:=by rw[h.1];exact c
 have e:=bC b;have d:a.aM.getD k 0=a.aM[k]:=by rw[fc,e];rfl
 rw[d];exact⟨e,h.2.2 _ (fW b)⟩
theorem FM(e:5500000<=n){a:aE}(c:fx 1000 a)(h:fx 1000 b)(d:k<4):uD n a (k:Int) b=aa (ve a k b):=by
 obtain⟨i,l⟩:=Pk c d;have m:k<a.aM.length:=by rw[c.1];exact d
 unfold uD;rw[NJ n (by have:=c.1;omega)];refine ae.eq (ah rfl (ah (bo i) (ah (dJ O _) (ah (BW e (O8 c k) h l) (ae.some rfl)))))
theorem Mb(h:5500000<=n){a:aE}(c:fx 1000 a)(i:fx 1000 b)(d:k<4):AP n a (k:Int) b=aa (ve a k b):=by
 obtain⟨e,l⟩:=Pk c d;have m:k<a.aM.length:=by rw[c.1];exact d
 unfold AP;rw[mE _ (by have:=c.1;omega)];refine ae.eq (ah rfl (ah (bo e) (ah (dJ O _) (ah (bo e) (ah (tW h (O8 c k) i ⟨O,O⟩ l) (ae.some ?_))))));rw[HN];rfl
theorem BV(n:Nat)(a:k<4):nH n (k:Int) 1=aa (ho k):=by rcases(O:k=0\/k=1\/k=2\/k=3) with rfl|rfl|rfl|rfl<;>rfl
theorem BB(n:Nat)(a:k<4):uz n (k:Int)=aa (ho k):=by rcases(O:k=0\/k=1\/k=2\/k=3) with rfl|rfl|rfl|rfl<;>rfl
def nP(k:Nat)(b:aE):aE:=fg (ho k) (-1) b
theorem H4{a:aE}(d:a.aM.length=4)(e:b.aM.length=4)(h:k<4)(c:b.aM.getD k 0=0):ve a k (nP k b)=hF k b a:=by
 obtain⟨a,ac⟩:=a;obtain⟨b,i⟩:=b;dsimp only at d e c;obtain⟨a0,aP,a2,a3,rfl⟩:=mz d;obtain⟨l,m,n,o,rfl⟩:=mz e;rcases(O:k=0\/k=1\/k=2\/k=3) with rfl|rfl|rfl|rfl<;>
  (simp only[List.getD_cons_zero,List.getD_cons_succ] at c;subst c;simp[ve,nP,hF,fg,ho,Int.mul_neg,Int.neg_mul])
def ev:Prog×Bool:=(⟨[],[]⟩,al)
def uK(p:Prog)(a b:Int)(g f:aE->aE):Prog×Bool:=
 match aB p.parts a with
 |some P=>match aB P.nest b with
  |some l=>hd ⟨p.a7,p.parts.set a.toNat (qu b.toNat g f P l)⟩
  |none=>ev
 |none=>ev
theorem kg{b:Int}(h:dj p a b=ab):b6 p=ab/\ ∃(i k:Nat) (P:Part) (l:Loop),a=i/\b=k/\p.parts[i]? =aa P/\P.nest[k]? =aa l/\i<p.parts.length/\k<P.nest.length/\eM p.a7 P=ab/\k<4:=by
 unfold dj at h;rw[p3] at h;obtain⟨m,h⟩:=h;refine⟨m,?_⟩;cases d:aB p.parts a with
 |none=>rw[d] at h;cases h
 |some P=>
  rw[d] at h;obtain⟨i,rfl,o,n⟩:=afn d;obtain⟨q,r⟩:=e3 h;obtain⟨l,s,e⟩:=pj q r;have c:=(en m).2.2.2.1 P (bX n)
  have:=(ia c).1;exact⟨i,b.toNat,P,l,rfl,O,n,e,o,O,c,O⟩
theorem Cc(b:eM r P=ab)(d:P.nest[k]? =aa l){g:aE->aE}(i: ∀x,de x=ab->fr 4 (g x))(e: ∀x,de x=ab->fr 4 (f x)):im 4 (qu k g f P l):=by
 obtain⟨p,h⟩:=ia b;obtain⟨_,m,n,_⟩:=gu b;have q:=(d0.1 d).1;refine⟨⟨by simp only[qu,iI,List.length_cons,List.length_map,mi,nj];omega,λy a=>?_⟩,by simp only[qu,List.length_map];exact m.2,λs o=>?_⟩
 ·rcases eX.1 a with a|a
  ·exact((uH b).1.2 y (gn a))
  rcases eg.1 a with rfl|a
  ·exact xS i (h l (bX d))
  obtain⟨z,c,rfl⟩:=eH.1 a;exact xS e (h z (ft c))
 obtain⟨z,c,rfl⟩:=eH.1 o;exact CA e (n z c)
theorem x7(a:eo 1100000 p)(i:Nat)(b:im 4 y):eo 1100000 ⟨p.a7,p.parts.set i y⟩:=⟨a.1,by dsimp only;rw[fX];exact a.2.1,xP a.2.2 (b.mono O)⟩
theorem xT{k:Int}(a:b.aM.length=4): ∀x,de x=ab->fr 4 (fg x k b):=λx c=>by have:=Ql x b k (fT c).1 a;unfold fr;omega
theorem CR(a:b.aM.length=4): ∀x,de x=ab->fr 4 (hF k b x):=λx c=>xT a x c
theorem H0(s:k<4)(h:fx 6 b):fx 1000 (nP k b):=by
 obtain⟨b,w⟩:=b;obtain⟨d,e,a⟩:=h;dsimp only at d e a;obtain⟨i,l,m,n,rfl⟩:=mz d;have o:=a i bl;have p:=a l bl;have q:=a m bl;have r:=a n bl;unfold c3 at e o p q r;rcases(O:k=0\/k=1\/k=2\/k=3) with rfl|rfl|rfl|rfl<;>
  (refine⟨rfl,?_,λc x=>?_⟩<;>unfold c3<;>simp[nP,ho,fg] at* <;>omega)
theorem aeo(a:k<4)(c:fx 6 b)(e:b.aM.getD k 0=0): ∀n,5500000<=n-> ∀x,de x=ab->jB n x 1 (k:Int) (nP k b)=aa (hF k b x):=λn h x d=>by unfold jB;rw[Mb h ((nR d).mono O) (H0 a c) a,H4 (nR d).1 c.1 a e];rfl
theorem take_set{l r:List R}{x y:R}(h:l[k]? =aa x):(l.take (k+1)++r).set k y=l.take k++y::r:=by have a:=(d0.1 h).1;rw[eK,h,gL,l6 _ _ ca,c6,zP O,kX];rfl
theorem Ps(C:6600000<=n)(z:eM r P=ab)(m:P.nest[k]? =aa l)(o:k<4)(p:fx 6 b)(D:b.aM.getD k 0=0):
  xt n P (k:Int) b=aa (qu k (λx=>fg x 1 b) (hF k b) P l):=by
 obtain⟨F,A⟩:=ia z;obtain⟨_,G,H,_⟩:=gu z;have L:=(d0.1 m).1;have c:=A l (bX m);have B: ∀x,de x=ab->j3 n x 1 b 1=aa (fg x 1 b):=λx e=>by
  rw[tW O ((nR e).mono O) (p.mono O) ⟨O,O⟩ ⟨O,O⟩,HN]
 unfold xt;simp only[bo m,Option.bind_some];refine ae.eq (ah (BB n o) (ah (tW O ((uu o).mono O) (p.mono O) ⟨O,O⟩ ⟨O,O⟩) ?_));rw[HN];refine ah (Av C O F A G.2 H (aeo o p D)) ?_;refine oY (n:=n) (l:=l.bq) (f:=λx=>j3 n x 1 b 1) (K:=λQ=>bz (λa ((d,h):(List aE)×Int)=>
    bif aj (h<(l.aL.length:Int)) then(
     bQ (aB l.aL h) λq=>
     bQ (j3 n q 1 b 1) λs=>
     bQ (app d [s]) λw=>
     a (w,wr (h+1))
    ) else(
     bQ (aB (P.nest.take (k+1)++(P.nest.drop (k+1)).map (d6 (hF k b))) (k:Int)) λy=>
     bQ (cd (P.nest.take (k+1)++(P.nest.drop (k+1)).map (d6 (hF k b))) (k:Int) (⟨Q,d⟩:Loop)) λi=>
     aa (⟨i,P.body.map (iF (hF k b))⟩:Part)
    )
   ) n ([],0)) (λx e=>B x (c.1.2 x e)) (by have:=c.1.1;omega) O ?_
 refine oY (n:=n) (l:=l.aL) (f:=λx=>j3 n x 1 b 1) (g:=λx=>fg x 1 b) (K:=λd=>bQ (aB (P.nest.take (k+1)++(P.nest.drop (k+1)).map (d6 (hF k b))) (k:Int)) λy=>bQ (cd (P.nest.take (k+1)++(P.nest.drop (k+1)).map (d6 (hF k b))) (k:Int) (⟨l.bq.map λx=>fg x 1 b,d⟩:Loop)) λi=>aa (⟨i,P.body.map (iF (hF k b))⟩:Part)) (λx e=>B x (c.2.2 x e)) (by have:=c.2.1;omega) O ?_;have e:(P.nest.take (k+1)++(P.nest.drop (k+1)).map (d6 (hF k b)))[k]? =aa l:=by
  grind
 refine ah (bo e) (ah (dJ ca _) (ae.some ?_));rw[c7,take_set m];rfl
def gK(s:Int):aE:=⟨[0,0,0,0],s⟩
theorem CI(h: -6<=s/\s<=6):fx 6 (gK s):=by unfold gK fx c3;simp;omega
theorem QU(s:Int)(a:k<4):(gK s).aM.getD k 0=0:=by rcases(O:k=0\/k=1\/k=2\/k=3) with rfl|rfl|rfl|rfl<;>rfl
def uS(p:Prog)(c a b:Int):Prog×Bool:=
 if dj p c a=ab/\(-6<=b/\b<=6) then uK p c a (λx=>fg x 1 (gK b)) (hF a.toNat (gK b)) else ev
theorem Nl(n:Nat)(s:Int):xG n s=aa (aj (-6<=s/\s<=6)):=by unfold xG;rw[jg];rfl
theorem rs{b:Int}(h:a<0):dj p b a=al:=by
 cases c:dj p b a with
 |false=>rfl
 |true=>obtain⟨_,i,k,P,l,_,d,_⟩:=kg c;omega
theorem A1(a:p.parts[i]? =aa P)(b:P.nest[k]? =aa l)(g f:aE->aE):uK p (i:Int) (k:Int) g f=hd ⟨p.a7,p.parts.set i (qu k g f P l)⟩:=by unfold uK;rw[bo a];dsimp only;rw[bo b];rfl
theorem Y1(q:7700000<=n)(m:eo 1100000 p)(a b c:Int):EJ n p a b c=aa (uS p a b c):=by
 unfold EJ uS;refine ae.eq (ah (jf O m) (ae.aS (λz=>z= !(dj p a b&&aj (-6<=c/\c<=6))) (λj r=>?_) λz x=>?_))
 ·refine ah (mZ q m a b) (ae.cond (λh=>r _ ?_) λh=>ah (zq n c 6 O) (r _ ?_))
  ·rw[show dj p a b=al by simpa using h];rfl
  rw[show dj p a b=ab by simpa using h];rfl
 subst x;by_cases d:dj p a b=ab/\(-6<=c/\c<=6)
 ·rw[bg d,d.1,bS d.2];refine b3 ?_;obtain⟨D,i,k,P,l,rfl,rfl,s,o,y,A,e,w⟩:=kg d.1;refine ah (bo s) (ah (nL n c) (ah (Ps O e o w (CI d.2) (QU _ w)) (ah (xQ q m y ((Cc e o (xT (CI d.2).1) (CR (CI d.2).1)).mono O)) (ae.some ?_))));rw[A1 s o];rfl
 rw[be d,show(dj p a b&&aj (-6<=c/\c<=6))=al by
  cases B:dj p a b with
  |false=>rfl
  |true=>exact bN λC=>d ⟨B,C⟩]
 exact b7 (ae.some rfl)
theorem aam(c:5500000<=n)(h: -6<=s/\s<=6): ∀x,de x=ab->y' n x s=aa (fg x 1 (gK s)):=λx a=>by unfold y';have d:pK n 1=aa ⟨[0,0,0,0],1⟩:=rfl;rw[d];refine ae.eq (ah rfl (ah (BW c ((nR a).mono O) (b:=⟨[0,0,0,0],1⟩) (by unfold fx c3;simp) ⟨O,O⟩) (ae.some ?_)));unfold fg gK;obtain⟨a0,aP,a2,a3,e⟩:=mz (fT a).1;rw[e];simp
theorem aal(c:5500000<=n)(a:k<4)(d: -6<=s/\s<=6): ∀x,de x=ab->v8 n x (k:Int) (⟨(ho k).aM,wr (0-s)⟩:aE)=aa (hF k (gK s) x):=λx b=>by
 have e:(⟨(ho k).aM,wr (0-s)⟩:aE)=nP k (gK s):=by
  rw[bc O];rcases(O:k=0\/k=1\/k=2\/k=3) with rfl|rfl|rfl|rfl<;>(unfold ho nP gK fg ho;simp)
 unfold v8;rw[e,FM c ((nR b).mono O) (H0 a (CI d)) a,H4 (nR b).1 rfl a (QU _ a)];rfl
theorem Be(e:7700000<=n)(d:eo 1100000 p)(a:Int):ae (jl n p a (-1)) (λr=>r.2=al->r=ev):=by
 unfold jl;refine ae.aS (λz=>z=al->b6 p=ab/\(0<=a/\a<(p.parts.length:Int))) (λj b=>?_) λz i=>?_
 ·refine ah (sG e d.sm) (ae.cond (λh=>b _ λh=>by cases h) λh=>?_);refine ah (oR n d.2.1 a) (ae.cond (λh=>b _ λh=>by cases h) λc=>dL (λh=>(h rfl).elim) λ_=>b _ λ_=>⟨by simpa using h,by simpa using c⟩)
 refine ae.cond (λ_=>ae.some λ_=>rfl) λh=>?_;obtain⟨k,l,c⟩:=i h;obtain⟨x,m,o⟩:=pj l c;exact ah (qj O k) (ah m (ae.some λh=>by cases h))
theorem ZO(r:7700000<=n)(w:eo 1100000 p)(b c a:Int):EA n p b c a=aa (uS p b c a):=by
 unfold EA uS;by_cases d:c= -1
 ·subst d;rw[be λh=>by rw[rs O] at h;cases h.1];refine ae.eq (hE (Be r w b) λg L=>ae.cond (λ_=>ae.aS (λz=>z=ab) (λj A=>a1 (λ_=>A _ rfl) λh=>br (show(-1:Int)<0 by omega) h) λz B=>by rw[B];exact b7 (ae.some rfl)) λ_=>ae.some rfl)
 refine ae.eq (ah (xJ r w b c d) ?_);by_cases e:dj p b c=ab
 ·rw[bg e];refine b7 (ae.aS (λz=>z= !decide (-6<=a/\a<=6)) (λj A=>?_) λz B=>?_)
  ·refine a1 (λh=>?_) λ_=>ah (Nl n a) (A _ rfl);rw[rs h] at e;cases e
  subst B;by_cases o: -6<=a/\a<=6
  ·rw[bg ⟨e,o⟩,bS o];refine b3 ?_;obtain⟨t,i,k,P,l,rfl,rfl,D,q,u,Q,m,G⟩:=kg e;obtain⟨L,H⟩:=ia m;obtain⟨_,R,W,_⟩:=gu m;refine ah (bo D) (ah (bo q) (ah (KG O (H l (bX q)) (aam O o)) (ah (dJ O _) (ah (dJ Z _) (ah (BV n G) ?_)))));rw[bc (n:=(k:Int)+1) O];have C:=y9 (n:=n) O (nest:=P.nest.set k (d6 (λx=>fg x 1 (gK a)) l)) (body:=P.body) (s:=k+1) ca ca (λy K=>by
    rw[o4 O] at K;exact H y (ft K)) R.2 W (F:=λX=>v8 n X (k:Int) (⟨(ho k).aM,wr (0-a)⟩:aE)) (aal O G o)
   rw[c7,c7];refine ah C (ah (dJ ca _) ?_);rw[c7,lx];have f:(⟨(P.nest.set k (d6 (λx=>fg x 1 (gK a)) l)).take (k+1)++((P.nest.set k (d6 (λx=>fg x 1 (gK a)) l)).drop (k+1)).map (d6 (hF k (gK a))),P.body.map (iF (hF k (gK a)))⟩:Part)=qu k (λx=>fg x 1 (gK a)) (hF k (gK a)) P l:=by
    rw[o4 O,eK,hR O,List.take_set_of_le (df k),gL];rfl
   rw[f];refine ah (q9 r (x7 w i (Cc m q (xT rfl) (CR rfl)))) (ae.some ?_);rw[A1 D q]
  rw[be λh=>o h.2,bN o];exact b7 (ae.some rfl)
 rw[be e,be λh=>e h.1];exact b3 (ae.some rfl)
theorem abn{k:Type}{l:List k}{x:k}(h:l[i]? =aa x):l.set i x=l:=by
 refine List.ext_getElem? (λj=>?_)
 grind
def fM(k:Nat)(s:Int):aE:=⟨[0,0,0,0].set k s,0⟩
theorem sp(k:Nat)(h: -6<=s/\s<=6):fx 6 (fM k s):=by refine⟨by simp[fM],⟨by simp[fM],by simp[fM]⟩,xP (λc a=>?_) ⟨h.1,h.2⟩⟩;simp at a;subst a;exact⟨O,O⟩
theorem QT(s:Int)(a:k+1<4):(fM k s).aM.getD (k+1) 0=0:=by rcases(O:k=0\/k=1\/k=2) with rfl|rfl|rfl<;>rfl
def u5(p:Prog)(b a s:Int):Prog×Bool:=
 if dj p b a=ab/\dj p b (a+1)=ab/\(-6<=s/\s<=6) then uK p b (a+1) (λx=>fg x 1 (fM a.toNat s)) (hF (a.toNat+1) (fM a.toNat s)) else ev
theorem ae4(a:k<4)(s:Int):ov (ho k) s ⟨[0,0,0,0],0⟩ 0=fM k s:=by rcases(O:k=0\/k=1\/k=2\/k=3) with rfl|rfl|rfl|rfl<;>simp[ov,ho,fM]
theorem ae6(c:k<4)(s:Int){a:aE}(b:a.aM.length=4):fg a s (ho k)=fg a 1 (fM k s):=by obtain⟨a0,aP,a2,a3,e⟩:=mz b;rcases(O:k=0\/k=1\/k=2\/k=3) with rfl|rfl|rfl|rfl<;>simp[fg,ho,fM,e]
theorem afB(a:k+1<4)(s:Int):fg (ho (k+1)) (-s) (ho k)=nP (k+1) (fM k s):=by rcases(O:k=0\/k=1\/k=2) with rfl|rfl|rfl<;>simp[nP,fg,ho,fM]
theorem aaZ(q:7700000<=n)(m:eo 1100000 p)(a b s:Int):Am n p a b s=aa (u5 p a b s):=by
 unfold Am u5;refine ae.eq (ah (jf O m) (ae.aS (λz=>z= !(dj p a b&&(dj p a (b+1)&&aj (-6<=s/\s<=6)))) (λj r=>?_) λz C=>?_))
 ·refine ah (mZ q m a b) (ae.cond (λh=>r _ ?_) λh=>?_)
  ·rw[show dj p a b=al by simpa using h];rfl
  have e:dj p a b=ab:=by simpa using h
  obtain⟨D,i,k,P,l,rfl,rfl,w,o,B,y,d,A⟩:=kg e;rw[bc O];refine ah (mZ q m _ _) (ae.cond (λh=>r _ ?_) λh=>ah (zq n s 6 O) (r _ ?_))
  ·rw[e,show dj p (i:Int) ((k:Int)+1)=al by simpa using h];rfl
  rw[e,show dj p (i:Int) ((k:Int)+1)=ab by simpa using h];rfl
 subst C;by_cases c:dj p a b=ab/\dj p a (b+1)=ab/\(-6<=s/\s<=6)
 ·rw[bg c,c.1,c.2.1,bS c.2.2];refine b3 ?_;obtain⟨D,i,cA,P,l,rfl,F,w,o,B,y,d,A⟩:=kg c.2.1;obtain⟨_,L,k,Q,R,G,rfl,_⟩:=kg c.1;obtain rfl:cA=k+1:=O
  refine ah (BB n O) (ah (x:=⟨[0,0,0,0],0⟩) rfl (ah (tW O ((uu O).mono O) (by unfold fx c3;simp) ⟨O,O⟩ ⟨O,O⟩) ?_));rw[ae4 O,bc O];refine ah (bo w) (ah (Ps O d o A (sp k c.2.2) (QT s A)) (ah (xQ q m B ((Cc d o (xT (sp k c.2.2).1) (CR (sp k c.2.2).1)).mono O)) (ae.some ?_)));show hd _=_;rw[show((k:Int)+1)=((k+1:Nat):Int) by omega,A1 w o];rfl
 rw[be c,show(dj p a b&&(dj p a (b+1)&&aj (-6<=s/\s<=6)))=al by
  cases e:dj p a b with
  |false=>rfl
  |true=>cases H:dj p a (b+1) with
   |false=>rfl
   |true=>exact bN λK=>c ⟨e,H,K⟩]
 exact b7 (ae.some rfl)
theorem abm(c:5500000<=n)(a:k<4)(d: -6<=s/\s<=6): ∀x,de x=ab->zk n x s (k:Int)=aa (fg x 1 (fM k s)):=λx b=>by unfold zk;rw[BV n a];refine ae.eq (ah rfl (ah (BW c ((nR b).mono O) ((uu a).mono O) ⟨O,O⟩) (ae.some (ae6 a s (fT b).1))))
theorem abl(d:5500000<=n)(a:k+1<4)(b: -6<=s/\s<=6): ∀x,de x=ab->we n x (k:Int) (nP (k+1) (fM k s))=aa (hF (k+1) (fM k s) x):=λx c=>by unfold we;rw[bc O,show((k:Int)+1)=((k+1:Nat):Int) by omega,FM d ((nR c).mono O) (H0 a (sp k b)) a,H4 (nR c).1 (sp k b).1 a (QT s a)];rfl
theorem aaB(B:7700000<=n)(C:eo 1100000 p)(a b s:Int):Ay n p a b s=aa (u5 p a b s):=by
 unfold Ay u5;by_cases d:b= -1
 ·subst d;rw[be λh=>by rw[rs O] at h;cases h.1];refine ae.eq (hE (Be B C a) λv Q=>ae.cond (λ_=>ae.aS (λz=>z=ab) (λj r=>a1 (λ_=>r _ rfl) λh=>br (show(-1:Int)<0 by omega) h) λz D=>by rw[D];exact b7 (ae.some rfl)) λ_=>ae.some rfl)
 refine ae.eq (ah (xJ B C a b d) ?_);by_cases o:dj p a b=ab
 ·rw[bg o];obtain⟨R,i,k,P,E,rfl,rfl,w,W,I,X,m,G⟩:=kg o;obtain⟨Q,K⟩:=ia m;obtain⟨_,f,g,_⟩:=gu m;have q:dj p (i:Int) ((k:Int)+1)=aj (k+1<P.nest.length):=by
   unfold dj;rw[R,bo w];exact decide_eq_decide.2 O
  refine b7 (ae.aS (λz=>z= !(aj (k+1<P.nest.length)&&aj (-6<=s/\s<=6))) (λj r=>?_) λz D=>?_)
  ·refine a1 (λh=>br h O) λ_=>ah (bo w) ?_;rw[bc O];refine a1 (λh=>r _ ?_) λh=>ah (Nl n s) (r _ ?_)
   ·rw[bN (show¬k+1<P.nest.length by omega)];rfl
   rw[bS (O:k+1<P.nest.length)];rfl
  subst D;by_cases c:k+1<P.nest.length
  ·by_cases e: -6<=s/\s<=6
   ·rw[bg ⟨o,by rw[q,bS c],e⟩,bS e,bS c];refine b3 ?_;obtain⟨l,A⟩: ∃l,P.nest[k+1]? =aa l:=⟨_,bC c⟩
    rw[bc (n:=(k:Int)+1) O,bc (n:=(k:Int)+2) O,bc (n:=0-s) O,show((k:Int)+1)=((k+1:Nat):Int) by omega,show((k:Int)+2)=((k+1+1:Nat):Int) by omega,show 0-s= -s by omega];refine ah (bo w) (ah (bo A) (ah (KG O (K l (bX A)) (abm O G e)) (ah (dJ O _) (ah (dJ Z _) (ah (BV n O) (ah (BV n G) (ah (BW O ((uu O).mono O) ((uu G).mono O) ⟨O,O⟩) ?_)))))));rw[afB O];have H:=y9 (n:=n) O (nest:=P.nest.set (k+1) (d6 (λx=>fg x 1 (fM k s)) l)) (body:=P.body) (s:=k+1+1) ca ca (λy L=>by
     rw[o4 O] at L;exact K y (ft L)) f.2 g (F:=λt=>we n t (k:Int) (nP (k+1) (fM k s))) (abl O O e)
    rw[c7,c7];refine ah H (ah (dJ ca _) ?_);rw[c7,lx];have u:(⟨(P.nest.set (k+1) (d6 (λx=>fg x 1 (fM k s)) l)).take (k+1+1)++((P.nest.set (k+1) (d6 (λx=>fg x 1 (fM k s)) l)).drop (k+1+1)).map (d6 (hF (k+1) (fM k s))),P.body.map (iF (hF (k+1) (fM k s)))⟩:Part)=qu (k+1) (λx=>fg x 1 (fM k s)) (hF (k+1) (fM k s)) P l:=by
     rw[o4 O,eK,hR O,List.take_set_of_le (df _),gL];rfl
    rw[u];refine ah (q9 B (x7 C i (Cc m A (xT (sp k e).1) (CR (sp k e).1)))) (ae.some ?_);rw[A1 w A];rfl
   rw[be λh=>e h.2.2,bN e,ko];exact b7 (ae.some rfl)
  rw[be (λh=>by rw[q,bN c] at h;cases h.2.1),bN c];exact b7 (ae.some rfl)
 rw[be o,be λh=>o h.1];exact b3 (ae.some rfl)
def low(k:Nat)(b:aE):Prop:= ∀j,k<=j->b.aM.getD j 0=0
def k4(n:Int):Expr:=⟨1,n,⟨[],0⟩,⟨[],[]⟩,[]⟩
def gX(e:Expr)(n:Int):Bool:=aj (e.kind=1)&&aj (e.num=n)
def ht(k x y:Int):Int:=if k=5 then x-y else if k=6 then x*y else x+y
def iU(e:Expr):Expr:=
 if e.kind=2/\fl e.index.aM=0/\0<=e.index.const then k4 e.index.const
 else match e.aZ with
  | [a,b]=>
   if a.kind=1/\b.kind=1 then(if 0<=ht e.kind a.num b.num/\ht e.kind a.num b.num<=99 then k4 (ht e.kind a.num b.num) else e)
   else if(¬e.kind=6/\gX b 0=ab)\/(e.kind=6/\gX b 1=ab) then a
   else if(e.kind=4/\gX a 0=ab)\/(e.kind=6/\gX a 1=ab) then b
   else if e.kind=6/\(gX a 0=ab\/gX b 0=ab) then k4 0
   else e
  |_=>e
def ly(e:Expr)(a:List Expr):Expr:=⟨e.kind,e.num,e.index,e.read,a⟩
def gf:Nat->Expr->Expr
 |0,e=>e
 |L+1,e=>iU (ly e (e.aZ.map (gf L)))
theorem Og{d:Int}: ∀{L:Nat} {e:Expr},dD L e d=ab->dD (L+1) e d=ab
 |0,_,h=>by cases h
 |L+1,e,h=>by obtain⟨b,c,i⟩:=hn h;show(aj (fK e.kind=e.aZ.length)&&(eJ e d&&e.aZ.all λk=>dD (L+1) k d))=ab;rw[bS b,c,gi,gi];exact gy.2 λk a=>Og (i k a)
theorem GV(a:fK e.kind=e.aZ.length)(b:eJ e d=ab)(c: ∀k∈e.aZ,dD L k d=ab):dD (L+1) e d=ab:=by
 show(aj (fK e.kind=e.aZ.length)&&(eJ e d&&e.aZ.all λk=>dD L k d))=ab
 grind
theorem Qf{d:Int}: ∀{L:Nat} {e:Expr},dD L e d=ab->dG (L+1) e=dG L e
 |0,_,h=>by cases h
 |L+1,e,h=>by obtain⟨c,i,b⟩:=hn h;show 1+(e.aZ.map (dG (L+1))).sum=1+(e.aZ.map (dG L)).sum;rw[show e.aZ.map (dG (L+1))=e.aZ.map (dG L) from List.map_congr_left λk a=>Qf (b k a)]
theorem Oo{d:Int}: ∀{L:Nat} {e:Expr},dD L e d=ab->ek (L+1) e=ek L e
 |0,_,h=>by cases h
 |L+1,e,h=>by obtain⟨c,i,b⟩:=hn h;show(if e.kind=3 then [e.read] else [])++e.aZ.flatMap (ek (L+1))=(if e.kind=3 then [e.read] else [])++e.aZ.flatMap (ek L);rw[List.flatMap_def,List.flatMap_def,show e.aZ.map (ek (L+1))=e.aZ.map (ek L) from List.map_congr_left λk a=>Oo (b k a)]
theorem Ho(l:eJ e d=ab):iU e=e\/(∃n,iU e=k4 n/\0<=n/\n<=99)\/ ∃k∈e.aZ,iU e=k:=by
 obtain⟨kind,num,index,read,i⟩:=e;unfold iU;dsimp only;split
 ·rename_i h
  have:=(fT (o9 l h.1).1).2.1;exact .inr (.inl ⟨_,rfl,h.2.2,this.2⟩)
 match i with
 | []=>exact .inl rfl
 | [a]=>exact .inl rfl
 | [a,b]=>
  dsimp only;split
  ·split
   ·rename_i h;exact .inr (.inl ⟨_,rfl,h⟩)
   exact .inl rfl
  split
  ·exact .inr (.inr ⟨a,bl,rfl⟩)
  split
  ·exact .inr (.inr ⟨b,bl,rfl⟩)
  split
  ·exact .inr (.inl ⟨0,rfl,O,O⟩)
  exact .inl rfl
 |a::b::c::r=>exact .inl rfl
theorem aa5(L:Nat){n:Int}(h:0<=n/\n<=99)(d:Int):dD (L+1) (k4 n) d=ab:=by
 refine GV (by simp[k4,fK]) ?_ λk a=>by cases a
 unfold eJ k4 iV kj;simp;omega
theorem F3(h:eJ e d=ab)(a:List Expr):eJ (ly e a) d=ab:=h
theorem rh{d:Int}: ∀{L:Nat} {e:Expr},dD L e d=ab->dD L (gf L e) d=ab
 |0,_,h=>by cases h
 |L+1,e,h=>by
  obtain⟨m,i,l⟩:=hn h;have o:dD (L+1) (ly e (e.aZ.map (gf L))) d=ab:=GV (by simp only[ly,List.length_map];exact m) i (λk a=>by
   obtain⟨y,c,rfl⟩:=eH.1 a;exact rh (l y c))
  show dD (L+1) (iU (ly e (e.aZ.map (gf L)))) d=ab;rcases Ho (F3 i (e.aZ.map (gf L))) with b|⟨n,b,p⟩|⟨k,a,b⟩
  ·rw[b];exact o
  ·rw[b];exact aa5 L p d
  rw[b];obtain⟨y,c,rfl⟩:=eH.1 a;exact Og (rh (l y c))
theorem O7{k:Type}(f:k->Int)(b: ∀x,0<=f x): ∀{l:List k} {x:k},x∈l->f x<=(l.map f).sum
 |y::l,x,h=>by
  have c: ∀l:List k,0<=(l.map f).sum:=λl=>by
   induction l with
   |nil=>simp
   |cons a l d=>simp only[hg,List.sum_cons];have:=b a;omega
  simp only[hg,List.sum_cons];rcases eg.1 h with rfl|h
  ·have:=c l;omega
  have:=O7 f b h;have:=b y;omega
theorem Od{k:Type}(f g:k->Int): ∀{l:List k},(∀x∈l,f x<=g x)->(l.map f).sum<=(l.map g).sum
 | [],_=>hA _
 |x::l,h=>by
  simp only[hg,List.sum_cons]
  have:=h x fi
  have:=Od f g λy a=>h y (eW _ a);omega
theorem OB{d:Int}: ∀{L:Nat} {e:Expr},dD L e d=ab->dG L (gf L e)<=dG L e
 |0,_,h=>by cases h
 |L+1,e,h=>by
  obtain⟨p,m,c⟩:=hn h;have i:dG (L+1) (ly e (e.aZ.map (gf L)))<=dG (L+1) e:=by
   show 1+((e.aZ.map (gf L)).map (dG L)).sum<=1+(e.aZ.map (dG L)).sum;rw[List.map_map]
   have:=Od (dG L ∘ gf L) (dG L) (l:=e.aZ) λk a=>OB (c k a);omega
  show dG (L+1) (iU (ly e (e.aZ.map (gf L))))<=dG (L+1) e;rcases Ho (F3 m (e.aZ.map (gf L))) with b|⟨n,b,q⟩|⟨k,a,b⟩
  ·rw[b];exact i
  ·rw[b];exact rU (L+1) e
  rw[b];refine Int.le_trans ?_ i;obtain⟨y,o,rfl⟩:=eH.1 a;rw[Qf (rh (c y o))];have r:dG L (gf L y)<=((e.aZ.map (gf L)).map (dG L)).sum:=O7 (dG L) (λx=>by have:=rU L x;omega) a;show _<=1+((e.aZ.map (gf L)).map (dG L)).sum;omega
theorem Mu{d:Int}: ∀{L:Nat} {e:Expr},dD L e d=ab-> ∀a∈ek L (gf L e),a∈ek L e
 |0,_,h=>by cases h
 |L+1,e,h=>by
  obtain⟨s,r,o⟩:=hn h;have p: ∀a∈ek (L+1) (ly e (e.aZ.map (gf L))),a∈ek (L+1) e:=λa b=>by
   have b:a∈(if e.kind=3 then [e.read] else [])++(e.aZ.map (gf L)).flatMap (ek L):=b;show a∈(if e.kind=3 then [e.read] else [])++e.aZ.flatMap (ek L);rcases eX.1 b with b|b
   ·exact nW _ b
   refine o3 _ ?_;obtain⟨y,l,m⟩:=zO.1 b;obtain⟨z,q,rfl⟩:=eH.1 l;exact zO.2 ⟨z,q,Mu (o z q) a m⟩
  intro a b;have b:a∈ek (L+1) (iU (ly e (e.aZ.map (gf L)))):=b;rcases Ho (F3 r (e.aZ.map (gf L))) with c|⟨n,c,w⟩|⟨k,i,c⟩
  ·rw[c] at b;exact p a b
  ·rw[c] at b;simp[ek,k4] at b
  rw[c] at b;obtain⟨y,l,rfl⟩:=eH.1 i;rw[Oo (rh (o y l))] at b;refine p a ?_;show a∈(if e.kind=3 then [e.read] else [])++(e.aZ.map (gf L)).flatMap (ek L);exact o3 _ (zO.2 ⟨_,i,b⟩)
theorem aan(h:dD L e d=ab): ∃K,L=K+1:=by
 cases L with
 |zero=>cases h
 |succ K=>exact⟨K,rfl⟩
theorem ZG(n:Nat)(e:Expr)(k:Int):iO n e k=aa (gX e k):=by unfold iO gX;cases aj (e.kind=1)<;>rfl
theorem YU(n:Nat)(e:Expr)(k:Int):pV n e k=aa (gX e k):=by unfold pV gX;cases aj (e.kind=1)<;>rfl
def CW(a:Expr):Prop:=a.kind=1->0<=a.num/\a.num<=99
theorem Iv(h:dD L e d=ab):CW e:=λb=>by obtain⟨K,rfl⟩:=aan h;obtain⟨_,a,_⟩:=hn h;unfold eJ at a;rw[be O,be O,bg b] at a;simp only[cB,decide_eq_true_eq] at a;exact a.1
theorem QB{b:Int}(d:0<=a/\a<=99)(c:0<=b/\b<=99):0<=a*b/\a*b<=9801:=by
 refine⟨o2 d.1 c.1,?_⟩
 have:=rG d.2 c.2 c.1 (by omega:(0:Int)<=99);omega
theorem aeT(n:Nat)(Q:c=4\/c=5\/c=6){a b:Expr}(R:CW a)(W:CW b):
  aS (fun(s:Bool)=>
      bif s then(
       aS (fun(q:Int)=>
        bQ (fz n q 0 99) λd=>
        bif d then(
         bQ (om n q) λe=>
         aa e
        ) else(
         aa (⟨c,0,(⟨[],0⟩:aE),(⟨[],[]⟩:cx),[a,b]⟩:Expr)
        )
       ) (λl=>
        bif aj (c=5) then(
         l (wr (a.num-b.num))
        ) else(
         bif aj (c=6) then(
          l (wr (a.num*b.num))
         ) else(
          l (wr (a.num+b.num))
         )
        )
       )
      ) else(
       aS (fun(w:Bool)=>
        bif w then(
         aa a
        ) else(
         aS (fun(x:Bool)=>
          bif x then(
           aa b
          ) else(
           aS (fun(y:Bool)=>
            bif y then(
             bQ (om n 0) λA=>
             aa A
            ) else(
             aa (⟨c,0,(⟨[],0⟩:aE),(⟨[],[]⟩:cx),[a,b]⟩:Expr)
            )
           ) (λm=>
            bif aj (c=6) then(
             bQ (iO n a 0) λB=>
             bif B then(
              m ab
             ) else(
              bQ (iO n b 0) λC=>
              m C
             )
            ) else(
             m al
            )
           )
          )
         ) (λi=>
          bif aj (c=4) then(
           bQ (iO n a 0) λD=>
           bif D then(
            i ab
           ) else(
            bif aj (c=6) then(
             bQ (iO n a 1) λF=>
             i F
            ) else(
             i al
            )
           )
          ) else(
           bif aj (c=6) then(
            bQ (iO n a 1) λG=>
            i G
           ) else(
            i al
           )
          )
         )
        )
       ) (λk=>
        bif !(aj (c=6)) then(
         bQ (iO n b 0) λH=>
         bif H then(
          k ab
         ) else(
          bif aj (c=6) then(
           bQ (iO n b 1) λK=>
           k K
          ) else(
           k al
          )
         )
        ) else(
         bif aj (c=6) then(
          bQ (iO n b 1) λL=>
          k L
         ) else(
          k al
         )
        )
       )
      )
     ) (λr=>
      bif aj (a.kind=1) then(
       r (aj (b.kind=1))
      ) else(
       r al
      )
     )=aa (iU ⟨c,0,⟨[],0⟩,⟨[],[]⟩,[a,b]⟩):=by
 have X: ¬(c=2/\fl ([]:List Int)=0/\(0:Int)<=0):=λh=>O
 unfold iU;dsimp only;rw[be X];simp only[ZG,Option.bind_some,aS];by_cases o:a.kind=1/\b.kind=1
 ·have g:=R o.1;have j:=W o.2;have I:=QB g j;rw[bg o,bS o.1,bS o.2];simp only[cond_true];have t:(bif aj (c=5) then(bQ (fz n (wr (a.num-b.num)) 0 99) λd=>bif d then(bQ (om n (wr (a.num-b.num))) λe=>aa e) else(aa (⟨c,0,⟨[],0⟩,⟨[],[]⟩,[a,b]⟩:Expr)))
    else bif aj (c=6) then(bQ (fz n (wr (a.num*b.num)) 0 99) λd=>bif d then(bQ (om n (wr (a.num*b.num))) λe=>aa e) else(aa (⟨c,0,⟨[],0⟩,⟨[],[]⟩,[a,b]⟩:Expr)))
    else(bQ (fz n (wr (a.num+b.num)) 0 99) λd=>bif d then(bQ (om n (wr (a.num+b.num))) λe=>aa e) else(aa (⟨c,0,⟨[],0⟩,⟨[],[]⟩,[a,b]⟩:Expr))))
    =bQ (fz n (ht c a.num b.num) 0 99) λd=>bif d then(bQ (om n (ht c a.num b.num)) λe=>aa e) else(aa (⟨c,0,⟨[],0⟩,⟨[],[]⟩,[a,b]⟩:Expr)):=by
   rw[bc (n:=a.num-b.num) O,bc (n:=a.num*b.num) O,bc (n:=a.num+b.num) O];unfold ht;rcases Q with rfl|rfl|rfl<;>rfl
  refine t.trans ?_;rw[jg,Option.bind_some];by_cases p:0<=ht c a.num b.num/\ht c a.num b.num<=99
  ·rw[bg p,bS p];rfl
  rw[be p,bN p];rfl
 rw[be o];have M:(bif aj (a.kind=1) then aj (b.kind=1) else al)=al:=by
  cases u:aj (a.kind=1) with
  |false=>rfl
  |true=>
   have: ¬b.kind=1:=λh=>o ⟨e3 u,h⟩;rw[bN this];rfl
 have p: ∀{f:Bool->Option Expr},(bif aj (a.kind=1) then f (aj (b.kind=1)) else f al)=f al:=fun {f}=>by
  grind
 refine(p (f:=λz=>bif z then _ else _)).trans ?_;generalize gX a 0=a0;generalize gX a 1=aP;generalize gX b 0=v;generalize gX b 1=E;rcases Q with rfl|rfl|rfl<;>cases a0<;>cases aP<;>cases v<;>cases E<;>rfl
theorem abg(n:Nat)(k:Int):se n k=aa (aj (4<=k/\k<=6)):=by unfold se;rw[jg];rfl
theorem Hr(h:fK e.kind=e.aZ.length):((e.kind=1\/e.kind=2\/e.kind=3)/\e.aZ=[])\/((e.kind=4\/e.kind=5\/e.kind=6)/\ ∃a b,e.aZ=[a,b]):=by
 unfold fK at h;split at h
 ·rename_i d;exact .inl ⟨d,nT O⟩
 split at h
 ·rename_i d;refine .inr ⟨d,?_⟩
  match i:e.aZ,h with
  | [a,b],_=>exact⟨a,b,rfl⟩
  | [],h=>simp at h
  | [a],h=>simp at h
  |a::b::c::r,h=>simp at h;omega
 omega
theorem afe(a:eJ e d=ab)(c:e.kind=4\/e.kind=5\/e.kind=6):e.num=0/\e.index=⟨[],0⟩/\e.read=⟨[],[]⟩:=by have b:=sa a O O;unfold eJ at a;rw[be O,be O,be O] at a;simp only[cB,decide_eq_true_eq] at a;exact⟨a.1,pP b.1,pQ b.2⟩
theorem Cr(a:eJ e d=ab):iu e.index/\j1 e.read.ba:=by
 by_cases c:e.kind=2
 ·have:=o9 a c;refine⟨by have:=(fT this.1).1;unfold iu;omega,?_⟩;rw[pQ this.2];exact⟨bl,λx b=>by cases b⟩
 by_cases h:e.kind=3
 ·have:=o' a h;have i:=mh this.1;refine⟨?_,Pr i.2.1 i.2.2⟩;rw[pP this.2];unfold iu;simp
 have:=sa a c h;refine⟨?_,?_⟩
 ·rw[pP this.1];unfold iu;simp
 rw[pQ this.2];exact⟨bl,λx b=>by cases b⟩
def m'(e:Expr):Bool:=aj (e.kind=2)&&(aj (fl e.index.aM=0)&&aj (0<=e.index.const))
theorem MN(e:Expr):m' e=ab↔e.kind=2/\fl e.index.aM=0/\0<=e.index.const:=by unfold m';simp
theorem MD(h:m' e=ab):iU e=k4 e.index.const:=by unfold iU;rw[bg ((MN e).1 h)]
theorem M'(h:m' e=al)(a:e.aZ=[]):iU e=e:=by unfold iU;rw[be (λb=>by rw[(MN e).2 b] at h;cases h),a]
theorem Gi{d:Int}: ∀(L n:Nat) (e:Expr),6600000+L<=n->dD L e d=ab->q3 (n+1) e=aa (gf L e)
 |0,_,_,_,h=>by cases h
 |L+1,n,e,Q,h=>by
  obtain⟨r,s,w⟩:=hn h;obtain⟨n,rfl⟩: ∃j,n=j+1:=⟨n-1,O⟩
  unfold q3;refine ae.eq (ae.aS (λz=>z=m' e) (λj m=>?_) λz B=>?_)
  ·refine a1 (λo=>ah (Aw O (Cr s).1) (a1 (λC=>m _ ?_) λC=>m _ ?_)) λo=>m _ ?_
   ·unfold m';rw[bS o,bS (O:fl e.index.aM=0)];rfl
   ·unfold m';rw[bN (show¬fl e.index.aM=0 by omega),Bool.false_and,ko]
   unfold m';rw[bN o];rfl
  subst B;have p:gf (L+1) e=iU (ly e (e.aZ.map (gf L))):=rfl;refine ae.cond (λq=>?_) λq=>?_
  ·refine ah (x:=k4 e.index.const) rfl (ae.some ?_);rw[p];exact(MD (e:=ly e (e.aZ.map (gf L))) q).symm
  refine ah (abg _ _) (dL (λl=>ae.some ?_) λl=>?_)
  ·rcases Hr r with ⟨_,k⟩|⟨i,_⟩
   ·rw[p,k]
    have:ly e []=e:=by cases e;cases k;rfl
    show e=iU (ly e []);rw[this];exact(M' q k).symm
   exact br O l
  rcases Hr r with ⟨i,_⟩|⟨i,a,b,c⟩
  ·omega
  have y:=w a (by rw[c];simp);have A:=w b (by rw[c];simp);have D:aB e.aZ 0=aa a:=by rw[c];rfl
  have F:aB e.aZ 1=aa b:=by rw[c];rfl
  refine ah D (ah (Gi L n a O y) (ah F (ah (Gi L n b O A) (ae.of (aeT (n+1) i (Iv (rh y)) (Iv (rh A))) ?_))));obtain⟨G,H,K⟩:=afe s i;rw[p,c];unfold ly;rw[G,H,K];rfl
theorem abo(n:Nat)(m:e.kind=4\/e.kind=5\/e.kind=6){x y:Int}(k:0<=x/\x<=99)(l:0<=y/\y<=99):BH n e x y=aa (if 0<=ht e.kind x y/\ht e.kind x y<=99 then k4 (ht e.kind x y) else e):=by
 have o:=QB k l;unfold BH;refine ae.eq (ae.aS (λz=>z=ht e.kind x y) (λj a=>?_) λz c=>?_)
 ·rw[bc (n:=x+y) O,bc (n:=x-y) O,bc (n:=x*y) O];refine a1 (λh=>a _ ?_) λh=>a1 (λd=>a _ ?_) λd=>a _ ?_
  ·unfold ht;rw[be O,be O]
  ·unfold ht;rw[bg d]
  unfold ht;rw[be d,bg O]
 subst c;refine ae.aS (λz=>z= !decide (0<=ht e.kind x y/\ht e.kind x y<=99)) (λj a=>a1 (λh=>a _ ?_) λh=>a _ ?_) λz c=>?_
 ·rw[bN O];rfl
 ·by_cases i:(99:Int)<ht e.kind x y
  ·rw[bS i,bN O];rfl
  rw[bN i,bS O];rfl
 subst c;by_cases b:0<=ht e.kind x y/\ht e.kind x y<=99
 ·rw[bS b,bg b];exact b3 (ah rfl (ae.some rfl))
 rw[bN b,be b];exact b7 (ae.some rfl)
theorem aao(L:5500000<=n)(A:iu e.index)(B:fK e.kind=e.aZ.length)(w: ∀k∈e.aZ,CW k):z' n e=aa (iU e):=by
 unfold z';refine ae.eq (ae.aS (λz=>z=m' e) (λj l=>?_) λz q=>?_)
 ·refine a1 (λC=>ah (zL O A) (a1 (λD=>l _ ?_) λD=>l _ ?_)) λC=>l _ ?_
  ·unfold m'
   grind
  ·unfold m'
   grind
  unfold m'
  grind
 subst q;refine ae.cond (λr=>ah (x:=k4 e.index.const) rfl (ae.some (MD r).symm)) λr=>?_;rcases Hr B with ⟨_,o⟩|⟨d,a,b,c⟩
 ·refine a1 (λ_=>ae.some (M' r o).symm) λh=>br (by rw[o];rfl) h
 have F:=w a (by rw[c];simp);have G:=w b (by rw[c];simp);refine a1 (λh=>by rw[c] at h;simp at h) λ_=>ah (show aB e.aZ 0=aa a by rw[c];rfl) (ah (show aB e.aZ 1=aa b by rw[c];rfl) ?_);have i:iU e=(if a.kind=1/\b.kind=1 then(if 0<=ht e.kind a.num b.num/\ht e.kind a.num b.num<=99 then k4 (ht e.kind a.num b.num) else e)
   else if(¬e.kind=6/\gX b 0=ab)\/(e.kind=6/\gX b 1=ab) then a
   else if(e.kind=4/\gX a 0=ab)\/(e.kind=6/\gX a 1=ab) then b
   else if e.kind=6/\(gX a 0=ab\/gX b 0=ab) then k4 0
   else e):=by
  unfold iU;rw[be (λh=>O),c]
 rw[i];refine ae.aS (λz=>z=aj (a.kind=1/\b.kind=1)) (λj l=>a1 (λh=>l _ ?_) λh=>l _ ?_) λz q=>?_
 ·by_cases p:b.kind=1
  ·rw[bS p,bS ⟨h,p⟩]
  rw[bN p,bN λs=>p s.2]
 ·rw[bN λs=>h s.1]
 subst q;by_cases m:a.kind=1/\b.kind=1
 ·rw[bS m,bg m];exact b7 (ah (abo n d (F m.1) (G m.2)) (ae.some rfl))
 rw[bN m,be m];refine b3 ?_;simp only[YU,Option.bind_some,aS];generalize gX a 0=a0;generalize gX a 1=aP;generalize gX b 0=H;generalize gX b 1=K;obtain⟨kind,num,index,read,y⟩:=e;dsimp only at d⊢;rcases d with rfl|rfl|rfl<;>cases a0<;>cases aP<;>cases H<;>cases K<;>exact ae.some rfl
theorem ND{d:Int}: ∀(L n:Nat) (e:Expr),6600000+L<=n->dD L e d=ab->rv (n+1) e=aa (gf L e)
 |0,_,_,_,h=>by cases h
 |L+1,n,e,r,h=>by
  obtain⟨l,a,i⟩:=hn h;obtain⟨n,rfl⟩: ∃j,n=j+1:=⟨n-1,O⟩
  have m:e.aZ.length<=2:=by have:=oW e.kind;omega
  unfold rv;refine ae.eq (ah (AD _ (Cr a).1) (ah (zV O (Cr a).2) ?_));refine oY (f:=rv (n+1)) (g:=gf L) (K:=λo=>bQ (z' (n+1) (⟨e.kind,e.num,e.index,e.read,o⟩:Expr)) λb=>aa b) (λx p=>ND L n x O (i x p)) O O ?_;refine ah (aao O (Cr a).1 (by simpa using l) λk c=>?_) (ae.some rfl);obtain⟨y,q,rfl⟩:=eH.1 c;exact Iv (rh (i y q))
def jF(l:List cN)(p:Prog)(a:Int)(c:Nat):Prop:= ∃x∈l,x.part=a/\dv p x=c
def kQ(l:List cN)(p:Prog)(a:Int)(c:Nat):Prop:= ∃x∈l,x.part=a/\(c:Int)∈rc p x
theorem xE{l:List cN}{c:Nat}{x:cN}:jF (l++[x]) p a c↔jF l p a c\/(x.part=a/\dv p x=c):=by
 unfold jF
 grind
theorem xF{l:List cN}{c:Nat}{x:cN}:kQ (l++[x]) p a c↔kQ l p a c\/(x.part=a/\(c:Int)∈rc p x):=by
 unfold kQ
 grind
def hX(T:Nat)(f:List Bool)(S:Nat->Prop):Prop:=f.length=T/\ ∀c,c<T->(f.getD c al=ab↔S c)
theorem G6(T:Nat):hX T (dh T al) (λ_=>False):=⟨Es,λc a=>by rw[fc,uc];split<;>simp⟩
theorem Hi{T:Nat}{f:List Bool}{S:Nat->Prop}(h:hX T f S){d:Nat}(a:d<T):hX T (f.set d ab) (λc=>S c\/c=d):=⟨by rw[fX];exact h.1,λc b=>by
 by_cases e:d=c
 ·subst e;rw[fc,hR (by rw[h.1];exact a)];simp
 rw[fc,ls e,<-fc,h.2 c b];constructor
 ·exact .inl
 rintro(h|h)
 ·exact h
 exact br h.symm e⟩
theorem l0{T:Nat}{f:List Bool}{S X:Nat->Prop}(h:hX T f S)(b: ∀c,c<T->(S c↔X c)):hX T f X:=⟨h.1,λc a=>(h.2 c a).trans (b c a)⟩
theorem sf{T:Nat}{f:List Bool}{S:Nat->Prop}(h:hX T f S){c:Nat}(b:c<T):aB f (c:Int)=aa (f.getD c al):=by
 have a:c<f.length:=by rw[h.1];exact b
 rw[bo (bC a),fc,bC a];rfl
theorem M2(w:5500000<=n){T:Nat}{cs:List Int}(A:cs.length<=1100000)(l: ∀c∈cs,0<=c/\c<(T:Int)){K:List Bool->Option R}{f:List Bool}{S:Nat->Prop}(m:hX T f S)(o: ∀g,hX T g (λc=>S c\/(c:Int)∈cs)->ae (K g) Q):
  ae (bz (λa (z:(List Bool)×Int)=>bif aj (z.2<(cs.length:Int)) then(bQ (aB cs z.2) λx=>bQ (aB z.1 x) λ_=>bQ (cd z.1 x ab) λy=>a (y,wr (z.2+1))) else(K z.1)) n (f,0)) Q:=by
 refine ae.loop (λz:List Bool×Int=> ∃i:Nat,z.2=i/\i<=cs.length/\hX T z.1 λc=>S c\/(c:Int)∈cs.take i) (λz=>cs.length-z.2.toNat) ?_ n _ ⟨0,rfl,O,l0 m λc _=>bl⟩ Z;rintro a ⟨x,z⟩ ⟨i,k,B,b⟩ p;dsimp only at k b⊢;subst k;refine a1 (λq=>?_) λr=>?_
 ·obtain⟨c,h⟩: ∃c,cs[i]? =aa c:=⟨_,bC (O:i<cs.length)⟩
  have bA:=l c (bX h);have s:=b.1;refine ah (bo h) (ah (ya bA.1 O) (ah (GW bA.1 O ab) ?_));rw[bc O];refine p _ ⟨i+1,Z,O,l0 (Hi b (d:=c.toNat) O) λe C=>?_⟩ Z;rw[fQ h,eX,p8]
  grind
 have e:i=cs.length:=O
 refine o x (l0 b λc _=>?_)
 grind
theorem xZ(a:b6 p=ab):((iA p:Nat):Int)=gY p.a7/\iA p<=144:=by
 have:=abH a
 grind
theorem MP(Y:7810000<=n)(s:b6 p=ab)(a:Int):ae (yV n (gx p) a) (λr=>hX (iA p) r.1 (kQ (bI p.parts) p a)/\hX (iA p) r.2 (jF (bI p.parts) p a)):=by
 obtain⟨H,L,_,_,R⟩:=en s;have fo:=xZ s;unfold yV;refine ah (Ms (p:=p) O H L) (ah (HS ⟨O,O⟩ al) (ah (Ms (p:=p) O H L) (ah (HS ⟨O,O⟩ al) ?_)));show ae (bz _ n (dh (iA p) al,dh (iA p) al,0)) _;refine ae.loop (λz:List Bool×List Bool×Int=> ∃i:Nat,z.2.2=i/\i<=(bI p.parts).length/\hX (iA p) z.1 (kQ ((bI p.parts).take i) p a)/\hX (iA p) z.2.1 (jF ((bI p.parts).take i) p a)) (λz=>(bI p.parts).length-z.2.2.toNat) ?_ n _ ⟨0,rfl,O,l0 (G6 _) (λc _=>by simp[kQ]),l0 (G6 _) λc _=>by simp[jF]⟩ Z;rintro w ⟨x,y,z⟩ ⟨i,l,aL,A,m⟩ W;dsimp only at l A m⊢;subst l;have k:(gx p).list=bI p.parts:=rfl;rw[k];refine a1 (λX=>?_) λt=>ae.some ?_
 ·obtain⟨u,b⟩: ∃u,(bI p.parts)[i]? =aa u:=⟨_,bC (O:i<(bI p.parts).length)⟩
  have v:=iQ (bX b);obtain⟨gO,E,alA,_⟩:=q6 s v;have B:(gx p).reads[i]? =aa (rc p u):=lh b;have C:(gx p).iX[i]? =aa (dv p u:Int):=lh (f:=λx=>(dv p x:Int)) b;refine ae.aS (λz:List Bool×List Bool×Int×Int×List Int=>hX (iA p) z.1 (kQ ((bI p.parts).take (i+1)) p a)/\hX (iA p) z.2.1 (jF ((bI p.parts).take (i+1)) p a)) (λj Q=>?_) λz l=>?_
  ·refine ah (bo b) (dL (λo=>Q _ ⟨l0 A λc _=>?_,l0 m λc _=>?_⟩) λhe=>ah (bo B) ?_)
   ·rw[fQ b,xF];exact⟨.inl,λh=>h.elim id λh=>br h.1 o⟩
   ·rw[fQ b,xE];exact⟨.inl,λh=>h.elim id λh=>br h.1 o⟩
   refine M2 (T:=iA p) O (cs:=rc p u) O (λc I=>by have:=E c I;omega) (K:=λD=>bQ (aB (gx p).iX (i:Int)) λq=>bQ (aB y q) λM=>bQ (cd y q ab) λF=>j (D,F,u.part,u.stmt,u.db)) A λg G=>?_;refine ah (bo C) (ah (sf m O) (ah (GW O (by rw[m.1];omega) ab) (Q _ ⟨l0 G λc _=>?_,?_⟩)))
   ·rw[fQ b,xF]
    grind
   refine l0 (Hi m (d:=dv p u) O) λc _=>?_;rw[fQ b,xE]
   grind
  obtain⟨N,P,S,U,V⟩:=z;dsimp only at l⊢;rw[bc O];exact W _ ⟨i+1,Z,O,l.1,l.2⟩ Z
 have e:i=(bI p.parts).length:=O
 grind
theorem Al(G:7810000<=n)(m:b6 p=ab)(a:Int)(w:Bool):ae (tB n p a w) (λr=>r.length<=144/\ ∀c:Int,c∈r↔0<=c/\c.toNat<iA p/\(if w=ab then jF (bI p.parts) p a c.toNat else kQ (bI p.parts) p a c.toNat)):=by
 obtain⟨H,L,_,_,Q⟩:=en m;have M:=xZ m;unfold tB;refine ah (Mk O H L) (ah (HS ⟨O,O⟩ al) (ah (vU O m) (ah (GC G m) ?_)));show ae (bz _ n (dh (iA p) al,0)) _;refine ae.loop (λz:List Bool×Int=> ∃i:Nat,z.2=i/\i<=(bI p.parts).length/\hX (iA p) z.1 λc=>if w=ab then jF ((bI p.parts).take i) p a c else kQ ((bI p.parts).take i) p a c) (λz=>(bI p.parts).length-z.2.toNat) ?_ n _ ⟨0,rfl,O,l0 (G6 _) λc _=>by simp[kQ,jF]⟩ Z;rintro s ⟨x,z⟩ ⟨i,q,N,k⟩ R;dsimp only at q k⊢;subst q;refine a1 (λb=>?_) λW=>?_
 ·obtain⟨u,l⟩: ∃u,(bI p.parts)[i]? =aa u:=⟨_,bC (O:i<(bI p.parts).length)⟩
  have X:=iQ (bX l);obtain⟨P,t,S,_⟩:=q6 m X;have o:(mb p)[i]? =aa (⟨rc p u,(dv p u:Int)⟩:k2):=lh (f:=λx=>(⟨rc p x,(dv p x:Int)⟩:k2)) l;refine ae.aS (λz:List Bool=>hX (iA p) z λc=>if w=ab then jF ((bI p.parts).take (i+1)) p a c else kQ ((bI p.parts).take (i+1)) p a c) (λj y=>?_) λz q=>?_
  ·refine ah (bo l) (dL (λv=>y _ (l0 k λc _=>?_)) λF=>?_)
   ·rw[fQ l,xE,xF]
    grind
   cases w with
   |true=>
    refine b7 (ah (bo o) (ah (sf k O) (ah (GW (by(try dsimp only);omega) (by rw[k.1];(try dsimp only);omega) ab) (y _ ?_))));refine l0 (Hi k (d:=dv p u) O) λc _=>?_;rw[fQ l,xE,xF];exact or_congr Iff.rfl ⟨λh=>⟨F,h.symm⟩,λh=>h.2.symm⟩
   |false=>
    refine b3 ?_;simp only[bo o,Option.bind_some];refine M2 (T:=iA p) O (cs:=rc p u) O (λc E=>by have:=t c E;omega) (K:=λA=>j A) k λg B=>y _ (l0 B λc _=>?_);rw[fQ l,xE,xF];exact or_congr Iff.rfl ⟨λh=>⟨F,h⟩,λh=>h.2⟩
  rw[bc O];exact R _ ⟨i+1,Z,O,q⟩ Z
 have e:i=(bI p.parts).length:=O
 rw[e,dZ] at k;have I:=k.1;refine ah (Lw O O) (ae.some ⟨by have:=L3 x;omega,λc=>?_⟩);rw[Fm];constructor
 ·rintro⟨C,D⟩;have b:c.toNat<iA p:=by
   grind
  exact⟨C,b,(k.2 _ b).1 D⟩
 rintro⟨C,b,D⟩;exact⟨C,(k.2 _ b).2 D⟩
theorem Hq(r:5500000<=n){a b:List Int}(s:a.length<=1100000)(m:b.length<=1100000):wS n a b=aa (a.any λc=>decide (c∈b)):=by
 refine ae.eq ?_;unfold wS;refine ae.loop (λz:Int=> ∃i:Nat,z=i/\i<=a.length/\(a.take i).any (λc=>decide (c∈b))=al) (λz=>a.length-z.toNat) ?_ n 0 ⟨0,rfl,O,bl⟩ O;rintro d z ⟨i,rfl,w,k⟩ o;refine a1 (λp=>?_) λq=>ae.some ?_
 ·obtain⟨c,l⟩: ∃c,a[i]? =aa c:=⟨_,bC (O:i<a.length)⟩
  refine ah (bo l) (ah (GL O m c) (ae.cond (λh=>ae.some ?_) λh=>?_))
  ·exact(iW.2 ⟨c,bX l,h⟩).symm
  rw[bc O];refine o _ ⟨i+1,O,O,?_⟩ O;rw[fQ l,ua,k]
  grind
 have e:i=a.length:=O
 grind
def C1(p:Prog)(a b:Int):Prop:= ∀x∈bI p.parts,∀y∈bI p.parts,x.part=a->y.part=b-> ¬Lt p x y
noncomputable def sB(p:Prog)(a b:Int):Bool:= @decide (C1 p a b) (Classical.propDecidable _)
theorem JZ{b:Int}:sB p a b=ab↔C1 p a b:=by unfold sB;exact @decide_eq_true_iff _ (Classical.propDecidable _)
theorem Mq(n:b6 p=ab){b:Int}:C1 p a b↔ ∀c,c<iA p-> ¬(jF (bI p.parts) p a c/\(kQ (bI p.parts) p b c\/jF (bI p.parts) p b c))/\ ¬(jF (bI p.parts) p b c/\kQ (bI p.parts) p a c):=by
 have o:=xZ n;constructor
 ·intro h c _;refine⟨?_,?_⟩
  ·rintro⟨⟨x,l,e,m⟩,⟨y,k,d,i⟩|⟨y,k,d,i⟩⟩
   ·exact h x l y k e d (.inl (by rw[m];exact i))
   exact h x l y k e d (.inr (.inr (by rw[m,i])))
  rintro⟨⟨y,k,d,i⟩,⟨x,l,e,m⟩⟩;exact h x l y k e d (.inr (.inl (by rw[i];exact m)))
 intro h x l y k e d bW;have q:=(q6 n (iQ l)).1;have r:=(q6 n (iQ k)).1;rcases bW with bW|bW|bW
 ·exact(h (dv p x) O).1 ⟨⟨x,l,e,rfl⟩,.inl ⟨y,k,d,bW⟩⟩
 ·exact(h (dv p y) O).2 ⟨⟨y,k,d,rfl⟩,⟨x,l,e,bW⟩⟩
 exact(h (dv p x) O).1 ⟨⟨x,l,e,rfl⟩,.inr ⟨y,k,d,bW.symm⟩⟩
def eA(p:Prog)(a:Int):Bool:=aj (0<=a/\a<(p.parts.length:Int))
noncomputable def jw(p:Prog)(a b:Int):Bool:=b6 p&&(eA p a&&(eA p b&&(!decide (a=b)&&sB p a b)))
theorem sc{b:Bool}(h:(!b)=ab):b=al:=by cases b with
 |false=>rfl
 |true=>cases h
theorem ql{b:Bool}(h:(!b)=al):b=ab:=by cases b with
 |false=>cases h
 |true=>rfl
theorem ZH(cR:5500000<=n){T:Nat}(mG:T<=1000){D I M F:List Bool}{q m o e:Nat->Prop}(A:hX T D q)(G:hX T I m)(H:hX T M o)(s:hX T F e){v:Bool}(N:v=ab↔ ∀c,c<T-> ¬(m c/\(o c\/e c))/\ ¬(e c/\q c)):
  ae (bz (λk (d:Int)=>
     bif aj (d<(D.length:Int)) then(
      aS (fun(K:Bool)=>
       bif K then(
        aa al
       ) else(
        k (wr (d+1))
       )
      ) (λl=>
       bQ (aB I d) λL=>
       bif L then(
        bQ (aB M d) λQ=>
        bif Q then(
         l ab
        ) else(
         bQ (aB F d) λR=>
         bif R then(
          l ab
         ) else(
          l al
         )
        )
       ) else(
        bQ (aB F d) λW=>
        bif W then(
         bQ (aB D d) λX=>
         l X
        ) else(
         l al
        )
       )
      )
     ) else(
      aa ab
     )
    ) n 0) (λr=>r=v):=by
 have x: ∀c,c<T->((m c/\(o c\/e c))\/(e c/\q c))->v=al:=λc f h=>by
  cases g:v with
  |false=>rfl
  |true=>
   have:=N.1 g c f;rcases h with h|h
   ·exact br h this.1
   exact br h this.2
 have t:=A.1;refine ae.loop (λz:Int=> ∃i:Nat,z=i/\i<=T/\ ∀c,c<i-> ¬(m c/\(o c\/e c))/\ ¬(e c/\q c)) (λz=>T-z.toNat) ?_ n 0 ⟨0,rfl,O,λc h=>O⟩ O;rintro u z ⟨i,rfl,aL,E⟩ S;rw[t];refine a1 (λU=>?_) λV=>ae.some ?_
 ·have a:i<T:=O
  refine ae.aS (λz=>(z=ab->(m i/\(o i\/e i))\/(e i/\q i))/\(z=al-> ¬(m i/\(o i\/e i))/\ ¬(e i/\q i))) (λj y=>?_) λz Y=>ae.cond (λh=>ae.some (x i a (Y.1 h)).symm) λh=>?_
  ·refine ah (sf G a) (ae.cond (λB=>?_) λB=>?_)
   ·have w:=(G.2 i a).1 B;refine ah (sf H a) (ae.cond (λC=>y _ ⟨λ_=> .inl ⟨w,.inl ((H.2 i a).1 C)⟩,λh=>(by cases h)⟩) λC=>ah (sf s a) (ae.cond (λb=>y _ ⟨λ_=> .inl ⟨w,.inr ((s.2 i a).1 b)⟩,λh=>(by cases h)⟩) λb=>y _ ⟨λh=>(by cases h),λ_=>?_⟩));have alr: ¬o i:=λh=>by rw[(H.2 i a).2 h] at C;cases C
    have akt: ¬e i:=λh=>by rw[(s.2 i a).2 h] at b;cases b
    grind
   have P: ¬m i:=λh=>by rw[(G.2 i a).2 h] at B;cases B
   refine ah (sf s a) (ae.cond (λb=>ah (sf A a) (y _ ⟨λh=> .inr ⟨(s.2 i a).1 b,(A.2 i a).1 h⟩,λh=>⟨λp=>P p.1,λp=>by rw[(A.2 i a).2 p.2] at h;cases h⟩⟩)) λb=>y _ ⟨λh=>(by cases h),λ_=>⟨λp=>P p.1,λp=>by rw[(s.2 i a).2 p.1] at b;cases b⟩⟩)
  rw[bc O];refine S _ ⟨i+1,O,O,λc f=>?_⟩ O
  grind
 exact(N.2 λc f=>E c O).symm
theorem aci(i:7810000<=n)(m:j0 p)(a b:Int):Dz n p a b=aa (jw p a b):=by
 unfold Dz;refine ae.eq (ah (wH i m) ?_);by_cases c:b6 p=ab
 ·rw[bg c];have C:=xZ c;have d:=m.2.1;refine b7 (ae.aS (λz=>z= !(eA p a&&(eA p b&& !decide (a=b)))) (λj e=>b3 (ah (oR n d a) (ae.cond (λh=>e _ ?_) λh=>ah (oR n d b) (ae.cond (λk=>e _ ?_) λk=>e _ ?_)))) λz l=>?_)
  ·have:eA p a=al:=sc h
   grind
  ·have o:eA p a=ab:=ql h;have q:eA p b=al:=sc k
   grind
  ·have o:eA p a=ab:=ql h;have q:eA p b=ab:=ql k
   grind
  subst l;unfold jw;rw[c];cases o:eA p a with
  |false=>exact b7 (ae.some rfl)
  |true=>
   cases q:eA p b with
   |false=>exact b7 (ae.some rfl)
   |true=>
    cases D:aj (a=b) with
    |true=>exact b7 (ae.some rfl)
    |false=>
     refine b3 (hE (MP i c a) λr ⟨w,x⟩=>hE (MP i c b) λs ⟨y,A⟩=>?_);exact(ZH O (T:=iA p) O w x y A (v:=sB p a b) (by rw[JZ,Mq c])).mono λr B=>B
 rw[be c];refine b3 (ae.aS (λz=>z=ab) (λj e=>b7 (e _ rfl)) λz l=>?_);rw[l];refine b7 (ae.some ?_);unfold jw
 grind
theorem Oh(B:7810000<=n)(f:j0 p)(a b:Int):Dx n p a b=aa (jw p a b):=by
 unfold Dx;refine ae.eq (ae.aS (λz=>z= !(b6 p&&(eA p a&&(eA p b&& !decide (a=b))))) (λj i=>?_) λz F=>?_)
 ·refine ah (jc O f) (ae.cond (λh=>i _ ?_) λh=>?_)
  ·rw[show b6 p=al by simpa using h];rfl
  have l:b6 p=ab:=by simpa using h
  rw[l] at i;refine a1 (λQ=>i _ ?_) λQ=>a1 (λg=>i _ ?_) λg=>a1 (λR=>i _ ?_) λR=>a1 (λt=>i _ ?_) λt=>i _ ?_
  ·rw[show eA p a=al from bN O];rfl
  ·rw[show eA p b=al from bN O];simp
  ·rw[show eA p a=al from bN O];rfl
  ·rw[show eA p b=al from bN O];simp
  rw[show eA p a=ab from bS O,show eA p b=ab from bS O];simp
 subst F;unfold jw;by_cases l:b6 p=ab
 ·rw[l];have E:=xZ l;cases Q:eA p a with
  |false=>exact b7 (ae.some rfl)
  |true=>
   cases R:eA p b with
   |false=>exact b7 (ae.some rfl)
   |true=>
    cases I:aj (a=b) with
    |true=>exact b7 (ae.some rfl)
    |false=>
     have m:=JZ.trans (Mq l (a:=a) (b:=b));have k: ∀c,c<iA p->((jF (bI p.parts) p a c/\(kQ (bI p.parts) p b c\/jF (bI p.parts) p b c))\/(jF (bI p.parts) p b c/\kQ (bI p.parts) p a c))->sB p a b=al:=λc o h=>by
      cases G:sB p a b with
      |false=>rfl
      |true=>
       have:=m.1 G c o;rcases h with h|h
       ·exact br h this.1
       exact br h this.2
     refine b3 (hE (Al B l a ab) λq ⟨M,C⟩=>hE (Al B l b ab) λr ⟨N,D⟩=>ae.aS (λz=>z=sB p a b) (λj i=>?_) λz F=>ae.some F);refine ah (Hq O O O) (ae.cond (λh=>?_) λh=>i _ ?_)
     ·have u: ∀c,c∈q->c∈r->False:=λc e d=>by
       have:q.any (λc=>decide (c∈r))=ab:=iW.2 ⟨c,e,bS d⟩;rw[this] at h;cases h
      refine hE (Al B l b al) λH ⟨P,W⟩=>ah (Hq O O O) (ae.cond (λh=>?_) λh=>i _ ?_)
      ·have v: ∀c,c∈q->c∈H->False:=λc e d=>by
        have:q.any (λc=>decide (c∈H))=ab:=iW.2 ⟨c,e,bS d⟩;rw[this] at h;cases h
       refine hE (Al B l a al) λs ⟨l10,w⟩=>ah (Hq O O O) (i _ ?_);cases K:r.any (λc=>decide (c∈s)) with
       |true=>
        obtain⟨c,e,d⟩:=iW.1 K;obtain⟨X,x,y⟩:=(D c).1 e;obtain⟨_,_,A⟩:=(w c).1 (e3 d);exact(k c.toNat x (.inr ⟨y,A⟩)).symm
       |false=>
        refine(m.2 λc o=>⟨?_,?_⟩).symm
        ·rintro⟨e,d|d⟩
         ·exact v (c:Int) ((C _).2 ⟨O,o,e⟩) ((W _).2 ⟨O,o,d⟩)
         exact u (c:Int) ((C _).2 ⟨O,o,e⟩) ((D _).2 ⟨O,o,d⟩)
        rintro⟨e,d⟩
        have:r.any (λc=>decide (c∈s))=ab:=iW.2 ⟨(c:Int),(D _).2 ⟨O,o,e⟩,bS ((w _).2 ⟨O,o,d⟩)⟩;rw[this] at K;cases K
      have L:q.any (λc=>decide (c∈H))=ab:=by simpa using h
      obtain⟨c,e,d⟩:=iW.1 L;obtain⟨X,x,y⟩:=(C c).1 e;obtain⟨_,_,A⟩:=(W c).1 (e3 d);exact(k c.toNat x (.inl ⟨y,.inl A⟩)).symm
     have L:q.any (λc=>decide (c∈r))=ab:=by simpa using h
     obtain⟨c,e,d⟩:=iW.1 L;obtain⟨X,x,y⟩:=(C c).1 e;obtain⟨_,_,A⟩:=(D c).1 (e3 d);exact(k c.toNat x (.inl ⟨y,.inr A⟩)).symm
 rw[show b6 p=al by simpa using l];exact b7 (ae.some rfl)
def mc{α:Type}(l:List α)(i:Nat)(a b:α):List α:=l.take i++b::a::l.drop (i+2)
theorem HZ{k:Type}{l:List k}{a b:k}(c:l[i]? =aa a)(d:l[i+1]? =aa b):l=l.take i++a::b::l.drop (i+2):=by have e:l.drop i=a::l.drop (i+1):=kP c;have h:l.drop (i+1)=b::l.drop (i+2):=kP d;rw[<-h,<-e,ud]
noncomputable def lz(p:Prog)(a:Int):Prog×Bool:=
 if jw p a (a+1)=ab then
  (match aB p.parts a,aB p.parts (a+1) with
  |some b,aa c=>(⟨p.a7,mc p.parts a.toNat b c⟩,ab)
  |_,_=>ev)
 else ev
theorem qp{b:Int}(h:jw p a b=ab):b6 p=ab/\(0<=a/\a<(p.parts.length:Int))/\(0<=b/\b<(p.parts.length:Int))/\C1 p a b:=by unfold jw at h;simp only[cB] at h;exact⟨h.1,e3 h.2.1,e3 h.2.2.1,JZ.1 h.2.2.2.2⟩
theorem Ht(h:jw p a (a+1)=ab): ∃(i:Nat) (b c:Part),a=i/\p.parts[i]? =aa b/\p.parts[i+1]? =aa c/\i+1<p.parts.length:=by
 obtain⟨d,e,k,_⟩:=qp h;obtain⟨i,rfl⟩: ∃i:Nat,a=i:=⟨a.toNat,O⟩
 exact⟨i,_,_,rfl,bC O,bC O,O⟩
theorem GU(h:jw p (i:Int) ((i:Int)+1)=ab)(a:p.parts[i]? =aa x)(b:p.parts[i+1]? =aa P):lz p (i:Int)=(⟨p.a7,mc p.parts i x P⟩,ab):=by unfold lz;rw[bg h,bo a,show((i:Int)+1)=((i+1:Nat):Int) by omega,bo b];rfl
theorem aai{k:Type}{l:List k}{a b:k}(c:l[i]? =aa a)(d:l[i+1]? =aa b){x:k}:x∈mc l i a b↔x∈l:=by
 conv=>rhs;rw[HZ c d]
 unfold mc
 grind
theorem aaj{k:Type}{l:List k}{a b:k}(h:i+1<l.length):(mc l i a b).length=l.length:=by
 unfold mc
 grind
theorem aah{k:Type}{l:List k}{a b:k}(e:l[i]? =aa a)(c:l[i+1]? =aa b):(l.set i b).set (i+1) a=mc l i a b:=by
 have aL:=(d0.1 c).1;have d:(l.take i).length=i:=by rw[c6];omega
 conv=>lhs;rw[HZ e c]
 rw[l6 _ _ O,d,kX,rE,l6 _ _ O,d,show i+1-i=1 by omega];rfl
theorem H2(a:b6 p=ab){s:Part}(c:p.parts[i]? =aa P)(b:p.parts[i+1]? =aa s):b6 ⟨p.a7,mc p.parts i P s⟩=ab:=by
 have aL:=(d0.1 b).1;unfold b6 jK at a⊢;simp only[cB,decide_eq_true_eq,kr] at a⊢;obtain⟨⟨aP,a2,a3⟩,a4⟩:=a;refine⟨⟨aP,by rw[aaj aL];exact a2,λx d=>a3 x ((aai c b).1 d)⟩,?_⟩;have e:=HZ c b
 have:(p.parts.map fS).sum=((mc p.parts i P s).map fS).sum:=by
  conv=>lhs;rw[e]
  unfold mc
  grind
 grind
theorem O3(a:b6 p=ab)(b:p.parts[i]? =aa x)(c:p.parts[i+1]? =aa P):eo 1100000 ⟨p.a7,mc p.parts i x P⟩:=(gH (H2 a b c)).mono O
theorem aaA(l:7810000<=n)(m:eo 1100000 p)(r: -1<=a/\a<=9):tv n p a=aa (lz p a):=by
 unfold tv;rw[bc (n:=a+1) O];refine ae.eq (ae.aS (λz=>z= !jw p a (a+1)) (λj d=>?_) λz o=>?_)
 ·refine a1 (λh=>d _ ?_) λh=>a1 (λc=>d _ ?_) λc=>ah (aci l m.sm a (a+1)) (d _ rfl)
  ·cases b:jw p a (a+1) with
   |false=>rfl
   |true=>have:=qp b;omega
  cases b:jw p a (a+1) with
  |false=>rfl
  |true=>have:=qp b;omega
 subst o;cases b:jw p a (a+1) with
 |false=>
  refine b7 (ae.some ?_);unfold lz;rw[be (by rw[b];simp)];rfl
 |true=>
  refine b3 ?_;obtain⟨i,s,k,rfl,e,c,w⟩:=Ht b;rw[GU b e c,show((i:Int)+1)=((i+1:Nat):Int) by omega];refine ah (qj O (qp b).1) (ah (bo c) (ah (bo e) (ah (dJ O _) ?_)));rw[c7];have q:(p.parts.set i k)[i+1]? =aa k:=by rw[ls O];exact c
  refine ah (bo q) (ah (dJ (by rw[fX];omega) _) (ae.some ?_));rw[c7,aah e c]
theorem aaY(l:7810000<=n)(d:eo 1100000 p)(o: -1<=a/\a<=9):tt n p a=aa (lz p a):=by
 unfold tt;rw[bc (n:=a+1) O];refine ae.eq (ah (jf O d) (ah (Oh l d.sm a (a+1)) ?_));cases e:jw p a (a+1) with
 |false=>
  refine b7 (ae.some ?_);unfold lz;rw[be (by rw[e];simp)];rfl
 |true=>
  refine b3 ?_;obtain⟨i,h,k,rfl,b,c,q⟩:=Ht e;have bR:=(qp e).1;have m:=d.2.1;rw[GU e b c,show((i:Int)+1)=((i+1:Nat):Int) by omega];refine ah (bo c) (ah (bo b) (ah (x:=(⟨p.a7,mc p.parts i h k⟩,ab)) (ae.eq ?_) (ae.some rfl)));unfold jA;refine ah (oD O d) (ah (iR O O O) ?_);rw[c7,show(0:Int).toNat=0 from rfl,p5];refine ah (x:=p.parts.take i) (dM ca) (ah (x:=p.parts.take i++[k,h]) (dM ca) ?_);rw[bc O];refine ah (iR O O O) ?_;rw[c7,dZ,show((i:Int)+2).toNat=i+2 by omega];refine ah (x:=mc p.parts i h k) ?_ (ah (jc O (O3 bR b c).sm) ?_)
  ·rw[dM ca,gL];rfl
  rw[H2 bR b c];exact b3 (ah (oD O (O3 bR b c)) (ae.some rfl))
theorem Qi{p:Prog}(c:b6 p=ab){x:cN}(i:gF p x): ∀{a:List cN} {m:List Int},(∀y∈a,gF p y)->(∀y∈a,I6 p x y)->sx p.a7 m->mW p (jv p m x) a=jv p (mW p m a) x
 | [],m,_,_,_=>rfl
 |y::a,m,d,e,h=>by show mW p (jv p (jv p m x) y) a=jv p (mW p (jv p m y) a) x;rw[e y fi m h];exact Qi c i (λz b=>d z (eW _ b)) (λz b=>e z (eW _ b)) (O' c h (d y fi))
theorem block{p:Prog}(b:b6 p=ab): ∀{X a:List cN} {m:List Int},(∀x∈X,gF p x)->(∀y∈a,gF p y)->(∀x∈X,∀y∈a,I6 p x y)->sx p.a7 m->mW p (mW p m X) a=mW p (mW p m a) X
 | [],a,m,_,_,_,_=>rfl
 |x::X,a,m,c,e,h,i=>by show mW p (mW p (jv p m x) X) a=mW p (jv p (mW p m a) x) X;rw[block b (λz d=>c z (eW _ d)) e (λz d=>h z (eW _ d)) (O' b i (c x fi)),Qi b (c x fi) e (h x fi) i]
def ot(a b:Loop):Bool:=qb a.bq b.bq&&qb a.aL b.aL
def qm(a b:List Loop):Bool:=kV ot a b
theorem WH(d:5500000<=n){a b:List Loop}(c:qt a):Az n a b=aa (qm a b):=by unfold Az Km;refine ae.eq (ah (GX (p:=ot) (f:=λk l=>zl n k l) (λx h y _=>?_) (by have:=c.1;omega) (by have:=c.1;omega)) (ae.some rfl));unfold zl ot;refine ae.eq (ae.aS (λz=>z=(qb x.bq y.bq&&qb x.aL y.aL)) (λj i=>ah (Lf d (c.2 x h).1) (ae.cond (λe=>ah (Lf d (c.2 x h).2) (i _ (by rw[e];rfl))) λe=>i _ (by rw[e];rfl))) λz m=>ae.some m)
theorem VC(m:5500000<=n){a b:List Loop}(o:qt a):An n a b=aa (qm a b):=by
 unfold An qm;have hl:=o.1;refine ae.eq (dL (λh=>ae.some ?_) λh=>?_)
 ·cases c:kV ot a b with
  |false=>rfl
  |true=>exact br (by rw[GB c]) h
 refine ae.loop (λx:Int=> ∃i:Nat,x=i/\i<=a.length/\kV ot (a.drop i) (b.drop i)=kV ot a b) (λx=>a.length-x.toNat) ?_ n 0 ⟨0,rfl,O,rfl⟩ O;rintro k x ⟨i,rfl,G,c⟩ y;refine a1 (λA=>?_) λB=>ae.some ?_
 ·have p:i<a.length:=O
  have q:i<b.length:=O
  have d:=bC p;have l:=bC q;have r:=o.2 _ (bX d);rw[kn p,kn q] at c;simp only[kV] at c;refine ae.aS (λz=>z= !ot a[i] b[i]) (λj s=>?_) λz C=>?_
  ·refine ah (bo d) (ah (bo l) (ah (Lc m r.1) (ae.cond (λe=>s _ ?_) λe=>ah (Lc m r.2) (s _ ?_))))
   ·unfold ot;rw[sc e];rfl
   unfold ot;rw[ql e];rfl
  subst C;cases w:ot a[i] b[i] with
  |false=>rw[w] at c;exact b7 (ae.some c)
  |true=>
   rw[w,gi] at c;refine b3 ?_;rw[bc O];exact y _ ⟨i+1,O,O,c⟩ O
 have D:a.drop i=[]:=jO O;have F:b.drop i=[]:=jO O;rw[D,F] at c;exact c
def iG:List Int->List Int->Bool
 |a::as,b::c=>if a=b then iG as c else aj (a<b)
 | [],_::_=>ab
 |_,[]=>al
theorem Oi{p:List Int}(A:p.length<n)(B:p.length<=1100000)(C:q.length<=1100000):Aa n p q=aa (iG p q):=by
 unfold Aa;refine ae.eq (ae.loop (λx:Int=> ∃i:Nat,x=i/\i<=p.length/\i<=q.length/\iG (p.drop i) (q.drop i)=iG p q) (λx=>p.length-x.toNat) ?_ n 0 ⟨0,rfl,O,O,rfl⟩ O);rintro b x ⟨i,rfl,D,F,a⟩ m;refine ae.aS (λz=>z=aj (i<p.length/\i<q.length)) (λj l=>a1 (λh=>l _ ?_) λh=>l _ ?_) λz o=>?_
 ·rw[gM];simp only[decide_eq_true_eq];omega
 ·exact(bN O).symm
 subst o;refine a1 (λh=>?_) λh=>ae.some ?_
 ·have c:=bC h.1;have d:=bC h.2;rw[kn h.1,kn h.2] at a;simp only[iG] at a;refine ah (bo c) (ah (bo d) (dL (λk=>ae.some ?_) λr=>?_))
  ·rw[be k] at a;exact a
  rw[bg r] at a;rw[bc O];exact m _ ⟨i+1,O,O,O,a⟩ O
 rw[<-a];by_cases e:i<p.length
 ·have s:q.drop i=[]:=jO O;rw[s,kn e];simp only[iG]
  grind
 have w:p.drop i=[]:=jO O;rw[w];by_cases y:i<q.length
 ·rw[kn y];simp only[iG]
  grind
 rw[jO (O:q.length<=i)];simp only[iG]
 grind
theorem ZA(n:Nat)(x y:Int):DB n x y=aa (if x<y then-1 else if y<x then 1 else 0):=by
 unfold DB DG
 grind
theorem ab2{p:List Int}(C:p.length<n)(D:p.length<=1100000)(F:q.length<=1100000):A7 n p q=aa (iG p q):=by
 unfold A7 KH;refine ae.eq (hE (P:=λc:Int=>decide (c<0)=iG p q) ?_ λc w=>ae.some w);refine ae.loop (λx:Int=> ∃i:Nat,x=i/\i<=p.length/\i<=q.length/\iG (p.drop i) (q.drop i)=iG p q) (λx=>p.length-x.toNat) ?_ n 0 ⟨0,rfl,O,O,rfl⟩ O;rintro b x ⟨i,rfl,G,H,a⟩ y;refine a1 (λz=>?_) λA=>?_
 ·have e:i<p.length:=O
  have d:=bC e;refine ah (bo d) (a1 (λh=>ae.some ?_) λh=>?_)
  ·rw[<-a,jO (O:q.length<=i),kn e];simp[iG]
  have o:i<q.length:=O
  have k:=bC o;rw[kn e,kn o] at a;simp only[iG] at a;refine ah (bo k) (ah (ZA n _ _) ?_);by_cases r:p[i]<q[i]
  ·rw[bg r];refine dL (λ_=>ae.some ?_) (λl=>br l O)
   grind
  rw[be r];by_cases s:q[i]<p[i]
  ·rw[bg s];refine dL (λ_=>ae.some ?_) (λl=>br l O)
   grind
  rw[be s];refine dL (λm=>br rfl m) λ_=>?_;rw[bg O] at a;rw[bc O];exact y _ ⟨i+1,O,O,O,a⟩ O
 have B:p.drop i=[]:=jO O;rw[B] at a;refine a1 (λh=>ae.some ?_) λh=>ae.some ?_
 ·rw[<-a,kn (O:i<q.length)];rfl
 rw[<-a,jO (O:q.length<=i)];rfl
def k3(p:Prog)(i many:Nat)(a:List Part):Prog:=⟨p.a7,p.parts.take i++a++p.parts.drop (i+many)⟩
theorem Cb(a:eo 900 p)(e:ys.length<=4)(c: ∀y∈ys,im 1100000 y):eo 1100000 (k3 p i many ys):=by
 have d:=a.2.1;refine⟨(a.mono (O:900<=1100000)).1,?_,λx b=>?_⟩
 ·show(p.parts.take i++ys++p.parts.drop (i+many)).length<=1100000
  grind
 have b:x∈p.parts.take i++ys++p.parts.drop (i+many):=b;simp only[List.mem_append] at b;rcases b with (h|h)|h
 ·exact(a.mono (O:900<=1100000)).2.2 x (gn h)
 ·exact c x h
 exact(a.mono (O:900<=1100000)).2.2 x (ft h)
theorem GY(d:7700000<=n)(a:eo 900 p)(m:i+many<=p.parts.length)(e:ys.length<=4)(k: ∀y∈ys,im 1100000 y):jA n p (i:Int) (many:Int) ys=aa (hd (k3 p i many ys)):=by
 have l:=a.2.1;have b:=a.mono (O:900<=1100000);have c:=Cb a (i:=i) (many:=many) e k;unfold jA hd;refine ae.eq (ah (oD O b) (ah (iR O O O) ?_));rw[c7,show(0:Int).toNat=0 from rfl,p5];refine ah (x:=p.parts.take i) (dM ca) (ah (x:=p.parts.take i++ys) (dM ca) ?_);rw[bc O];refine ah (iR O O O) ?_;rw[c7,dZ,show((i:Int)+(many:Int)).toNat=i+many by omega];refine ah (x:=(k3 p i many ys).parts) ?_ ?_;rotate_left;show ae (bQ (lM n (k3 p i many ys)) _) _;refine(ah (jc d c.sm) (ae.cond (λh=>ae.some ?_) λh=>?_))
 ·rw[be (by simpa using h)]
 ·rw[bg (by simpa using h)];exact ah (oD O c) (ae.some rfl)
 rw[dM ca];rfl
def ny(p:Prog)(c:Int)(d:fY):Bool:=match (bI p.parts)[d.eQ.toNat]?,(bI p.parts)[d.eR.toNat]? with
 |some a,aa b=>decide (a.part=c)&&(aj (b.part=c+1)&&iG b.db a.db)
 |_,_=>al
def ss(a b:Part):Part:=⟨a.nest,a.body++b.body⟩
abbrev oo(p:Prog):List fY:=gv p (bI p.parts) (bI p.parts).length
def Is(p:Prog)(a:Int)(b c:Part):Bool:=qm b.nest c.nest&& !(oo p).any (ny p a)
def mn(p:Prog)(a:Int):Prog×Bool:=
 if b6 p=ab/\eA p a=ab then
  (match aB p.parts a,aB p.parts (a+1) with
  |some b,aa c=>if Is p a b c=ab then hd (k3 p a.toNat 2 [ss b c]) else ev
  |_,_=>ev)
 else ev
theorem Ch(c:b6 p=ab){d:fY}(i:d∈oo p): ∃(s t:Nat) (a b:cN),d.eQ=s/\d.eR=t/\(bI p.parts)[s]? =aa a/\(bI p.parts)[t]? =aa b/\s<t/\a.db.length<=4/\b.db.length<=4:=by obtain⟨s,t,k,l,_,rfl⟩:=N7.1 i;have e:=bC (O:s<(bI p.parts).length);have h:=bC l;exact⟨s,t,_,_,rfl,rfl,e,h,k,Se c (iQ (bX e)),Se c (iQ (bX h))⟩
theorem A'(b:b6 p=ab):(oo p).length<=14400:=by
 have c:=Af p (bI p.parts) (bI p.parts).length;have a:=(en b).2.2.2.2;have d:(bI p.parts).length*(bI p.parts).length<=120*120:=nY a a
 grind
theorem Bf(l:7700000<=n)(e:eo 1100000 p)(a:Int):jl n p a (-1)=aa (if b6 p=ab/\eA p a=ab then(p,ab) else ev):=by
 unfold jl;refine ae.eq (ae.aS (λz=>z= !(b6 p&&eA p a)) (λj c=>?_) λz m=>?_)
 ·refine ah (sG l e.sm) (ae.cond (λh=>c _ (by rw[sc h];rfl)) λh=>?_);have bR:=ql h;refine ah (oR n e.2.1 a) (ae.cond (λd=>c _ ?_) λd=>dL (λh=>(h rfl).elim) λ_=>c _ ?_)
  ·rw[bR,show eA p a=al from sc d];rfl
  rw[bR,show eA p a=ab from ql d];rfl
 subst m;refine ae.cond (λh=>ae.some ?_) λh=>?_
 ·have:=sc h;rw[be λi=>by rw[i.1,i.2] at this;cases this];rfl
 have:=ql h;simp only[cB] at this;obtain⟨bR,k⟩:=this;rw[bg ⟨bR,k⟩];have b:0<=a/\a<(p.parts.length:Int):=e3 k;obtain⟨x,o,_⟩:=pj b.1 b.2;exact ah (qj O bR) (ah o (ae.some rfl))
theorem ad2{s:List Part}{j:Nat}(a:i<j)(b:j<=s.length): ∃r,te n s (i:Int) (j:Int)=aa r/\r.2.take r.1=s.take i++s.drop j:=by
 refine⟨(dK s i j,hf s i j (⟨[],[]⟩:Part)),?_,?_⟩
 ·unfold te
  grind
 dsimp only;have c:(s.take (i:Int).toNat++s.drop (j:Int).toNat).length=dK s i j:=by
  unfold dK
  grind
 unfold hf
 grind
theorem NY(b:b6 p=ab)(c:x∈p.parts)(d:P∈p.parts):im 1100000 (ss x P):=by
 obtain⟨_,_,a⟩:=gH b;obtain⟨aP,a2,a3⟩:=a x c;obtain⟨k,l,e⟩:=a P d;refine⟨aP.mono O,?_,λs i=>?_⟩
 ·show(x.body++P.body).length<=1100000
  grind
 rcases eX.1 (show s∈x.body++P.body from i) with h|h
 ·exact(a3 s h).mono O
 exact(e s h).mono O
theorem aaC(cR:22000000<=n)(H:eo 1100000 p)(bA: -1<=c/\c<=9):tw n p c=aa (mn p c):=by
 unfold tw mn;refine ae.eq (ah (Bf O H c) ?_);by_cases A:b6 p=ab/\eA p c=ab
 ·rw[bg A,bg A];obtain⟨o,U⟩:=A;have V:0<=c/\c<(p.parts.length:Int):=e3 U;obtain⟨i,rfl⟩: ∃i:Nat,c=i:=⟨c.toNat,O⟩
  have e:=bC (O:i<p.parts.length);have K:=bo e;generalize Y:p.parts[i]=l at K e;have Dl:=(en o).2.2.1;refine b7 (ah K ?_);rw[bc (n:=(i:Int)+1) O,bc (n:=(i:Int)+2) O,K];by_cases B:i+1<p.parts.length
  ·have w:=bC B;generalize ajU:p.parts[i+1]=m at w;have L:aB p.parts ((i:Int)+1)=aa m:=bo w;have m1:=bX e;have v:=bX w;rw[L];dsimp only;refine ae.aS (λz=>z= !qm l.nest m.nest) (λj q=>a1 (λh=>br h O) λ_=>ah rfl (ah (WH O (H.sm.2.2 l m1).1) (q _ rfl))) λz C=>?_;subst C;unfold Is;cases hne:qm l.nest m.nest with
   |false=>exact b7 (ae.some rfl)
   |true=>
    refine b3 (ah (wH O H.sm) ?_);rw[bg o];refine b7 (ah (Gj O o) ?_);have Q:=A' o;have R: ∀d∈oo p,d∈oo p:=λ_ h=>h;show ae (bz _ n 0) _;rw[gi];generalize E:oo p=D at Q R;rw[show gv p (bI p.parts) (bI p.parts).length=D from E];refine ae.loop (λx:Int=> ∃k:Nat,x=k/\k<=D.length/\(D.take k).any (ny p (i:Int))=al) (λx=>D.length-x.toNat) ?_ n 0 ⟨0,rfl,O,rfl⟩ O;rintro W x ⟨k,rfl,hk,X⟩ b5;refine a1 (λhlt=>?_) λkL=>?_
    ·have cI:=bC (O:k<D.length);generalize Jz:D[k]=d at cI;obtain⟨s,t,a,b,I,M,N,P,pE,J4,J7⟩:=Ch o (E▸bX cI);refine ah (bo cI) (ah (x:=a) (by rw[I];exact bo N) (ah (x:=b) (by rw[M];exact bo P) ?_));have F:ny p (i:Int) d=(aj (a.part=(i:Int))&&(aj (b.part=(i:Int)+1)&&iG b.db a.db)):=by
      unfold ny;rw[I,M,Int.toNat_natCast,Int.toNat_natCast,N,P]
     refine ae.aS (λz=>z=ny p (i:Int) d) (λj q=>?_) λz C=>?_
     ·rw[F] at q;refine a1 (λG=>a1 (λB=>ah (ab2 O O O) (q _ ?_)) λB=>q _ ?_) λG=>q _ ?_
      ·rw[bS G,bS B];rfl
      ·rw[bS G,bN B];rfl
      rw[bN G];rfl
     subst C;refine ae.cond (λh=>ae.some ?_) λh=>?_
     ·rw[be]; · rfl
      have:D.any (ny p (i:Int))=ab:=iW.2 ⟨d,bX cI,h⟩;rw[this];simp
     rw[bc O];exact b5 _ ⟨k+1,O,O,by rw[fQ cI,ua,X];simp[h]⟩ O
    rw[jN O] at X;rw[X,bg (by rfl)];have dp:=Cb (i:=i) (many:=2) (ys:=[ss l m]) ((gH o).mono (O:4<=900)) bl λy S=>by rw[p8] at S;subst S;exact NY o m1 v
    obtain⟨_,_,T⟩:=gH o;have dm:=(T l m1).2.1;have cL:=(T m v).2.1;obtain⟨r,f,g⟩:=ad2 (n:=n) (s:=p.parts.set i (ss l m)) (i:=i+1) (j:=i+2) O (by rw[fX];omega);refine ah rfl (ah (x:=l.body++m.body) (dM O) (ah (x:=p.parts.set i (ss l m)) (dJ O _) (ah (x:=r) f ?_)));have u:(⟨p.a7,r.2.take r.1⟩:Prog)=k3 p i 2 [ss l m]:=by
     unfold k3;rw[g];congr 1;rw[List.take_set,o4 O,eK,e,l6 _ _ (by rw[c6];omega)]
     have:i-(p.parts.take i).length=0:=by rw[c6];omega
     rw[this];rfl
    rw[u,c7];exact ah (q9 O dp) (ae.some rfl)
  have L:aB p.parts ((i:Int)+1)=none:=x' O;rw[L];refine ae.aS (λz=>z=ab) (λj q=>a1 (λ_=>q _ rfl) λh=>br (show(p.parts.length:Int)<=(i:Int)+1 by omega) h) λz C=>?_;rw[C];exact b7 (ae.some rfl)
 rw[be A,be A];exact b3 (ae.some rfl)
theorem aa0(cR:22000000<=n)(w:eo 1100000 p)(bA: -1<=c/\c<=9):tu n p c=aa (mn p c):=by
 unfold tu mn;refine ae.eq (ah (jf O w) ?_);by_cases F:b6 p=ab/\eA p c=ab
 ·rw[bg F];obtain⟨e,W⟩:=F;have P:0<=c/\c<(p.parts.length:Int):=e3 W;obtain⟨i,rfl⟩: ∃i:Nat,c=i:=⟨c.toNat,O⟩
  have m:=bC (O:i<p.parts.length);have X:=bo m;generalize S:p.parts[i]=o at X m;have H:=(en e).2.2.1;rw[bc (n:=(i:Int)+1) O,bc (n:=(p.parts.length:Int)-1) O,X];by_cases B:i+1<p.parts.length
  ·have q:=bC B;generalize T:p.parts[i+1]=A at q;have K:aB p.parts ((i:Int)+1)=aa A:=bo q;have m1:=bX m;have f:=bX q;rw[K];dsimp only;refine ae.aS (λz=>z= !qm o.nest A.nest) (λj l=>ah (jc O w.sm) ?_) λz r=>?_
   ·rw[e];refine b3 (a1 (λh=>br h O) λ_=>a1 (λh=>br h O) λ_=>ah rfl (ah rfl (ah (VC O (w.sm.2.2 o m1).1) (l _ rfl))))
   subst r;unfold Is;cases U:qm o.nest A.nest with
   |false=>exact b7 (ae.some rfl)
   |true=>
    refine b3 (ah (vU O e) (ah (GD O e) ?_));have L:=A' e;rw[gi];generalize g:oo p=D at L;rw[show gv p (bI p.parts) (bI p.parts).length=D from g];refine ae.loop (λx:Int=> ∃k:Nat,x=k/\k<=D.length/\(D.take k).any (ny p (i:Int))=al) (λx=>D.length-x.toNat) ?_ n 0 ⟨0,rfl,O,rfl⟩ O;rintro Q x ⟨k,rfl,hk,R⟩ V;refine a1 (λY=>?_) λkL=>?_
    ·have cI:=bC (O:k<D.length);generalize Jz:D[k]=d at cI;obtain⟨s,t,a,b,u,v,E,I,pE,J4,J7⟩:=Ch e (g▸bX cI);refine ah (bo cI) (ah (x:=a) (by rw[u];exact bo E) (ah (x:=b) (by rw[v];exact bo I) ?_));have C:ny p (i:Int) d=(aj (a.part=(i:Int))&&(aj (b.part=(i:Int)+1)&&iG b.db a.db)):=by
      unfold ny;rw[u,v,Int.toNat_natCast,Int.toNat_natCast,E,I]
     refine ae.aS (λz=>z=ny p (i:Int) d) (λj l=>?_) λz r=>?_
     ·rw[C] at l;refine a1 (λG=>a1 (λB=>ah (Oi O O O) (l _ ?_)) λB=>l _ ?_) λG=>l _ ?_
      ·rw[bS G,bS B];rfl
      ·rw[bS G,bN B];rfl
      rw[bN G];rfl
     subst r;refine ae.cond (λh=>ae.some ?_) λh=>?_
     ·rw[be]; · rfl
      have:D.any (ny p (i:Int))=ab:=iW.2 ⟨d,bX cI,h⟩;rw[this];simp
     rw[bc O];exact V _ ⟨k+1,O,O,by rw[fQ cI,ua,R];simp[h]⟩ O
    rw[jN O] at R;rw[R,bg (by rfl)];obtain⟨_,_,M⟩:=gH e;have dm:=(M o m1).2.1;have cL:=(M A f).2.1;refine ah rfl (ah (x:=o.body) (dM ca) (ah rfl (ah (x:=o.body++A.body) (dM O) ?_)));have hw:=GY (n:=n) O ((gH e).mono (O:4<=900)) (i:=i) (many:=2) O (ys:=[ss o A]) bl λy N=>by rw[p8] at N;subst N;exact NY e m1 f
    rw[c7];exact ah hw (ae.some rfl)
  have K:aB p.parts ((i:Int)+1)=none:=x' O;rw[K];refine ae.aS (λz=>z=ab) (λj l=>ah (jc O w.sm) ?_) λz r=>?_
  ·rw[e]
   grind
  rw[r];exact b7 (ae.some rfl)
 rw[be F];refine ae.aS (λz=>z=ab) (λj l=>ah (jc O w.sm) ?_) λz r=>by rw[r];exact b7 (ae.some rfl)
 by_cases e:b6 p=ab
 ·have W: ¬(0<=c/\c<(p.parts.length:Int)):=λh=>F ⟨e,bS h⟩;rw[e];have H:=w.2.1;rw[bc (n:=(p.parts.length:Int)-1) O]
  grind
 rw[show b6 p=al by simpa using e]
 grind
def nz(p:Prog)(c k:Int)(d:fY):Bool:=match (bI p.parts)[d.eQ.toNat]?,(bI p.parts)[d.eR.toNat]? with
 |some a,aa b=>decide (a.part=c)&&(aj (b.part=c)&&(aj (k<=a.stmt)&&aj (b.stmt<k)))
 |_,_=>al
def Ix(p:Prog)(a k:Int)(P:Part):Bool:=aj (1<=k/\k<(P.body.length:Int))&& !(oo p).any (nz p a k)
def oh(P:Part)(k:Nat):Part:=⟨P.nest,P.body.take k⟩
def sw(P:Part)(k:Nat):Part:=⟨P.nest,P.body.drop k⟩
def mr(p:Prog)(a k:Int):Prog×Bool:=
 if b6 p=ab/\eA p a=ab then
  (match aB p.parts a with
  |some P=>if Ix p a k P=ab then hd (k3 p a.toNat 1 [oh P k.toNat,sw P k.toNat]) else ev
  |none=>ev)
 else ev
theorem OI(c:b6 p=ab)(d:P∈p.parts)(k:Nat): ∀y∈[oh P k,sw P k],im 1100000 y:=by
 obtain⟨_,_,e⟩:=gH c;obtain⟨aP,a2,a3⟩:=e P d;intro y b;simp only[List.mem_cons,List.not_mem_nil,or_false] at b;rcases b with rfl|rfl
 ·refine⟨aP.mono O,?_,λs a=>(a3 s (gn a)).mono O⟩;show(P.body.take k).length<=1100000
  grind
 refine⟨aP.mono O,?_,λs a=>(a3 s (ft a)).mono O⟩;show(P.body.drop k).length<=1100000
 grind
theorem PC{s:List Part}{v:List Part}(a:i<=s.length)(b:s.length+v.length<=1000000000):vX n s (i:Int) v=aa (s.take i++v++s.drop i):=by unfold vX;rw[bS (show(0:Int)<=(i:Int) by omega),bS (show(i:Int)<=(s.length:Int) by omega),cond_true,cond_true,c7];exact dM (by simp only[iI,mi,nj];omega)
theorem aaE(cR:22000000<=n)(f:eo 1100000 p){k:Int}(bA: -1<=c/\c<=9):sJ n p c k=aa (mr p c k):=by
 unfold sJ mr;refine ae.eq (ah (Bf O f c) ?_);by_cases o:b6 p=ab/\eA p c=ab
 ·rw[bg o,bg o];obtain⟨l,S⟩:=o;have T:0<=c/\c<(p.parts.length:Int):=e3 S;obtain⟨i,rfl⟩: ∃i:Nat,c=i:=⟨c.toNat,O⟩
  have e:=bC (O:i<p.parts.length);have y:=bo e;generalize U:p.parts[i]=P at y e;have V:=(en l).2.2.1;have m1:=bX e;have r:=(en l).2.2.2.1 P m1;obtain⟨A,B⟩:=ia r;obtain⟨_,Y,RA,_⟩:=gu r;refine b7 (ah y ?_);rw[bc (n:=(i:Int)+1) O,bc (n:=(P.body.length:Int)-1) O,y];dsimp only;refine ae.aS (λz=>z= !decide (1<=k/\k<(P.body.length:Int))) (λj g=>ah (jg n k 1 _) (g _ ?_)) λz C=>?_
  ·congr 1
   grind
  subst C;unfold Ix;cases F:aj (1<=k/\k<(P.body.length:Int)) with
  |false=>exact b7 (ae.some rfl)
  |true=>
   have hk:=e3 F;obtain⟨t,rfl⟩: ∃t:Nat,k=t:=⟨k.toNat,O⟩
   refine b3 (ah (wH O f.sm) ?_);rw[bg l];refine b7 (ah (Gj O l) ?_);have G:=A' l;show ae (bz _ n 0) _;rw[gi];generalize v:oo p=D at G;rw[show gv p (bI p.parts) (bI p.parts).length=D from v];refine ae.loop (λx:Int=> ∃j:Nat,x=j/\j<=D.length/\(D.take j).any (nz p (i:Int) (t:Int))=al) (λx=>D.length-x.toNat) ?_ n 0 ⟨0,rfl,O,rfl⟩ O;rintro H x ⟨j,rfl,g,K⟩ b5;refine a1 (λhlt=>?_) λkL=>?_
   ·have cI:=bC (O:j<D.length);generalize Jz:D[j]=d at cI;obtain⟨s,u,a,b,E,I,M,N,pE,J4,J7⟩:=Ch l (v▸bX cI);refine ah (bo cI) (ah (x:=a) (by rw[E];exact bo M) (ah (x:=b) (by rw[I];exact bo N) ?_));have w:nz p (i:Int) (t:Int) d=(aj (a.part=(i:Int))&&(aj (b.part=(i:Int))&&(aj ((t:Int)<=a.stmt)&&aj (b.stmt<(t:Int))))):=by
     unfold nz;rw[E,I,Int.toNat_natCast,Int.toNat_natCast,M,N]
    refine ae.aS (λz=>z=nz p (i:Int) (t:Int) d) (λq m=>?_) λz C=>?_
    ·rw[w] at m;refine a1 (λL=>a1 (λQ=>a1 (λR=>m _ ?_) λR=>m _ ?_) λQ=>m _ ?_) λL=>m _ ?_
     ·rw[bS L,bS Q,bS R];simp
     ·rw[bN R];simp
     ·rw[bN Q];simp
     rw[bN L];rfl
    subst C;refine ae.cond (λh=>ae.some ?_) λh=>?_
    ·rw[be]; · rfl
     have:D.any (nz p (i:Int) (t:Int))=ab:=iW.2 ⟨d,bX cI,h⟩;rw[this];simp
    rw[bc O];exact b5 _ ⟨j+1,O,O,by rw[fQ cI,ua,K];simp[h]⟩ O
   rw[jN O] at K;rw[K,bg (by rfl)];have m:=Cb (i:=i) (many:=1) (ys:=[oh P t,sw P t]) ((gH l).mono (O:4<=900)) bl (OI l m1 t);refine ah (MA O A B) (ah (iR O O O) ?_);rw[c7,c7,dZ];refine ah (x:=P.body.drop t) ?_ (ah (iR O O O) ?_)
   ·unfold E5
    have:(P.body.drop t).isEmpty=al:=by
     cases W:P.body.drop t with
     |nil=>
      have:=congrArg List.length W;rw[fN,List.length_nil] at this;omega
     |cons=>rfl
    rw[this,cond_false];rw[dM ca];rfl
   rw[c7,show(0:Int).toNat=0 from rfl,p5];refine ah (x:=p.parts.set i (oh P t)) (dJ O _) (ah (PC (i:=i+1) (by rw[fX];omega) (by rw[fX];simp;omega)) ?_);have X:(⟨p.a7,(p.parts.set i (oh P t)).take (i+1)++[sw P t]++(p.parts.set i (oh P t)).drop (i+1)⟩:Prog)=k3 p i 1 [oh P t,sw P t]:=by
    unfold k3;congr 1;rw[List.take_set,o4 O,eK,e,l6 _ _ (by rw[c6];omega)]
    have:i-(p.parts.take i).length=0:=by rw[c6];omega
    rw[this];simp
   show ae (bQ (lP n (⟨p.a7,(p.parts.set i (oh P t)).take (i+1)++[sw P t]++(p.parts.set i (oh P t)).drop (i+1)⟩:Prog)) _) _;rw[X];simp only[Int.toNat_natCast];exact ah (q9 O m) (ae.some rfl)
 rw[be o,be o];exact b3 (ae.some rfl)
theorem aa2(cR:22000000<=n)(y:eo 1100000 p){k:Int}(bA: -1<=c/\c<=9):sI n p c k=aa (mr p c k):=by
 unfold sI mr;refine ae.eq (ah (jf O y) ?_);by_cases w:b6 p=ab/\eA p c=ab
 ·rw[bg w];obtain⟨e,Q⟩:=w;have I:0<=c/\c<(p.parts.length:Int):=e3 Q;obtain⟨i,rfl⟩: ∃i:Nat,c=i:=⟨c.toNat,O⟩
  have l:=bC (O:i<p.parts.length);have R:=bo l;generalize M:p.parts[i]=P at R l;have N:=(en e).2.2.1;have m1:=bX l;have A:=(en e).2.2.2.1 P m1;obtain⟨_,S,T,_⟩:=gu A;rw[R];dsimp only;refine ae.aS (λz=>z= !decide (1<=k/\k<(P.body.length:Int))) (λj W=>ah (jc O y.sm) ?_) λz m=>?_
  ·rw[e]
   grind
  subst m;unfold Ix;cases B:aj (1<=k/\k<(P.body.length:Int)) with
  |false=>exact b7 (ae.some rfl)
  |true=>
   have hk:=e3 B;obtain⟨t,rfl⟩: ∃t:Nat,k=t:=⟨k.toNat,O⟩
   refine b3 (ah (vU O e) (ah (GD O e) ?_));have C:=A' e;rw[gi];generalize X:oo p=D at C;rw[show gv p (bI p.parts) (bI p.parts).length=D from X];refine ae.loop (λx:Int=> ∃j:Nat,x=j/\j<=D.length/\(D.take j).any (nz p (i:Int) (t:Int))=al) (λx=>D.length-x.toNat) ?_ n 0 ⟨0,rfl,O,rfl⟩ O;rintro F x ⟨j,rfl,W,G⟩ U;refine a1 (λV=>?_) λY=>?_
   ·have cI:=bC (O:j<D.length);generalize Jz:D[j]=d at cI;obtain⟨s,u,a,b,f,g,v,E,pE,J4,J7⟩:=Ch e (X▸bX cI);refine ah (bo cI) (ah (x:=a) (by rw[f];exact bo v) (ah (x:=b) (by rw[g];exact bo E) ?_));have o:nz p (i:Int) (t:Int) d=(aj (a.part=(i:Int))&&(aj (b.part=(i:Int))&&(aj ((t:Int)<=a.stmt)&&aj (b.stmt<(t:Int))))):=by
     unfold nz;rw[f,g,Int.toNat_natCast,Int.toNat_natCast,v,E]
    refine ae.aS (λz=>z=nz p (i:Int) (t:Int) d) (λq r=>?_) λz m=>?_
    ·rw[o] at r;refine a1 (λH=>a1 (λK=>a1 (λL=>r _ ?_) λL=>r _ ?_) λK=>r _ ?_) λH=>r _ ?_
     ·rw[bS H,bS K,bS L];simp
     ·rw[bN L];simp
     ·rw[bN K];simp
     rw[bN H];rfl
    subst m;refine ae.cond (λh=>ae.some ?_) λh=>?_
    ·rw[be]; · rfl
     have:D.any (nz p (i:Int) (t:Int))=ab:=iW.2 ⟨d,bX cI,h⟩;rw[this];simp
    rw[bc O];exact U _ ⟨j+1,O,O,by rw[fQ cI,ua,G];simp[h]⟩ O
   rw[jN O] at G;rw[G,bg (by rfl)];refine ah rfl (ah (iR O O O) (ah (iR O O O) ?_));rw[c7,c7,dZ,show(0:Int).toNat=0 from rfl,p5,c7];have hw:=GY (n:=n) O ((gH e).mono (O:4<=900)) (i:=i) (many:=1) O (ys:=[oh P t,sw P t]) bl (OI e m1 t);exact ah hw (ae.some rfl)
 rw[be w];refine ae.aS (λz=>z=ab) (λj W=>ah (jc O y.sm) ?_) λz m=>by rw[m];exact b7 (ae.some rfl)
 by_cases e:b6 p=ab
 ·have Q: ¬(0<=c/\c<(p.parts.length:Int)):=λh=>w ⟨e,bS h⟩
  grind
 rw[show b6 p=al by simpa using e]
 grind
def jX(k:Nat)(x:aE):aE:=⟨(x.aM.take k++0::x.aM.drop k).take 4,x.const⟩
def gp(c:Int):aE:=⟨[0,0,0,0],c⟩
def nf(k:Nat)(s c:Int):aE:=⟨[0,0,0,0].set k s,c⟩
theorem PE(k:Nat): ∀x,de x=ab->fr 4 (jX k x):=λx a=>by unfold fr jX;rw[c6];omega
theorem aak(l:5500000<=n)(m:k<3): ∀x,de x=ab->v7 n x (k:Int)=aa (jX k x):=λx h=>by obtain⟨i,_,_⟩:=fT h;obtain⟨a,b,c,d,e⟩:=mz i;unfold v7;rw[AX n x h];obtain⟨cs,lg⟩:=x;dsimp only at e;subst e;rcases(O:k=0\/k=1\/k=2) with rfl|rfl|rfl<;>rfl
theorem afI(m:Nat)(a b c d e:Int)(B:aE)(h:k<3):jB (m+6) ⟨[a,b,c,d],e⟩ 2 (k:Int) B=aa (jX k ⟨[a,b,c,d],e⟩):=by rcases(O:k=0\/k=1\/k=2) with rfl|rfl|rfl<;>rfl
theorem ab7(h:k<3)(B:aE): ∀n,5500000<=n-> ∀x,de x=ab->jB n x 2 (k:Int) B=aa (jX k x):=λn o x i=>by
 obtain⟨m,rfl⟩: ∃m,n=m+6:=⟨n-6,O⟩
 obtain⟨l,_,_⟩:=fT i;obtain⟨a,b,c,d,e⟩:=mz l;obtain⟨cs,lg⟩:=x;dsimp only at e;subst e;exact afI m a b c d lg B h
def jI(l:List aE):Bool:=l.all λa=>decide (fl a.aM=0)
def eU(l:Loop):Bool:=aj (l.bq.length=1)&&(aj (l.aL.length=1)&&(jI l.bq&&jI l.aL))
def du(l:List aE):Int:=(l.headD ⟨[],0⟩).const
theorem Mp(b:5500000<=n){l:List aE}(e:l.length<=2)(c: ∀x∈l,de x=ab):Ac n l=aa (jI l):=by
 unfold Ac;rw[y0 (p:=λa=>decide (0<(fl a.aM:Int))) (λx d=>by
  unfold ES;rw[Aw b (show x.aM.length<=1100000 by have:=(fT (c x d)).1;omega)];rfl) O O]
 show aa (!l.any _)=_;congr 1;unfold jI
 grind
theorem G7(d:5500000<=n)(h:kE l):wg n l=aa (if eU l=ab then(du l.bq,du l.aL,ab) else(0,0,al)):=by
 obtain⟨⟨e,i⟩,k,m⟩:=h;unfold wg;refine ae.eq (ae.aS (λz=>z= !eU l) (λj a=>?_) λz o=>?_)
 ·refine dL (λh=>a _ ?_) λh=>dL (λp=>a _ ?_) λp=>ah (Mp d e i) (ae.cond (λb=>a _ ?_) λb=>ah (Mp d k m) (a _ ?_))
  ·unfold eU;rw[bN (show¬l.bq.length=1 by omega)];rfl
  ·unfold eU;rw[bN (show¬l.aL.length=1 by omega),Bool.false_and,ko];rfl
  ·unfold eU;rw[show jI l.bq=al by simpa using b];simp
  unfold eU;rw[show jI l.bq=ab by simpa using b,bS (O:l.bq.length=1),bS (O:l.aL.length=1)];rfl
 subst o;cases c:eU l with
 |false=>exact b7 (ae.some rfl)
 |true=>
  refine b3 ?_;unfold eU at c;simp only[cB,decide_eq_true_eq] at c;obtain⟨q,r,_⟩:=c;obtain⟨x,s⟩:=wY.1 q;obtain⟨y,w⟩:=wY.1 r;rw[s,w];exact ah (x:=x) rfl (ah (x:=y) rfl (ae.some rfl))
theorem adU(s:5500000<=n)(h:kE l):BG n l=aa (jI l.bq&&jI l.aL):=by
 obtain⟨⟨B,w⟩,C,y⟩:=h;have r: ∀x,de x=ab->oP n x=aa (fl x.aM:Int):=λx b=>zL s (show x.aM.length<=1100000 by have:=(fT b).1;omega);have c: ∀(l:List aE) (i:Nat) (x:aE),l[i]? =aa x->fl x.aM=0->jI (l.take i)=ab->jI (l.take (i+1))=ab:=λl i x b m d=>by
  unfold jI at d⊢;rw[eK,b,List.all_append,d];simp[m]
 have o: ∀(l:List aE) (i:Nat) (x:aE),l[i]? =aa x-> ¬fl x.aM=0->jI l=al:=λl i x b m=>by
  unfold jI
  grind
 unfold BG;refine ae.eq (ae.loop (λz:Int=> ∃i:Nat,z=i/\i<=l.bq.length/\jI (l.bq.take i)=ab) (λz=>l.bq.length-z.toNat) ?_ n _ ⟨0,rfl,O,rfl⟩ O);rintro k z ⟨i,rfl,A,d⟩ p;refine a1 (λa=>?_) λq=>?_
 ·have a:i<l.bq.length:=O
  have b:=bC a;refine ah (bo b) (ah (r _ (w _ (fW a))) (a1 (λm=>ae.some ?_) λm=>?_))
  ·rw[o l.bq i _ b O];rfl
  rw[bc O];exact p _ ⟨i+1,O,O,c _ _ _ b O d⟩ O
 have e:i=l.bq.length:=O
 subst e;rw[dZ] at d;rw[d,gi];refine ae.loop (λz:Int=> ∃i:Nat,z=i/\i<=l.aL.length/\jI (l.aL.take i)=ab) (λz=>l.aL.length-z.toNat) ?_ n _ ⟨0,rfl,O,rfl⟩ O;rintro k z ⟨i,rfl,A,d⟩ p;refine a1 (λa=>?_) λq=>ae.some ?_
 ·have a:i<l.aL.length:=O
  have b:=bC a;refine ah (bo b) (ah (r _ (y _ (fW a))) (a1 (λm=>ae.some ?_) λm=>?_))
  ·exact(o l.aL i _ b O).symm
  rw[bc O];exact p _ ⟨i+1,O,O,c _ _ _ b O d⟩ O
 have e:i=l.aL.length:=O
 grind
theorem Gp(c:5500000<=n)(h:kE l):wP n l=aa (if eU l=ab then(du l.bq,du l.aL,ab) else(0,0,al)):=by
 unfold wP;refine ae.eq (ae.aS (λz=>z= !eU l) (λj a=>?_) λz d=>?_)
 ·refine dL (λe=>a _ ?_) λe=>dL (λi=>a _ ?_) λi=>ah (adU c h) (a _ ?_)
  ·unfold eU;rw[bN (show¬l.bq.length=1 by omega)];rfl
  ·unfold eU;rw[bN (show¬l.aL.length=1 by omega),Bool.false_and,ko];rfl
  unfold eU;rw[bS (O:l.bq.length=1),bS (O:l.aL.length=1)];rfl
 subst d;cases b:eU l with
 |false=>exact b7 (ae.some rfl)
 |true=>
  refine b3 ?_;unfold eU at b;simp only[cB,decide_eq_true_eq] at b;obtain⟨k,m,_⟩:=b;obtain⟨x,o⟩:=wY.1 k;obtain⟨y,p⟩:=wY.1 m;rw[o,p];exact ah (x:=x) rfl (ah (x:=y) rfl (ae.some rfl))
def qI(a b s:Int):Int:=Int.tdiv (max 0 (b-a)+s-1) s
def x1(k:Nat)(s:Int)(P:Part)(l:Loop):Part:=
 ⟨P.nest.take k++(⟨[gp 0],[gp (qI (du l.bq) (du l.aL) s)]⟩:Loop)::(⟨[gp (du l.bq),nf k s (du l.bq)],[gp (du l.aL),nf k s (du l.bq+s)]⟩:Loop)::(P.nest.drop (k+1)).map (d6 (jX k)),P.body.map (iF (jX k))⟩
def qe(p:Prog)(a b s:Int):Prog×Bool:=
 match aB p.parts a with
 |some P=>match aB P.nest b with
  |some l=>if dj p a b=ab/\P.nest.length<4/\(1<=s/\s<=6)/\eU l=ab then hd ⟨p.a7,p.parts.set a.toNat (x1 b.toNat s P l)⟩ else ev
  |none=>ev
 |none=>ev
theorem Gz{b:Int}(h:dj p a b≠ab):qe p a b s=ev:=by
 unfold qe
 grind
theorem Nw(a:p.parts[i]? =aa P)(b:P.nest[k]? =aa l)(s:Int):
  qe p (i:Int) (k:Int) s=if dj p (i:Int) (k:Int)=ab/\P.nest.length<4/\(1<=s/\s<=6)/\eU l=ab then hd ⟨p.a7,p.parts.set i (x1 k s P l)⟩ else ev:=by unfold qe;rw[bo a];dsimp only;rw[bo b];rfl
theorem G8(h:kE l)(k:eU l=ab): ∃a b,l=⟨[a],[b]⟩/\a=gp (du l.bq)/\b=gp (du l.aL)/\c3 99 (du l.bq)/\c3 99 (du l.aL):=by
 obtain⟨⟨o,n⟩,p,q⟩:=h;unfold eU at k;simp only[cB,decide_eq_true_eq] at k;obtain⟨r,s,w,A⟩:=k;obtain⟨bq,H⟩:=l;dsimp only at*;obtain⟨x,B⟩:=wY.1 r;obtain⟨y,C⟩:=wY.1 s;subst B;subst C;have m: ∀z:aE,de z=ab->jI [z]=ab->z=gp z.const:=λz D k=>by
  obtain⟨F,_,_⟩:=fT D;obtain⟨a,b,c,d,e⟩:=mz F;obtain⟨cs,lg⟩:=z;dsimp only at e;subst e;unfold jI at k;simp only[List.all_cons,List.all_nil,Bool.and_true,decide_eq_true_eq] at k;have G:=zB (l:=[a,b,c,d]) (i:=0) rfl O;have o:=zB (l:=[a,b,c,d]) (i:=1) rfl O;have n:=zB (l:=[a,b,c,d]) (i:=2) rfl O;have p:=zB (l:=[a,b,c,d]) (i:=3) rfl O;rw[G,o,n,p];rfl
 exact⟨x,y,rfl,m x (n x bl) w,m y (q y bl) A,(fT (n x bl)).2.1,(fT (q y bl)).2.1⟩
theorem QL{x:Int}(d:c3 99 c)(e:c3 99 x)(h:1<=s/\s<=6):0<=qI c x s/\qI c x s<=198:=by
 unfold c3 at d e;unfold qI;rw[Int.tdiv_eq_ediv_of_nonneg O];refine⟨Int.ediv_nonneg O O,?_⟩;refine Int.le_trans (Int.ediv_le_ediv (a:=max 0 (x-c)+s-1) (b:=198*s) O ?_) (by rw[Int.mul_ediv_cancel _ O];omega)
 grind
theorem Oe(h:eM r P=ab)(q:P.nest.length<4)(w:k<P.nest.length)(s:Int):im 4 (x1 k s P l):=by
 obtain⟨x,m⟩:=ia h;obtain⟨_,n,o,_⟩:=gu h;refine⟨⟨by simp only[x1,iI,List.length_cons,List.length_map,mi,nj];omega,λy d=>?_⟩,by simp only[x1,List.length_map];exact n.2,λs p=>?_⟩
 ·have e: ∀c,fr 4 (gp c):=λc=>by unfold fr gp;simp
  have i: ∀s c,fr 4 (nf k s c):=λs c=>by unfold fr nf;simp
  rcases eX.1 d with d|d
  ·exact((uH h).1.2 y (gn d))
  rcases eg.1 d with rfl|d
  ·exact⟨⟨bl,λa b=>by simp at b;subst b;exact e _⟩,bl,λa b=>by simp at b;subst b;exact e _⟩
  rcases eg.1 d with rfl|d
  ·exact⟨⟨bl,λa b=>by simp at b;rcases b with rfl|rfl;exact e _;exact i _ _⟩,bl,λa b=>by simp at b;rcases b with rfl|rfl;exact e _;exact i _ _⟩
  obtain⟨z,e,rfl⟩:=eH.1 d;exact xS (PE k) (m z (ft e))
 obtain⟨z,e,rfl⟩:=eH.1 p;exact CA (PE k) (o z e)
theorem Nq(n:Nat)(a:k<4)(s:Int):nH n (k:Int) s=aa (nf k s 0):=by rcases(O:k=0\/k=1\/k=2\/k=3) with rfl|rfl|rfl|rfl<;>rfl
theorem Bb(n:Nat)(c:Int):pK n c=aa (gp c):=rfl
theorem Qe{b:Int}(c:c3 99 a)(d:c3 99 b)(e:1<=s/\s<=6):wr (Int.tdiv (wr ((wr ((max 0 (wr (b-a)))+s))-1)) s)=qI a b s:=by obtain⟨h,i⟩:=QL c d e;unfold c3 at c d;rw[bc (n:=b-a) O,bc (n:=max 0 (b-a)+s) O,bc (n:=max 0 (b-a)+s-1) O];exact bc (by unfold qI at h i;omega)
theorem afq{l:List Loop}(a:k<=l.length)(b:l.length<=1100000)(v:Loop):vY n l (k:Int) [v]=aa (l.take k++[v]++l.drop k):=by unfold vY;rw[bS (show(0:Int)<=(k:Int) by omega),bS (show(k:Int)<=(l.length:Int) by omega)];rw[c7];exact dM ca
theorem ZK(D:7700000<=n)(G:eo 1100000 p)(c d s:Int):Ex n p c d s=aa (qe p c d s):=by
 unfold Ex;by_cases m:d= -1
 ·subst m;rw[Gz (by rw[rs O];simp)];refine ae.eq (ah (Bf D G c) ?_);by_cases H:b6 p=ab/\eA p c=ab
  ·rw[bg H];have aL:=H.2;unfold eA at aL;simp only[decide_eq_true_eq] at aL;obtain⟨x,u,_⟩:=pj aL.1 aL.2;exact b7 (ah u (ae.aS (λz=>z=ab) (λj B=>a1 (λ_=>B _ rfl) λh=>br (show(-1:Int)<0 by omega) h) λz K=>by rw[K];exact b7 (ae.some rfl)))
  rw[be H];exact b3 (ae.some rfl)
 refine ae.eq (ah (xJ D G c d m) ?_);by_cases q:dj p c d=ab
 ·rw[bg q];obtain⟨Y,i,k,P,l,rfl,rfl,X,C,aL,L,o,f⟩:=kg q;obtain⟨v,g⟩:=ia o;obtain⟨_,E,I,_⟩:=gu o;have r:=g l (bX C);rw[Nw X C];refine b7 (ah (bo X) (ae.aS (λz=>z= !(aj (P.nest.length<4)&&aj (1<=s/\s<=6))) (λj B=>?_) λz K=>?_))
  ·refine a1 (λh=>br h O) λ_=>a1 (λh=>B _ ?_) λh=>ah (jg n s 1 6) (B _ ?_)
   ·rw[bN (show¬P.nest.length<4 by omega)];rfl
   rw[bS (O:P.nest.length<4)];rfl
  subst K;by_cases e:P.nest.length<4
  ·by_cases w:1<=s/\s<=6
   ·rw[bS e,bS w];refine b3 (ah (bo C) (ah (G7 O r) ?_));by_cases A:eU l=ab
    ·rw[bg A,bg ⟨q,e,w,A⟩];obtain⟨a,b,_,_,_,M,N⟩:=G8 r A;have Q:=y9 (n:=n) O (nest:=P.nest) (body:=P.body) (s:=k) O v (λy T=>g y (ft T)) E.2 I (F:=λU=>v7 n U (k:Int)) (aak O O);have W:(P.nest.take k++(P.nest.drop k).map (d6 (jX k)))[k]? =aa (d6 (jX k) l):=by
      grind
     refine b7 (ah Q (ah (dJ Z _) (ah (x:=()) (by unfold wk;rw[be O]) (ah (Nq n f s) (ah (Nq n f s) (ah (Bb n _) (ah (Bb n _) (ah (bo W) (ah (dJ ca _) (ah (Bb n 0) (ah (Bb n _) (ah (afq ca ca _) (ah (dJ ca _) ?_)))))))))))));dsimp only;unfold c3 at M N;rw[c7,c7,lx,bc (n:=du l.bq+s) O,Qe ⟨O,O⟩ ⟨O,O⟩ w];have cI:P.nest.drop k=l::P.nest.drop (k+1):=kP C;have t:(P.nest.take k).length=k:=by rw[c6];omega
     have V: ∀R S:Loop,(((P.nest.take k++(P.nest.drop k).map (d6 (jX k))).set k R).take k++[S]++((P.nest.take k++(P.nest.drop k).map (d6 (jX k))).set k R).drop k)=P.nest.take k++S::R::(P.nest.drop (k+1)).map (d6 (jX k)):=λR S=>by
      grind
     rw[V];exact ah (q9 D (x7 G i (Oe o e L s))) (ae.some rfl)
    rw[be A,be λh=>A h.2.2.2];exact b3 (ae.some rfl)
   rw[be λh=>w h.2.2.1,bN w,ko];exact b7 (ae.some rfl)
  rw[be λh=>e h.2.1,bN e];exact b7 (ae.some rfl)
 rw[be q,Gz q];exact b3 (ae.some rfl)
theorem Uc(a:k<4)(s c:Int):ov (ho k) s (gp c) 1=nf k s c:=by rcases(O:k=0\/k=1\/k=2\/k=3) with rfl|rfl|rfl|rfl<;>simp[ov,ho,gp,nf]
theorem Ur(a:k<4)(s c e:Int):ov (nf k s c) 1 (gp e) 1=nf k s (c+e):=by rcases(O:k=0\/k=1\/k=2\/k=3) with rfl|rfl|rfl|rfl<;>simp[ov,gp,nf]
theorem QZ(h:c3 1000 c):fx 1000 (gp c):=⟨rfl,h,λx a=>by simp[gp] at a;subst a;exact⟨O,O⟩⟩
theorem Ud(b:c3 1000 s)(h:c3 1000 c):fx 1000 (nf k s c):=by refine⟨by simp[nf],h,xP (λc a=>?_) b⟩;simp at a;subst a;exact⟨O,O⟩
theorem YX(D:7700000<=n)(A:eo 1100000 p)(c d s:Int):EH n p c d s=aa (qe p c d s):=by
 unfold EH;refine ae.eq (ah (jf O A) ?_);by_cases B:dj p c d=ab
 ·obtain⟨E,i,k,P,l,rfl,rfl,F,G,X,H,m,C⟩:=kg B;obtain⟨f,K⟩:=ia m;obtain⟨_,g,t,_⟩:=gu m;have r:=K l (bX G);rw[Nw F G];refine ae.aS (λz=>z= !(aj (P.nest.length<4)&&aj (1<=s/\s<=6))) (λj o=>?_) λz w=>?_
  ·refine ah (x:=ab) (by rw[mZ D A _ _,B]) ?_;refine b3 (ah (bo F) (a1 (λh=>o _ ?_) λh=>a1 (λu=>o _ ?_) λu=>o _ ?_))
   ·rw[bN (show¬P.nest.length<4 by omega)];rfl
   ·rw[bN (show¬(1<=s/\s<=6) by omega),ko];rfl
   rw[bS (O:P.nest.length<4),gi]
   grind
  subst w;by_cases e:P.nest.length<4
  ·by_cases q:1<=s/\s<=6
   ·rw[bS e,bS q];refine b3 (ah (bo F) (ah (bo G) (ah (Gp O r) ?_)));by_cases y:eU l=ab
    ·rw[bg y,bg ⟨B,e,q,y⟩];obtain⟨a,b,_,_,_,L,Q⟩:=G8 r y;obtain⟨I,M⟩:=QL L Q q;unfold c3 at L Q;refine b3 (ae.aS (λz=>z=qI (du l.bq) (du l.aL) s) (λj o=>a1 (λh=>ah (x:=()) (by unfold wk;rw[be O]) (o _ ?_)) λh=>o _ ?_) λz w=>?_)
     ·dsimp only at h⊢;rw[<-Qe ⟨O,O⟩ ⟨O,O⟩ q,bc (n:=du l.aL-du l.bq) O,show max 0 (du l.aL-du l.bq)=du l.aL-du l.bq by omega]
     ·dsimp only at h⊢;unfold qI;rw[show max 0 (du l.aL-du l.bq)=0 by omega,Int.tdiv_eq_ediv_of_nonneg O];exact(Int.ediv_eq_zero_of_lt O O).symm
     subst w;have W:(P.nest.take k).length=k:=by rw[c6];omega
     refine ah (Av O O f K g.2 t (ab7 O _)) (ah (BB n C) (ah (nL n _) (ah (tW O ((uu C).mono O) (QZ ⟨Z,Z⟩) ⟨O,O⟩ ⟨O,O⟩) ?_)));dsimp only;rw[Uc C];refine ah (nL n _) (ah (nL n _) (ah (nL n _) (ah (tW O (Ud ⟨O,O⟩ ⟨O,O⟩) (QZ ⟨O,O⟩) ⟨O,O⟩ ⟨O,O⟩) ?_)));rw[Ur C];refine ah (iR O O ca) (ah (dM ca) (ah (show xf n=aa (gp 0) from rfl) (ah (nL n _) (ah (dM ca) ?_))));rw[bc O];refine ah (iR O ca bl) (ah (dM ca) ?_);have v: ∀R S:Loop,([]++((P.nest.take (k+1)++(P.nest.drop (k+1)).map (d6 (jX k))).take (k:Int).toNat).drop (0:Int).toNat++[S,R]++((P.nest.take (k+1)++(P.nest.drop (k+1)).map (d6 (jX k))).take ((P.nest.take (k+1)++(P.nest.drop (k+1)).map (d6 (jX k))).length:Int).toNat).drop ((k:Int)+1).toNat)=P.nest.take k++S::R::(P.nest.drop (k+1)).map (d6 (jX k)):=λR S=>by
      have N:(P.nest.take (k+1)).length=k+1:=by rw[c6];omega
      rw[c7,c7,show((k:Int)+1).toNat=k+1 by omega,show(0:Int).toNat=0 from rfl,p5,dZ,ub O,List.take_take,zP O,Kx O,List.drop_of_length_le O];simp
     rw[v];exact ah (xQ D A X ((Oe m e H s).mono O)) (ae.some rfl)
    rw[be y,be λh=>y h.2.2.2];exact b7 (ae.some rfl)
   rw[be λh=>q h.2.2.1,bN q,ko];exact b7 (ae.some rfl)
  rw[be λh=>e h.2.1,bN e];exact b7 (ae.some rfl)
 rw[Gz B];refine ae.aS (λz=>z=ab) (λj o=>ah (mZ D A _ _) ?_) (λz w=>by rw[w];exact b7 (ae.some rfl))
 grind
def kU(P:Part)(a b:Int):Part:=⟨(⟨[gp a],[gp b]⟩:Loop)::P.nest.drop 1,P.body⟩
def qf(p:Prog)(a c:Int):Prog×Bool:=
 match aB p.parts a with
 |some P=>match aB P.nest 0 with
  |some l=>if dj p a 0=ab/\eU l=ab/\du l.bq<=c/\c<=du l.aL then hd (k3 p a.toNat 1 [kU P (du l.bq) c,kU P c (du l.aL)]) else ev
  |none=>ev
 |none=>ev
theorem GA(h:dj p a 0≠ab):qf p a c=ev:=by
 unfold qf
 grind
theorem Cd{k:Type}{l:List k}{x:k}(h:l[0]? =aa x):aB l 0=aa x:=bo h
theorem Nz(a:p.parts[i]? =aa P)(b:P.nest[0]? =aa l)(c:Int):
  qf p (i:Int) c=if dj p (i:Int) 0=ab/\eU l=ab/\du l.bq<=c/\c<=du l.aL then hd (k3 p i 1 [kU P (du l.bq) c,kU P c (du l.aL)]) else ev:=by unfold qf;rw[bo a];dsimp only;rw[Cd b];rfl
theorem Qs(k:eM r P=ab)(a b:Int):im 4 (kU P a b):=by
 obtain⟨h,l,m⟩:=uH k;have i: ∀c,fr 4 (gp c):=λc=>by unfold fr gp;simp
 have:=h.1;refine⟨⟨by simp only[kU,List.length_cons,nj];omega,λy e=>?_⟩,l,m⟩;rcases eg.1 e with rfl|e
 ·exact⟨⟨bl,λa d=>by simp at d;subst d;exact i _⟩,bl,λa d=>by simp at d;subst d;exact i _⟩
 exact h.2 y (ft e)
theorem Ny(e:eM r P=ab)(a b c d:Int): ∀y∈[kU P a b,kU P c d],im 1100000 y:=by
 intro y h;simp only[List.mem_cons,List.not_mem_nil,or_false] at h;rcases h with rfl|rfl
 ·exact(Qs e a b).mono O
 exact(Qs e c d).mono O
theorem aet(a:b6 p=ab)(b:p.parts[i]? =aa P):dj p (i:Int) 0=aj (0<P.nest.length):=by
 unfold dj;rw[a,bo b,gi]
 grind
theorem acw(a:i<p.parts.length)(A B:Part):(⟨p.a7,(p.parts.set i A).take (i+1)++[B]++(p.parts.set i A).drop (i+1)⟩:Prog)=k3 p i 1 [A,B]:=by
 unfold k3;congr 1;rw[List.take_set,o4 O,eK,bC a,l6 _ _ (by rw[c6];omega)]
 have:i-(p.parts.take i).length=0:=by rw[c6];omega
 grind
theorem ZN(t:22000000<=n)(D:eo 1100000 p)(d c:Int):Ez n p d c=aa (qf p d c):=by
 unfold Ez;refine ae.eq (ah (Bf O D d) ?_);by_cases y:b6 p=ab/\eA p d=ab
 ·rw[bg y];obtain⟨m,B⟩:=y;have F:0<=d/\d<(p.parts.length:Int):=e3 B;obtain⟨i,rfl⟩: ∃i:Nat,d=i:=⟨d.toNat,O⟩
  have q:=bC (O:i<p.parts.length);generalize G:p.parts[i]=P at q;have K:=(en m).2.2.1;have e:=(en m).2.2.2.1 P (bX q);obtain⟨Q,A⟩:=ia e;have fC:=aet m q;refine b7 (ah (bo q) (a1 (λz=>ae.some ?_) λz=>?_))
  ·rw[GA (by rw[fC,bN O];simp)];rfl
  have z:0<P.nest.length:=O
  rw[bS z] at fC;have o:=bC z;generalize P.nest[0]=l at o;have r:=A l (bX o);rw[Nz q o];refine ah (Cd o) (ah (G7 O r) ?_);by_cases s:eU l=ab
  ·rw[bg s];refine b7 (ah (jg n c _ _) ?_);by_cases w:du l.bq<=c/\c<=du l.aL
   ·rw[bg ⟨fC,s,w.1,w.2⟩];dsimp only;rw[bS w];obtain⟨a,b,W,X,f,u,v⟩:=G8 r s;have g:=Cb (i:=i) (many:=1) (ys:=[kU P (du l.bq) c,kU P c (du l.aL)]) ((gH m).mono (O:4<=900)) bl (Ny e _ _ _ _);generalize du l.bq=L at*;generalize du l.aL=H at*;subst X;subst f;subst W;have E:P.nest=(⟨[gp L],[gp H]⟩:Loop)::P.nest.drop 1:=by
     have:=kP o
     grind
    have C: ∀R:Loop,P.nest.set (0:Int).toNat R=R::P.nest.drop 1:=λR=>by
     grind
    refine b7 (ah (Mz O e) (ah (x:=gp H) rfl (ah (x:=[gp c]) rfl (ah (dJ O _) (ah (dJ O _) (ah (Cd o) (ah (x:=gp L) rfl (ah (x:=[gp c]) rfl (ah (dJ O _) ?_)))))))));rw[C,C,bc O,c7];refine ah (PC (i:=i+1) (by rw[fX];omega) (by rw[fX];simp;omega)) ?_;show ae (bQ (lP n (⟨p.a7,(p.parts.set i (kU P L c)).take (i+1)++[kU P c H]++(p.parts.set i (kU P L c)).drop (i+1)⟩:Prog)) _) _;rw[acw O];exact ah (q9 O g) (ae.some rfl)
   rw[be λh=>w ⟨h.2.2.1,h.2.2.2⟩];dsimp only;rw[bN w];exact b3 (ae.some rfl)
  rw[be s,be λh=>s h.2.1];exact b3 (ae.some rfl)
 rw[be y,GA λj=>y ?_]
 ·exact b3 (ae.some rfl)
 obtain⟨m,i,k,P,l,rfl,_,I,_,B,_⟩:=kg j;exact⟨m,bS O⟩
theorem Y0(F:22000000<=n)(y:eo 1100000 p)(a c:Int):EI n p a c=aa (qf p a c):=by
 unfold EI;refine ae.eq (ah (jf O y) (ah (mZ O y a 0) ?_));cases o:dj p a 0 with
 |false=>
  rw[GA (by rw[o];simp)];exact b7 (ae.some rfl)
 |true=>
  obtain⟨B,i,k,P,l,rfl,C,A,q,G,H,b,K⟩:=kg o;obtain rfl:k=0:=O
  obtain⟨D,r⟩:=ia b;have s:=r l (bX q);rw[Nz A q];refine b3 (ah (bo A) (ah (Cd q) (ah (Gp O s) ?_)));by_cases e:eU l=ab
  ·rw[bg e];dsimp only;refine ae.aS (λz=>z= !decide (du l.bq<=c/\c<=du l.aL)) (λj m=>b3 (a1 (λh=>m _ ?_) λh=>m _ ?_)) λz w=>?_
   ·rw[bN O];rfl
   ·rw[gM];simp only[Bool.not_eq_true',decide_eq_true_eq,decide_eq_false_iff_not];omega
   subst w;by_cases d:du l.bq<=c/\c<=du l.aL
   ·rw[bg ⟨o,e,d.1,d.2⟩,bS d];refine b3 (ah (nL n _) (ah (nL n _) (ah (iR O O O) (ah (dM ca) (ah (nL n _) (ah (nL n _) (ah (iR O O O) (ah (dM ca) ?_))))))));rw[c7,dZ];have x:=GY (n:=n) O ((gH B).mono (O:4<=900)) (i:=i) (many:=1) O (ys:=[kU P (du l.bq) c,kU P c (du l.aL)]) bl (Ny b _ _ _ _);exact ah x (ae.some rfl)
   rw[be λh=>d ⟨h.2.2.1,h.2.2.2⟩,bN d];exact b7 (ae.some rfl)
  rw[be e,be λh=>e h.2.1];exact ae.aS (λz=>z=ab) (λj m=>b7 (m _ rfl)) λz w=>by rw[w];exact b7 (ae.some rfl)
end
section
def lB(s:Stmt):Stmt:=⟨s.write,gf 5 s.value⟩
def kh(x:Part):Part:=⟨x.nest,x.body.map lB⟩
def CP(p:Prog):Prog:=⟨p.a7,p.parts.map kh⟩
variable {n:Nat}{s:Stmt}{d e:Int}{p:Prog}{r:List cz}
theorem XN(b:7700000<=n)(a:eN s d=ab):ug n s=aa (lB s):=by
 obtain⟨n,rfl⟩: ∃j,n=j+1:=⟨n-1,O⟩
 unfold ug;rw[My O a];refine ae.eq (ah rfl (ah (Gi 5 n s.value O (ke a).2.1) (ae.some rfl)))
def u4(p:Prog):Prog×Bool:=if b6 p=ab then(CP p,ab) else ev
theorem UX(i:7700000<=n)(r:eo 1100000 p):DZ n p=aa (u4 p):=by
 unfold DZ u4;refine ae.eq (ah (sG i r.sm) (ae.cond (λh=>ae.some ?_) λh=>?_))
 ·rw[be (by simpa using h)];rfl
 have e:b6 p=ab:=by simpa using h
 rw[bg e];obtain⟨H,L,Q,w,_⟩:=en e;refine ah (qj O e) ?_;refine xN (l:=p.parts) (n:=n) (F:=λc k=>bz (λa ((b,d):(List Stmt)×Int)=>
    bif aj (d<(c.body.length:Int)) then(
     bQ (aB b d) λy=>
     bQ (ug n y) λz=>
     bQ (cd b d z) λA=>
     a (A,wr (d+1))
    ) else(
     bQ (fe c.body b) λR=>
     k (⟨c.nest,b⟩:Part)
    )
   ) n (c.body,0)) (W:=λ_ o=>o) (m:=λ_=>(p.parts.length:Int)) (g:=kh) (s:=0) (K:=λB=>aa ((⟨p.a7,B⟩:Prog),ab)) (λ_ _ _ h=>h) (λ_ _=>rfl) O (λx C k q=>?_) O O (ae.some ?_)
 ·obtain⟨_,X,D,_⟩:=gu (w x C);refine xN (l:=x.body) (n:=n) (F:=λx k=>bQ (ug n x) k) (W:=λ_ o=>o) (m:=λ_=>(x.body.length:Int)) (g:=lB) (s:=0) (K:=λb=>bQ (fe x.body b) λ_=>k (⟨x.nest,b⟩:Part)) (λ_ _ _ h=>h) (λ_ _=>rfl) O (λs G k q=>ah (XN i (D s G)) q) O O ?_;refine ah (gr bl) ?_
  have:(⟨x.nest,x.body.take 0++(x.body.drop 0).map lB⟩:Part)=kh x:=by simp[kh]
  grind
 simp[CP]
theorem VD(e:7700000<=n)(h:d<=4)(a:eN s d=ab)(c:eN s 4=ab):Ao n s=aa (lB s,ab):=by
 obtain⟨n,rfl⟩: ∃j,n=j+1:=⟨n-1,O⟩
 have b:nk 4 s:=QN a;unfold Ao;refine ae.eq (ah (KZ O (b.mono (O:4<=1100000)).sm 4) ?_);rw[c];refine b3 (ah (zV O ((b.mono (O:4<=1100000)).1).sm) (ah (ND 5 n s.value O (ke a).2.1) (ae.some rfl)))
theorem Ox{a:aE}(h:fA a d=ab)(b:d<=e):fA a e=ab:=by
 unfold fA at h⊢
 grind
theorem Qm{a:cx}(h:fV a d=ab)(b:d<=e):fV a e=ab:=by unfold fV at h⊢;rw[p3,gy] at h;rw[h.2,Bool.and_true];exact gy.2 λx c=>Ox (h.1 x c) b
theorem afd{x:Expr}(h:eJ x d=ab)(a:d<=e):eJ x e=ab:=by
 unfold eJ at h⊢;split at h
 ·rename_i b;rw[bg b];simp only[cB] at h⊢;exact⟨h.1,h.2.1,Ox h.2.2 a⟩
 rename_i b;rw[be b];split at h
 ·rename_i c;rw[bg c];simp only[cB] at h⊢;exact⟨h.1,h.2.1,Qm h.2.2 a⟩
 rename_i c
 grind
theorem NA{d e:Int}(a:d<=e): ∀{L:Nat} {x:Expr},dD L x d=ab->dD L x e=ab
 |0,_,h=>by cases h
 |L+1,x,h=>by obtain⟨c,i,l⟩:=hn h;exact GV c (afd i a) λk b=>NA a (l k b)
theorem ady(h:eN s d=ab):eN s 4=ab:=by unfold eN at h⊢;simp only[cB,decide_eq_true_eq] at h⊢;exact⟨O,Qm h.2.1 h.1.2,NA h.1.2 h.2.2.1,h.2.2.2⟩
theorem adz(h:eN s d=ab):d<=4:=by
 unfold eN at h
 grind
theorem UY(H:7700000<=n)(q:eo 1100000 p):DV n p=aa (u4 p):=by
 unfold DV u4;refine ae.eq (ah (jf O q) (ah (jc H q.sm) (ae.cond (λh=>ae.some ?_) λh=>?_)))
 ·rw[be (by simpa using h)];rfl
 have K:b6 p=ab:=by simpa using h
 rw[bg K];obtain⟨u,v,E,W,_⟩:=en K;refine ah (oD O q) ?_;refine ae.loop (λz:List Part×Int=> ∃i:Nat,z.2=i/\i<=p.parts.length/\z.1=(p.parts.take i).map kh++p.parts.drop i) (λz=>p.parts.length-z.2.toNat) ?_ n _ ⟨0,rfl,O,bl⟩ Z;rintro r ⟨x,z⟩ ⟨i,L,I,d⟩ X;dsimp only at L d⊢;subst L;have a:((p.parts.take i).map kh).length=i:=by rw[dF,c6];omega
 have w:x.length=p.parts.length:=by rw[d,dP,a,fN];omega
 rw[w];refine a1 (λf=>?_) λg=>ae.some ?_
 ·obtain⟨P,l⟩: ∃P,p.parts[i]? =aa P:=⟨_,bC (O:i<p.parts.length)⟩
  have A:x[i]? =aa P:=by
   rw[d,hS O,a,kX,fv];exact l
  obtain⟨_,M,t,_⟩:=gu (W P (bX l));refine ae.loop (λz:List Part×Int=> ∃j:Nat,z.2=j/\j<=P.body.length/\z.1=x.set i ⟨P.nest,(P.body.take j).map lB++P.body.drop j⟩) (λz=>P.body.length-z.2.toNat) ?_ n _ ⟨0,rfl,O,by
   dsimp only;rw[List.take_zero,List.map_nil,tZ,p5];exact(abn A).symm⟩ Z
  rintro m ⟨y,N⟩ ⟨j,e,S,k⟩ B;dsimp only at e k⊢;subst e;have C:y[i]? =aa ⟨P.nest,(P.body.take j).map lB++P.body.drop j⟩:=by rw[k,hR O]
  have b:((P.body.take j).map lB).length=j:=by rw[dF,c6];omega
  have D:((P.body.take j).map lB++P.body.drop j).length=P.body.length:=by rw[dP,b,fN];omega
  refine ah (bo C) ?_;dsimp only;rw[D];refine a1 (λQ=>?_) λR=>?_
  ·obtain⟨s,o⟩: ∃s,P.body[j]? =aa s:=⟨_,bC (O:j<P.body.length)⟩
   have F:((P.body.take j).map lB++P.body.drop j)[j]? =aa s:=by
    rw[hS O,b,kX,fv];exact o
   have c:=t s (bX o);refine ah (bo F) (ah (VD H (adz c) c (ady c)) (ah (dJ O _) (ah (dJ (by rw[k,fX];omega) _) ?_)));rw[bc O];refine B _ ⟨j+1,Z,O,?_⟩ Z;dsimp only;rw[k,c7,c7,lx,l6 _ _ O,b,kX,kP o,rE,eK,o];simp
  have G:j=P.body.length:=O
  rw[bc O];refine X _ ⟨i+1,Z,O,?_⟩ Z;dsimp only;rw[k,G,dZ,o5,jr,d,l6 _ _ O,a,kX,kP l,rE,eK,l];simp[kh]
 have:i=p.parts.length:=O
 rw[d,this,dZ,o5,jr];rfl
theorem aeu(h:eN s d=ab):eN (lB s) d=ab:=by obtain⟨b,a,_⟩:=ke h;unfold eN at h⊢;simp only[cB,decide_eq_true_eq] at h⊢;exact⟨h.1,b,rh a,by have:=OB a;show dG 5 (gf 5 s.value)<=12;omega⟩
theorem Yz(b:eN s d=ab){q:List Int}(h:gU r s q=ab):gU r (lB s) q=ab:=by unfold gU at h⊢;rw[p3,gy] at h;rw[show(lB s).write=s.write from rfl,h.1,gi];exact gy.2 λa c=>h.2 a (Mu (ke b).2.1 a c)
theorem Mv(x:Part):jk (kh x)=jk x:=rfl
theorem aaG{x:Part}(h:eM r x=ab):eM r (kh x)=ab:=by
 obtain⟨d,e,c,i⟩:=gu h;unfold eM oq;rw[show(kh x).nest=x.nest from rfl,d,Mv];have k:(kh x).body=x.body.map lB:=rfl;rw[k,dF,bS e];simp only[Option.isSome_some,Bool.true_and,cB,kr];refine⟨λs b=>?_,λs b q l=>?_⟩
 ·obtain⟨t,a,rfl⟩:=eH.1 b;exact aeu (c t a)
 obtain⟨t,a,rfl⟩:=eH.1 b
 have:=i t a q l;exact⟨Yz (c t a) this.1,this.2⟩
theorem adT(h:b6 p=ab):b6 (CP p)=ab:=by
 unfold b6 jK at h⊢;simp only[cB,decide_eq_true_eq,kr] at h⊢;obtain⟨⟨a,b,c⟩,d⟩:=h;refine⟨⟨a,by simpa[CP] using b,λx e=>?_⟩,?_⟩
 ·obtain⟨y,i,rfl⟩:=eH.1 e;exact aaG (c y i)
 show((p.parts.map kh).map fS).sum<=120;rw[List.map_map,show p.parts.map (fS ∘ kh)=p.parts.map fS from List.map_congr_left (λx _=>by
  show fS (kh x)=fS x;unfold fS;rw[Mv,show(kh x).body.length=x.body.length by simp[kh]])]
 exact d
end
def pk(p:Prog)(a:Int):Bool:=(List.range (bI p.parts).length).all (λi=>match (bI p.parts)[i]? with
 |some x=> !((kZ p (bI p.parts)).getD i al&&aj (x.part=a))
 |none=>ab)
variable {p:Prog}{n:Nat}{a:Int}
theorem Ba{part:Int}:pk p part=ab↔ ∀(i:Nat) x,(bI p.parts)[i]? =aa x->(kZ p (bI p.parts)).getD i al=ab->x.part≠part:=by
 unfold pk
 grind
theorem Ng(p:Prog)(l:List cN):(kZ p l).length=l.length:=tN p l l.length
theorem Ic(d:b6 p=ab)(i:Nat):b6 ⟨p.a7,p.parts.take i++p.parts.drop (i+1)⟩=ab:=by
 have b: ∀x∈p.parts.take i++p.parts.drop (i+1),x∈p.parts:=λx e=>by
  grind
 have c:=(en d).2.2.2.1;have k:=(Dt p.parts)
 have m: ∀l:List Part,(∀x∈l,x∈p.parts)->0<=(l.map fS).sum:=λl n=>by
  induction l with
  |nil=>simp
  |cons a l o=>
   simp only[hg,List.sum_cons]
   have:=(Ag (c a (n a fi))).1
   have:=o λx e=>n x (eW _ e);omega
 unfold b6 jK at d⊢;simp only[cB,decide_eq_true_eq,kr] at d⊢;obtain⟨⟨aP,a2,a3⟩,a4⟩:=d;refine⟨⟨aP,by simp only[iI,mi,nj];omega,λx e=>a3 x (b x e)⟩,?_⟩;have q:(p.parts.map fS).sum=((p.parts.take i).map fS).sum+((p.parts.drop i).map fS).sum:=by
  conv=>lhs;rw[<-ud i p.parts]
  grind
 have r:((p.parts.drop (i+1)).map fS).sum<=((p.parts.drop i).map fS).sum:=by
  cases h:p.parts.drop i with
  |nil=>
   have:p.parts.drop (i+1)=[]:=by rw[<-List.drop_drop,h];rfl
   rw[this];simp
  |cons a l=>
   have:p.parts.drop (i+1)=l:=by rw[<-List.drop_drop,h];rfl
   rw[this];simp only[hg,List.sum_cons]
   have:=(Ag (c a (ft (i:=i) (by rw[h];exact fi)))).1;omega
 grind
theorem Pf(a:b6 p=ab)(i:Nat):eo 1100000 ⟨p.a7,p.parts.take i++p.parts.drop (i+1)⟩:=(gH (Ic a i)).mono O
def mq(p:Prog)(a:Int):Prog×Bool:=if(b6 p&&(eA p a&&pk p a))=ab then(⟨p.a7,p.parts.take a.toNat++p.parts.drop (a.toNat+1)⟩,ab) else ev
theorem aaD(G:7810000<=n)(H:eo 1100000 p)(g: -1<=a/\a<=9):tF n p a=aa (mq p a):=by
 unfold tF mq;refine ae.eq (ah (wH G H.sm) ?_);by_cases c:b6 p=ab
 ·rw[bg c,c];have Q:=(en c).2.2.2.2;refine b7 (ae.aS (λz=>z= !eA p a) (λj d=>b3 (ah (oR n H.2.1 a) (d _ rfl))) λz o=>?_);subst o;cases s:eA p a with
  |false=>exact b7 (ae.some rfl)
  |true=>
   have w:0<=a/\a<(p.parts.length:Int):=e3 s;refine b3 (ah (x:=kZ p (bI p.parts)) (abf G c) ?_);have A:=Ng p (bI p.parts);rw[A];refine ae.loop (λz:Int=> ∃i:Nat,z=i/\i<=(bI p.parts).length/\ ∀(j:Nat) x,j<i->(bI p.parts)[j]? =aa x->(kZ p (bI p.parts)).getD j al=ab->x.part≠a) (λz=>(bI p.parts).length-z.toNat) ?_ n _ ⟨0,rfl,O,λj x h=>O⟩ O;rintro B z ⟨i,rfl,t,q⟩ R;refine a1 (λW=>?_) λX=>?_
   ·obtain⟨x,C⟩: ∃x,(bI p.parts)[i]? =aa x:=⟨_,bC (O:i<(bI p.parts).length)⟩
    have D:aB (kZ p (bI p.parts)) (i:Int)=aa ((kZ p (bI p.parts)).getD i al):=by
     have b:i<(kZ p (bI p.parts)).length:=O
     rw[bo (bC b),fc,bC b];rfl
    have k:aB (gx p).list (i:Int)=aa x:=bo C;refine ah D (ae.aS (λz=>z=((kZ p (bI p.parts)).getD i al&&aj (x.part=a))) (λj d=>ae.cond (λh=>ah k (d _ (by rw[h];rfl))) λh=>d _ (by rw[h];rfl)) λz o=>?_);subst o;refine ae.cond (λh=>ae.some ?_) λh=>?_
    ·rw[p3,decide_eq_true_eq] at h
     have:pk p a=al:=by
      cases f:pk p a with
      |false=>rfl
      |true=>exact br h.2 (Ba.1 f i x C h.1)
     rw[this];rfl
    rw[bc O];refine R _ ⟨i+1,O,O,λj y d F r=>?_⟩ O;by_cases e:j=i
    ·subst e;rw[C] at F;cases F;rw[r,gi] at h;exact of_decide_eq_false h
    exact q j y O F r
   have m:pk p a=ab:=Ba.2 λj x K r=>q j x (by have:=(d0.1 K).1;omega) K r;rw[m];refine ah (qj O c) (ah (x:=(dK p.parts a (a+1),hf p.parts a (a+1) (⟨[],[]⟩:Part))) ?_ (ae.some ?_))
   ·unfold te;rw[bc O,bS w.1,bS (O:a<=a+1),bS (O:a+1<=(p.parts.length:Int)),bN (show¬a=a+1 by omega)];rfl
   show(⟨p.a7,(hf p.parts a (a+1) (⟨[],[]⟩:Part)).take (dK p.parts a (a+1))⟩,ab)=((⟨p.a7,p.parts.take a.toNat++p.parts.drop (a.toNat+1)⟩:Prog),ab)
   have L:(p.parts.take a.toNat++p.parts.drop (a+1).toNat).length=dK p.parts a (a+1):=by
    unfold dK;simp only[iI,mi,nj];omega
   unfold hf;rw[ub (by rw[L];exact df _),jN (l:=p.parts.take a.toNat++p.parts.drop (a+1).toNat) (by rw[L];exact df _),show(a+1).toNat=a.toNat+1 by omega]
 rw[be c,show b6 p=al by simpa using c];refine b3 (ae.aS (λz=>z=ab) (λj d=>b7 (d _ rfl)) λz o=>?_);rw[o];exact b7 (ae.some rfl)
theorem aa1(Q:7810000<=n)(m:eo 1100000 p)(I: -1<=a/\a<=9):tC n p a=aa (mq p a):=by
 unfold tC mq;refine ae.eq (ah (jf O m) (ae.aS (λz=>z= !(b6 p&&eA p a)) (λj o=>?_) λz R=>?_))
 ·refine ah (jc O m.sm) (ae.cond (λh=>o _ ?_) λh=>?_)
  ·rw[sc h];rfl
  have bR:=ql h;refine a1 (λq=>o _ ?_) λq=>o _ ?_
  ·rw[bR,show eA p a=al from bN O];rfl
  by_cases K:(p.parts.length:Int)<=a
  ·rw[bR,bS K,show eA p a=al from bN O];rfl
  rw[bR,bN K,show eA p a=ab from bS O];rfl
 subst R;by_cases bR:b6 p=ab
 ·rw[bR];have W:=(en bR).2.2.2.2;cases A:eA p a with
  |false=>exact b7 (ae.some rfl)
  |true=>
   have X:0<=a/\a<(p.parts.length:Int):=e3 A;refine b3 (ah (T8 Q m.sm) (ah (vU O bR) ?_));rw[bg bR];have f:=Ng p (bI p.parts);have g:=L3 (kZ p (bI p.parts));have r: ∀c∈pY (kZ p (bI p.parts)),∃(i:Nat) (x:cN),c=i/\(bI p.parts)[i]? =aa x/\(kZ p (bI p.parts)).getD i al=ab:=λc B=>by
    obtain⟨M,q⟩:=Fm.1 B;have s:c.toNat<(bI p.parts).length:=by
     by_cases h:c.toNat<(bI p.parts).length
     ·exact h
     rw[fc,Er O] at q;cases q
    exact⟨c.toNat,_,O,bC s,q⟩
   generalize t:pY (kZ p (bI p.parts))=L at*;refine ae.loop (λz:Int=> ∃i:Nat,z=i/\i<=L.length/\ ∀c∈L.take i,∀x,(bI p.parts)[c.toNat]? =aa x->x.part≠a) (λz=>L.length-z.toNat) ?_ n _ ⟨0,rfl,O,λc B=>by simp at B⟩ O;rintro C z ⟨i,rfl,N,b⟩ u;refine a1 (λs=>?_) λv=>?_
   ·obtain⟨c,D⟩: ∃c,L[i]? =aa c:=⟨_,bC (O:i<L.length)⟩
    obtain⟨k,x,rfl,w,F⟩:=r c (bX D);refine ah (bo D) (ah (bo w) (a1 (λh=>ae.some ?_) λh=>?_))
    ·have:pk p a=al:=by
      cases l:pk p a with
      |false=>rfl
      |true=>exact br h (Ba.1 l k x w F)
     rw[this];rfl
    rw[bc O];refine u _ ⟨i+1,O,O,λd l y G=>?_⟩ O;rw[fQ D,eX,p8] at l;rcases l with l|rfl
    ·exact b d l y G
    rw[c7,w] at G;cases G;exact h
   have H:i=L.length:=O
   rw[H,dZ] at b;have e:pk p a=ab:=Ba.2 (λj x w F=>by
    have o:((j:Nat):Int)∈L:=by rw[<-t];exact Fm.2 ⟨O,by rw[c7];exact F⟩
    exact b _ o x (by rw[c7];exact w))
   rw[e];obtain⟨i,rfl⟩: ∃i:Nat,a=i:=⟨a.toNat,O⟩
   refine ah (x:=(⟨p.a7,p.parts.take i++p.parts.drop (i+1)⟩,ab)) (ae.eq ?_) (ae.some rfl);have E:=m.2.1;unfold jA;refine ah (oD O m) (ah (iR O O O) ?_);rw[c7,show(0:Int).toNat=0 from rfl,p5];refine ah (x:=p.parts.take i) (dM ca) (ah (x:=p.parts.take i) (by rw[dM ca,jr]) ?_);rw[bc O];refine ah (iR O O O) ?_;rw[c7,dZ,show((i:Int)+1).toNat=i+1 by omega];refine ah (x:=p.parts.take i++p.parts.drop (i+1)) (dM ca) (ah (jc O (Pf bR i).sm) ?_);rw[Ic bR i];exact b3 (ah (oD O (Pf bR i)) (ae.some rfl))
 rw[show b6 p=al by simpa using bR];exact b7 (ae.some rfl)
end Go.Lift
