/- Tools. -/
import Derived.Test.YteifkndfpnkalabGreatXDrawD
set_option maxRecDepth 110000000
set_option linter.unusedVariables false
namespace Go.Lift
open Go
open Option renaming some -> aa, bind -> bI
open Bool renaming true -> ab, false -> al, and_eq_true -> cB
open Decidable renaming decide -> aj
open List renaming length_append -> iJ, all_eq_true -> kp, length_take -> mf, length_drop -> ni, replicate -> dn, map_cons -> hg
section
theorem HS{k:Type}{n:Int}(h:0<=n/\n<=1000000000)(x:k):mk n x=aa (dn n.toNat x):=by unfold mk;rw[bg h]
variable {k n i L many:Nat}{p:Prog}{x y P:Part}{h R:Type}{l:Loop}{F:aE->Option aE}{K:List h->Option R}{Q:R->Prop}{s d a v c:Int}{f:aE->aE}{e:Expr}{r:List cC}{nest:List Loop}{b:aE}{q:List Int}{ys:List Part}
theorem abQ(a:b9 p=ab):0<=gW p.bb/\gW p.bb<=144:=by
 obtain⟨c,b,_⟩:=ep a
 have:=adC b;omega
theorem Sa(b:b9 p=ab){x:cO}(c:gG p x):x.da.length<=4:=by
 obtain⟨i,k,P,s,d,e,h,l,m,n,o,a,q⟩:=vR b c
 have:=a.1;have:=a.2.1;omega
theorem xN{β:Type}{l:List h}{F:h->(β->Option R)->Option R}{g:h->β}{K:List β->Option R}(d: ∀x∈l,∀k:β->Option R,ad (k (g x)) Q->ad (F x k) Q)
  {s:Nat} (A:s<=l.length) {pre:List β} (B:pre.length<=1100000) (C:l.length<=1100000) (D:5500000<=n) (e:ad (K (pre++(l.drop s).map g)) Q):
  ad (bA (λa ((x,i):List β×Int)=>bif aj (i<(l.length:Int)) then(bI (aB l i) λy=>F y λz=>bI (app x [z]) λw=>a (w,wr (i+1))) else K x) n (pre,(s:Int))) Q:=by
 refine ad.loop (λz:List β×Int=> ∃i:Nat,z.2=i/\s<=i/\i<=l.length/\z.1=pre++((l.drop s).take (i-s)).map g) (λz=>l.length-z.2.toNat) ?_ n _ ⟨s,rfl,O,O,bl⟩ Z;rintro a ⟨x,z⟩ ⟨i,c,m,G,b⟩ o;dsimp only at c b⊢;subst c;refine aV (λp=>?_) λq=>?_
 ·have bV:=bD (O:i<l.length);have r:x.length<=2200000:=by rw[b,dQ,dH,c8,fN];omega
  refine ag (bq bV) (d _ (bX bV) _ (ag (dM cd) ?_));rw[bf O];refine o _ ⟨i+1,Z,O,O,?_⟩ Z;dsimp only;rw[show i+1-s=(i-s)+1 by omega,eN,fv,show s+(i-s)=i by omega,bV,b,ib,hf];rfl
 have:i=l.length:=O
 subst this;rw[b,jM (by rw[fN];omega)];exact e
theorem o0{H:Type}{l:List H}{f:H->Option h}{g:H->h}(b: ∀x∈l,f x=aa (g x))(c:l.length<=1100000)(d:5500000<=n)(e:ad (K (l.map g)) Q):
  ad (bA (λa ((x,i):List h×Int)=>bif aj (i<(l.length:Int)) then(bI (aB l i) λy=>bI (f y) λz=>bI (app x [z]) λw=>a (w,wr (i+1))) else K x) n ([],0)) Q:=
 xN (F:=λy k=>bI (f y) k) (g:=g) (s:=0) (pre:=[]) (λx m k o=>ag (b x m) o) O bl c d (by simpa using e)
theorem xX{l:List h}{F:h->(h->Option R)->Option R}{W:List h->Option R->Option R}{m:List h->Int}{g:h->h}
  (A: ∀y o,y.length=l.length->ad o Q->ad (W y o) Q) (B: ∀y:List h,y.length=l.length->m y=(l.length:Int))
  {s:Nat} (f:s<=l.length) (C: ∀x∈l,∀k:h->Option R,ad (k (g x)) Q->ad (F x k) Q) (j:l.length<=1100000) (t:5500000<=n) (D:ad (K (l.take s++(l.drop s).map g)) Q):
  ad (bA (λa ((y,i):List h×Int)=>W y (bif aj (i<m y) then(bI (aB y i) λx=>F x λz=>bI (ch y i z) λw=>a (w,wr (i+1))) else K y)) n (l,(s:Int))) Q:=by
 refine ad.loop (λz:List h×Int=> ∃i:Nat,z.2=i/\s<=i/\i<=l.length/\z.1=l.take s++((l.drop s).take (i-s)).map g++l.drop i) (λz=>l.length-z.2.toNat) ?_ n _ ⟨s,rfl,O,O,bl⟩ Z;rintro a ⟨x,z⟩ ⟨i,r,G,u,d⟩ H;dsimp only at r d⊢;subst r;have b:(l.take s++((l.drop s).take (i-s)).map g).length=i:=by rw[dQ,dH,c8,c8,fN];omega
 have c:x.length=l.length:=by rw[d,dQ,b,fN];omega
 refine A _ _ c ?_;rw[B _ c];refine aV (λL=>?_) λX=>?_
 ·obtain⟨e,p⟩: ∃e,l[i]? =aa e:=⟨_,bD (O:i<l.length)⟩
  have q:x[i]? =aa e:=by
   grind
  refine ag (bq q) (C _ (bX p) _ (ag (dU O _) ?_));rw[bf O];refine H _ ⟨i+1,Z,O,O,?_⟩ Z;dsimp only;rw[d,dh,nd _ _ O,b,l6,la p,tV,show i+1-s=(i-s)+1 by omega,eN,fv,show s+(i-s)=i by omega,p];simp
 have:i=l.length:=O
 subst this;rw[d,jM (l:=l.drop s) (by rw[fN];omega),qe,jr];exact D
def qy(f:aE->aE)(a:cx):cx:=⟨a.array,a.a7.map f⟩
def qM(f:aE->aE):Nat->Expr->Expr
 |0,e=>e
 |L+1,e=>⟨e.kind,e.num,if e.kind=2 then f e.index else⟨[],0⟩,if e.kind=3 then qy f e.read else⟨[],[]⟩,e.a1.map (qM f L)⟩
def iG(f:aE->aE)(s:Stmt):Stmt:=⟨qy f s.write,qM f 5 s.value⟩
def d8(f:aE->aE)(l:Loop):Loop:=⟨l.bo.map f,l.aL.map f⟩
theorem o8(h:eJ e d=ab)(a:e.kind=2):de e.index=ab/\kj e.read=ab:=by
 unfold eJ fA at h
 grind
theorem o'(h:eJ e d=ab)(a:e.kind=3):fU e.read d=ab/\iY e.index=ab:=by
 unfold eJ at h
 grind
theorem sk(h:eJ e d=ab)(a: ¬e.kind=2)(b: ¬e.kind=3):iY e.index=ab/\kj e.read=ab:=by
 unfold eJ at h
 grind
theorem p0{a:aE}(h:iY a=ab):a=⟨[],0⟩:=by
 obtain⟨c,k⟩:=a;simp only[iY,cB,decide_eq_true_eq] at h
 grind
theorem p1{a:cx}(h:kj a=ab):a=⟨[],[]⟩:=by
 obtain⟨c,k⟩:=a;simp only[kj,cB,decide_eq_true_eq] at h
 grind
theorem KZ(b:5500000<=n){a:cx}(c:fU a d=ab)(e: ∀x,de x=ab->F x=aa (f x)):rk n a F=aa (qy f a):=by obtain⟨l,m,h⟩:=me c;refine ad.eq ?_;unfold rk;exact o0 (K:=λi=>aa (⟨a.array,i⟩:cx)) (λx k=>e x (h x k)) O b (ad.some rfl)
theorem LH{d:Int}{F:aE->Option aE}{f:aE->aE}(c: ∀x,de x=ab->F x=aa (f x)): ∀(L n:Nat) (e:Expr),5500000+L<=n->dF L e d=ab->j' (n+1) e F=aa (qM f L e)
 |0,_,_,_,h=>by cases h
 |L+1,n,e,C,h=>by
  obtain⟨D,k,o⟩:=hl h;obtain⟨n,rfl⟩: ∃j,n=j+1:=⟨n-1,O⟩
  have p:e.a1.length<=2:=by have:=oX e.kind;omega
  unfold j';refine ad.eq (ad.aQ (λz=>(⟨z.1,z.2.1⟩:aE)=(if e.kind=2 then f e.index else⟨[],0⟩)/\(⟨z.2.2.1,z.2.2.2⟩:cx)=(if e.kind=3 then qy f e.read else⟨[],[]⟩)) (λj i=>?_) λz q=>?_)
  ·refine aV (λa=>?_) λa=>aV (λb=>?_) λb=>?_
   ·exact ag (c _ (o8 k a).1) (i _ ⟨by rw[bg a],by rw[be O]⟩)
   ·exact ag (KZ O (o' k b).1 c) (i _ ⟨by rw[be a],by rw[bg b]⟩)
   exact i _ ⟨by rw[be a],by rw[be b]⟩
  obtain⟨r,s,w,y⟩:=z;obtain⟨l,m⟩:=q;dsimp only at l m⊢;refine o0 (K:=λA=>aa (⟨e.kind,e.num,(⟨r,s⟩:aE),(⟨w,y⟩:cx),A⟩:Expr)) (λx B=>LH c L n x O (o x B)) O O (ad.some ?_);rw[l,m];rfl
theorem LF(h:6600000<=n){s:Stmt}(b:eM s d=ab)(a: ∀x,de x=ab->F x=aa (f x)):oQ n s F=aa (iG f s):=by
 obtain⟨c,e,_⟩:=kd b;obtain⟨n,rfl⟩: ∃j,n=j+1:=⟨n-1,O⟩
 unfold oQ;rw[KZ O c a,LH a 5 n s.value O e];rfl
theorem HT{k:Type}{f:k->k}: ∀{l:List k},(∀x∈l,f x=x)->l.map f=l
 | [],_=>rfl
 |x::l,h=>by rw[hg,h x fh,HT λy a=>h y (eW _ a)]
theorem NL{a:cx}(b:fU a d=ab)(c: ∀x,de x=ab->f x=x):qy f a=a:=by obtain⟨i,k,e⟩:=me b;unfold qy;rw[HT λx h=>c x (e x h)]
theorem Pp{d:Int}{f:aE->aE}(k: ∀x,de x=ab->f x=x): ∀{L:Nat} {e:Expr},dF L e d=ab->qM f L e=e
 |0,_,_=>rfl
 |L+1,e,h=>by
  obtain⟨n,c,l⟩:=hl h;obtain⟨kind,num,index,read,m⟩:=e;unfold qM;dsimp only at n c l⊢;rw[HT λx o=>Pp k (l x o)];by_cases b:kind=2
  ·have a:=o8 c b;dsimp only at a;rw[bg b,be O,k _ a.1,p1 a.2]
  by_cases i:kind=3
  ·have a:=o' c i;dsimp only at a;rw[be b,bg i,NL a.1 k,p0 a.2]
  have a:=sk c b i;dsimp only at a;rw[be b,be i,p0 a.1,p1 a.2]
theorem aew(a: ∀x,de x=ab->f x=x){s:Stmt}(b:eM s d=ab):iG f s=s:=by obtain⟨c,e,_⟩:=kd b;unfold iG;rw[NL c a,Pp a e]
def kB(l:Loop):Prop:=(l.bo.length<=2/\ ∀x∈l.bo,de x=ab)/\l.aL.length<=2/\ ∀x∈l.aL,de x=ab
theorem ae6{o:List Loop}(h:Fit o): ∀l∈o,kB l:=λl a=>by
 obtain⟨i,b⟩:=jq.1 a
 have:=h.2 i l b;exact⟨(qt this.1).2,(qt this.2).2⟩
theorem h8(h:eL r x=ab):x.nest.length<=4/\ ∀l∈x.nest,kB l:=by have:=(sL (gr h).1).1;exact⟨this.1,ae6 this⟩
theorem QO{a:aE}(h:de a=ab):fr 4 a:=by have:=(fS h).1;unfold fr;omega
theorem CH{l:List aE}(d:l.length<=2)(b: ∀x∈l,de x=ab):kq 4 l:=⟨O,λa c=>QO (b a c)⟩
theorem QN{d:Int}: ∀{L:Nat} {e:Expr},dF L e d=ab->kr 4 L e
 |0,_,h=>by cases h
 |L+1,e,h=>by
  obtain⟨l,a,m⟩:=hl h
  have:=oX e.kind;refine⟨O,?_,?_,λk l=>QN (m k l)⟩
  ·by_cases b:e.kind=2
   ·exact QO (o8 a b).1
   by_cases c:e.kind=3
   ·rw[p0 (o' a c).2];unfold fr;simp
   rw[p0 (sk a b c).1];unfold fr;simp
  by_cases c:e.kind=3
  ·have:=me (o' a c).1;exact CH this.2.1 this.2.2
  by_cases b:e.kind=2
  ·rw[p1 (o8 a b).2];exact⟨bl,λx i=>by cases i⟩
  rw[p1 (sk a b c).2];exact⟨bl,λx i=>by cases i⟩
theorem QL{s:Stmt}(a:eM s d=ab):nj 4 s:=by
 obtain⟨b,c,_⟩:=kd a
 have:=me b;exact⟨CH this.2.1 this.2.2,QN c⟩
theorem uE(h:eL r x=ab):im 4 x:=by obtain⟨c,a⟩:=h8 h;obtain⟨_,d,e,_⟩:=gr h;exact⟨⟨c,λl b=>⟨CH (a l b).1.1 (a l b).1.2,CH (a l b).2.1 (a l b).2.2⟩⟩,d.2,λs i=>QL (e s i)⟩
theorem QM{l:List cC}(a:l.length<=4)(b:lh l):xv 4 l:=⟨a,λx c=>by have:=b x c;simp only[m9,cB,decide_eq_true_eq] at this;omega⟩
theorem gX(h:b9 p=ab):er 4 p:=by obtain⟨a,b,c,d,_⟩:=ep h;exact⟨QM a b,c,λx e=>uE (d x e)⟩
theorem Ck{B:Nat}{l:List aE}(h:l.length<=B)(b: ∀x∈l,fr B (f x)):kq B (l.map f):=⟨by rw[dH];exact h,λa c=>by obtain⟨x,d,rfl⟩:=eH.1 c;exact b x d⟩
theorem Qj{d:Int}{f:aE->aE}(b: ∀x,de x=ab->fr 4 (f x)): ∀{L:Nat} {e:Expr},dF L e d=ab->kr 4 L (qM f L e)
 |0,_,h=>by cases h
 |L+1,e,h=>by
  obtain⟨l,m,n⟩:=hl h
  have:=oX e.kind;unfold qM kr;refine⟨by dsimp only;rw[dH];omega,?_,?_,λk l=>?_⟩
  ·dsimp only;by_cases c:e.kind=2
   ·rw[bg c];exact b _ (o8 m c).1
   rw[be c];unfold fr;simp
  ·dsimp only;by_cases i:e.kind=3
   ·rw[bg i]
    have:=me (o' m i).1;exact Ck O λx a=>b x (this.2.2 x a)
   rw[be i];exact⟨bl,λx a=>by cases a⟩
  obtain⟨x,a,rfl⟩:=eH.1 l;exact Qj b (n x a)
theorem CG(a: ∀x,de x=ab->fr 4 (f x)){s:Stmt}(b:eM s d=ab):nj 4 (iG f s):=by
 obtain⟨c,e,_⟩:=kd b
 have:=me c;exact⟨Ck O λx h=>a x (this.2.2 x h),Qj a e⟩
theorem x2(b: ∀x,de x=ab->fr 4 (f x))(h:kB l):kq 4 (d8 f l).bo/\kq 4 (d8 f l).aL:=
 ⟨Ck (by have:=h.1.1;omega) λx a=>b x (h.1.2 x a),Ck (by have:=h.2.1;omega) λx a=>b x (h.2.2 x a)⟩
theorem ND(n:Nat){a:aE}(h:a.aK.length<=1100000):k4 n a=aa a:=by unfold k4 jG;rw[bg O];rfl
theorem AW(n:Nat): ∀x,de x=ab->k4 n x=aa x:=λx a=>ND n (by have:=(fS a).1;omega)
theorem MC(a:5500000<=n){l:List aE}(e:l.length<=2)(b: ∀x∈l,de x=ab):pC n l=aa l:=by unfold pC;refine ad.eq (o0 (g:=λx=>x) (K:=λc=>aa c) (λx d=>AW n x (b x d)) O a (ad.some ?_));simp
theorem MB(c:5500000<=n)(o:nest.length<=4)(a: ∀l∈nest,kB l):ry n nest=aa nest:=by unfold ry;refine ad.eq ?_;refine xN (β:=Loop) (l:=nest) (n:=n) (F:=λd k=>bI (pC n d.bo) λe=>bI (pC n d.aL) λh=>k (⟨e,h⟩:Loop)) (g:=λx=>x) (s:=0) (pre:=[]) (K:=λi=>aa i) ?_ O bl O c (ad.some bl);exact λx b k m=>ag (MC c (a x b).1.1 (a x b).1.2) (ag (MC c (a x b).2.1 (a x b).2.2) m)
theorem Mz(b:6600000<=n){s:Stmt}(a:eM s d=ab):w4 n s=aa s:=by unfold w4;rw[LF b a (F:=λc=>k4 n c) (f:=λx=>x) (AW n),aew (λ_ _=>rfl) a];rfl
theorem MA(a:6600000<=n)(h:eL r x=ab):rv n x=aa x:=by obtain⟨b,c⟩:=h8 h;obtain⟨_,k,d,_⟩:=gr h;unfold rv;refine ad.eq (ag (MB O b c) (o0 (g:=λx=>x) (K:=λe=>aa (⟨x.nest,e⟩:Part)) (λs i=>Mz a (d s i)) O O (ad.some ?_)));simp
theorem sj(o:6600000<=n)(h:b9 p=ab):pA n p=aa p:=by
 obtain⟨q,r,B,w,_⟩:=ep h;unfold pA;refine ad.eq (xN (F:=λm k=>bI (jG m.b8) λy=>k (⟨m.name,y⟩:cC)) (g:=λx=>x) (s:=0) (pre:=[]) (K:=λz=>bA (λa ((b,c):(List Part)×Int)=>
    bif aj (c<(p.parts.length:Int)) then(
     bI (aB p.parts c) λd=>
     bI (rv n d) λe=>
     bI (app b [e]) λi=>
     a (i,wr (c+1))
    ) else(
     aa (⟨z,b⟩:Prog)
    )
   ) n ([],0)) (λx l k A=>ag (x:=x.b8) ?_ A) O bl O O ?_)
 ·have:=(QM q r).2 x l;unfold jG
  grind
 refine o0 (g:=λx=>x) (K:=λb=>aa (⟨_,b⟩:Prog)) (λx l=>MA o (w x l)) O O (ad.some ?_);simp
theorem gA{k:Type}{a b:List k}(h:b.length=a.length):e6 a b=aa ():=by unfold e6;rw[bg h]
theorem KB(e:5500000<=n)(r:kB l)(p: ∀x,de x=ab->F x=aa (f x)):tn n l F=aa (d8 f l):=by
 obtain⟨⟨aP,a2⟩,A,w⟩:=r;unfold tn;refine ad.eq (ad.loop (λz:Loop×Int=>(z.2=0/\z.1=l)\/(z.2=1/\z.1=⟨l.bo.map f,l.aL⟩)\/(z.2=2/\z.1=d8 f l)) (λz=>3-z.2.toNat) ?_ n _ (.inl ⟨rfl,rfl⟩) Z);rintro a ⟨x,i⟩ q b;dsimp only at q b⊢;rcases q with ⟨rfl,rfl⟩|⟨rfl,rfl⟩|⟨rfl,rfl⟩
 ·refine ag (gA rfl) (ag (gA rfl) (aV (λ_=>aV (λ_=>?_) λh=>(h rfl).elim) λh=>br h O));refine xX (F:=λx k=>bI (F x) k) (W:=λ_ o=>o) (m:=λ_=>(x.bo.length:Int)) (g:=f) (s:=0) (K:=λy=>a ((⟨y,x.aL⟩:Loop),wr (0+1))) (λ_ _ _ h=>h) (λ_ _=>rfl) O (λx c k d=>ag (p x (a2 x c)) d) O e ?_;rw[bf O];exact b _ (.inr (.inl ⟨Z,bl⟩)) Z
 ·refine ag (gA bl) (ag (gA rfl) (aV (λ_=>aV (λh=>br h O) λ_=>aV (λ_=>?_) λh=>(h rfl).elim) λh=>br h O));refine xX (F:=λx k=>bI (F x) k) (W:=λ_ o=>o) (m:=λ_=>(l.aL.length:Int)) (g:=f) (s:=0) (K:=λy=>a ((⟨l.bo.map f,y⟩:Loop),wr (1+1))) (λ_ _ _ h=>h) (λ_ _=>rfl) O (λx c k d=>ag (p x (w x c)) d) O e ?_;rw[bf O];exact b _ (.inr (.inr ⟨Z,by simp[d8]⟩)) Z
 refine ag (gA (by simp[d8])) (ag (gA (by simp[d8])) (aV (λh=>br h O) λ_=>ad.some rfl))
def qE(k:Nat)(g f:aE->aE)(x:Part)(l:Loop):Part:=⟨x.nest.take k++d8 g l::(x.nest.drop (k+1)).map (d8 f),x.body.map (iG f)⟩
theorem zg(H:6600000<=n){body:List Stmt}{s:Nat}(S:s<=nest.length)(T:nest.length<=4)(L: ∀l∈nest.drop s,kB l)(U:body.length<=4)(Q: ∀s∈body,eM s d=ab)(D: ∀x,de x=ab->F x=aa (f x)):
  pB n ⟨nest,body⟩ (s:Int) F=aa ⟨nest.take s++(nest.drop s).map (d8 f),body.map (iG f)⟩:=by
 have w: ∀(a:List Loop),ad (bA (λb ((y,j):(List Stmt)×Int)=>
    bI (e6 body y) λV=>
    bif aj (j<(body.length:Int)) then(
     bI (aB y j) λR=>
     bI (oQ n R F) λX=>
     bI (ch y j X) λt=>
     b (t,wr (j+1))
    ) else(
     aa (⟨a,y⟩:Part)
    )
   ) n (body,0)) (λr=>r=⟨a,body.map (iG f)⟩):=λa=>
  xX (F:=λx k=>bI (oQ n x F) k) (W:=λy o=>bI (e6 body y) λ_=>o) (m:=λ_=>(body.length:Int)) (g:=iG f) (s:=0) (K:=λy=>aa (⟨a,y⟩:Part)) (λy o h u=>ag (gA h) u) (λ_ _=>rfl) O (λx c k v=>ag (LF H (Q x c) D) v) O O (ad.some bl)
 unfold pB;refine ad.eq ?_
 -- the loops ahead stay: only those behind are changed
 refine ad.loop (λz:List Loop×Int=> ∃i:Nat,z.2=i/\s<=i/\i<=nest.length/\z.1=nest.take s++((nest.drop s).take (i-s)).map (d8 f)++nest.drop i) (λz=>nest.length-z.2.toNat) ?_ n _ ⟨s,rfl,O,O,bl⟩ Z;rintro A ⟨x,z⟩ ⟨i,G,E,Y,c⟩ I;dsimp only at G c⊢;subst G;have p:(nest.take s++((nest.drop s).take (i-s)).map (d8 f)).length=i:=by rw[dQ,dH,c8,c8,fN];omega
 have B:x.length=nest.length:=by rw[c,dQ,p,fN];omega
 refine ag (gA B) (aV (λM=>?_) λN=>?_)
 ·obtain⟨e,q⟩: ∃e,nest[i]? =aa e:=⟨_,bD (O:i<nest.length)⟩
  have C:x[i]? =aa e:=by
   rw[c,ic O,p,l6,fv];exact q
  have P:e∈nest.drop s:=jq.2 ⟨i-s,by rw[fv,show s+(i-s)=i by omega];exact q⟩;refine ag (bq C) (ag (KB O (L _ P) D) (ag (dU O _) ?_));rw[bf O];refine I _ ⟨i+1,Z,O,O,?_⟩ Z;dsimp only;rw[c,dh,nd _ _ O,p,l6,la q,tV,show i+1-s=(i-s)+1 by omega,eN,fv,show s+(i-s)=i by omega,q];simp
 have:i=nest.length:=O
 subst this;rw[c,jM (l:=nest.drop s) (by rw[fN];omega),qe,jr];exact w _
theorem Hy(c:5500000<=n){l:List aE}(k:l.length<=2)(d: ∀x∈l,de x=ab)(e: ∀x,de x=ab->jB n x a v b=aa (f x)):xj n l a v b=aa (l.map f):=by unfold xj;exact ad.eq (o0 (K:=λh=>aa h) (λx i=>e x (d x i)) O c (ad.some rfl))
theorem abd(d:5500000<=n)(c:kB l)(e: ∀x,de x=ab->jB n x a v b=aa (f x)):xE n l a v b=aa (d8 f l):=by unfold xE;rw[Hy d c.1.1 c.1.2 e,Hy d c.2.1 c.2.2 e];rfl
theorem LX(e:5500000<=n){a:cx}(h:fU a d=ab)(i: ∀x,de x=ab->jB n x c v b=aa (f x)):wM n a c v b=aa (qy f a):=by have:=me h;unfold wM;rw[Hy e this.2.1 this.2.2 i];rfl
theorem Nd{d a v:Int}{b:aE}{f:aE->aE}(l: ∀n,5500000<=n-> ∀x,de x=ab->jB n x a v b=aa (f x)): ∀(L n:Nat) (e:Expr),5500000+L<=n->dF L e d=ab->rK (n+1) e a v b=aa (qM f L e)
 |0,_,_,_,h=>by cases h
 |L+1,n,e,F,h=>by
  obtain⟨G,m,q⟩:=hl h;obtain⟨n,rfl⟩: ∃j,n=j+1:=⟨n-1,O⟩
  have r:e.a1.length<=2:=by have:=oX e.kind;omega
  unfold rK;refine ad.eq (ad.aQ (λz=>(⟨z.1,z.2⟩:aE)=(if e.kind=2 then f e.index else⟨[],0⟩)) (λj c=>?_) λz o=>ad.aQ (λy=>(⟨y.1,y.2⟩:cx)=(if e.kind=3 then qy f e.read else⟨[],[]⟩)) (λj c=>?_) λy p=>?_)
  ·exact aV (λi=>ag (l _ O _ (o8 m i).1) (c _ (by rw[bg i]))) λi=>c _ (by rw[be i])
  ·exact aV (λk=>ag (LX O (o' m k).1 (l _ O)) (c _ (by rw[bg k]))) λk=>c _ (by rw[be k])
  obtain⟨s,w⟩:=z;obtain⟨A,B⟩:=y;dsimp only at o p⊢;refine o0 (K:=λC=>aa (⟨e.kind,e.num,(⟨s,w⟩:aE),(⟨A,B⟩:cx),C⟩:Expr)) (λx D=>Nd l L n x O (q x D)) O O (ad.some ?_);rw[o,p];rfl
theorem abe(w:6600000<=n){l:List Stmt}(e:l.length<=4)(c: ∀s∈l,eM s d=ab)(h: ∀n,5500000<=n-> ∀x,de x=ab->jB n x a v b=aa (f x)):Bw n l a v b=aa (l.map (iG f)):=by
 obtain⟨n,rfl⟩: ∃j,n=j+1:=⟨n-1,O⟩
 unfold Bw;refine ad.eq ?_;refine xN (β:=Stmt) (l:=l) (n:=n+1) (F:=λi k=>bI (wM (n+1) i.write a v b) λm=>bI (rK (n+1) i.value a v b) λo=>k (⟨m,o⟩:Stmt)) (g:=iG f) (s:=0) (pre:=[]) (K:=λp=>aa p) (λx q k r=>?_) O bl O O (ad.some bl);obtain⟨e,c,_⟩:=kd (c x q);exact ag (LX O e (h _ O)) (ag (Nd h 5 n x.value O c) r)
theorem Av(c:6600000<=n){s:Nat}(r:s+1<=x.nest.length)(w:x.nest.length<=4)(e: ∀l∈x.nest,kB l)(h:x.body.length<=4)(i: ∀s∈x.body,eM s d=ab){way:Int}(a: ∀n,5500000<=n-> ∀x,de x=ab->jB n x way v b=aa (f x)):
  tH n x (s:Int) way v b=aa ⟨x.nest.take (s+1)++(x.nest.drop (s+1)).map (d8 f),x.body.map (iG f)⟩:=by unfold tH;rw[bf O];refine ad.eq (ag (iU O O O) ?_);rw[show((s:Int)+1).toNat=s+1 by omega,show(0:Int).toNat=0 from rfl,qg];refine ag (x:=x.nest.take (s+1)) (dM cd) (ag (abe c h i a) ?_);exact xN (F:=λm k=>bI (xE n m way v b) k) (g:=d8 f) (s:=s+1) (pre:=x.nest.take (s+1)) (K:=λo=>aa (⟨o,x.body.map (iG f)⟩:Part)) (λl p k q=>ag (abd O (e l p) (a _ O)) q) O cd O O (ad.some rfl)
theorem NG(n:Nat){a:aE}(h:fr 1100000 a):zb n a=aa a:=by unfold zb;rw[mB _ h];rfl
theorem As(a:5500000<=n){l:List aE}(h:kq 1100000 l):sO n l=aa l:=by unfold sO;exact ad.eq (mM (K:=λb=>aa b) (λx c=>NG n (h.2 x c)) h.1 a (ad.some rfl))
theorem NH(b:5500000<=n){a:cx}(h:kq 1100000 a.a7):tg n a=aa a:=by unfold tg;rw[As b h];rfl
theorem FD: ∀(L n:Nat) (e:Expr),5500000+L<=n->kr 1100000 L e->o2 (n+1) e=aa e
 |0,_,_,_,h=>h.elim
 |L+1,n,e,l,h=>by
  obtain⟨a,b,c,d⟩:=h;obtain⟨n,rfl⟩: ∃j,n=j+1:=⟨n-1,O⟩
  unfold o2 Kd;rw[NG _ b,NH O c];refine ad.eq (ag rfl (ag rfl (ag (x:=e.a1) ?_ (ad.some (by cases e;rfl)))));exact ad.eq (mM (f:=o2 (n+1)) (K:=λi=>aa i) (λx k=>FD L n x O (d x k)) a O (ad.some rfl))
theorem Y6(a:6600000<=n){s:Stmt}(h:nj 1100000 s):zm n s=aa s:=by
 obtain⟨n,rfl⟩: ∃j,n=j+1:=⟨n-1,O⟩
 unfold zm;rw[NH O h.1,FD 5 n s.value O h.2];rfl
theorem Y7(d:6600000<=n)(h:im 1100000 x):zn n x=aa x:=by
 obtain⟨⟨e,c⟩,i,k⟩:=h;have m:vp n x.nest=aa x.nest:=by
  unfold vp;refine ad.eq (mM (K:=λb=>aa b) (λl a=>?_) e O (ad.some rfl));unfold D';rw[As O (c l a).1,As O (c l a).2];rfl
 have o:vn n x.body=aa x.body:=by
  unfold vn;exact ad.eq (mM (K:=λb=>aa b) (λl a=>Y6 d (k l a)) i O (ad.some rfl))
 unfold zn;rw[m,o];rfl
theorem jh(c:6600000<=n)(h:er 1100000 p):jf n p=aa p:=by
 obtain⟨⟨d,e⟩,i,k⟩:=h;have m:vk n p.bb=aa p.bb:=by
  unfold vk;refine ad.eq (mM (K:=λa=>aa a) (λl b=>?_) d O (ad.some rfl));unfold DV;rw[mB _ (e l b)];rfl
 have o:vo n p.parts=aa p.parts:=by
  unfold vo;exact ad.eq (mM (K:=λa=>aa a) (λl b=>Y7 c (k l b)) i O (ad.some rfl))
 unfold jf;rw[m,o];rfl
def dj(p:Prog)(b a:Int):Bool:=b9 p&&match aB p.parts b with
 |some x=>decide (0<=a/\a<(x.nest.length:Int))
 |none=>al
theorem yj{k:Type}{l:List k}{i:Int}(h: ¬(0<=i/\i<(l.length:Int))):aB l i=none:=by
 cases a:aB l i with
 |none=>rfl
 |some x=>
  obtain⟨b,c⟩:=kb a
  have:=(d6.1 c).1;exact br ⟨b,O⟩ h
theorem afx{l:List R}{i:Int}{x:R}(h:aB l i=aa x): ∃k:Nat,i=k/\k<l.length/\l[k]? =aa x:=by
 obtain⟨a,b⟩:=kb h
 grind
theorem oT(n:Nat)(h:p.parts.length<=1100000)(a:Int):k3 n p a=aa (aj (0<=a/\a<(p.parts.length:Int))):=by
 unfold k3;rw[d5,bf O]
 grind
theorem xT(q:7700000<=n)(k:er 1100000 p)(a b:Int)(r:b≠ -1):iv n p a b=aa (if dj p a b=ab then(p,ab) else(⟨[],[]⟩,al)):=by
 unfold iv;refine ad.eq (ad.aQ (λz=>z= !dj p a b) (λj e=>?_) λz l=>?_)
 ·refine ag (d0 q k.sm) (ad.cond (λh=>?_) λh=>?_)
  ·refine e _ ?_;unfold dj
   grind
  have o:b9 p=ab:=by simpa using h
  refine ag (oT n k.2.1 a) ?_;by_cases d:0<=a/\a<(p.parts.length:Int)
  ·obtain⟨x,i,m⟩:=pk d.1 d.2;rw[bS d];refine b1 (dV (λ_=>ag (x:=dj p a b) ?_ (e _ rfl)) λh=>br h r);unfold Kh;refine ad.eq (ad.aQ (λz=>z=dj p a b) (λj e=>?_) λz l=>ad.some l);rw[oT n k.2.1 a,bS d];refine ag rfl (bW (ag i ?_))
   have:=(k.2.2 x (bX m)).1.1;rw[bf O,d5];refine ag rfl (e _ ?_);unfold dj
   grind
  rw[bR d];refine bW (e _ ?_);unfold dj;rw[yj d,kn];rfl
 subst l;by_cases c:dj p a b=ab
 ·rw[c];have o:b9 p=ab:=by unfold dj at c;rw[qk] at c;exact c.1
  obtain⟨x,i⟩: ∃x,aB p.parts a=aa x:=by
   cases i:aB p.parts a with
   |some x=>exact⟨x,rfl⟩
   |none=>unfold dj at c;rw[i,kn] at c;cases c
  exact b1 (ag (sj O o) (ag i (ad.some rfl)))
 rw[show dj p a b=al by simpa using c];exact bW (ad.some rfl)
def hc(q:Prog):Prog×Bool:=if b9 q=ab then(q,ab) else(⟨[],[]⟩,al)
theorem rl(b:7700000<=n)(c:er 1100000 p):lI n p=aa (hc p):=by
 unfold lI hc;refine ad.eq (ag (d0 b c.sm) (ad.cond (λh=>ad.some ?_) λh=>?_))
 ·rw[be (by simpa using h)]
 have a:b9 p=ab:=by simpa using h
 rw[bg a];exact ag (sj O a) (ad.some rfl)
theorem mT(i:7700000<=n)(k:er 1100000 p)(a b:Int):lT n p a b=aa (dj p a b):=by
 unfold lT;refine ad.eq (ad.aQ (λz=>z=dj p a b) (λj c=>?_) λz l=>ad.some l);refine ag (iO i k.sm) (ad.cond (λd=>?_) λd=>c _ (by unfold dj;rw[d];rfl));refine aV (λe=>aV (λh=>?_) λh=>?_) λe=>?_
 ·obtain⟨x,m,o⟩:=pk e h;refine aV (λq=>ag m (c _ ?_)) λq=>c _ ?_
  ·unfold dj
   grind
  unfold dj
  grind
 ·exact c _ (by unfold dj;rw[yj O,kn])
 exact c _ (by unfold dj;rw[yj O,kn])
theorem x0(d:7700000<=n)(a:er 1100000 p)(e:i<p.parts.length)(k:im 1100000 y):jA n p (i:Int) 1 [y]=aa (hc ⟨p.bb,p.parts.set i y⟩):=by
 have b:=a.2.1;have c:er 1100000 ⟨p.bb,p.parts.set i y⟩:=⟨a.1,by dsimp only;rw[gf];exact b,xZ a.2.2 k⟩
 unfold jA hc;refine ad.eq (ag (pR O a) (ag (iU O O O) ?_));rw[dh,show(0:Int).toNat=0 from rfl,qg];refine ag (x:=p.parts.take i) (dM cd) (ag (x:=p.parts.take i++[y]) (dM cd) ?_);rw[bf O];refine ag (iU O O O) ?_;rw[dh,eb,show((i:Int)+1).toNat=i+1 by omega];refine ag (x:=p.parts.set i y) ?_ (ag (iO d c.sm) (ad.cond (λh=>ad.some ?_) λh=>?_))
 ·rw[dM cd,List.set_eq_take_append_cons_drop,bg e,hf];rfl
 ·rw[be (by simpa using h)]
 rw[bg (by simpa using h)];exact ag (pR O c) (ad.some rfl)
def fe(a:aE)(k:Int)(b:aE):aE:=⟨List.zipWith (λx y=>x+k*y) a.aK b.aK,a.const+k*b.const⟩
def hn(k:Nat):aE:=⟨[0,0,0,0].set k 1,0⟩
def hF(k:Nat)(b x:aE):aE:=fe x (-(x.aK.getD k 0)) b
def fw(m:Int)(a:aE):Prop:=a.aK.length=4/\c3 m a.const/\ ∀c∈a.aK,c3 m c
theorem fw.mono{m b:Int}{a:aE}(h:fw m a)(e:m<=b):fw b a:=⟨h.1,⟨by have:=h.2.1.1;omega,by have:=h.2.1.2;omega⟩,λc d=>⟨by have:=(h.2.2 c d).1;omega,by have:=(h.2.2 c d).2;omega⟩⟩
theorem mw{l:List Int}(h:l.length=4): ∃a b c d,l=[a,b,c,d]:=by
 match l,h with
 | [a,b,c,d],_=>exact⟨a,b,c,d,rfl⟩
theorem nZ{a:aE}(h:de a=ab):fw 99 a:=by obtain⟨e,i,b⟩:=fS h;exact⟨e,i,λc d=>⟨by have:=(b c d).1;omega,by have:=(b c d).2;omega⟩⟩
theorem um(a:k<4):fw 6 (hn k):=by rcases(O:k=0\/k=1\/k=2\/k=3) with rfl|rfl|rfl|rfl<;>(unfold fw c3 hn;simp)
theorem kz{k b:Int}(a:c3 1000 k)(c:c3 1000 b):c3 1000000 (k*b):=CI O O a c
theorem z7{x:Int}(b:c3 1000 a)(c:c3 1000000 x):wr (a+wr x)=a+x:=by unfold c3 at b c;rw[bf (n:=x) O,bf O]
theorem ae1(m:Nat)(a b c d ac k e h i l n:Int):sA (m+6) ⟨[a,b,c,d],ac⟩ k ⟨[e,h,i,l],n⟩=
  aa ⟨[wr (a+wr (k*e)),wr (b+wr (k*h)),wr (c+wr (k*i)),wr (d+wr (k*l))],wr (ac+wr (k*n))⟩:=J
theorem BW(y:5500000<=n){a:aE}(p:fw 1000 a)(q:fw 1000 b){k:Int}(c:c3 1000 k):sA n a k b=aa (fe a k b):=by
 obtain⟨m,rfl⟩: ∃m,n=m+6:=⟨n-6,O⟩
 obtain⟨ac,a⟩:=a;obtain⟨z,b⟩:=b;obtain⟨h,i,d⟩:=p;obtain⟨l,o,e⟩:=q;dsimp only at h i d l o e;obtain⟨a0,aP,a2,a3,rfl⟩:=mw h;obtain⟨r,s,w,x,rfl⟩:=mw l;rw[ae1,z7 (d a0 bl) (kz c (e r bl)),z7 (d aP bl) (kz c (e s bl)),z7 (d a2 bl) (kz c (e w bl)),z7 (d a3 bl) (kz c (e x bl)),z7 i (kz c o)];rfl
def ow(a:aE)(x:Int)(b:aE)(y:Int):aE:=⟨List.zipWith (λp q=>x*p+y*q) a.aK b.aK,x*a.const+y*b.const⟩
theorem afm(m:Nat)(a b c d ac x e h i k l y:Int):j1 (m+6) ⟨[a,b,c,d],ac⟩ x ⟨[e,h,i,k],l⟩ y=
  aa ⟨[wr (wr (x*a)+wr (y*e)),wr (wr (x*b)+wr (y*h)),wr (wr (x*c)+wr (y*i)),wr (wr (x*d)+wr (y*k))],wr (wr (x*ac)+wr (y*l))⟩:=J
theorem z8{x:Int}(b:c3 1000000 a)(c:c3 1000000 x):wr (wr a+wr x)=a+x:=by unfold c3 at b c;rw[bf (n:=x) O,bf (n:=a) O,bf O]
theorem uc(A:5500000<=n){a:aE}(p:fw 1000 a)(q:fw 1000 b){x y:Int}(c:c3 1000 x)(d:c3 1000 y):j1 n a x b y=aa (ow a x b y):=by
 obtain⟨m,rfl⟩: ∃m,n=m+6:=⟨n-6,O⟩
 obtain⟨ac,a⟩:=a;obtain⟨B,b⟩:=b;obtain⟨i,k,e⟩:=p;obtain⟨l,o,h⟩:=q;dsimp only at i k e l o h;obtain⟨a0,aP,a2,a3,rfl⟩:=mw i;obtain⟨r,s,w,z,rfl⟩:=mw l;rw[afm,z8 (kz c (e a0 bl)) (kz d (h r bl)),z8 (kz c (e aP bl)) (kz d (h s bl)),z8 (kz c (e a2 bl)) (kz d (h w bl)),z8 (kz c (e a3 bl)) (kz d (h z bl)),z8 (kz c k) (kz d o)];rfl
theorem HB(a b:aE)(k:Int):ow a 1 b k=fe a k b:=by
 unfold ow fe
 grind
theorem P4(a b:aE)(k:Int)(c:a.aK.length=4)(d:b.aK.length=4):(fe a k b).aK.length=4:=by
 unfold fe
 grind
def vc(a:aE)(k:Nat)(b:aE):aE:=fe ⟨a.aK.set k 0,a.const⟩ (a.aK.getD k 0) b
theorem O3{a:aE}(h:fw 1000 a)(k:Nat):fw 1000 ⟨a.aK.set k 0,a.const⟩:=⟨by dsimp only;rw[gf];exact h.1,h.2.1,xZ h.2.2 ⟨O,O⟩⟩
theorem Pe{a:aE}(h:fw 1000 a)(c:k<4):a.aK[k]? =aa (a.aK.getD k 0)/\c3 1000 (a.aK.getD k 0):=by
 have b:k<a.aK.length:=by rw[h.1];exact c
 have e:=bD b;have d:a.aK.getD k 0=a.aK[k]:=by rw[fa,e];rfl
 rw[d];exact⟨e,h.2.2 _ (fV b)⟩
theorem FF(e:5500000<=n){a:aE}(c:fw 1000 a)(h:fw 1000 b)(d:k<4):uz n a (k:Int) b=aa (vc a k b):=by
 obtain⟨i,l⟩:=Pe c d;have m:k<a.aK.length:=by rw[c.1];exact d
 unfold uz;rw[ND n (by have:=c.1;omega)];refine ad.eq (ag rfl (ag (bq i) (ag (dU O _) (ag (BW e (O3 c k) h l) (ad.some rfl)))))
theorem Mf(h:5500000<=n){a:aE}(c:fw 1000 a)(i:fw 1000 b)(d:k<4):AP n a (k:Int) b=aa (vc a k b):=by
 obtain⟨e,l⟩:=Pe c d;have m:k<a.aK.length:=by rw[c.1];exact d
 unfold AP;rw[mB _ (by have:=c.1;omega)];refine ad.eq (ag rfl (ag (bq e) (ag (dU O _) (ag (bq e) (ag (uc h (O3 c k) i ⟨O,O⟩ l) (ad.some ?_))))));rw[HB];rfl
theorem BV(n:Nat)(a:k<4):nI n (k:Int) 1=aa (hn k):=by rcases(O:k=0\/k=1\/k=2\/k=3) with rfl|rfl|rfl|rfl<;>rfl
theorem Bu(n:Nat)(a:k<4):uv n (k:Int)=aa (hn k):=by rcases(O:k=0\/k=1\/k=2\/k=3) with rfl|rfl|rfl|rfl<;>rfl
def nO(k:Nat)(b:aE):aE:=fe (hn k) (-1) b
theorem HY{a:aE}(d:a.aK.length=4)(e:b.aK.length=4)(h:k<4)(c:b.aK.getD k 0=0):vc a k (nO k b)=hF k b a:=by
 obtain⟨a,ac⟩:=a;obtain⟨b,i⟩:=b;dsimp only at d e c;obtain⟨a0,aP,a2,a3,rfl⟩:=mw d;obtain⟨l,m,n,o,rfl⟩:=mw e;rcases(O:k=0\/k=1\/k=2\/k=3) with rfl|rfl|rfl|rfl<;>
  (simp only[List.getD_cons_zero,List.getD_cons_succ] at c;subst c;simp[vc,nO,hF,fe,hn,Int.mul_neg,Int.neg_mul])
def dq:Prog×Bool:=(⟨[],[]⟩,al)
def uR(p:Prog)(a b:Int)(g f:aE->aE):Prog×Bool:=
 match aB p.parts a with
 |some P=>match aB P.nest b with
  |some l=>hc ⟨p.bb,p.parts.set a.toNat (qE b.toNat g f P l)⟩
  |none=>dq
 |none=>dq
theorem kf{b:Int}(h:dj p a b=ab):b9 p=ab/\ ∃(i k:Nat) (P:Part) (l:Loop),a=i/\b=k/\p.parts[i]? =aa P/\P.nest[k]? =aa l/\i<p.parts.length/\k<P.nest.length/\eL p.bb P=ab/\k<4:=by
 unfold dj at h;rw[qk] at h;obtain⟨m,h⟩:=h;refine⟨m,?_⟩;cases d:aB p.parts a with
 |none=>rw[d] at h;cases h
 |some P=>
  rw[d] at h;obtain⟨i,rfl,o,n⟩:=afx d;obtain⟨q,r⟩:=e4 h;obtain⟨l,s,e⟩:=pk q r;have c:=(ep m).2.2.2.1 P (bX n)
  have:=(h8 c).1;exact⟨i,b.toNat,P,l,rfl,O,n,e,o,O,c,O⟩
theorem Cd(b:eL r P=ab)(d:P.nest[k]? =aa l){g:aE->aE}(i: ∀x,de x=ab->fr 4 (g x))(e: ∀x,de x=ab->fr 4 (f x)):im 4 (qE k g f P l):=by
 obtain⟨p,h⟩:=h8 b;obtain⟨_,m,n,_⟩:=gr b;have q:=(d6.1 d).1;refine⟨⟨by simp only[qE,iJ,List.length_cons,List.length_map,mf,ni];omega,λy a=>?_⟩,by simp only[qE,List.length_map];exact m.2,λs o=>?_⟩
 ·rcases eX.1 a with a|a
  ·exact((uE b).1.2 y (gm a))
  rcases eh.1 a with rfl|a
  ·exact x2 i (h l (bX d))
  obtain⟨z,c,rfl⟩:=eH.1 a;exact x2 e (h z (ft c))
 obtain⟨z,c,rfl⟩:=eH.1 o;exact CG e (n z c)
theorem yh(a:er 1100000 p)(i:Nat)(b:im 4 y):er 1100000 ⟨p.bb,p.parts.set i y⟩:=⟨a.1,by dsimp only;rw[gf];exact a.2.1,xZ a.2.2 (b.mono O)⟩
theorem x3{k:Int}(a:b.aK.length=4): ∀x,de x=ab->fr 4 (fe x k b):=λx c=>by have:=P4 x b k (fS c).1 a;unfold fr;omega
theorem CR(a:b.aK.length=4): ∀x,de x=ab->fr 4 (hF k b x):=λx c=>x3 a x c
theorem HV(s:k<4)(h:fw 6 b):fw 1000 (nO k b):=by
 obtain⟨b,w⟩:=b;obtain⟨d,e,a⟩:=h;dsimp only at d e a;obtain⟨i,l,m,n,rfl⟩:=mw d;have o:=a i bl;have p:=a l bl;have q:=a m bl;have r:=a n bl;unfold c3 at e o p q r;rcases(O:k=0\/k=1\/k=2\/k=3) with rfl|rfl|rfl|rfl<;>
  (refine⟨rfl,?_,λc x=>?_⟩<;>unfold c3<;>simp[nO,hn,fe] at* <;>omega)
theorem aex(a:k<4)(c:fw 6 b)(e:b.aK.getD k 0=0): ∀n,5500000<=n-> ∀x,de x=ab->jB n x 1 (k:Int) (nO k b)=aa (hF k b x):=λn h x d=>by unfold jB;rw[Mf h ((nZ d).mono O) (HV a c) a,HY (nZ d).1 c.1 a e];rfl
theorem take_set{l r:List R}{x y:R}(h:l[k]? =aa x):(l.take (k+1)++r).set k y=l.take k++y::r:=by have a:=(d6.1 h).1;rw[eN,h,hf,nd _ _ cd,c8,zT O,l6];rfl
theorem OM(C:6600000<=n)(z:eL r P=ab)(m:P.nest[k]? =aa l)(o:k<4)(p:fw 6 b)(D:b.aK.getD k 0=0):
  xD n P (k:Int) b=aa (qE k (λx=>fe x 1 b) (hF k b) P l):=by
 obtain⟨F,A⟩:=h8 z;obtain⟨_,G,H,_⟩:=gr z;have L:=(d6.1 m).1;have c:=A l (bX m);have B: ∀x,de x=ab->j1 n x 1 b 1=aa (fe x 1 b):=λx e=>by
  rw[uc O ((nZ e).mono O) (p.mono O) ⟨O,O⟩ ⟨O,O⟩,HB]
 unfold xD;simp only[bq m,Option.bind_some];refine ad.eq (ag (Bu n o) (ag (uc O ((um o).mono O) (p.mono O) ⟨O,O⟩ ⟨O,O⟩) ?_));rw[HB];refine ag (Av C O F A G.2 H (aex o p D)) ?_;refine o0 (n:=n) (l:=l.bo) (f:=λx=>j1 n x 1 b 1) (K:=λQ=>bA (λa ((d,h):(List aE)×Int)=>
    bif aj (h<(l.aL.length:Int)) then(
     bI (aB l.aL h) λq=>
     bI (j1 n q 1 b 1) λs=>
     bI (app d [s]) λw=>
     a (w,wr (h+1))
    ) else(
     bI (aB (P.nest.take (k+1)++(P.nest.drop (k+1)).map (d8 (hF k b))) (k:Int)) λy=>
     bI (ch (P.nest.take (k+1)++(P.nest.drop (k+1)).map (d8 (hF k b))) (k:Int) (⟨Q,d⟩:Loop)) λi=>
     aa (⟨i,P.body.map (iG (hF k b))⟩:Part)
    )
   ) n ([],0)) (λx e=>B x (c.1.2 x e)) (by have:=c.1.1;omega) O ?_
 refine o0 (n:=n) (l:=l.aL) (f:=λx=>j1 n x 1 b 1) (g:=λx=>fe x 1 b) (K:=λd=>bI (aB (P.nest.take (k+1)++(P.nest.drop (k+1)).map (d8 (hF k b))) (k:Int)) λy=>bI (ch (P.nest.take (k+1)++(P.nest.drop (k+1)).map (d8 (hF k b))) (k:Int) (⟨l.bo.map λx=>fe x 1 b,d⟩:Loop)) λi=>aa (⟨i,P.body.map (iG (hF k b))⟩:Part)) (λx e=>B x (c.2.2 x e)) (by have:=c.2.1;omega) O ?_;have e:(P.nest.take (k+1)++(P.nest.drop (k+1)).map (d8 (hF k b)))[k]? =aa l:=by
  grind
 refine ag (bq e) (ag (dU cd _) (ad.some ?_));rw[dh,take_set m];rfl
def gK(s:Int):aE:=⟨[0,0,0,0],s⟩
theorem CJ(h: -6<=s/\s<=6):fw 6 (gK s):=by unfold gK fw c3;simp;omega
theorem QS(s:Int)(a:k<4):(gK s).aK.getD k 0=0:=by rcases(O:k=0\/k=1\/k=2\/k=3) with rfl|rfl|rfl|rfl<;>rfl
def uM(p:Prog)(c a b:Int):Prog×Bool:=
 if dj p c a=ab/\(-6<=b/\b<=6) then uR p c a (λx=>fe x 1 (gK b)) (hF a.toNat (gK b)) else dq
theorem Nh(n:Nat)(s:Int):xQ n s=aa (aj (-6<=s/\s<=6)):=by unfold xQ;rw[d5];rfl
theorem rE{b:Int}(h:a<0):dj p b a=al:=by
 cases c:dj p b a with
 |false=>rfl
 |true=>obtain⟨_,i,k,P,l,_,d,_⟩:=kf c;omega
theorem AZ(a:p.parts[i]? =aa P)(b:P.nest[k]? =aa l)(g f:aE->aE):uR p (i:Int) (k:Int) g f=hc ⟨p.bb,p.parts.set i (qE k g f P l)⟩:=by unfold uR;rw[bq a];dsimp only;rw[bq b];rfl
theorem YS(q:7700000<=n)(m:er 1100000 p)(a b c:Int):wD n p a b c=aa (uM p a b c):=by
 unfold wD uM;refine ad.eq (ag (jh O m) (ad.aQ (λz=>z= !(dj p a b&&aj (-6<=c/\c<=6))) (λj r=>?_) λz x=>?_))
 ·refine ag (mT q m a b) (ad.cond (λh=>r _ ?_) λh=>ag (zD n c 6 O) (r _ ?_))
  ·rw[show dj p a b=al by simpa using h];rfl
  rw[show dj p a b=ab by simpa using h];rfl
 subst x;by_cases d:dj p a b=ab/\(-6<=c/\c<=6)
 ·rw[bg d,d.1,bS d.2];refine b1 ?_;obtain⟨D,i,k,P,l,rfl,rfl,s,o,y,A,e,w⟩:=kf d.1;refine ag (bq s) (ag (nL n c) (ag (OM O e o w (CJ d.2) (QS _ w)) (ag (x0 q m y ((Cd e o (x3 (CJ d.2).1) (CR (CJ d.2).1)).mono O)) (ad.some ?_))));rw[AZ s o];rfl
 rw[be d,show(dj p a b&&aj (-6<=c/\c<=6))=al by
  cases B:dj p a b with
  |false=>rfl
  |true=>exact bR λC=>d ⟨B,C⟩]
 exact bW (ad.some rfl)
theorem aaq(c:5500000<=n)(h: -6<=s/\s<=6): ∀x,de x=ab->zh n x s=aa (fe x 1 (gK s)):=λx a=>by unfold zh;have d:pU n 1=aa ⟨[0,0,0,0],1⟩:=rfl;rw[d];refine ad.eq (ag rfl (ag (BW c ((nZ a).mono O) (b:=⟨[0,0,0,0],1⟩) (by unfold fw c3;simp) ⟨O,O⟩) (ad.some ?_)));unfold fe gK;obtain⟨a0,aP,a2,a3,e⟩:=mw (fS a).1;rw[e];simp
theorem aap(c:5500000<=n)(a:k<4)(d: -6<=s/\s<=6): ∀x,de x=ab->wa n x (k:Int) (⟨(hn k).aK,wr (0-s)⟩:aE)=aa (hF k (gK s) x):=λx b=>by
 have e:(⟨(hn k).aK,wr (0-s)⟩:aE)=nO k (gK s):=by
  rw[bf O];rcases(O:k=0\/k=1\/k=2\/k=3) with rfl|rfl|rfl|rfl<;>(unfold hn nO gK fe hn;simp)
 unfold wa;rw[e,FF c ((nZ b).mono O) (HV a (CJ d)) a,HY (nZ b).1 rfl a (QS _ a)];rfl
theorem Be(e:7700000<=n)(d:er 1100000 p)(a:Int):ad (iv n p a (-1)) (λr=>r.2=al->r=dq):=by
 unfold iv;refine ad.aQ (λz=>z=al->b9 p=ab/\(0<=a/\a<(p.parts.length:Int))) (λj b=>?_) λz i=>?_
 ·refine ag (d0 e d.sm) (ad.cond (λh=>b _ λh=>by cases h) λh=>?_);refine ag (oT n d.2.1 a) (ad.cond (λh=>b _ λh=>by cases h) λc=>dV (λh=>(h rfl).elim) λ_=>b _ λ_=>⟨by simpa using h,by simpa using c⟩)
 refine ad.cond (λ_=>ad.some λ_=>rfl) λh=>?_;obtain⟨k,l,c⟩:=i h;obtain⟨x,m,o⟩:=pk l c;exact ag (sj O k) (ag m (ad.some λh=>by cases h))
theorem ZS(r:7700000<=n)(w:er 1100000 p)(b c a:Int):wH n p b c a=aa (uM p b c a):=by
 unfold wH uM;by_cases d:c= -1
 ·subst d;rw[be λh=>by rw[rE O] at h;cases h.1];refine ad.eq (hE (Be r w b) λg L=>ad.cond (λ_=>ad.aQ (λz=>z=ab) (λj A=>aV (λ_=>A _ rfl) λh=>br (show(-1:Int)<0 by omega) h) λz B=>by rw[B];exact bW (ad.some rfl)) λ_=>ad.some rfl)
 refine ad.eq (ag (xT r w b c d) ?_);by_cases e:dj p b c=ab
 ·rw[bg e];refine bW (ad.aQ (λz=>z= !decide (-6<=a/\a<=6)) (λj A=>?_) λz B=>?_)
  ·refine aV (λh=>?_) λ_=>ag (Nh n a) (A _ rfl);rw[rE h] at e;cases e
  subst B;by_cases o: -6<=a/\a<=6
  ·rw[bg ⟨e,o⟩,bS o];refine b1 ?_;obtain⟨t,i,k,P,l,rfl,rfl,D,q,u,Q,m,G⟩:=kf e;obtain⟨L,H⟩:=h8 m;obtain⟨_,R,W,_⟩:=gr m;refine ag (bq D) (ag (bq q) (ag (KB O (H l (bX q)) (aaq O o)) (ag (dU O _) (ag (dU Z _) (ag (BV n G) ?_)))));rw[bf (n:=(k:Int)+1) O];have C:=zg (n:=n) O (nest:=P.nest.set k (d8 (λx=>fe x 1 (gK a)) l)) (body:=P.body) (s:=k+1) cd cd (λy K=>by
    rw[o5 O] at K;exact H y (ft K)) R.2 W (F:=λX=>wa n X (k:Int) (⟨(hn k).aK,wr (0-a)⟩:aE)) (aap O G o)
   rw[dh,dh];refine ag C (ag (dU cd _) ?_);rw[dh,nT];have f:(⟨(P.nest.set k (d8 (λx=>fe x 1 (gK a)) l)).take (k+1)++((P.nest.set k (d8 (λx=>fe x 1 (gK a)) l)).drop (k+1)).map (d8 (hF k (gK a))),P.body.map (iG (hF k (gK a)))⟩:Part)=qE k (λx=>fe x 1 (gK a)) (hF k (gK a)) P l:=by
    rw[o5 O,eN,ia O,List.take_set_of_le (df k),hf];rfl
   rw[f];refine ag (rl r (yh w i (Cd m q (x3 rfl) (CR rfl)))) (ad.some ?_);rw[AZ D q]
  rw[be λh=>o h.2,bR o];exact bW (ad.some rfl)
 rw[be e,be λh=>e h.1];exact b1 (ad.some rfl)
theorem acs{k:Type}{l:List k}{x:k}(h:l[i]? =aa x):l.set i x=l:=by
 refine List.ext_getElem? (λj=>?_)
 grind
def fM(k:Nat)(s:Int):aE:=⟨[0,0,0,0].set k s,0⟩
theorem sG(k:Nat)(h: -6<=s/\s<=6):fw 6 (fM k s):=by refine⟨by simp[fM],⟨by simp[fM],by simp[fM]⟩,xZ (λc a=>?_) ⟨h.1,h.2⟩⟩;simp at a;subst a;exact⟨O,O⟩
theorem QR(s:Int)(a:k+1<4):(fM k s).aK.getD (k+1) 0=0:=by rcases(O:k=0\/k=1\/k=2) with rfl|rfl|rfl<;>rfl
def uV(p:Prog)(b a s:Int):Prog×Bool:=
 if dj p b a=ab/\dj p b (a+1)=ab/\(-6<=s/\s<=6) then uR p b (a+1) (λx=>fe x 1 (fM a.toNat s)) (hF (a.toNat+1) (fM a.toNat s)) else dq
theorem afa(a:k<4)(s:Int):ow (hn k) s ⟨[0,0,0,0],0⟩ 0=fM k s:=by rcases(O:k=0\/k=1\/k=2\/k=3) with rfl|rfl|rfl|rfl<;>simp[ow,hn,fM]
theorem afc(c:k<4)(s:Int){a:aE}(b:a.aK.length=4):fe a s (hn k)=fe a 1 (fM k s):=by obtain⟨a0,aP,a2,a3,e⟩:=mw b;rcases(O:k=0\/k=1\/k=2\/k=3) with rfl|rfl|rfl|rfl<;>simp[fe,hn,fM,e]
theorem afG(a:k+1<4)(s:Int):fe (hn (k+1)) (-s) (hn k)=nO (k+1) (fM k s):=by rcases(O:k=0\/k=1\/k=2) with rfl|rfl|rfl<;>simp[nO,fe,hn,fM]
theorem aa6(q:7700000<=n)(m:er 1100000 p)(a b s:Int):wK n p a b s=aa (uV p a b s):=by
 unfold wK uV;refine ad.eq (ag (jh O m) (ad.aQ (λz=>z= !(dj p a b&&(dj p a (b+1)&&aj (-6<=s/\s<=6)))) (λj r=>?_) λz C=>?_))
 ·refine ag (mT q m a b) (ad.cond (λh=>r _ ?_) λh=>?_)
  ·rw[show dj p a b=al by simpa using h];rfl
  have e:dj p a b=ab:=by simpa using h
  obtain⟨D,i,k,P,l,rfl,rfl,w,o,B,y,d,A⟩:=kf e;rw[bf O];refine ag (mT q m _ _) (ad.cond (λh=>r _ ?_) λh=>ag (zD n s 6 O) (r _ ?_))
  ·rw[e,show dj p (i:Int) ((k:Int)+1)=al by simpa using h];rfl
  rw[e,show dj p (i:Int) ((k:Int)+1)=ab by simpa using h];rfl
 subst C;by_cases c:dj p a b=ab/\dj p a (b+1)=ab/\(-6<=s/\s<=6)
 ·rw[bg c,c.1,c.2.1,bS c.2.2];refine b1 ?_;obtain⟨D,i,cA,P,l,rfl,F,w,o,B,y,d,A⟩:=kf c.2.1;obtain⟨_,L,k,Q,R,G,rfl,_⟩:=kf c.1;obtain rfl:cA=k+1:=O
  refine ag (Bu n O) (ag (x:=⟨[0,0,0,0],0⟩) rfl (ag (uc O ((um O).mono O) (by unfold fw c3;simp) ⟨O,O⟩ ⟨O,O⟩) ?_));rw[afa O,bf O];refine ag (bq w) (ag (OM O d o A (sG k c.2.2) (QR s A)) (ag (x0 q m B ((Cd d o (x3 (sG k c.2.2).1) (CR (sG k c.2.2).1)).mono O)) (ad.some ?_)));show hc _=_;rw[show((k:Int)+1)=((k+1:Nat):Int) by omega,AZ w o];rfl
 rw[be c,show(dj p a b&&(dj p a (b+1)&&aj (-6<=s/\s<=6)))=al by
  cases e:dj p a b with
  |false=>rfl
  |true=>cases H:dj p a (b+1) with
   |false=>rfl
   |true=>exact bR λK=>c ⟨e,H,K⟩]
 exact bW (ad.some rfl)
theorem acr(c:5500000<=n)(a:k<4)(d: -6<=s/\s<=6): ∀x,de x=ab->zr n x s (k:Int)=aa (fe x 1 (fM k s)):=λx b=>by unfold zr;rw[BV n a];refine ad.eq (ag rfl (ag (BW c ((nZ b).mono O) ((um a).mono O) ⟨O,O⟩) (ad.some (afc a s (fS b).1))))
theorem acq(d:5500000<=n)(a:k+1<4)(b: -6<=s/\s<=6): ∀x,de x=ab->wk n x (k:Int) (nO (k+1) (fM k s))=aa (hF (k+1) (fM k s) x):=λx c=>by unfold wk;rw[bf O,show((k:Int)+1)=((k+1:Nat):Int) by omega,FF d ((nZ c).mono O) (HV a (sG k b)) a,HY (nZ c).1 (sG k b).1 a (QR s a)];rfl
theorem aaK(B:7700000<=n)(C:er 1100000 p)(a b s:Int):wQ n p a b s=aa (uV p a b s):=by
 unfold wQ uV;by_cases d:b= -1
 ·subst d;rw[be λh=>by rw[rE O] at h;cases h.1];refine ad.eq (hE (Be B C a) λv Q=>ad.cond (λ_=>ad.aQ (λz=>z=ab) (λj r=>aV (λ_=>r _ rfl) λh=>br (show(-1:Int)<0 by omega) h) λz D=>by rw[D];exact bW (ad.some rfl)) λ_=>ad.some rfl)
 refine ad.eq (ag (xT B C a b d) ?_);by_cases o:dj p a b=ab
 ·rw[bg o];obtain⟨R,i,k,P,E,rfl,rfl,w,W,I,X,m,G⟩:=kf o;obtain⟨Q,K⟩:=h8 m;obtain⟨_,f,g,_⟩:=gr m;have q:dj p (i:Int) ((k:Int)+1)=aj (k+1<P.nest.length):=by
   unfold dj;rw[R,bq w];exact decide_eq_decide.2 O
  refine bW (ad.aQ (λz=>z= !(aj (k+1<P.nest.length)&&aj (-6<=s/\s<=6))) (λj r=>?_) λz D=>?_)
  ·refine aV (λh=>br h O) λ_=>ag (bq w) ?_;rw[bf O];refine aV (λh=>r _ ?_) λh=>ag (Nh n s) (r _ ?_)
   ·rw[bR (show¬k+1<P.nest.length by omega)];rfl
   rw[bS (O:k+1<P.nest.length)];rfl
  subst D;by_cases c:k+1<P.nest.length
  ·by_cases e: -6<=s/\s<=6
   ·rw[bg ⟨o,by rw[q,bS c],e⟩,bS e,bS c];refine b1 ?_;obtain⟨l,A⟩: ∃l,P.nest[k+1]? =aa l:=⟨_,bD c⟩
    rw[bf (n:=(k:Int)+1) O,bf (n:=(k:Int)+2) O,bf (n:=0-s) O,show((k:Int)+1)=((k+1:Nat):Int) by omega,show((k:Int)+2)=((k+1+1:Nat):Int) by omega,show 0-s= -s by omega];refine ag (bq w) (ag (bq A) (ag (KB O (K l (bX A)) (acr O G e)) (ag (dU O _) (ag (dU Z _) (ag (BV n O) (ag (BV n G) (ag (BW O ((um O).mono O) ((um G).mono O) ⟨O,O⟩) ?_)))))));rw[afG O];have H:=zg (n:=n) O (nest:=P.nest.set (k+1) (d8 (λx=>fe x 1 (fM k s)) l)) (body:=P.body) (s:=k+1+1) cd cd (λy L=>by
     rw[o5 O] at L;exact K y (ft L)) f.2 g (F:=λt=>wk n t (k:Int) (nO (k+1) (fM k s))) (acq O O e)
    rw[dh,dh];refine ag H (ag (dU cd _) ?_);rw[dh,nT];have u:(⟨(P.nest.set (k+1) (d8 (λx=>fe x 1 (fM k s)) l)).take (k+1+1)++((P.nest.set (k+1) (d8 (λx=>fe x 1 (fM k s)) l)).drop (k+1+1)).map (d8 (hF (k+1) (fM k s))),P.body.map (iG (hF (k+1) (fM k s)))⟩:Part)=qE (k+1) (λx=>fe x 1 (fM k s)) (hF (k+1) (fM k s)) P l:=by
     rw[o5 O,eN,ia O,List.take_set_of_le (df _),hf];rfl
    rw[u];refine ag (rl B (yh C i (Cd m A (x3 (sG k e).1) (CR (sG k e).1)))) (ad.some ?_);rw[AZ w A];rfl
   rw[be λh=>e h.2.2,bR e,kn];exact bW (ad.some rfl)
  rw[be (λh=>by rw[q,bR c] at h;cases h.2.1),bR c];exact bW (ad.some rfl)
 rw[be o,be λh=>o h.1];exact b1 (ad.some rfl)
def low(k:Nat)(b:aE):Prop:= ∀j,k<=j->b.aK.getD j 0=0
def k1(n:Int):Expr:=⟨1,n,⟨[],0⟩,⟨[],[]⟩,[]⟩
def gV(e:Expr)(n:Int):Bool:=aj (e.kind=1)&&aj (e.num=n)
def hr(k x y:Int):Int:=if k=5 then x-y else if k=6 then x*y else x+y
def iX(e:Expr):Expr:=
 if e.kind=2/\fl e.index.aK=0/\0<=e.index.const then k1 e.index.const
 else match e.a1 with
  | [a,b]=>
   if a.kind=1/\b.kind=1 then(if 0<=hr e.kind a.num b.num/\hr e.kind a.num b.num<=99 then k1 (hr e.kind a.num b.num) else e)
   else if(¬e.kind=6/\gV b 0=ab)\/(e.kind=6/\gV b 1=ab) then a
   else if(e.kind=4/\gV a 0=ab)\/(e.kind=6/\gV a 1=ab) then b
   else if e.kind=6/\(gV a 0=ab\/gV b 0=ab) then k1 0
   else e
  |_=>e
def lu(e:Expr)(a:List Expr):Expr:=⟨e.kind,e.num,e.index,e.read,a⟩
def ga:Nat->Expr->Expr
 |0,e=>e
 |L+1,e=>iX (lu e (e.a1.map (ga L)))
theorem NT{d:Int}: ∀{L:Nat} {e:Expr},dF L e d=ab->dF (L+1) e d=ab
 |0,_,h=>by cases h
 |L+1,e,h=>by obtain⟨b,c,i⟩:=hl h;show(aj (fK e.kind=e.a1.length)&&(eJ e d&&e.a1.all λk=>dF (L+1) k d))=ab;rw[bS b,c,gg,gg];exact gx.2 λk a=>NT (i k a)
theorem GJ(a:fK e.kind=e.a1.length)(b:eJ e d=ab)(c: ∀k∈e.a1,dF L k d=ab):dF (L+1) e d=ab:=by
 show(aj (fK e.kind=e.a1.length)&&(eJ e d&&e.a1.all λk=>dF L k d))=ab
 grind
theorem Qe{d:Int}: ∀{L:Nat} {e:Expr},dF L e d=ab->dI (L+1) e=dI L e
 |0,_,h=>by cases h
 |L+1,e,h=>by obtain⟨c,i,b⟩:=hl h;show 1+(e.a1.map (dI (L+1))).sum=1+(e.a1.map (dI L)).sum;rw[show e.a1.map (dI (L+1))=e.a1.map (dI L) from List.map_congr_left λk a=>Qe (b k a)]
theorem Oe{d:Int}: ∀{L:Nat} {e:Expr},dF L e d=ab->eo (L+1) e=eo L e
 |0,_,h=>by cases h
 |L+1,e,h=>by obtain⟨c,i,b⟩:=hl h;show(if e.kind=3 then [e.read] else [])++e.a1.flatMap (eo (L+1))=(if e.kind=3 then [e.read] else [])++e.a1.flatMap (eo L);rw[List.flatMap_def,List.flatMap_def,show e.a1.map (eo (L+1))=e.a1.map (eo L) from List.map_congr_left λk a=>Oe (b k a)]
theorem Hi(l:eJ e d=ab):iX e=e\/(∃n,iX e=k1 n/\0<=n/\n<=99)\/ ∃k∈e.a1,iX e=k:=by
 obtain⟨kind,num,index,read,i⟩:=e;unfold iX;dsimp only;split
 ·rename_i h
  have:=(fS (o8 l h.1).1).2.1;exact .inr (.inl ⟨_,rfl,h.2.2,this.2⟩)
 match i with
 | []=>exact .inl rfl
 | [a]=>exact .inl rfl
 | [a,b]=>
  dsimp only;split
  ·split
   ·rename_i h;exact .inr (.inl ⟨_,rfl,h⟩)
   exact .inl rfl
  split
  ·exact .inr (.inr ⟨a,bl,rfl⟩)
  split
  ·exact .inr (.inr ⟨b,bl,rfl⟩)
  split
  ·exact .inr (.inl ⟨0,rfl,O,O⟩)
  exact .inl rfl
 |a::b::c::r=>exact .inl rfl
theorem abc(L:Nat){n:Int}(h:0<=n/\n<=99)(d:Int):dF (L+1) (k1 n) d=ab:=by
 refine GJ (by simp[k1,fK]) ?_ λk a=>by cases a
 unfold eJ k1 iY kj;simp;omega
theorem F8(h:eJ e d=ab)(a:List Expr):eJ (lu e a) d=ab:=h
theorem m7{d:Int}: ∀{L:Nat} {e:Expr},dF L e d=ab->dF L (ga L e) d=ab
 |0,_,h=>by cases h
 |L+1,e,h=>by
  obtain⟨m,i,l⟩:=hl h;have o:dF (L+1) (lu e (e.a1.map (ga L))) d=ab:=GJ (by simp only[lu,List.length_map];exact m) i (λk a=>by
   obtain⟨y,c,rfl⟩:=eH.1 a;exact m7 (l y c))
  show dF (L+1) (iX (lu e (e.a1.map (ga L)))) d=ab;rcases Hi (F8 i (e.a1.map (ga L))) with b|⟨n,b,p⟩|⟨k,a,b⟩
  ·rw[b];exact o
  ·rw[b];exact abc L p d
  rw[b];obtain⟨y,c,rfl⟩:=eH.1 a;exact NT (m7 (l y c))
theorem O2{k:Type}(f:k->Int)(b: ∀x,0<=f x): ∀{l:List k} {x:k},x∈l->f x<=(l.map f).sum
 |y::l,x,h=>by
  have c: ∀l:List k,0<=(l.map f).sum:=λl=>by
   induction l with
   |nil=>simp
   |cons a l d=>simp only[hg,List.sum_cons];have:=b a;omega
  simp only[hg,List.sum_cons];rcases eh.1 h with rfl|h
  ·have:=c l;omega
  have:=O2 f b h;have:=b y;omega
theorem NQ{k:Type}(f g:k->Int): ∀{l:List k},(∀x∈l,f x<=g x)->(l.map f).sum<=(l.map g).sum
 | [],_=>hA _
 |x::l,h=>by
  simp only[hg,List.sum_cons]
  have:=h x fh
  have:=NQ f g λy a=>h y (eW _ a);omega
theorem N2{d:Int}: ∀{L:Nat} {e:Expr},dF L e d=ab->dI L (ga L e)<=dI L e
 |0,_,h=>by cases h
 |L+1,e,h=>by
  obtain⟨p,m,c⟩:=hl h;have i:dI (L+1) (lu e (e.a1.map (ga L)))<=dI (L+1) e:=by
   show 1+((e.a1.map (ga L)).map (dI L)).sum<=1+(e.a1.map (dI L)).sum;rw[List.map_map]
   have:=NQ (dI L ∘ ga L) (dI L) (l:=e.a1) λk a=>N2 (c k a);omega
  show dI (L+1) (iX (lu e (e.a1.map (ga L))))<=dI (L+1) e;rcases Hi (F8 m (e.a1.map (ga L))) with b|⟨n,b,q⟩|⟨k,a,b⟩
  ·rw[b];exact i
  ·rw[b];exact rU (L+1) e
  rw[b];refine Int.le_trans ?_ i;obtain⟨y,o,rfl⟩:=eH.1 a;rw[Qe (m7 (c y o))];have r:dI L (ga L y)<=((e.a1.map (ga L)).map (dI L)).sum:=O2 (dI L) (λx=>by have:=rU L x;omega) a;show _<=1+((e.a1.map (ga L)).map (dI L)).sum;omega
theorem Mv{d:Int}: ∀{L:Nat} {e:Expr},dF L e d=ab-> ∀a∈eo L (ga L e),a∈eo L e
 |0,_,h=>by cases h
 |L+1,e,h=>by
  obtain⟨s,r,o⟩:=hl h;have p: ∀a∈eo (L+1) (lu e (e.a1.map (ga L))),a∈eo (L+1) e:=λa b=>by
   have b:a∈(if e.kind=3 then [e.read] else [])++(e.a1.map (ga L)).flatMap (eo L):=b;show a∈(if e.kind=3 then [e.read] else [])++e.a1.flatMap (eo L);rcases eX.1 b with b|b
   ·exact nU _ b
   refine o4 _ ?_;obtain⟨y,l,m⟩:=zS.1 b;obtain⟨z,q,rfl⟩:=eH.1 l;exact zS.2 ⟨z,q,Mv (o z q) a m⟩
  intro a b;have b:a∈eo (L+1) (iX (lu e (e.a1.map (ga L)))):=b;rcases Hi (F8 r (e.a1.map (ga L))) with c|⟨n,c,w⟩|⟨k,i,c⟩
  ·rw[c] at b;exact p a b
  ·rw[c] at b;simp[eo,k1] at b
  rw[c] at b;obtain⟨y,l,rfl⟩:=eH.1 i;rw[Oe (m7 (o y l))] at b;refine p a ?_;show a∈(if e.kind=3 then [e.read] else [])++(e.a1.map (ga L)).flatMap (eo L);exact o4 _ (zS.2 ⟨_,i,b⟩)
theorem aar(h:dF L e d=ab): ∃K,L=K+1:=by
 cases L with
 |zero=>cases h
 |succ K=>exact⟨K,rfl⟩
theorem YP(n:Nat)(e:Expr)(k:Int):iR n e k=aa (gV e k):=by unfold iR gV;cases aj (e.kind=1)<;>rfl
theorem Zg(n:Nat)(e:Expr)(k:Int):p6 n e k=aa (gV e k):=by unfold p6 gV;cases aj (e.kind=1)<;>rfl
def CY(a:Expr):Prop:=a.kind=1->0<=a.num/\a.num<=99
theorem Im(h:dF L e d=ab):CY e:=λb=>by obtain⟨K,rfl⟩:=aar h;obtain⟨_,a,_⟩:=hl h;unfold eJ at a;rw[be O,be O,bg b] at a;simp only[cB,decide_eq_true_eq] at a;exact a.1
theorem QA{b:Int}(d:0<=a/\a<=99)(c:0<=b/\b<=99):0<=a*b/\a*b<=9801:=by
 refine⟨o3 d.1 c.1,?_⟩
 have:=rN d.2 c.2 c.1 (by omega:(0:Int)<=99);omega
theorem ae0(n:Nat)(Q:c=4\/c=5\/c=6){a b:Expr}(R:CY a)(W:CY b):
  aQ (fun(s:Bool)=>
      bif s then(
       aQ (fun(q:Int)=>
        bI (fz n q 0 99) λd=>
        bif d then(
         bI (om n q) λe=>
         aa e
        ) else(
         aa (⟨c,0,(⟨[],0⟩:aE),(⟨[],[]⟩:cx),[a,b]⟩:Expr)
        )
       ) (λl=>
        bif aj (c=5) then(
         l (wr (a.num-b.num))
        ) else(
         bif aj (c=6) then(
          l (wr (a.num*b.num))
         ) else(
          l (wr (a.num+b.num))
         )
        )
       )
      ) else(
       aQ (fun(w:Bool)=>
        bif w then(
         aa a
        ) else(
         aQ (fun(x:Bool)=>
          bif x then(
           aa b
          ) else(
           aQ (fun(y:Bool)=>
            bif y then(
             bI (om n 0) λA=>
             aa A
            ) else(
             aa (⟨c,0,(⟨[],0⟩:aE),(⟨[],[]⟩:cx),[a,b]⟩:Expr)
            )
           ) (λm=>
            bif aj (c=6) then(
             bI (iR n a 0) λB=>
             bif B then(
              m ab
             ) else(
              bI (iR n b 0) λC=>
              m C
             )
            ) else(
             m al
            )
           )
          )
         ) (λi=>
          bif aj (c=4) then(
           bI (iR n a 0) λD=>
           bif D then(
            i ab
           ) else(
            bif aj (c=6) then(
             bI (iR n a 1) λF=>
             i F
            ) else(
             i al
            )
           )
          ) else(
           bif aj (c=6) then(
            bI (iR n a 1) λG=>
            i G
           ) else(
            i al
           )
          )
         )
        )
       ) (λk=>
        bif !(aj (c=6)) then(
         bI (iR n b 0) λH=>
         bif H then(
          k ab
         ) else(
          bif aj (c=6) then(
           bI (iR n b 1) λK=>
           k K
          ) else(
           k al
          )
         )
        ) else(
         bif aj (c=6) then(
          bI (iR n b 1) λL=>
          k L
         ) else(
          k al
         )
        )
       )
      )
     ) (λr=>
      bif aj (a.kind=1) then(
       r (aj (b.kind=1))
      ) else(
       r al
      )
     )=aa (iX ⟨c,0,⟨[],0⟩,⟨[],[]⟩,[a,b]⟩):=by
 have X: ¬(c=2/\fl ([]:List Int)=0/\(0:Int)<=0):=λh=>O
 unfold iX;dsimp only;rw[be X];simp only[YP,Option.bind_some,aQ];by_cases o:a.kind=1/\b.kind=1
 ·have g:=R o.1;have j:=W o.2;have I:=QA g j;rw[bg o,bS o.1,bS o.2];simp only[cond_true];have t:(bif aj (c=5) then(bI (fz n (wr (a.num-b.num)) 0 99) λd=>bif d then(bI (om n (wr (a.num-b.num))) λe=>aa e) else(aa (⟨c,0,⟨[],0⟩,⟨[],[]⟩,[a,b]⟩:Expr)))
    else bif aj (c=6) then(bI (fz n (wr (a.num*b.num)) 0 99) λd=>bif d then(bI (om n (wr (a.num*b.num))) λe=>aa e) else(aa (⟨c,0,⟨[],0⟩,⟨[],[]⟩,[a,b]⟩:Expr)))
    else(bI (fz n (wr (a.num+b.num)) 0 99) λd=>bif d then(bI (om n (wr (a.num+b.num))) λe=>aa e) else(aa (⟨c,0,⟨[],0⟩,⟨[],[]⟩,[a,b]⟩:Expr))))
    =bI (fz n (hr c a.num b.num) 0 99) λd=>bif d then(bI (om n (hr c a.num b.num)) λe=>aa e) else(aa (⟨c,0,⟨[],0⟩,⟨[],[]⟩,[a,b]⟩:Expr)):=by
   rw[bf (n:=a.num-b.num) O,bf (n:=a.num*b.num) O,bf (n:=a.num+b.num) O];unfold hr;rcases Q with rfl|rfl|rfl<;>rfl
  refine t.trans ?_;rw[d5,Option.bind_some];by_cases p:0<=hr c a.num b.num/\hr c a.num b.num<=99
  ·rw[bg p,bS p];rfl
  rw[be p,bR p];rfl
 rw[be o];have M:(bif aj (a.kind=1) then aj (b.kind=1) else al)=al:=by
  cases u:aj (a.kind=1) with
  |false=>rfl
  |true=>
   have: ¬b.kind=1:=λh=>o ⟨e4 u,h⟩;rw[bR this];rfl
 have p: ∀{f:Bool->Option Expr},(bif aj (a.kind=1) then f (aj (b.kind=1)) else f al)=f al:=fun {f}=>by
  grind
 refine(p (f:=λz=>bif z then _ else _)).trans ?_;generalize gV a 0=a0;generalize gV a 1=aP;generalize gV b 0=v;generalize gV b 1=E;rcases Q with rfl|rfl|rfl<;>cases a0<;>cases aP<;>cases v<;>cases E<;>rfl
theorem abo(n:Nat)(k:Int):sq n k=aa (aj (4<=k/\k<=6)):=by unfold sq;rw[d5];rfl
theorem Hl(h:fK e.kind=e.a1.length):((e.kind=1\/e.kind=2\/e.kind=3)/\e.a1=[])\/((e.kind=4\/e.kind=5\/e.kind=6)/\ ∃a b,e.a1=[a,b]):=by
 unfold fK at h;split at h
 ·rename_i d;exact .inl ⟨d,nQ O⟩
 split at h
 ·rename_i d;refine .inr ⟨d,?_⟩
  match i:e.a1,h with
  | [a,b],_=>exact⟨a,b,rfl⟩
  | [],h=>simp at h
  | [a],h=>simp at h
  |a::b::c::r,h=>simp at h;omega
 omega
theorem afo(a:eJ e d=ab)(c:e.kind=4\/e.kind=5\/e.kind=6):e.num=0/\e.index=⟨[],0⟩/\e.read=⟨[],[]⟩:=by have b:=sk a O O;unfold eJ at a;rw[be O,be O,be O] at a;simp only[cB,decide_eq_true_eq] at a;exact⟨a.1,p0 b.1,p1 b.2⟩
theorem Cn(a:eJ e d=ab):iu e.index/\jY e.read.a7:=by
 by_cases c:e.kind=2
 ·have:=o8 a c;refine⟨by have:=(fS this.1).1;unfold iu;omega,?_⟩;rw[p1 this.2];exact⟨bl,λx b=>by cases b⟩
 by_cases h:e.kind=3
 ·have:=o' a h;have i:=me this.1;refine⟨?_,Pn i.2.1 i.2.2⟩;rw[p0 this.2];unfold iu;simp
 have:=sk a c h;refine⟨?_,?_⟩
 ·rw[p0 this.1];unfold iu;simp
 rw[p1 this.2];exact⟨bl,λx b=>by cases b⟩
def mU(e:Expr):Bool:=aj (e.kind=2)&&(aj (fl e.index.aK=0)&&aj (0<=e.index.const))
theorem Mo(e:Expr):mU e=ab↔e.kind=2/\fl e.index.aK=0/\0<=e.index.const:=by unfold mU;simp
theorem ME(h:mU e=ab):iX e=k1 e.index.const:=by unfold iX;rw[bg ((Mo e).1 h)]
theorem NI(h:mU e=al)(a:e.a1=[]):iX e=e:=by unfold iX;rw[be (λb=>by rw[(Mo e).2 b] at h;cases h),a]
theorem Gf{d:Int}: ∀(L n:Nat) (e:Expr),6600000+L<=n->dF L e d=ab->ra (n+1) e=aa (ga L e)
 |0,_,_,_,h=>by cases h
 |L+1,n,e,Q,h=>by
  obtain⟨r,s,w⟩:=hl h;obtain⟨n,rfl⟩: ∃j,n=j+1:=⟨n-1,O⟩
  unfold ra;refine ad.eq (ad.aQ (λz=>z=mU e) (λj m=>?_) λz B=>?_)
  ·refine aV (λo=>ag (Aw O (Cn s).1) (aV (λC=>m _ ?_) λC=>m _ ?_)) λo=>m _ ?_
   ·unfold mU;rw[bS o,bS (O:fl e.index.aK=0)];rfl
   ·unfold mU;rw[bR (show¬fl e.index.aK=0 by omega),Bool.false_and,kn]
   unfold mU;rw[bR o];rfl
  subst B;have p:ga (L+1) e=iX (lu e (e.a1.map (ga L))):=rfl;refine ad.cond (λq=>?_) λq=>?_
  ·refine ag (x:=k1 e.index.const) rfl (ad.some ?_);rw[p];exact(ME (e:=lu e (e.a1.map (ga L))) q).symm
  refine ag (abo _ _) (dV (λl=>ad.some ?_) λl=>?_)
  ·rcases Hl r with ⟨_,k⟩|⟨i,_⟩
   ·rw[p,k]
    have:lu e []=e:=by cases e;cases k;rfl
    show e=iX (lu e []);rw[this];exact(NI q k).symm
   exact br O l
  rcases Hl r with ⟨i,_⟩|⟨i,a,b,c⟩
  ·omega
  have y:=w a (by rw[c];simp);have A:=w b (by rw[c];simp);have D:aB e.a1 0=aa a:=by rw[c];rfl
  have F:aB e.a1 1=aa b:=by rw[c];rfl
  refine ag D (ag (Gf L n a O y) (ag F (ag (Gf L n b O A) (ad.of (ae0 (n+1) i (Im (m7 y)) (Im (m7 A))) ?_))));obtain⟨G,H,K⟩:=afo s i;rw[p,c];unfold lu;rw[G,H,K];rfl
theorem acu(n:Nat)(m:e.kind=4\/e.kind=5\/e.kind=6){x y:Int}(k:0<=x/\x<=99)(l:0<=y/\y<=99):BB n e x y=aa (if 0<=hr e.kind x y/\hr e.kind x y<=99 then k1 (hr e.kind x y) else e):=by
 have o:=QA k l;unfold BB;refine ad.eq (ad.aQ (λz=>z=hr e.kind x y) (λj a=>?_) λz c=>?_)
 ·rw[bf (n:=x+y) O,bf (n:=x-y) O,bf (n:=x*y) O];refine aV (λh=>a _ ?_) λh=>aV (λd=>a _ ?_) λd=>a _ ?_
  ·unfold hr;rw[be O,be O]
  ·unfold hr;rw[bg d]
  unfold hr;rw[be d,bg O]
 subst c;refine ad.aQ (λz=>z= !decide (0<=hr e.kind x y/\hr e.kind x y<=99)) (λj a=>aV (λh=>a _ ?_) λh=>a _ ?_) λz c=>?_
 ·rw[bR O];rfl
 ·by_cases i:(99:Int)<hr e.kind x y
  ·rw[bS i,bR O];rfl
  rw[bR i,bS O];rfl
 subst c;by_cases b:0<=hr e.kind x y/\hr e.kind x y<=99
 ·rw[bS b,bg b];exact b1 (ag rfl (ad.some rfl))
 rw[bR b,be b];exact bW (ad.some rfl)
theorem aas(L:5500000<=n)(A:iu e.index)(B:fK e.kind=e.a1.length)(w: ∀k∈e.a1,CY k):Af n e=aa (iX e):=by
 unfold Af;refine ad.eq (ad.aQ (λz=>z=mU e) (λj l=>?_) λz q=>?_)
 ·refine aV (λC=>ag (zQ O A) (aV (λD=>l _ ?_) λD=>l _ ?_)) λC=>l _ ?_
  ·unfold mU
   grind
  ·unfold mU
   grind
  unfold mU
  grind
 subst q;refine ad.cond (λr=>ag (x:=k1 e.index.const) rfl (ad.some (ME r).symm)) λr=>?_;rcases Hl B with ⟨_,o⟩|⟨d,a,b,c⟩
 ·refine aV (λ_=>ad.some (NI r o).symm) λh=>br (by rw[o];rfl) h
 have F:=w a (by rw[c];simp);have G:=w b (by rw[c];simp);refine aV (λh=>by rw[c] at h;simp at h) λ_=>ag (show aB e.a1 0=aa a by rw[c];rfl) (ag (show aB e.a1 1=aa b by rw[c];rfl) ?_);have i:iX e=(if a.kind=1/\b.kind=1 then(if 0<=hr e.kind a.num b.num/\hr e.kind a.num b.num<=99 then k1 (hr e.kind a.num b.num) else e)
   else if(¬e.kind=6/\gV b 0=ab)\/(e.kind=6/\gV b 1=ab) then a
   else if(e.kind=4/\gV a 0=ab)\/(e.kind=6/\gV a 1=ab) then b
   else if e.kind=6/\(gV a 0=ab\/gV b 0=ab) then k1 0
   else e):=by
  unfold iX;rw[be (λh=>O),c]
 rw[i];refine ad.aQ (λz=>z=aj (a.kind=1/\b.kind=1)) (λj l=>aV (λh=>l _ ?_) λh=>l _ ?_) λz q=>?_
 ·by_cases p:b.kind=1
  ·rw[bS p,bS ⟨h,p⟩]
  rw[bR p,bR λs=>p s.2]
 ·rw[bR λs=>h s.1]
 subst q;by_cases m:a.kind=1/\b.kind=1
 ·rw[bS m,bg m];exact bW (ag (acu n d (F m.1) (G m.2)) (ad.some rfl))
 rw[bR m,be m];refine b1 ?_;simp only[Zg,Option.bind_some,aQ];generalize gV a 0=a0;generalize gV a 1=aP;generalize gV b 0=H;generalize gV b 1=K;obtain⟨kind,num,index,read,y⟩:=e;dsimp only at d⊢;rcases d with rfl|rfl|rfl<;>cases a0<;>cases aP<;>cases H<;>cases K<;>exact ad.some rfl
theorem Nz{d:Int}: ∀(L n:Nat) (e:Expr),6600000+L<=n->dF L e d=ab->rG (n+1) e=aa (ga L e)
 |0,_,_,_,h=>by cases h
 |L+1,n,e,r,h=>by
  obtain⟨l,a,i⟩:=hl h;obtain⟨n,rfl⟩: ∃j,n=j+1:=⟨n-1,O⟩
  have m:e.a1.length<=2:=by have:=oX e.kind;omega
  unfold rG;refine ad.eq (ag (AB _ (Cn a).1) (ag (z1 O (Cn a).2) ?_));refine o0 (f:=rG (n+1)) (g:=ga L) (K:=λo=>bI (Af (n+1) (⟨e.kind,e.num,e.index,e.read,o⟩:Expr)) λb=>aa b) (λx p=>Nz L n x O (i x p)) O O ?_;refine ag (aas O (Cn a).1 (by simpa using l) λk c=>?_) (ad.some rfl);obtain⟨y,q,rfl⟩:=eH.1 c;exact Im (m7 (i y q))
def jF(l:List cO)(p:Prog)(a:Int)(c:Nat):Prop:= ∃x∈l,x.part=a/\dx p x=c
def kN(l:List cO)(p:Prog)(a:Int)(c:Nat):Prop:= ∃x∈l,x.part=a/\(c:Int)∈rc p x
theorem xO{l:List cO}{c:Nat}{x:cO}:jF (l++[x]) p a c↔jF l p a c\/(x.part=a/\dx p x=c):=by
 unfold jF
 grind
theorem xP{l:List cO}{c:Nat}{x:cO}:kN (l++[x]) p a c↔kN l p a c\/(x.part=a/\(c:Int)∈rc p x):=by
 unfold kN
 grind
def hV(T:Nat)(f:List Bool)(S:Nat->Prop):Prop:=f.length=T/\ ∀c,c<T->(f.getD c al=ab↔S c)
theorem G0(T:Nat):hV T (dn T al) (λ_=>False):=⟨Em,λc a=>by rw[fa,t'];split<;>simp⟩
theorem Hp{T:Nat}{f:List Bool}{S:Nat->Prop}(h:hV T f S){d:Nat}(a:d<T):hV T (f.set d ab) (λc=>S c\/c=d):=⟨by rw[gf];exact h.1,λc b=>by
 by_cases e:d=c
 ·subst e;rw[fa,ia (by rw[h.1];exact a)];simp
 rw[fa,lp e,<-fa,h.2 c b];constructor
 ·exact .inl
 rintro(h|h)
 ·exact h
 exact br h.symm e⟩
theorem lW{T:Nat}{f:List Bool}{S X:Nat->Prop}(h:hV T f S)(b: ∀c,c<T->(S c↔X c)):hV T f X:=⟨h.1,λc a=>(h.2 c a).trans (b c a)⟩
theorem sr{T:Nat}{f:List Bool}{S:Nat->Prop}(h:hV T f S){c:Nat}(b:c<T):aB f (c:Int)=aa (f.getD c al):=by
 have a:c<f.length:=by rw[h.1];exact b
 rw[bq (bD a),fa,bD a];rfl
theorem Nr(w:5500000<=n){T:Nat}{cs:List Int}(A:cs.length<=1100000)(l: ∀c∈cs,0<=c/\c<(T:Int)){K:List Bool->Option R}{f:List Bool}{S:Nat->Prop}(m:hV T f S)(o: ∀g,hV T g (λc=>S c\/(c:Int)∈cs)->ad (K g) Q):
  ad (bA (λa (z:(List Bool)×Int)=>bif aj (z.2<(cs.length:Int)) then(bI (aB cs z.2) λx=>bI (aB z.1 x) λ_=>bI (ch z.1 x ab) λy=>a (y,wr (z.2+1))) else(K z.1)) n (f,0)) Q:=by
 refine ad.loop (λz:List Bool×Int=> ∃i:Nat,z.2=i/\i<=cs.length/\hV T z.1 λc=>S c\/(c:Int)∈cs.take i) (λz=>cs.length-z.2.toNat) ?_ n _ ⟨0,rfl,O,lW m λc _=>bl⟩ Z;rintro a ⟨x,z⟩ ⟨i,k,B,b⟩ p;dsimp only at k b⊢;subst k;refine aV (λq=>?_) λr=>?_
 ·obtain⟨c,h⟩: ∃c,cs[i]? =aa c:=⟨_,bD (O:i<cs.length)⟩
  have bw:=l c (bX h);have s:=b.1;refine ag (bq h) (ag (yk bw.1 O) (ag (GK bw.1 O ab) ?_));rw[bf O];refine p _ ⟨i+1,Z,O,lW (Hp b (d:=c.toNat) O) λe C=>?_⟩ Z;rw[fQ h,eX,qj]
  grind
 have e:i=cs.length:=O
 refine o x (lW b λc _=>?_)
 grind
theorem x9(a:b9 p=ab):((iB p:Nat):Int)=gW p.bb/\iB p<=144:=by
 have:=abQ a
 grind
theorem MO(Y:7810000<=n)(s:b9 p=ab)(a:Int):ad (y3 n (gw p) a) (λr=>hV (iB p) r.1 (kN (bL p.parts) p a)/\hV (iB p) r.2 (jF (bL p.parts) p a)):=by
 obtain⟨H,L,_,_,R⟩:=ep s;have fo:=x9 s;unfold y3;refine ag (Ms (p:=p) O H L) (ag (HS ⟨O,O⟩ al) (ag (Ms (p:=p) O H L) (ag (HS ⟨O,O⟩ al) ?_)));show ad (bA _ n (dn (iB p) al,dn (iB p) al,0)) _;refine ad.loop (λz:List Bool×List Bool×Int=> ∃i:Nat,z.2.2=i/\i<=(bL p.parts).length/\hV (iB p) z.1 (kN ((bL p.parts).take i) p a)/\hV (iB p) z.2.1 (jF ((bL p.parts).take i) p a)) (λz=>(bL p.parts).length-z.2.2.toNat) ?_ n _ ⟨0,rfl,O,lW (G0 _) (λc _=>by simp[kN]),lW (G0 _) λc _=>by simp[jF]⟩ Z;rintro w ⟨x,y,z⟩ ⟨i,l,aL,A,m⟩ W;dsimp only at l A m⊢;subst l;have k:(gw p).list=bL p.parts:=rfl;rw[k];refine aV (λX=>?_) λt=>ad.some ?_
 ·obtain⟨u,b⟩: ∃u,(bL p.parts)[i]? =aa u:=⟨_,bD (O:i<(bL p.parts).length)⟩
  have v:=iT (bX b);obtain⟨gM,E,alp,_⟩:=rf s v;have B:(gw p).reads[i]? =aa (rc p u):=lg b;have C:(gw p).i'[i]? =aa (dx p u:Int):=lg (f:=λx=>(dx p x:Int)) b;refine ad.aQ (λz:List Bool×List Bool×Int×Int×List Int=>hV (iB p) z.1 (kN ((bL p.parts).take (i+1)) p a)/\hV (iB p) z.2.1 (jF ((bL p.parts).take (i+1)) p a)) (λj Q=>?_) λz l=>?_
  ·refine ag (bq b) (dV (λo=>Q _ ⟨lW A λc _=>?_,lW m λc _=>?_⟩) λhe=>ag (bq B) ?_)
   ·rw[fQ b,xP];exact⟨.inl,λh=>h.elim id λh=>br h.1 o⟩
   ·rw[fQ b,xO];exact⟨.inl,λh=>h.elim id λh=>br h.1 o⟩
   refine Nr (T:=iB p) O (cs:=rc p u) O (λc I=>by have:=E c I;omega) (K:=λD=>bI (aB (gw p).i' (i:Int)) λq=>bI (aB y q) λM=>bI (ch y q ab) λF=>j (D,F,u.part,u.stmt,u.da)) A λg G=>?_;refine ag (bq C) (ag (sr m O) (ag (GK O (by rw[m.1];omega) ab) (Q _ ⟨lW G λc _=>?_,?_⟩)))
   ·rw[fQ b,xP]
    grind
   refine lW (Hp m (d:=dx p u) O) λc _=>?_;rw[fQ b,xO]
   grind
  obtain⟨N,P,S,U,V⟩:=z;dsimp only at l⊢;rw[bf O];exact W _ ⟨i+1,Z,O,l.1,l.2⟩ Z
 have e:i=(bL p.parts).length:=O
 grind
theorem ES(G:7810000<=n)(m:b9 p=ab)(a:Int)(w:Bool):ad (tC n p a w) (λr=>r.length<=144/\ ∀c:Int,c∈r↔0<=c/\c.toNat<iB p/\(if w=ab then jF (bL p.parts) p a c.toNat else kN (bL p.parts) p a c.toNat)):=by
 obtain⟨H,L,_,_,Q⟩:=ep m;have M:=x9 m;unfold tC;refine ag (Me O H L) (ag (HS ⟨O,O⟩ al) (ag (vS O m) (ag (Gw G m) ?_)));show ad (bA _ n (dn (iB p) al,0)) _;refine ad.loop (λz:List Bool×Int=> ∃i:Nat,z.2=i/\i<=(bL p.parts).length/\hV (iB p) z.1 λc=>if w=ab then jF ((bL p.parts).take i) p a c else kN ((bL p.parts).take i) p a c) (λz=>(bL p.parts).length-z.2.toNat) ?_ n _ ⟨0,rfl,O,lW (G0 _) λc _=>by simp[kN,jF]⟩ Z;rintro s ⟨x,z⟩ ⟨i,q,N,k⟩ R;dsimp only at q k⊢;subst q;refine aV (λb=>?_) λW=>?_
 ·obtain⟨u,l⟩: ∃u,(bL p.parts)[i]? =aa u:=⟨_,bD (O:i<(bL p.parts).length)⟩
  have X:=iT (bX l);obtain⟨P,t,S,_⟩:=rf m X;have o:(l8 p)[i]? =aa (⟨rc p u,(dx p u:Int)⟩:kZ):=lg (f:=λx=>(⟨rc p x,(dx p x:Int)⟩:kZ)) l;refine ad.aQ (λz:List Bool=>hV (iB p) z λc=>if w=ab then jF ((bL p.parts).take (i+1)) p a c else kN ((bL p.parts).take (i+1)) p a c) (λj y=>?_) λz q=>?_
  ·refine ag (bq l) (dV (λv=>y _ (lW k λc _=>?_)) λF=>?_)
   ·rw[fQ l,xO,xP]
    grind
   cases w with
   |true=>
    refine bW (ag (bq o) (ag (sr k O) (ag (GK (by(try dsimp only);omega) (by rw[k.1];(try dsimp only);omega) ab) (y _ ?_))));refine lW (Hp k (d:=dx p u) O) λc _=>?_;rw[fQ l,xO,xP];exact or_congr Iff.rfl ⟨λh=>⟨F,h.symm⟩,λh=>h.2.symm⟩
   |false=>
    refine b1 ?_;simp only[bq o,Option.bind_some];refine Nr (T:=iB p) O (cs:=rc p u) O (λc E=>by have:=t c E;omega) (K:=λA=>j A) k λg B=>y _ (lW B λc _=>?_);rw[fQ l,xO,xP];exact or_congr Iff.rfl ⟨λh=>⟨F,h⟩,λh=>h.2⟩
  rw[bf O];exact R _ ⟨i+1,Z,O,q⟩ Z
 have e:i=(bL p.parts).length:=O
 rw[e,eb] at k;have I:=k.1;refine ag (Lx O O) (ad.some ⟨by have:=LY x;omega,λc=>?_⟩);rw[Ff];constructor
 ·rintro⟨C,D⟩;have b:c.toNat<iB p:=by
   grind
  exact⟨C,b,(k.2 _ b).1 D⟩
 rintro⟨C,b,D⟩;exact⟨C,(k.2 _ b).2 D⟩
theorem Hk(r:5500000<=n){a b:List Int}(s:a.length<=1100000)(m:b.length<=1100000):w2 n a b=aa (a.any λc=>decide (c∈b)):=by
 refine ad.eq ?_;unfold w2;refine ad.loop (λz:Int=> ∃i:Nat,z=i/\i<=a.length/\(a.take i).any (λc=>decide (c∈b))=al) (λz=>a.length-z.toNat) ?_ n 0 ⟨0,rfl,O,bl⟩ O;rintro d z ⟨i,rfl,w,k⟩ o;refine aV (λp=>?_) λq=>ad.some ?_
 ·obtain⟨c,l⟩: ∃c,a[i]? =aa c:=⟨_,bD (O:i<a.length)⟩
  refine ag (bq l) (ag (GO O m c) (ad.cond (λh=>ad.some ?_) λh=>?_))
  ·exact(iZ.2 ⟨c,bX l,h⟩).symm
  rw[bf O];refine o _ ⟨i+1,O,O,?_⟩ O;rw[fQ l,tY,k]
  grind
 have e:i=a.length:=O
 grind
def CU(p:Prog)(a b:Int):Prop:= ∀x∈bL p.parts,∀y∈bL p.parts,x.part=a->y.part=b-> ¬Lp p x y
noncomputable def sI(p:Prog)(a b:Int):Bool:= @decide (CU p a b) (Classical.propDecidable _)
theorem JW{b:Int}:sI p a b=ab↔CU p a b:=by unfold sI;exact @decide_eq_true_iff _ (Classical.propDecidable _)
theorem Mq(n:b9 p=ab){b:Int}:CU p a b↔ ∀c,c<iB p-> ¬(jF (bL p.parts) p a c/\(kN (bL p.parts) p b c\/jF (bL p.parts) p b c))/\ ¬(jF (bL p.parts) p b c/\kN (bL p.parts) p a c):=by
 have o:=x9 n;constructor
 ·intro h c _;refine⟨?_,?_⟩
  ·rintro⟨⟨x,l,e,m⟩,⟨y,k,d,i⟩|⟨y,k,d,i⟩⟩
   ·exact h x l y k e d (.inl (by rw[m];exact i))
   exact h x l y k e d (.inr (.inr (by rw[m,i])))
  rintro⟨⟨y,k,d,i⟩,⟨x,l,e,m⟩⟩;exact h x l y k e d (.inr (.inl (by rw[i];exact m)))
 intro h x l y k e d bU;have q:=(rf n (iT l)).1;have r:=(rf n (iT k)).1;rcases bU with bU|bU|bU
 ·exact(h (dx p x) O).1 ⟨⟨x,l,e,rfl⟩,.inl ⟨y,k,d,bU⟩⟩
 ·exact(h (dx p y) O).2 ⟨⟨y,k,d,rfl⟩,⟨x,l,e,bU⟩⟩
 exact(h (dx p x) O).1 ⟨⟨x,l,e,rfl⟩,.inr ⟨y,k,d,bU.symm⟩⟩
def eA(p:Prog)(a:Int):Bool:=aj (0<=a/\a<(p.parts.length:Int))
noncomputable def iL(p:Prog)(a b:Int):Bool:=b9 p&&(eA p a&&(eA p b&&(!decide (a=b)&&sI p a b)))
theorem so{b:Bool}(h:(!b)=ab):b=al:=by cases b with
 |false=>rfl
 |true=>cases h
theorem qv{b:Bool}(h:(!b)=al):b=ab:=by cases b with
 |false=>cases h
 |true=>rfl
theorem YQ(ca:5500000<=n){T:Nat}(mD:T<=1000){D I M F:List Bool}{q m o e:Nat->Prop}(A:hV T D q)(G:hV T I m)(H:hV T M o)(s:hV T F e){v:Bool}(N:v=ab↔ ∀c,c<T-> ¬(m c/\(o c\/e c))/\ ¬(e c/\q c)):
  ad (bA (λk (d:Int)=>
     bif aj (d<(D.length:Int)) then(
      aQ (fun(K:Bool)=>
       bif K then(
        aa al
       ) else(
        k (wr (d+1))
       )
      ) (λl=>
       bI (aB I d) λL=>
       bif L then(
        bI (aB M d) λQ=>
        bif Q then(
         l ab
        ) else(
         bI (aB F d) λR=>
         bif R then(
          l ab
         ) else(
          l al
         )
        )
       ) else(
        bI (aB F d) λW=>
        bif W then(
         bI (aB D d) λX=>
         l X
        ) else(
         l al
        )
       )
      )
     ) else(
      aa ab
     )
    ) n 0) (λr=>r=v):=by
 have x: ∀c,c<T->((m c/\(o c\/e c))\/(e c/\q c))->v=al:=λc f h=>by
  cases g:v with
  |false=>rfl
  |true=>
   have:=N.1 g c f;rcases h with h|h
   ·exact br h this.1
   exact br h this.2
 have t:=A.1;refine ad.loop (λz:Int=> ∃i:Nat,z=i/\i<=T/\ ∀c,c<i-> ¬(m c/\(o c\/e c))/\ ¬(e c/\q c)) (λz=>T-z.toNat) ?_ n 0 ⟨0,rfl,O,λc h=>O⟩ O;rintro u z ⟨i,rfl,aL,E⟩ S;rw[t];refine aV (λU=>?_) λV=>ad.some ?_
 ·have a:i<T:=O
  refine ad.aQ (λz=>(z=ab->(m i/\(o i\/e i))\/(e i/\q i))/\(z=al-> ¬(m i/\(o i\/e i))/\ ¬(e i/\q i))) (λj y=>?_) λz Y=>ad.cond (λh=>ad.some (x i a (Y.1 h)).symm) λh=>?_
  ·refine ag (sr G a) (ad.cond (λB=>?_) λB=>?_)
   ·have w:=(G.2 i a).1 B;refine ag (sr H a) (ad.cond (λC=>y _ ⟨λ_=> .inl ⟨w,.inl ((H.2 i a).1 C)⟩,λh=>(by cases h)⟩) λC=>ag (sr s a) (ad.cond (λb=>y _ ⟨λ_=> .inl ⟨w,.inr ((s.2 i a).1 b)⟩,λh=>(by cases h)⟩) λb=>y _ ⟨λh=>(by cases h),λ_=>?_⟩));have alg: ¬o i:=λh=>by rw[(H.2 i a).2 h] at C;cases C
    have akm: ¬e i:=λh=>by rw[(s.2 i a).2 h] at b;cases b
    grind
   have P: ¬m i:=λh=>by rw[(G.2 i a).2 h] at B;cases B
   refine ag (sr s a) (ad.cond (λb=>ag (sr A a) (y _ ⟨λh=> .inr ⟨(s.2 i a).1 b,(A.2 i a).1 h⟩,λh=>⟨λp=>P p.1,λp=>by rw[(A.2 i a).2 p.2] at h;cases h⟩⟩)) λb=>y _ ⟨λh=>(by cases h),λ_=>⟨λp=>P p.1,λp=>by rw[(s.2 i a).2 p.1] at b;cases b⟩⟩)
  rw[bf O];refine S _ ⟨i+1,O,O,λc f=>?_⟩ O
  grind
 exact(N.2 λc f=>E c O).symm
theorem N8(i:7810000<=n)(m:jw p)(a b:Int):Dz n p a b=aa (iL p a b):=by
 unfold Dz;refine ad.eq (ag (tz i m) ?_);by_cases c:b9 p=ab
 ·rw[bg c];have C:=x9 c;have d:=m.2.1;refine bW (ad.aQ (λz=>z= !(eA p a&&(eA p b&& !decide (a=b)))) (λj e=>b1 (ag (oT n d a) (ad.cond (λh=>e _ ?_) λh=>ag (oT n d b) (ad.cond (λk=>e _ ?_) λk=>e _ ?_)))) λz l=>?_)
  ·have:eA p a=al:=so h
   grind
  ·have o:eA p a=ab:=qv h;have q:eA p b=al:=so k
   grind
  ·have o:eA p a=ab:=qv h;have q:eA p b=ab:=qv k
   grind
  subst l;unfold iL;rw[c];cases o:eA p a with
  |false=>exact bW (ad.some rfl)
  |true=>
   cases q:eA p b with
   |false=>exact bW (ad.some rfl)
   |true=>
    cases D:aj (a=b) with
    |true=>exact bW (ad.some rfl)
    |false=>
     refine b1 (hE (MO i c a) λr ⟨w,x⟩=>hE (MO i c b) λs ⟨y,A⟩=>?_);exact(YQ O (T:=iB p) O w x y A (v:=sI p a b) (by rw[JW,Mq c])).mono λr B=>B
 rw[be c];refine b1 (ad.aQ (λz=>z=ab) (λj e=>bW (e _ rfl)) λz l=>?_);rw[l];refine bW (ad.some ?_);unfold iL
 grind
theorem GN(B:7810000<=n)(f:jw p)(a b:Int):Dx n p a b=aa (iL p a b):=by
 unfold Dx;refine ad.eq (ad.aQ (λz=>z= !(b9 p&&(eA p a&&(eA p b&& !decide (a=b))))) (λj i=>?_) λz F=>?_)
 ·refine ag (iO O f) (ad.cond (λh=>i _ ?_) λh=>?_)
  ·rw[show b9 p=al by simpa using h];rfl
  have l:b9 p=ab:=by simpa using h
  rw[l] at i;refine aV (λQ=>i _ ?_) λQ=>aV (λg=>i _ ?_) λg=>aV (λR=>i _ ?_) λR=>aV (λt=>i _ ?_) λt=>i _ ?_
  ·rw[show eA p a=al from bR O];rfl
  ·rw[show eA p b=al from bR O];simp
  ·rw[show eA p a=al from bR O];rfl
  ·rw[show eA p b=al from bR O];simp
  rw[show eA p a=ab from bS O,show eA p b=ab from bS O];simp
 subst F;unfold iL;by_cases l:b9 p=ab
 ·rw[l];have E:=x9 l;cases Q:eA p a with
  |false=>exact bW (ad.some rfl)
  |true=>
   cases R:eA p b with
   |false=>exact bW (ad.some rfl)
   |true=>
    cases I:aj (a=b) with
    |true=>exact bW (ad.some rfl)
    |false=>
     have m:=JW.trans (Mq l (a:=a) (b:=b));have k: ∀c,c<iB p->((jF (bL p.parts) p a c/\(kN (bL p.parts) p b c\/jF (bL p.parts) p b c))\/(jF (bL p.parts) p b c/\kN (bL p.parts) p a c))->sI p a b=al:=λc o h=>by
      cases G:sI p a b with
      |false=>rfl
      |true=>
       have:=m.1 G c o;rcases h with h|h
       ·exact br h this.1
       exact br h this.2
     refine b1 (hE (ES B l a ab) λq ⟨M,C⟩=>hE (ES B l b ab) λr ⟨N,D⟩=>ad.aQ (λz=>z=sI p a b) (λj i=>?_) λz F=>ad.some F);refine ag (Hk O O O) (ad.cond (λh=>?_) λh=>i _ ?_)
     ·have u: ∀c,c∈q->c∈r->False:=λc e d=>by
       have:q.any (λc=>decide (c∈r))=ab:=iZ.2 ⟨c,e,bS d⟩;rw[this] at h;cases h
      refine hE (ES B l b al) λH ⟨P,W⟩=>ag (Hk O O O) (ad.cond (λh=>?_) λh=>i _ ?_)
      ·have v: ∀c,c∈q->c∈H->False:=λc e d=>by
        have:q.any (λc=>decide (c∈H))=ab:=iZ.2 ⟨c,e,bS d⟩;rw[this] at h;cases h
       refine hE (ES B l a al) λs ⟨l10,w⟩=>ag (Hk O O O) (i _ ?_);cases K:r.any (λc=>decide (c∈s)) with
       |true=>
        obtain⟨c,e,d⟩:=iZ.1 K;obtain⟨X,x,y⟩:=(D c).1 e;obtain⟨_,_,A⟩:=(w c).1 (e4 d);exact(k c.toNat x (.inr ⟨y,A⟩)).symm
       |false=>
        refine(m.2 λc o=>⟨?_,?_⟩).symm
        ·rintro⟨e,d|d⟩
         ·exact v (c:Int) ((C _).2 ⟨O,o,e⟩) ((W _).2 ⟨O,o,d⟩)
         exact u (c:Int) ((C _).2 ⟨O,o,e⟩) ((D _).2 ⟨O,o,d⟩)
        rintro⟨e,d⟩
        have:r.any (λc=>decide (c∈s))=ab:=iZ.2 ⟨(c:Int),(D _).2 ⟨O,o,e⟩,bS ((w _).2 ⟨O,o,d⟩)⟩;rw[this] at K;cases K
      have L:q.any (λc=>decide (c∈H))=ab:=by simpa using h
      obtain⟨c,e,d⟩:=iZ.1 L;obtain⟨X,x,y⟩:=(C c).1 e;obtain⟨_,_,A⟩:=(W c).1 (e4 d);exact(k c.toNat x (.inl ⟨y,.inl A⟩)).symm
     have L:q.any (λc=>decide (c∈r))=ab:=by simpa using h
     obtain⟨c,e,d⟩:=iZ.1 L;obtain⟨X,x,y⟩:=(C c).1 e;obtain⟨_,_,A⟩:=(D c).1 (e4 d);exact(k c.toNat x (.inl ⟨y,.inr A⟩)).symm
 rw[show b9 p=al by simpa using l];exact bW (ad.some rfl)
def l9{α:Type}(l:List α)(i:Nat)(a b:α):List α:=l.take i++b::a::l.drop (i+2)
theorem HU{k:Type}{l:List k}{a b:k}(c:l[i]? =aa a)(d:l[i+1]? =aa b):l=l.take i++a::b::l.drop (i+2):=by have e:l.drop i=a::l.drop (i+1):=la c;have h:l.drop (i+1)=b::l.drop (i+2):=la d;rw[<-h,<-e,ua]
noncomputable def lv(p:Prog)(a:Int):Prog×Bool:=
 if iL p a (a+1)=ab then
  (match aB p.parts a,aB p.parts (a+1) with
  |some b,aa c=>(⟨p.bb,l9 p.parts a.toNat b c⟩,ab)
  |_,_=>dq)
 else dq
theorem pb{b:Int}(h:iL p a b=ab):b9 p=ab/\(0<=a/\a<(p.parts.length:Int))/\(0<=b/\b<(p.parts.length:Int))/\CU p a b:=by unfold iL at h;simp only[cB] at h;exact⟨h.1,e4 h.2.1,e4 h.2.2.1,JW.1 h.2.2.2.2⟩
theorem Hn(h:iL p a (a+1)=ab): ∃(i:Nat) (b c:Part),a=i/\p.parts[i]? =aa b/\p.parts[i+1]? =aa c/\i+1<p.parts.length:=by
 obtain⟨d,e,k,_⟩:=pb h;obtain⟨i,rfl⟩: ∃i:Nat,a=i:=⟨a.toNat,O⟩
 exact⟨i,_,_,rfl,bD O,bD O,O⟩
theorem GI(h:iL p (i:Int) ((i:Int)+1)=ab)(a:p.parts[i]? =aa x)(b:p.parts[i+1]? =aa P):lv p (i:Int)=(⟨p.bb,l9 p.parts i x P⟩,ab):=by unfold lv;rw[bg h,bq a,show((i:Int)+1)=((i+1:Nat):Int) by omega,bq b];rfl
theorem aaB{k:Type}{l:List k}{a b:k}(c:l[i]? =aa a)(d:l[i+1]? =aa b){x:k}:x∈l9 l i a b↔x∈l:=by
 conv=>rhs;rw[HU c d]
 unfold l9
 grind
theorem aam{k:Type}{l:List k}{a b:k}(h:i+1<l.length):(l9 l i a b).length=l.length:=by
 unfold l9
 grind
theorem aaA{k:Type}{l:List k}{a b:k}(e:l[i]? =aa a)(c:l[i+1]? =aa b):(l.set i b).set (i+1) a=l9 l i a b:=by
 have aL:=(d6.1 c).1;have d:(l.take i).length=i:=by rw[c8];omega
 conv=>lhs;rw[HU e c]
 rw[nd _ _ O,d,l6,tV,nd _ _ O,d,show i+1-i=1 by omega];rfl
theorem HW(a:b9 p=ab){s:Part}(c:p.parts[i]? =aa P)(b:p.parts[i+1]? =aa s):b9 ⟨p.bb,l9 p.parts i P s⟩=ab:=by
 have aL:=(d6.1 b).1;unfold b9 jJ at a⊢;simp only[cB,decide_eq_true_eq,kp] at a⊢;obtain⟨⟨aP,a2,a3⟩,a4⟩:=a;refine⟨⟨aP,by rw[aam aL];exact a2,λx d=>a3 x ((aaB c b).1 d)⟩,?_⟩;have e:=HU c b
 have:(p.parts.map fR).sum=((l9 p.parts i P s).map fR).sum:=by
  conv=>lhs;rw[e]
  unfold l9
  grind
 grind
theorem OY(a:b9 p=ab)(b:p.parts[i]? =aa x)(c:p.parts[i+1]? =aa P):er 1100000 ⟨p.bb,l9 p.parts i x P⟩:=(gX (HW a b c)).mono O
theorem aaJ(l:7810000<=n)(m:er 1100000 p)(r: -1<=a/\a<=9):i8 n p a=aa (lv p a):=by
 unfold i8;rw[bf (n:=a+1) O];refine ad.eq (ad.aQ (λz=>z= !iL p a (a+1)) (λj d=>?_) λz o=>?_)
 ·refine aV (λh=>d _ ?_) λh=>aV (λc=>d _ ?_) λc=>ag (N8 l m.sm a (a+1)) (d _ rfl)
  ·cases b:iL p a (a+1) with
   |false=>rfl
   |true=>have:=pb b;omega
  cases b:iL p a (a+1) with
  |false=>rfl
  |true=>have:=pb b;omega
 subst o;cases b:iL p a (a+1) with
 |false=>
  refine bW (ad.some ?_);unfold lv;rw[be (by rw[b];simp)];rfl
 |true=>
  refine b1 ?_;obtain⟨i,s,k,rfl,e,c,w⟩:=Hn b;rw[GI b e c,show((i:Int)+1)=((i+1:Nat):Int) by omega];refine ag (sj O (pb b).1) (ag (bq c) (ag (bq e) (ag (dU O _) ?_)));rw[dh];have q:(p.parts.set i k)[i+1]? =aa k:=by rw[lp O];exact c
  refine ag (bq q) (ag (dU (by rw[gf];omega) _) (ad.some ?_));rw[dh,aaA e c]
theorem aa5(l:7810000<=n)(d:er 1100000 p)(o: -1<=a/\a<=9):pL n p a=aa (lv p a):=by
 unfold pL;rw[bf (n:=a+1) O];refine ad.eq (ag (jh O d) (ag (GN l d.sm a (a+1)) ?_));cases e:iL p a (a+1) with
 |false=>
  refine bW (ad.some ?_);unfold lv;rw[be (by rw[e];simp)];rfl
 |true=>
  refine b1 ?_;obtain⟨i,h,k,rfl,b,c,q⟩:=Hn e;have bx:=(pb e).1;have m:=d.2.1;rw[GI e b c,show((i:Int)+1)=((i+1:Nat):Int) by omega];refine ag (bq c) (ag (bq b) (ag (x:=(⟨p.bb,l9 p.parts i h k⟩,ab)) (ad.eq ?_) (ad.some rfl)));unfold jA;refine ag (pR O d) (ag (iU O O O) ?_);rw[dh,show(0:Int).toNat=0 from rfl,qg];refine ag (x:=p.parts.take i) (dM cd) (ag (x:=p.parts.take i++[k,h]) (dM cd) ?_);rw[bf O];refine ag (iU O O O) ?_;rw[dh,eb,show((i:Int)+2).toNat=i+2 by omega];refine ag (x:=l9 p.parts i h k) ?_ (ag (iO O (OY bx b c).sm) ?_)
  ·rw[dM cd,hf];rfl
  rw[HW bx b c];exact b1 (ag (pR O (OY bx b c)) (ad.some rfl))
theorem Qh{p:Prog}(c:b9 p=ab){x:cO}(i:gG p x): ∀{a:List cO} {m:List Int},(∀y∈a,gG p y)->(∀y∈a,I1 p x y)->sH p.bb m->mW p (jv p m x) a=jv p (mW p m a) x
 | [],m,_,_,_=>rfl
 |y::a,m,d,e,h=>by show mW p (jv p (jv p m x) y) a=jv p (mW p (jv p m y) a) x;rw[e y fh m h];exact Qh c i (λz b=>d z (eW _ b)) (λz b=>e z (eW _ b)) (O5 c h (d y fh))
theorem block{p:Prog}(b:b9 p=ab): ∀{X a:List cO} {m:List Int},(∀x∈X,gG p x)->(∀y∈a,gG p y)->(∀x∈X,∀y∈a,I1 p x y)->sH p.bb m->mW p (mW p m X) a=mW p (mW p m a) X
 | [],a,m,_,_,_,_=>rfl
 |x::X,a,m,c,e,h,i=>by show mW p (mW p (jv p m x) X) a=mW p (jv p (mW p m a) x) X;rw[block b (λz d=>c z (eW _ d)) e (λz d=>h z (eW _ d)) (O5 b i (c x fh)),Qh b (c x fh) e (h x fh) i]
def ov(a b:Loop):Bool:=qn a.bo b.bo&&qn a.aL b.aL
def qw(a b:List Loop):Bool:=kS ov a b
theorem Wy(d:5500000<=n){a b:List Loop}(c:qC a):Ay n a b=aa (qw a b):=by unfold Ay Kg;refine ad.eq (ag (GL (p:=ov) (f:=λk l=>zs n k l) (λx h y _=>?_) (by have:=c.1;omega) (by have:=c.1;omega)) (ad.some rfl));unfold zs ov;refine ad.eq (ad.aQ (λz=>z=(qn x.bo y.bo&&qn x.aL y.aL)) (λj i=>ag (Lb d (c.2 x h).1) (ad.cond (λe=>ag (Lb d (c.2 x h).2) (i _ (by rw[e];rfl))) λe=>i _ (by rw[e];rfl))) λz m=>ad.some m)
theorem Vy(m:5500000<=n){a b:List Loop}(o:qC a):ET n a b=aa (qw a b):=by
 unfold ET qw;have cS:=o.1;refine ad.eq (dV (λh=>ad.some ?_) λh=>?_)
 ·cases c:kS ov a b with
  |false=>rfl
  |true=>exact br (by rw[Gv c]) h
 refine ad.loop (λx:Int=> ∃i:Nat,x=i/\i<=a.length/\kS ov (a.drop i) (b.drop i)=kS ov a b) (λx=>a.length-x.toNat) ?_ n 0 ⟨0,rfl,O,rfl⟩ O;rintro k x ⟨i,rfl,G,c⟩ y;refine aV (λA=>?_) λB=>ad.some ?_
 ·have p:i<a.length:=O
  have q:i<b.length:=O
  have d:=bD p;have l:=bD q;have r:=o.2 _ (bX d);rw[km p,km q] at c;simp only[kS] at c;refine ad.aQ (λz=>z= !ov a[i] b[i]) (λj s=>?_) λz C=>?_
  ·refine ag (bq d) (ag (bq l) (ag (K9 m r.1) (ad.cond (λe=>s _ ?_) λe=>ag (K9 m r.2) (s _ ?_))))
   ·unfold ov;rw[so e];rfl
   unfold ov;rw[qv e];rfl
  subst C;cases w:ov a[i] b[i] with
  |false=>rw[w] at c;exact bW (ad.some c)
  |true=>
   rw[w,gg] at c;refine b1 ?_;rw[bf O];exact y _ ⟨i+1,O,O,c⟩ O
 have D:a.drop i=[]:=jN O;have F:b.drop i=[]:=jN O;rw[D,F] at c;exact c
def iH:List Int->List Int->Bool
 |a::as,b::c=>if a=b then iH as c else aj (a<b)
 | [],_::_=>ab
 |_,[]=>al
theorem N'{p:List Int}(A:p.length<n)(B:p.length<=1100000)(C:q.length<=1100000):Ag n p q=aa (iH p q):=by
 unfold Ag;refine ad.eq (ad.loop (λx:Int=> ∃i:Nat,x=i/\i<=p.length/\i<=q.length/\iH (p.drop i) (q.drop i)=iH p q) (λx=>p.length-x.toNat) ?_ n 0 ⟨0,rfl,O,O,rfl⟩ O);rintro b x ⟨i,rfl,D,F,a⟩ m;refine ad.aQ (λz=>z=aj (i<p.length/\i<q.length)) (λj l=>aV (λh=>l _ ?_) λh=>l _ ?_) λz o=>?_
 ·rw[hv];simp only[decide_eq_true_eq];omega
 ·exact(bR O).symm
 subst o;refine aV (λh=>?_) λh=>ad.some ?_
 ·have c:=bD h.1;have d:=bD h.2;rw[km h.1,km h.2] at a;simp only[iH] at a;refine ag (bq c) (ag (bq d) (dV (λk=>ad.some ?_) λr=>?_))
  ·rw[be k] at a;exact a
  rw[bg r] at a;rw[bf O];exact m _ ⟨i+1,O,O,O,a⟩ O
 rw[<-a];by_cases e:i<p.length
 ·have s:q.drop i=[]:=jN O;rw[s,km e];simp only[iH]
  grind
 have w:p.drop i=[]:=jN O;rw[w];by_cases y:i<q.length
 ·rw[km y];simp only[iH]
  grind
 rw[jN (O:q.length<=i)];simp only[iH]
 grind
theorem ZE(n:Nat)(x y:Int):DB n x y=aa (if x<y then-1 else if y<x then 1 else 0):=by
 unfold DB DM
 grind
theorem aca{p:List Int}(C:p.length<n)(D:p.length<=1100000)(F:q.length<=1100000):A7 n p q=aa (iH p q):=by
 unfold A7 KC;refine ad.eq (hE (P:=λc:Int=>decide (c<0)=iH p q) ?_ λc w=>ad.some w);refine ad.loop (λx:Int=> ∃i:Nat,x=i/\i<=p.length/\i<=q.length/\iH (p.drop i) (q.drop i)=iH p q) (λx=>p.length-x.toNat) ?_ n 0 ⟨0,rfl,O,O,rfl⟩ O;rintro b x ⟨i,rfl,G,H,a⟩ y;refine aV (λz=>?_) λA=>?_
 ·have e:i<p.length:=O
  have d:=bD e;refine ag (bq d) (aV (λh=>ad.some ?_) λh=>?_)
  ·rw[<-a,jN (O:q.length<=i),km e];simp[iH]
  have o:i<q.length:=O
  have k:=bD o;rw[km e,km o] at a;simp only[iH] at a;refine ag (bq k) (ag (ZE n _ _) ?_);by_cases r:p[i]<q[i]
  ·rw[bg r];refine dV (λ_=>ad.some ?_) (λl=>br l O)
   grind
  rw[be r];by_cases s:q[i]<p[i]
  ·rw[bg s];refine dV (λ_=>ad.some ?_) (λl=>br l O)
   grind
  rw[be s];refine dV (λm=>br rfl m) λ_=>?_;rw[bg O] at a;rw[bf O];exact y _ ⟨i+1,O,O,O,a⟩ O
 have B:p.drop i=[]:=jN O;rw[B] at a;refine aV (λh=>ad.some ?_) λh=>ad.some ?_
 ·rw[<-a,km (O:i<q.length)];rfl
 rw[<-a,jN (O:q.length<=i)];rfl
def k0(p:Prog)(i many:Nat)(a:List Part):Prog:=⟨p.bb,p.parts.take i++a++p.parts.drop (i+many)⟩
theorem Cc(a:er 900 p)(e:ys.length<=4)(c: ∀y∈ys,im 1100000 y):er 1100000 (k0 p i many ys):=by
 have d:=a.2.1;refine⟨(a.mono (O:900<=1100000)).1,?_,λx b=>?_⟩
 ·show(p.parts.take i++ys++p.parts.drop (i+many)).length<=1100000
  grind
 have b:x∈p.parts.take i++ys++p.parts.drop (i+many):=b;simp only[List.mem_append] at b;rcases b with (h|h)|h
 ·exact(a.mono (O:900<=1100000)).2.2 x (gm h)
 ·exact c x h
 exact(a.mono (O:900<=1100000)).2.2 x (ft h)
theorem GP(d:7700000<=n)(a:er 900 p)(m:i+many<=p.parts.length)(e:ys.length<=4)(k: ∀y∈ys,im 1100000 y):jA n p (i:Int) (many:Int) ys=aa (hc (k0 p i many ys)):=by
 have l:=a.2.1;have b:=a.mono (O:900<=1100000);have c:=Cc a (i:=i) (many:=many) e k;unfold jA hc;refine ad.eq (ag (pR O b) (ag (iU O O O) ?_));rw[dh,show(0:Int).toNat=0 from rfl,qg];refine ag (x:=p.parts.take i) (dM cd) (ag (x:=p.parts.take i++ys) (dM cd) ?_);rw[bf O];refine ag (iU O O O) ?_;rw[dh,eb,show((i:Int)+(many:Int)).toNat=i+many by omega];refine ag (x:=(k0 p i many ys).parts) ?_ ?_;rotate_left;show ad (bI (lF n (k0 p i many ys)) _) _;refine(ag (iO d c.sm) (ad.cond (λh=>ad.some ?_) λh=>?_))
 ·rw[be (by simpa using h)]
 ·rw[bg (by simpa using h)];exact ag (pR O c) (ad.some rfl)
 rw[dM cd];rfl
def nw(p:Prog)(c:Int)(d:fW):Bool:=match (bL p.parts)[d.eQ.toNat]?,(bL p.parts)[d.eR.toNat]? with
 |some a,aa b=>decide (a.part=c)&&(aj (b.part=c+1)&&iH b.da a.da)
 |_,_=>al
def sB(a b:Part):Part:=⟨a.nest,a.body++b.body⟩
abbrev oq(p:Prog):List fW:=gv p (bL p.parts) (bL p.parts).length
def Il(p:Prog)(a:Int)(b c:Part):Bool:=qw b.nest c.nest&& !(oq p).any (nw p a)
def mj(p:Prog)(a:Int):Prog×Bool:=
 if b9 p=ab/\eA p a=ab then
  (match aB p.parts a,aB p.parts (a+1) with
  |some b,aa c=>if Il p a b c=ab then hc (k0 p a.toNat 2 [sB b c]) else dq
  |_,_=>dq)
 else dq
theorem Ci(c:b9 p=ab){d:fW}(i:d∈oq p): ∃(s t:Nat) (a b:cO),d.eQ=s/\d.eR=t/\(bL p.parts)[s]? =aa a/\(bL p.parts)[t]? =aa b/\s<t/\a.da.length<=4/\b.da.length<=4:=by obtain⟨s,t,k,l,_,rfl⟩:=Om.1 i;have e:=bD (O:s<(bL p.parts).length);have h:=bD l;exact⟨s,t,_,_,rfl,rfl,e,h,k,Sa c (iT (bX e)),Sa c (iT (bX h))⟩
theorem A'(b:b9 p=ab):(oq p).length<=14400:=by
 have c:=Al p (bL p.parts) (bL p.parts).length;have a:=(ep b).2.2.2.2;have d:(bL p.parts).length*(bL p.parts).length<=120*120:=nW a a
 grind
theorem Bf(l:7700000<=n)(e:er 1100000 p)(a:Int):iv n p a (-1)=aa (if b9 p=ab/\eA p a=ab then(p,ab) else dq):=by
 unfold iv;refine ad.eq (ad.aQ (λz=>z= !(b9 p&&eA p a)) (λj c=>?_) λz m=>?_)
 ·refine ag (d0 l e.sm) (ad.cond (λh=>c _ (by rw[so h];rfl)) λh=>?_);have bx:=qv h;refine ag (oT n e.2.1 a) (ad.cond (λd=>c _ ?_) λd=>dV (λh=>(h rfl).elim) λ_=>c _ ?_)
  ·rw[bx,show eA p a=al from so d];rfl
  rw[bx,show eA p a=ab from qv d];rfl
 subst m;refine ad.cond (λh=>ad.some ?_) λh=>?_
 ·have:=so h;rw[be λi=>by rw[i.1,i.2] at this;cases this];rfl
 have:=qv h;simp only[cB] at this;obtain⟨bx,k⟩:=this;rw[bg ⟨bx,k⟩];have b:0<=a/\a<(p.parts.length:Int):=e4 k;obtain⟨x,o,_⟩:=pk b.1 b.2;exact ag (sj O bx) (ag o (ad.some rfl))
theorem ad8{s:List Part}{j:Nat}(a:i<j)(b:j<=s.length): ∃r,tm n s (i:Int) (j:Int)=aa r/\r.2.take r.1=s.take i++s.drop j:=by
 refine⟨(dL s i j,hd s i j (⟨[],[]⟩:Part)),?_,?_⟩
 ·unfold tm
  grind
 dsimp only;have c:(s.take (i:Int).toNat++s.drop (j:Int).toNat).length=dL s i j:=by
  unfold dL
  grind
 unfold hd
 grind
theorem NZ(b:b9 p=ab)(c:x∈p.parts)(d:P∈p.parts):im 1100000 (sB x P):=by
 obtain⟨_,_,a⟩:=gX b;obtain⟨aP,a2,a3⟩:=a x c;obtain⟨k,l,e⟩:=a P d;refine⟨aP.mono O,?_,λs i=>?_⟩
 ·show(x.body++P.body).length<=1100000
  grind
 rcases eX.1 (show s∈x.body++P.body from i) with h|h
 ·exact(a3 s h).mono O
 exact(e s h).mono O
theorem aaM(ca:22000000<=n)(H:er 1100000 p)(bw: -1<=c/\c<=9):pQ n p c=aa (mj p c):=by
 unfold pQ mj;refine ad.eq (ag (Bf O H c) ?_);by_cases A:b9 p=ab/\eA p c=ab
 ·rw[bg A,bg A];obtain⟨o,U⟩:=A;have V:0<=c/\c<(p.parts.length:Int):=e4 U;obtain⟨i,rfl⟩: ∃i:Nat,c=i:=⟨c.toNat,O⟩
  have e:=bD (O:i<p.parts.length);have K:=bq e;generalize Y:p.parts[i]=l at K e;have Dl:=(ep o).2.2.1;refine bW (ag K ?_);rw[bf (n:=(i:Int)+1) O,bf (n:=(i:Int)+2) O,K];by_cases B:i+1<p.parts.length
  ·have w:=bD B;generalize ajR:p.parts[i+1]=m at w;have L:aB p.parts ((i:Int)+1)=aa m:=bq w;have m1:=bX e;have v:=bX w;rw[L];dsimp only;refine ad.aQ (λz=>z= !qw l.nest m.nest) (λj q=>aV (λh=>br h O) λ_=>ag rfl (ag (Wy O (H.sm.2.2 l m1).1) (q _ rfl))) λz C=>?_;subst C;unfold Il;cases hne:qw l.nest m.nest with
   |false=>exact bW (ad.some rfl)
   |true=>
    refine b1 (ag (tz O H.sm) ?_);rw[bg o];refine bW (ag (Gg O o) ?_);have Q:=A' o;have R: ∀d∈oq p,d∈oq p:=λ_ h=>h;show ad (bA _ n 0) _;rw[gg];generalize E:oq p=D at Q R;rw[show gv p (bL p.parts) (bL p.parts).length=D from E];refine ad.loop (λx:Int=> ∃k:Nat,x=k/\k<=D.length/\(D.take k).any (nw p (i:Int))=al) (λx=>D.length-x.toNat) ?_ n 0 ⟨0,rfl,O,rfl⟩ O;rintro W x ⟨k,rfl,hk,X⟩ b6;refine aV (λhlt=>?_) λkJ=>?_
    ·have cJ:=bD (O:k<D.length);generalize Jw:D[k]=d at cJ;obtain⟨s,t,a,b,I,M,N,P,pJ,J1,J4⟩:=Ci o (E▸bX cJ);refine ag (bq cJ) (ag (x:=a) (by rw[I];exact bq N) (ag (x:=b) (by rw[M];exact bq P) ?_));have F:nw p (i:Int) d=(aj (a.part=(i:Int))&&(aj (b.part=(i:Int)+1)&&iH b.da a.da)):=by
      unfold nw;rw[I,M,Int.toNat_natCast,Int.toNat_natCast,N,P]
     refine ad.aQ (λz=>z=nw p (i:Int) d) (λj q=>?_) λz C=>?_
     ·rw[F] at q;refine aV (λG=>aV (λB=>ag (aca O O O) (q _ ?_)) λB=>q _ ?_) λG=>q _ ?_
      ·rw[bS G,bS B];rfl
      ·rw[bS G,bR B];rfl
      rw[bR G];rfl
     subst C;refine ad.cond (λh=>ad.some ?_) λh=>?_
     ·rw[be]; · rfl
      have:D.any (nw p (i:Int))=ab:=iZ.2 ⟨d,bX cJ,h⟩;rw[this];simp
     rw[bf O];exact b6 _ ⟨k+1,O,O,by rw[fQ cJ,tY,X];simp[h]⟩ O
    rw[jM O] at X;rw[X,bg (by rfl)];have dr:=Cc (i:=i) (many:=2) (ys:=[sB l m]) ((gX o).mono (O:4<=900)) bl λy S=>by rw[qj] at S;subst S;exact NZ o m1 v
    obtain⟨_,_,T⟩:=gX o;have dm:=(T l m1).2.1;have cM:=(T m v).2.1;obtain⟨r,f,g⟩:=ad8 (n:=n) (s:=p.parts.set i (sB l m)) (i:=i+1) (j:=i+2) O (by rw[gf];omega);refine ag rfl (ag (x:=l.body++m.body) (dM O) (ag (x:=p.parts.set i (sB l m)) (dU O _) (ag (x:=r) f ?_)));have u:(⟨p.bb,r.2.take r.1⟩:Prog)=k0 p i 2 [sB l m]:=by
     unfold k0;rw[g];congr 1;rw[List.take_set,o5 O,eN,e,nd _ _ (by rw[c8];omega)]
     have:i-(p.parts.take i).length=0:=by rw[c8];omega
     rw[this];rfl
    rw[u,dh];exact ag (rl O dr) (ad.some rfl)
  have L:aB p.parts ((i:Int)+1)=none:=yj O;rw[L];refine ad.aQ (λz=>z=ab) (λj q=>aV (λ_=>q _ rfl) λh=>br (show(p.parts.length:Int)<=(i:Int)+1 by omega) h) λz C=>?_;rw[C];exact bW (ad.some rfl)
 rw[be A,be A];exact b1 (ad.some rfl)
theorem aa8(ca:22000000<=n)(w:er 1100000 p)(bw: -1<=c/\c<=9):pM n p c=aa (mj p c):=by
 unfold pM mj;refine ad.eq (ag (jh O w) ?_);by_cases F:b9 p=ab/\eA p c=ab
 ·rw[bg F];obtain⟨e,W⟩:=F;have P:0<=c/\c<(p.parts.length:Int):=e4 W;obtain⟨i,rfl⟩: ∃i:Nat,c=i:=⟨c.toNat,O⟩
  have m:=bD (O:i<p.parts.length);have X:=bq m;generalize S:p.parts[i]=o at X m;have H:=(ep e).2.2.1;rw[bf (n:=(i:Int)+1) O,bf (n:=(p.parts.length:Int)-1) O,X];by_cases B:i+1<p.parts.length
  ·have q:=bD B;generalize T:p.parts[i+1]=A at q;have K:aB p.parts ((i:Int)+1)=aa A:=bq q;have m1:=bX m;have f:=bX q;rw[K];dsimp only;refine ad.aQ (λz=>z= !qw o.nest A.nest) (λj l=>ag (iO O w.sm) ?_) λz r=>?_
   ·rw[e];refine b1 (aV (λh=>br h O) λ_=>aV (λh=>br h O) λ_=>ag rfl (ag rfl (ag (Vy O (w.sm.2.2 o m1).1) (l _ rfl))))
   subst r;unfold Il;cases U:qw o.nest A.nest with
   |false=>exact bW (ad.some rfl)
   |true=>
    refine b1 (ag (vS O e) (ag (Gx O e) ?_));have L:=A' e;rw[gg];generalize g:oq p=D at L;rw[show gv p (bL p.parts) (bL p.parts).length=D from g];refine ad.loop (λx:Int=> ∃k:Nat,x=k/\k<=D.length/\(D.take k).any (nw p (i:Int))=al) (λx=>D.length-x.toNat) ?_ n 0 ⟨0,rfl,O,rfl⟩ O;rintro Q x ⟨k,rfl,hk,R⟩ V;refine aV (λY=>?_) λkJ=>?_
    ·have cJ:=bD (O:k<D.length);generalize Jw:D[k]=d at cJ;obtain⟨s,t,a,b,u,v,E,I,pJ,J1,J4⟩:=Ci e (g▸bX cJ);refine ag (bq cJ) (ag (x:=a) (by rw[u];exact bq E) (ag (x:=b) (by rw[v];exact bq I) ?_));have C:nw p (i:Int) d=(aj (a.part=(i:Int))&&(aj (b.part=(i:Int)+1)&&iH b.da a.da)):=by
      unfold nw;rw[u,v,Int.toNat_natCast,Int.toNat_natCast,E,I]
     refine ad.aQ (λz=>z=nw p (i:Int) d) (λj l=>?_) λz r=>?_
     ·rw[C] at l;refine aV (λG=>aV (λB=>ag (N' O O O) (l _ ?_)) λB=>l _ ?_) λG=>l _ ?_
      ·rw[bS G,bS B];rfl
      ·rw[bS G,bR B];rfl
      rw[bR G];rfl
     subst r;refine ad.cond (λh=>ad.some ?_) λh=>?_
     ·rw[be]; · rfl
      have:D.any (nw p (i:Int))=ab:=iZ.2 ⟨d,bX cJ,h⟩;rw[this];simp
     rw[bf O];exact V _ ⟨k+1,O,O,by rw[fQ cJ,tY,R];simp[h]⟩ O
    rw[jM O] at R;rw[R,bg (by rfl)];obtain⟨_,_,M⟩:=gX e;have dm:=(M o m1).2.1;have cM:=(M A f).2.1;refine ag rfl (ag (x:=o.body) (dM cd) (ag rfl (ag (x:=o.body++A.body) (dM O) ?_)));have hw:=GP (n:=n) O ((gX e).mono (O:4<=900)) (i:=i) (many:=2) O (ys:=[sB o A]) bl λy N=>by rw[qj] at N;subst N;exact NZ e m1 f
    rw[dh];exact ag hw (ad.some rfl)
  have K:aB p.parts ((i:Int)+1)=none:=yj O;rw[K];refine ad.aQ (λz=>z=ab) (λj l=>ag (iO O w.sm) ?_) λz r=>?_
  ·rw[e]
   grind
  rw[r];exact bW (ad.some rfl)
 rw[be F];refine ad.aQ (λz=>z=ab) (λj l=>ag (iO O w.sm) ?_) λz r=>by rw[r];exact bW (ad.some rfl)
 by_cases e:b9 p=ab
 ·have W: ¬(0<=c/\c<(p.parts.length:Int)):=λh=>F ⟨e,bS h⟩;rw[e];have H:=w.2.1;rw[bf (n:=(p.parts.length:Int)-1) O]
  grind
 rw[show b9 p=al by simpa using e]
 grind
def nx(p:Prog)(c k:Int)(d:fW):Bool:=match (bL p.parts)[d.eQ.toNat]?,(bL p.parts)[d.eR.toNat]? with
 |some a,aa b=>decide (a.part=c)&&(aj (b.part=c)&&(aj (k<=a.stmt)&&aj (b.stmt<k)))
 |_,_=>al
def Iw(p:Prog)(a k:Int)(P:Part):Bool:=aj (1<=k/\k<(P.body.length:Int))&& !(oq p).any (nx p a k)
def oh(P:Part)(k:Nat):Part:=⟨P.nest,P.body.take k⟩
def sF(P:Part)(k:Nat):Part:=⟨P.nest,P.body.drop k⟩
def mn(p:Prog)(a k:Int):Prog×Bool:=
 if b9 p=ab/\eA p a=ab then
  (match aB p.parts a with
  |some P=>if Iw p a k P=ab then hc (k0 p a.toNat 1 [oh P k.toNat,sF P k.toNat]) else dq
  |none=>dq)
 else dq
theorem OC(c:b9 p=ab)(d:P∈p.parts)(k:Nat): ∀y∈[oh P k,sF P k],im 1100000 y:=by
 obtain⟨_,_,e⟩:=gX c;obtain⟨aP,a2,a3⟩:=e P d;intro y b;simp only[List.mem_cons,List.not_mem_nil,or_false] at b;rcases b with rfl|rfl
 ·refine⟨aP.mono O,?_,λs a=>(a3 s (gm a)).mono O⟩;show(P.body.take k).length<=1100000
  grind
 refine⟨aP.mono O,?_,λs a=>(a3 s (ft a)).mono O⟩;show(P.body.drop k).length<=1100000
 grind
theorem Pv{s:List Part}{v:List Part}(a:i<=s.length)(b:s.length+v.length<=1000000000):v7 n s (i:Int) v=aa (s.take i++v++s.drop i):=by unfold v7;rw[bS (show(0:Int)<=(i:Int) by omega),bS (show(i:Int)<=(s.length:Int) by omega),cond_true,cond_true,dh];exact dM (by simp only[iJ,mf,ni];omega)
theorem aaO(ca:22000000<=n)(f:er 1100000 p){k:Int}(bw: -1<=c/\c<=9):px n p c k=aa (mn p c k):=by
 unfold px mn;refine ad.eq (ag (Bf O f c) ?_);by_cases o:b9 p=ab/\eA p c=ab
 ·rw[bg o,bg o];obtain⟨l,S⟩:=o;have T:0<=c/\c<(p.parts.length:Int):=e4 S;obtain⟨i,rfl⟩: ∃i:Nat,c=i:=⟨c.toNat,O⟩
  have e:=bD (O:i<p.parts.length);have y:=bq e;generalize U:p.parts[i]=P at y e;have V:=(ep l).2.2.1;have m1:=bX e;have r:=(ep l).2.2.2.1 P m1;obtain⟨A,B⟩:=h8 r;obtain⟨_,Y,Rw,_⟩:=gr r;refine bW (ag y ?_);rw[bf (n:=(i:Int)+1) O,bf (n:=(P.body.length:Int)-1) O,y];dsimp only;refine ad.aQ (λz=>z= !decide (1<=k/\k<(P.body.length:Int))) (λj g=>ag (d5 n k 1 _) (g _ ?_)) λz C=>?_
  ·congr 1
   grind
  subst C;unfold Iw;cases F:aj (1<=k/\k<(P.body.length:Int)) with
  |false=>exact bW (ad.some rfl)
  |true=>
   have hk:=e4 F;obtain⟨t,rfl⟩: ∃t:Nat,k=t:=⟨k.toNat,O⟩
   refine b1 (ag (tz O f.sm) ?_);rw[bg l];refine bW (ag (Gg O l) ?_);have G:=A' l;show ad (bA _ n 0) _;rw[gg];generalize v:oq p=D at G;rw[show gv p (bL p.parts) (bL p.parts).length=D from v];refine ad.loop (λx:Int=> ∃j:Nat,x=j/\j<=D.length/\(D.take j).any (nx p (i:Int) (t:Int))=al) (λx=>D.length-x.toNat) ?_ n 0 ⟨0,rfl,O,rfl⟩ O;rintro H x ⟨j,rfl,g,K⟩ b6;refine aV (λhlt=>?_) λkJ=>?_
   ·have cJ:=bD (O:j<D.length);generalize Jw:D[j]=d at cJ;obtain⟨s,u,a,b,E,I,M,N,pJ,J1,J4⟩:=Ci l (v▸bX cJ);refine ag (bq cJ) (ag (x:=a) (by rw[E];exact bq M) (ag (x:=b) (by rw[I];exact bq N) ?_));have w:nx p (i:Int) (t:Int) d=(aj (a.part=(i:Int))&&(aj (b.part=(i:Int))&&(aj ((t:Int)<=a.stmt)&&aj (b.stmt<(t:Int))))):=by
     unfold nx;rw[E,I,Int.toNat_natCast,Int.toNat_natCast,M,N]
    refine ad.aQ (λz=>z=nx p (i:Int) (t:Int) d) (λq m=>?_) λz C=>?_
    ·rw[w] at m;refine aV (λL=>aV (λQ=>aV (λR=>m _ ?_) λR=>m _ ?_) λQ=>m _ ?_) λL=>m _ ?_
     ·rw[bS L,bS Q,bS R];simp
     ·rw[bR R];simp
     ·rw[bR Q];simp
     rw[bR L];rfl
    subst C;refine ad.cond (λh=>ad.some ?_) λh=>?_
    ·rw[be]; · rfl
     have:D.any (nx p (i:Int) (t:Int))=ab:=iZ.2 ⟨d,bX cJ,h⟩;rw[this];simp
    rw[bf O];exact b6 _ ⟨j+1,O,O,by rw[fQ cJ,tY,K];simp[h]⟩ O
   rw[jM O] at K;rw[K,bg (by rfl)];have m:=Cc (i:=i) (many:=1) (ys:=[oh P t,sF P t]) ((gX l).mono (O:4<=900)) bl (OC l m1 t);refine ag (MB O A B) (ag (iU O O O) ?_);rw[dh,dh,eb];refine ag (x:=P.body.drop t) ?_ (ag (iU O O O) ?_)
   ·unfold EZ
    have:(P.body.drop t).isEmpty=al:=by
     cases W:P.body.drop t with
     |nil=>
      have:=congrArg List.length W;rw[fN,List.length_nil] at this;omega
     |cons=>rfl
    rw[this,cond_false];rw[dM cd];rfl
   rw[dh,show(0:Int).toNat=0 from rfl,qg];refine ag (x:=p.parts.set i (oh P t)) (dU O _) (ag (Pv (i:=i+1) (by rw[gf];omega) (by rw[gf];simp;omega)) ?_);have X:(⟨p.bb,(p.parts.set i (oh P t)).take (i+1)++[sF P t]++(p.parts.set i (oh P t)).drop (i+1)⟩:Prog)=k0 p i 1 [oh P t,sF P t]:=by
    unfold k0;congr 1;rw[List.take_set,o5 O,eN,e,nd _ _ (by rw[c8];omega)]
    have:i-(p.parts.take i).length=0:=by rw[c8];omega
    rw[this];simp
   show ad (bI (lI n (⟨p.bb,(p.parts.set i (oh P t)).take (i+1)++[sF P t]++(p.parts.set i (oh P t)).drop (i+1)⟩:Prog)) _) _;rw[X];simp only[Int.toNat_natCast];exact ag (rl O m) (ad.some rfl)
 rw[be o,be o];exact b1 (ad.some rfl)
theorem aa'(ca:22000000<=n)(y:er 1100000 p){k:Int}(bw: -1<=c/\c<=9):pw n p c k=aa (mn p c k):=by
 unfold pw mn;refine ad.eq (ag (jh O y) ?_);by_cases w:b9 p=ab/\eA p c=ab
 ·rw[bg w];obtain⟨e,Q⟩:=w;have I:0<=c/\c<(p.parts.length:Int):=e4 Q;obtain⟨i,rfl⟩: ∃i:Nat,c=i:=⟨c.toNat,O⟩
  have l:=bD (O:i<p.parts.length);have R:=bq l;generalize M:p.parts[i]=P at R l;have N:=(ep e).2.2.1;have m1:=bX l;have A:=(ep e).2.2.2.1 P m1;obtain⟨_,S,T,_⟩:=gr A;rw[R];dsimp only;refine ad.aQ (λz=>z= !decide (1<=k/\k<(P.body.length:Int))) (λj W=>ag (iO O y.sm) ?_) λz m=>?_
  ·rw[e]
   grind
  subst m;unfold Iw;cases B:aj (1<=k/\k<(P.body.length:Int)) with
  |false=>exact bW (ad.some rfl)
  |true=>
   have hk:=e4 B;obtain⟨t,rfl⟩: ∃t:Nat,k=t:=⟨k.toNat,O⟩
   refine b1 (ag (vS O e) (ag (Gx O e) ?_));have C:=A' e;rw[gg];generalize X:oq p=D at C;rw[show gv p (bL p.parts) (bL p.parts).length=D from X];refine ad.loop (λx:Int=> ∃j:Nat,x=j/\j<=D.length/\(D.take j).any (nx p (i:Int) (t:Int))=al) (λx=>D.length-x.toNat) ?_ n 0 ⟨0,rfl,O,rfl⟩ O;rintro F x ⟨j,rfl,W,G⟩ U;refine aV (λV=>?_) λY=>?_
   ·have cJ:=bD (O:j<D.length);generalize Jw:D[j]=d at cJ;obtain⟨s,u,a,b,f,g,v,E,pJ,J1,J4⟩:=Ci e (X▸bX cJ);refine ag (bq cJ) (ag (x:=a) (by rw[f];exact bq v) (ag (x:=b) (by rw[g];exact bq E) ?_));have o:nx p (i:Int) (t:Int) d=(aj (a.part=(i:Int))&&(aj (b.part=(i:Int))&&(aj ((t:Int)<=a.stmt)&&aj (b.stmt<(t:Int))))):=by
     unfold nx;rw[f,g,Int.toNat_natCast,Int.toNat_natCast,v,E]
    refine ad.aQ (λz=>z=nx p (i:Int) (t:Int) d) (λq r=>?_) λz m=>?_
    ·rw[o] at r;refine aV (λH=>aV (λK=>aV (λL=>r _ ?_) λL=>r _ ?_) λK=>r _ ?_) λH=>r _ ?_
     ·rw[bS H,bS K,bS L];simp
     ·rw[bR L];simp
     ·rw[bR K];simp
     rw[bR H];rfl
    subst m;refine ad.cond (λh=>ad.some ?_) λh=>?_
    ·rw[be]; · rfl
     have:D.any (nx p (i:Int) (t:Int))=ab:=iZ.2 ⟨d,bX cJ,h⟩;rw[this];simp
    rw[bf O];exact U _ ⟨j+1,O,O,by rw[fQ cJ,tY,G];simp[h]⟩ O
   rw[jM O] at G;rw[G,bg (by rfl)];refine ag rfl (ag (iU O O O) (ag (iU O O O) ?_));rw[dh,dh,eb,show(0:Int).toNat=0 from rfl,qg,dh];have hw:=GP (n:=n) O ((gX e).mono (O:4<=900)) (i:=i) (many:=1) O (ys:=[oh P t,sF P t]) bl (OC e m1 t);exact ag hw (ad.some rfl)
 rw[be w];refine ad.aQ (λz=>z=ab) (λj W=>ag (iO O y.sm) ?_) λz m=>by rw[m];exact bW (ad.some rfl)
 by_cases e:b9 p=ab
 ·have Q: ¬(0<=c/\c<(p.parts.length:Int)):=λh=>w ⟨e,bS h⟩
  grind
 rw[show b9 p=al by simpa using e]
 grind
def jV(k:Nat)(x:aE):aE:=⟨(x.aK.take k++0::x.aK.drop k).take 4,x.const⟩
def gn(c:Int):aE:=⟨[0,0,0,0],c⟩
def nb(k:Nat)(s c:Int):aE:=⟨[0,0,0,0].set k s,c⟩
theorem Px(k:Nat): ∀x,de x=ab->fr 4 (jV k x):=λx a=>by unfold fr jV;rw[c8];omega
theorem aan(l:5500000<=n)(m:k<3): ∀x,de x=ab->v' n x (k:Int)=aa (jV k x):=λx h=>by obtain⟨i,_,_⟩:=fS h;obtain⟨a,b,c,d,e⟩:=mw i;unfold v';rw[AW n x h];obtain⟨cs,lb⟩:=x;dsimp only at e;subst e;rcases(O:k=0\/k=1\/k=2) with rfl|rfl|rfl<;>rfl
theorem afN(m:Nat)(a b c d e:Int)(B:aE)(h:k<3):jB (m+6) ⟨[a,b,c,d],e⟩ 2 (k:Int) B=aa (jV k ⟨[a,b,c,d],e⟩):=by rcases(O:k=0\/k=1\/k=2) with rfl|rfl|rfl<;>rfl
theorem acf(h:k<3)(B:aE): ∀n,5500000<=n-> ∀x,de x=ab->jB n x 2 (k:Int) B=aa (jV k x):=λn o x i=>by
 obtain⟨m,rfl⟩: ∃m,n=m+6:=⟨n-6,O⟩
 obtain⟨l,_,_⟩:=fS i;obtain⟨a,b,c,d,e⟩:=mw l;obtain⟨cs,lb⟩:=x;dsimp only at e;subst e;exact afN m a b c d lb B h
def jH(l:List aE):Bool:=l.all λa=>decide (fl a.aK=0)
def eU(l:Loop):Bool:=aj (l.bo.length=1)&&(aj (l.aL.length=1)&&(jH l.bo&&jH l.aL))
def dw(l:List aE):Int:=(l.headD ⟨[],0⟩).const
theorem Mp(b:5500000<=n){l:List aE}(e:l.length<=2)(c: ∀x∈l,de x=ab):Ai n l=aa (jH l):=by
 unfold Ai;rw[y8 (p:=λa=>decide (0<(fl a.aK:Int))) (λx d=>by
  unfold EI;rw[Aw b (show x.aK.length<=1100000 by have:=(fS (c x d)).1;omega)];rfl) O O]
 show aa (!l.any _)=_;congr 1;unfold jH
 grind
theorem G1(d:5500000<=n)(h:kB l):wm n l=aa (if eU l=ab then(dw l.bo,dw l.aL,ab) else(0,0,al)):=by
 obtain⟨⟨e,i⟩,k,m⟩:=h;unfold wm;refine ad.eq (ad.aQ (λz=>z= !eU l) (λj a=>?_) λz o=>?_)
 ·refine dV (λh=>a _ ?_) λh=>dV (λp=>a _ ?_) λp=>ag (Mp d e i) (ad.cond (λb=>a _ ?_) λb=>ag (Mp d k m) (a _ ?_))
  ·unfold eU;rw[bR (show¬l.bo.length=1 by omega)];rfl
  ·unfold eU;rw[bR (show¬l.aL.length=1 by omega),Bool.false_and,kn];rfl
  ·unfold eU;rw[show jH l.bo=al by simpa using b];simp
  unfold eU;rw[show jH l.bo=ab by simpa using b,bS (O:l.bo.length=1),bS (O:l.aL.length=1)];rfl
 subst o;cases c:eU l with
 |false=>exact bW (ad.some rfl)
 |true=>
  refine b1 ?_;unfold eU at c;simp only[cB,decide_eq_true_eq] at c;obtain⟨q,r,_⟩:=c;obtain⟨x,s⟩:=w8.1 q;obtain⟨y,w⟩:=w8.1 r;rw[s,w];exact ag (x:=x) rfl (ag (x:=y) rfl (ad.some rfl))
theorem ad1(s:5500000<=n)(h:kB l):BA n l=aa (jH l.bo&&jH l.aL):=by
 obtain⟨⟨B,w⟩,C,y⟩:=h;have r: ∀x,de x=ab->oR n x=aa (fl x.aK:Int):=λx b=>zQ s (show x.aK.length<=1100000 by have:=(fS b).1;omega);have c: ∀(l:List aE) (i:Nat) (x:aE),l[i]? =aa x->fl x.aK=0->jH (l.take i)=ab->jH (l.take (i+1))=ab:=λl i x b m d=>by
  unfold jH at d⊢;rw[eN,b,List.all_append,d];simp[m]
 have o: ∀(l:List aE) (i:Nat) (x:aE),l[i]? =aa x-> ¬fl x.aK=0->jH l=al:=λl i x b m=>by
  unfold jH
  grind
 unfold BA;refine ad.eq (ad.loop (λz:Int=> ∃i:Nat,z=i/\i<=l.bo.length/\jH (l.bo.take i)=ab) (λz=>l.bo.length-z.toNat) ?_ n _ ⟨0,rfl,O,rfl⟩ O);rintro k z ⟨i,rfl,A,d⟩ p;refine aV (λa=>?_) λq=>?_
 ·have a:i<l.bo.length:=O
  have b:=bD a;refine ag (bq b) (ag (r _ (w _ (fV a))) (aV (λm=>ad.some ?_) λm=>?_))
  ·rw[o l.bo i _ b O];rfl
  rw[bf O];exact p _ ⟨i+1,O,O,c _ _ _ b O d⟩ O
 have e:i=l.bo.length:=O
 subst e;rw[eb] at d;rw[d,gg];refine ad.loop (λz:Int=> ∃i:Nat,z=i/\i<=l.aL.length/\jH (l.aL.take i)=ab) (λz=>l.aL.length-z.toNat) ?_ n _ ⟨0,rfl,O,rfl⟩ O;rintro k z ⟨i,rfl,A,d⟩ p;refine aV (λa=>?_) λq=>ad.some ?_
 ·have a:i<l.aL.length:=O
  have b:=bD a;refine ag (bq b) (ag (r _ (y _ (fV a))) (aV (λm=>ad.some ?_) λm=>?_))
  ·exact(o l.aL i _ b O).symm
  rw[bf O];exact p _ ⟨i+1,O,O,c _ _ _ b O d⟩ O
 have e:i=l.aL.length:=O
 grind
theorem Gl(c:5500000<=n)(h:kB l):wY n l=aa (if eU l=ab then(dw l.bo,dw l.aL,ab) else(0,0,al)):=by
 unfold wY;refine ad.eq (ad.aQ (λz=>z= !eU l) (λj a=>?_) λz d=>?_)
 ·refine dV (λe=>a _ ?_) λe=>dV (λi=>a _ ?_) λi=>ag (ad1 c h) (a _ ?_)
  ·unfold eU;rw[bR (show¬l.bo.length=1 by omega)];rfl
  ·unfold eU;rw[bR (show¬l.aL.length=1 by omega),Bool.false_and,kn];rfl
  unfold eU;rw[bS (O:l.bo.length=1),bS (O:l.aL.length=1)];rfl
 subst d;cases b:eU l with
 |false=>exact bW (ad.some rfl)
 |true=>
  refine b1 ?_;unfold eU at b;simp only[cB,decide_eq_true_eq] at b;obtain⟨k,m,_⟩:=b;obtain⟨x,o⟩:=w8.1 k;obtain⟨y,p⟩:=w8.1 m;rw[o,p];exact ag (x:=x) rfl (ag (x:=y) rfl (ad.some rfl))
def qS(a b s:Int):Int:=Int.tdiv (max 0 (b-a)+s-1) s
def ya(k:Nat)(s:Int)(P:Part)(l:Loop):Part:=
 ⟨P.nest.take k++(⟨[gn 0],[gn (qS (dw l.bo) (dw l.aL) s)]⟩:Loop)::(⟨[gn (dw l.bo),nb k s (dw l.bo)],[gn (dw l.aL),nb k s (dw l.bo+s)]⟩:Loop)::(P.nest.drop (k+1)).map (d8 (jV k)),P.body.map (iG (jV k))⟩
def qq(p:Prog)(a b s:Int):Prog×Bool:=
 match aB p.parts a with
 |some P=>match aB P.nest b with
  |some l=>if dj p a b=ab/\P.nest.length<4/\(1<=s/\s<=6)/\eU l=ab then hc ⟨p.bb,p.parts.set a.toNat (ya b.toNat s P l)⟩ else dq
  |none=>dq
 |none=>dq
theorem Gt{b:Int}(h:dj p a b≠ab):qq p a b s=dq:=by
 unfold qq
 grind
theorem M1(a:p.parts[i]? =aa P)(b:P.nest[k]? =aa l)(s:Int):
  qq p (i:Int) (k:Int) s=if dj p (i:Int) (k:Int)=ab/\P.nest.length<4/\(1<=s/\s<=6)/\eU l=ab then hc ⟨p.bb,p.parts.set i (ya k s P l)⟩ else dq:=by unfold qq;rw[bq a];dsimp only;rw[bq b];rfl
theorem G2(h:kB l)(k:eU l=ab): ∃a b,l=⟨[a],[b]⟩/\a=gn (dw l.bo)/\b=gn (dw l.aL)/\c3 99 (dw l.bo)/\c3 99 (dw l.aL):=by
 obtain⟨⟨o,n⟩,p,q⟩:=h;unfold eU at k;simp only[cB,decide_eq_true_eq] at k;obtain⟨r,s,w,A⟩:=k;obtain⟨bo,H⟩:=l;dsimp only at*;obtain⟨x,B⟩:=w8.1 r;obtain⟨y,C⟩:=w8.1 s;subst B;subst C;have m: ∀z:aE,de z=ab->jH [z]=ab->z=gn z.const:=λz D k=>by
  obtain⟨F,_,_⟩:=fS D;obtain⟨a,b,c,d,e⟩:=mw F;obtain⟨cs,lb⟩:=z;dsimp only at e;subst e;unfold jH at k;simp only[List.all_cons,List.all_nil,Bool.and_true,decide_eq_true_eq] at k;have G:=zG (l:=[a,b,c,d]) (i:=0) rfl O;have o:=zG (l:=[a,b,c,d]) (i:=1) rfl O;have n:=zG (l:=[a,b,c,d]) (i:=2) rfl O;have p:=zG (l:=[a,b,c,d]) (i:=3) rfl O;rw[G,o,n,p];rfl
 exact⟨x,y,rfl,m x (n x bl) w,m y (q y bl) A,(fS (n x bl)).2.1,(fS (q y bl)).2.1⟩
theorem QJ{x:Int}(d:c3 99 c)(e:c3 99 x)(h:1<=s/\s<=6):0<=qS c x s/\qS c x s<=198:=by
 unfold c3 at d e;unfold qS;rw[Int.tdiv_eq_ediv_of_nonneg O];refine⟨Int.ediv_nonneg O O,?_⟩;refine Int.le_trans (Int.ediv_le_ediv (a:=max 0 (x-c)+s-1) (b:=198*s) O ?_) (by rw[Int.mul_ediv_cancel _ O];omega)
 grind
theorem NR(h:eL r P=ab)(q:P.nest.length<4)(w:k<P.nest.length)(s:Int):im 4 (ya k s P l):=by
 obtain⟨x,m⟩:=h8 h;obtain⟨_,n,o,_⟩:=gr h;refine⟨⟨by simp only[ya,iJ,List.length_cons,List.length_map,mf,ni];omega,λy d=>?_⟩,by simp only[ya,List.length_map];exact n.2,λs p=>?_⟩
 ·have e: ∀c,fr 4 (gn c):=λc=>by unfold fr gn;simp
  have i: ∀s c,fr 4 (nb k s c):=λs c=>by unfold fr nb;simp
  rcases eX.1 d with d|d
  ·exact((uE h).1.2 y (gm d))
  rcases eh.1 d with rfl|d
  ·exact⟨⟨bl,λa b=>by simp at b;subst b;exact e _⟩,bl,λa b=>by simp at b;subst b;exact e _⟩
  rcases eh.1 d with rfl|d
  ·exact⟨⟨bl,λa b=>by simp at b;rcases b with rfl|rfl;exact e _;exact i _ _⟩,bl,λa b=>by simp at b;rcases b with rfl|rfl;exact e _;exact i _ _⟩
  obtain⟨z,e,rfl⟩:=eH.1 d;exact x2 (Px k) (m z (ft e))
 obtain⟨z,e,rfl⟩:=eH.1 p;exact CG (Px k) (o z e)
theorem Nk(n:Nat)(a:k<4)(s:Int):nI n (k:Int) s=aa (nb k s 0):=by rcases(O:k=0\/k=1\/k=2\/k=3) with rfl|rfl|rfl|rfl<;>rfl
theorem Bb(n:Nat)(c:Int):pU n c=aa (gn c):=rfl
theorem Qd{b:Int}(c:c3 99 a)(d:c3 99 b)(e:1<=s/\s<=6):wr (Int.tdiv (wr ((wr ((max 0 (wr (b-a)))+s))-1)) s)=qS a b s:=by obtain⟨h,i⟩:=QJ c d e;unfold c3 at c d;rw[bf (n:=b-a) O,bf (n:=max 0 (b-a)+s) O,bf (n:=max 0 (b-a)+s-1) O];exact bf (by unfold qS at h i;omega)
theorem aeZ{l:List Loop}(a:k<=l.length)(b:l.length<=1100000)(v:Loop):v8 n l (k:Int) [v]=aa (l.take k++[v]++l.drop k):=by unfold v8;rw[bS (show(0:Int)<=(k:Int) by omega),bS (show(k:Int)<=(l.length:Int) by omega)];rw[dh];exact dM cd
theorem ZM(D:7700000<=n)(G:er 1100000 p)(c d s:Int):wF n p c d s=aa (qq p c d s):=by
 unfold wF;by_cases m:d= -1
 ·subst m;rw[Gt (by rw[rE O];simp)];refine ad.eq (ag (Bf D G c) ?_);by_cases H:b9 p=ab/\eA p c=ab
  ·rw[bg H];have aL:=H.2;unfold eA at aL;simp only[decide_eq_true_eq] at aL;obtain⟨x,u,_⟩:=pk aL.1 aL.2;exact bW (ag u (ad.aQ (λz=>z=ab) (λj B=>aV (λ_=>B _ rfl) λh=>br (show(-1:Int)<0 by omega) h) λz K=>by rw[K];exact bW (ad.some rfl)))
  rw[be H];exact b1 (ad.some rfl)
 refine ad.eq (ag (xT D G c d m) ?_);by_cases q:dj p c d=ab
 ·rw[bg q];obtain⟨Y,i,k,P,l,rfl,rfl,X,C,aL,L,o,f⟩:=kf q;obtain⟨v,g⟩:=h8 o;obtain⟨_,E,I,_⟩:=gr o;have r:=g l (bX C);rw[M1 X C];refine bW (ag (bq X) (ad.aQ (λz=>z= !(aj (P.nest.length<4)&&aj (1<=s/\s<=6))) (λj B=>?_) λz K=>?_))
  ·refine aV (λh=>br h O) λ_=>aV (λh=>B _ ?_) λh=>ag (d5 n s 1 6) (B _ ?_)
   ·rw[bR (show¬P.nest.length<4 by omega)];rfl
   rw[bS (O:P.nest.length<4)];rfl
  subst K;by_cases e:P.nest.length<4
  ·by_cases w:1<=s/\s<=6
   ·rw[bS e,bS w];refine b1 (ag (bq C) (ag (G1 O r) ?_));by_cases A:eU l=ab
    ·rw[bg A,bg ⟨q,e,w,A⟩];obtain⟨a,b,_,_,_,M,N⟩:=G2 r A;have Q:=zg (n:=n) O (nest:=P.nest) (body:=P.body) (s:=k) O v (λy T=>g y (ft T)) E.2 I (F:=λU=>v' n U (k:Int)) (aan O O);have W:(P.nest.take k++(P.nest.drop k).map (d8 (jV k)))[k]? =aa (d8 (jV k) l):=by
      grind
     refine bW (ag Q (ag (dU Z _) (ag (x:=()) (by unfold wu;rw[be O]) (ag (Nk n f s) (ag (Nk n f s) (ag (Bb n _) (ag (Bb n _) (ag (bq W) (ag (dU cd _) (ag (Bb n 0) (ag (Bb n _) (ag (aeZ cd cd _) (ag (dU cd _) ?_)))))))))))));dsimp only;unfold c3 at M N;rw[dh,dh,nT,bf (n:=dw l.bo+s) O,Qd ⟨O,O⟩ ⟨O,O⟩ w];have cJ:P.nest.drop k=l::P.nest.drop (k+1):=la C;have t:(P.nest.take k).length=k:=by rw[c8];omega
     have V: ∀R S:Loop,(((P.nest.take k++(P.nest.drop k).map (d8 (jV k))).set k R).take k++[S]++((P.nest.take k++(P.nest.drop k).map (d8 (jV k))).set k R).drop k)=P.nest.take k++S::R::(P.nest.drop (k+1)).map (d8 (jV k)):=λR S=>by
      grind
     rw[V];exact ag (rl D (yh G i (NR o e L s))) (ad.some rfl)
    rw[be A,be λh=>A h.2.2.2];exact b1 (ad.some rfl)
   rw[be λh=>w h.2.2.1,bR w,kn];exact bW (ad.some rfl)
  rw[be λh=>e h.2.1,bR e];exact bW (ad.some rfl)
 rw[be q,Gt q];exact b1 (ad.some rfl)
theorem Ub(a:k<4)(s c:Int):ow (hn k) s (gn c) 1=nb k s c:=by rcases(O:k=0\/k=1\/k=2\/k=3) with rfl|rfl|rfl|rfl<;>simp[ow,hn,gn,nb]
theorem Ur(a:k<4)(s c e:Int):ow (nb k s c) 1 (gn e) 1=nb k s (c+e):=by rcases(O:k=0\/k=1\/k=2\/k=3) with rfl|rfl|rfl|rfl<;>simp[ow,gn,nb]
theorem QV(h:c3 1000 c):fw 1000 (gn c):=⟨rfl,h,λx a=>by simp[gn] at a;subst a;exact⟨O,O⟩⟩
theorem Uc(b:c3 1000 s)(h:c3 1000 c):fw 1000 (nb k s c):=by refine⟨by simp[nb],h,xZ (λc a=>?_) b⟩;simp at a;subst a;exact⟨O,O⟩
theorem Zk(D:7700000<=n)(A:er 1100000 p)(c d s:Int):wz n p c d s=aa (qq p c d s):=by
 unfold wz;refine ad.eq (ag (jh O A) ?_);by_cases B:dj p c d=ab
 ·obtain⟨E,i,k,P,l,rfl,rfl,F,G,X,H,m,C⟩:=kf B;obtain⟨f,K⟩:=h8 m;obtain⟨_,g,t,_⟩:=gr m;have r:=K l (bX G);rw[M1 F G];refine ad.aQ (λz=>z= !(aj (P.nest.length<4)&&aj (1<=s/\s<=6))) (λj o=>?_) λz w=>?_
  ·refine ag (x:=ab) (by rw[mT D A _ _,B]) ?_;refine b1 (ag (bq F) (aV (λh=>o _ ?_) λh=>aV (λu=>o _ ?_) λu=>o _ ?_))
   ·rw[bR (show¬P.nest.length<4 by omega)];rfl
   ·rw[bR (show¬(1<=s/\s<=6) by omega),kn];rfl
   rw[bS (O:P.nest.length<4),gg]
   grind
  subst w;by_cases e:P.nest.length<4
  ·by_cases q:1<=s/\s<=6
   ·rw[bS e,bS q];refine b1 (ag (bq F) (ag (bq G) (ag (Gl O r) ?_)));by_cases y:eU l=ab
    ·rw[bg y,bg ⟨B,e,q,y⟩];obtain⟨a,b,_,_,_,L,Q⟩:=G2 r y;obtain⟨I,M⟩:=QJ L Q q;unfold c3 at L Q;refine b1 (ad.aQ (λz=>z=qS (dw l.bo) (dw l.aL) s) (λj o=>aV (λh=>ag (x:=()) (by unfold wu;rw[be O]) (o _ ?_)) λh=>o _ ?_) λz w=>?_)
     ·dsimp only at h⊢;rw[<-Qd ⟨O,O⟩ ⟨O,O⟩ q,bf (n:=dw l.aL-dw l.bo) O,show max 0 (dw l.aL-dw l.bo)=dw l.aL-dw l.bo by omega]
     ·dsimp only at h⊢;unfold qS;rw[show max 0 (dw l.aL-dw l.bo)=0 by omega,Int.tdiv_eq_ediv_of_nonneg O];exact(Int.ediv_eq_zero_of_lt O O).symm
     subst w;have W:(P.nest.take k).length=k:=by rw[c8];omega
     refine ag (Av O O f K g.2 t (acf O _)) (ag (Bu n C) (ag (nL n _) (ag (uc O ((um C).mono O) (QV ⟨Z,Z⟩) ⟨O,O⟩ ⟨O,O⟩) ?_)));dsimp only;rw[Ub C];refine ag (nL n _) (ag (nL n _) (ag (nL n _) (ag (uc O (Uc ⟨O,O⟩ ⟨O,O⟩) (QV ⟨O,O⟩) ⟨O,O⟩ ⟨O,O⟩) ?_)));rw[Ur C];refine ag (iU O O cd) (ag (dM cd) (ag (show xp n=aa (gn 0) from rfl) (ag (nL n _) (ag (dM cd) ?_))));rw[bf O];refine ag (iU O cd bl) (ag (dM cd) ?_);have v: ∀R S:Loop,([]++((P.nest.take (k+1)++(P.nest.drop (k+1)).map (d8 (jV k))).take (k:Int).toNat).drop (0:Int).toNat++[S,R]++((P.nest.take (k+1)++(P.nest.drop (k+1)).map (d8 (jV k))).take ((P.nest.take (k+1)++(P.nest.drop (k+1)).map (d8 (jV k))).length:Int).toNat).drop ((k:Int)+1).toNat)=P.nest.take k++S::R::(P.nest.drop (k+1)).map (d8 (jV k)):=λR S=>by
      have N:(P.nest.take (k+1)).length=k+1:=by rw[c8];omega
      rw[dh,dh,show((k:Int)+1).toNat=k+1 by omega,show(0:Int).toNat=0 from rfl,qg,eb,tZ O,List.take_take,zT O,Kt O,List.drop_of_length_le O];simp
     rw[v];exact ag (x0 D A X ((NR m e H s).mono O)) (ad.some rfl)
    rw[be y,be λh=>y h.2.2.2];exact bW (ad.some rfl)
   rw[be λh=>q h.2.2.1,bR q,kn];exact bW (ad.some rfl)
  rw[be λh=>e h.2.1,bR e];exact bW (ad.some rfl)
 rw[Gt B];refine ad.aQ (λz=>z=ab) (λj o=>ag (mT D A _ _) ?_) (λz w=>by rw[w];exact bW (ad.some rfl))
 grind
def kR(P:Part)(a b:Int):Part:=⟨(⟨[gn a],[gn b]⟩:Loop)::P.nest.drop 1,P.body⟩
def qs(p:Prog)(a c:Int):Prog×Bool:=
 match aB p.parts a with
 |some P=>match aB P.nest 0 with
  |some l=>if dj p a 0=ab/\eU l=ab/\dw l.bo<=c/\c<=dw l.aL then hc (k0 p a.toNat 1 [kR P (dw l.bo) c,kR P c (dw l.aL)]) else dq
  |none=>dq
 |none=>dq
theorem Gu(h:dj p a 0≠ab):qs p a c=dq:=by
 unfold qs
 grind
theorem Ce{k:Type}{l:List k}{x:k}(h:l[0]? =aa x):aB l 0=aa x:=bq h
theorem M3(a:p.parts[i]? =aa P)(b:P.nest[0]? =aa l)(c:Int):
  qs p (i:Int) c=if dj p (i:Int) 0=ab/\eU l=ab/\dw l.bo<=c/\c<=dw l.aL then hc (k0 p i 1 [kR P (dw l.bo) c,kR P c (dw l.aL)]) else dq:=by unfold qs;rw[bq a];dsimp only;rw[Ce b];rfl
theorem Qp(k:eL r P=ab)(a b:Int):im 4 (kR P a b):=by
 obtain⟨h,l,m⟩:=uE k;have i: ∀c,fr 4 (gn c):=λc=>by unfold fr gn;simp
 have:=h.1;refine⟨⟨by simp only[kR,List.length_cons,ni];omega,λy e=>?_⟩,l,m⟩;rcases eh.1 e with rfl|e
 ·exact⟨⟨bl,λa d=>by simp at d;subst d;exact i _⟩,bl,λa d=>by simp at d;subst d;exact i _⟩
 exact h.2 y (ft e)
theorem M2(e:eL r P=ab)(a b c d:Int): ∀y∈[kR P a b,kR P c d],im 1100000 y:=by
 intro y h;simp only[List.mem_cons,List.not_mem_nil,or_false] at h;rcases h with rfl|rfl
 ·exact(Qp e a b).mono O
 exact(Qp e c d).mono O
theorem adY(a:b9 p=ab)(b:p.parts[i]? =aa P):dj p (i:Int) 0=aj (0<P.nest.length):=by
 unfold dj;rw[a,bq b,gg]
 grind
theorem acE(a:i<p.parts.length)(A B:Part):(⟨p.bb,(p.parts.set i A).take (i+1)++[B]++(p.parts.set i A).drop (i+1)⟩:Prog)=k0 p i 1 [A,B]:=by
 unfold k0;congr 1;rw[List.take_set,o5 O,eN,bD a,nd _ _ (by rw[c8];omega)]
 have:i-(p.parts.take i).length=0:=by rw[c8];omega
 grind
theorem ZQ(t:22000000<=n)(D:er 1100000 p)(d c:Int):wG n p d c=aa (qs p d c):=by
 unfold wG;refine ad.eq (ag (Bf O D d) ?_);by_cases y:b9 p=ab/\eA p d=ab
 ·rw[bg y];obtain⟨m,B⟩:=y;have F:0<=d/\d<(p.parts.length:Int):=e4 B;obtain⟨i,rfl⟩: ∃i:Nat,d=i:=⟨d.toNat,O⟩
  have q:=bD (O:i<p.parts.length);generalize G:p.parts[i]=P at q;have K:=(ep m).2.2.1;have e:=(ep m).2.2.2.1 P (bX q);obtain⟨Q,A⟩:=h8 e;have fC:=adY m q;refine bW (ag (bq q) (aV (λz=>ad.some ?_) λz=>?_))
  ·rw[Gu (by rw[fC,bR O];simp)];rfl
  have z:0<P.nest.length:=O
  rw[bS z] at fC;have o:=bD z;generalize P.nest[0]=l at o;have r:=A l (bX o);rw[M3 q o];refine ag (Ce o) (ag (G1 O r) ?_);by_cases s:eU l=ab
  ·rw[bg s];refine bW (ag (d5 n c _ _) ?_);by_cases w:dw l.bo<=c/\c<=dw l.aL
   ·rw[bg ⟨fC,s,w.1,w.2⟩];dsimp only;rw[bS w];obtain⟨a,b,W,X,f,u,v⟩:=G2 r s;have g:=Cc (i:=i) (many:=1) (ys:=[kR P (dw l.bo) c,kR P c (dw l.aL)]) ((gX m).mono (O:4<=900)) bl (M2 e _ _ _ _);generalize dw l.bo=L at*;generalize dw l.aL=H at*;subst X;subst f;subst W;have E:P.nest=(⟨[gn L],[gn H]⟩:Loop)::P.nest.drop 1:=by
     have:=la o
     grind
    have C: ∀R:Loop,P.nest.set (0:Int).toNat R=R::P.nest.drop 1:=λR=>by
     grind
    refine bW (ag (MA O e) (ag (x:=gn H) rfl (ag (x:=[gn c]) rfl (ag (dU O _) (ag (dU O _) (ag (Ce o) (ag (x:=gn L) rfl (ag (x:=[gn c]) rfl (ag (dU O _) ?_)))))))));rw[C,C,bf O,dh];refine ag (Pv (i:=i+1) (by rw[gf];omega) (by rw[gf];simp;omega)) ?_;show ad (bI (lI n (⟨p.bb,(p.parts.set i (kR P L c)).take (i+1)++[kR P c H]++(p.parts.set i (kR P L c)).drop (i+1)⟩:Prog)) _) _;rw[acE O];exact ag (rl O g) (ad.some rfl)
   rw[be λh=>w ⟨h.2.2.1,h.2.2.2⟩];dsimp only;rw[bR w];exact b1 (ad.some rfl)
  rw[be s,be λh=>s h.2.1];exact b1 (ad.some rfl)
 rw[be y,Gu λj=>y ?_]
 ·exact b1 (ad.some rfl)
 obtain⟨m,i,k,P,l,rfl,_,I,_,B,_⟩:=kf j;exact⟨m,bS O⟩
theorem Zo(F:22000000<=n)(y:er 1100000 p)(a c:Int):wC n p a c=aa (qs p a c):=by
 unfold wC;refine ad.eq (ag (jh O y) (ag (mT O y a 0) ?_));cases o:dj p a 0 with
 |false=>
  rw[Gu (by rw[o];simp)];exact bW (ad.some rfl)
 |true=>
  obtain⟨B,i,k,P,l,rfl,C,A,q,G,H,b,K⟩:=kf o;obtain rfl:k=0:=O
  obtain⟨D,r⟩:=h8 b;have s:=r l (bX q);rw[M3 A q];refine b1 (ag (bq A) (ag (Ce q) (ag (Gl O s) ?_)));by_cases e:eU l=ab
  ·rw[bg e];dsimp only;refine ad.aQ (λz=>z= !decide (dw l.bo<=c/\c<=dw l.aL)) (λj m=>b1 (aV (λh=>m _ ?_) λh=>m _ ?_)) λz w=>?_
   ·rw[bR O];rfl
   ·rw[hv];simp only[Bool.not_eq_true',decide_eq_true_eq,decide_eq_false_iff_not];omega
   subst w;by_cases d:dw l.bo<=c/\c<=dw l.aL
   ·rw[bg ⟨o,e,d.1,d.2⟩,bS d];refine b1 (ag (nL n _) (ag (nL n _) (ag (iU O O O) (ag (dM cd) (ag (nL n _) (ag (nL n _) (ag (iU O O O) (ag (dM cd) ?_))))))));rw[dh,eb];have x:=GP (n:=n) O ((gX B).mono (O:4<=900)) (i:=i) (many:=1) O (ys:=[kR P (dw l.bo) c,kR P c (dw l.aL)]) bl (M2 b _ _ _ _);exact ag x (ad.some rfl)
   rw[be λh=>d ⟨h.2.2.1,h.2.2.2⟩,bR d];exact bW (ad.some rfl)
  rw[be e,be λh=>e h.2.1];exact ad.aQ (λz=>z=ab) (λj m=>bW (m _ rfl)) λz w=>by rw[w];exact bW (ad.some rfl)
end
section
def ls(s:Stmt):Stmt:=⟨s.write,ga 5 s.value⟩
def kg(x:Part):Part:=⟨x.nest,x.body.map ls⟩
def CP(p:Prog):Prog:=⟨p.bb,p.parts.map kg⟩
variable {n:Nat}{s:Stmt}{d e:Int}{p:Prog}{r:List cC}
theorem XV(b:7700000<=n)(a:eM s d=ab):ue n s=aa (ls s):=by
 obtain⟨n,rfl⟩: ∃j,n=j+1:=⟨n-1,O⟩
 unfold ue;rw[Mz O a];refine ad.eq (ag rfl (ag (Gf 5 n s.value O (kd a).2.1) (ad.some rfl)))
def u3(p:Prog):Prog×Bool:=if b9 p=ab then(CP p,ab) else dq
theorem UT(i:7700000<=n)(r:er 1100000 p):we n p=aa (u3 p):=by
 unfold we u3;refine ad.eq (ag (d0 i r.sm) (ad.cond (λh=>ad.some ?_) λh=>?_))
 ·rw[be (by simpa using h)];rfl
 have e:b9 p=ab:=by simpa using h
 rw[bg e];obtain⟨H,L,Q,w,_⟩:=ep e;refine ag (sj O e) ?_;refine xX (l:=p.parts) (n:=n) (F:=λc k=>bA (λa ((b,d):(List Stmt)×Int)=>
    bif aj (d<(c.body.length:Int)) then(
     bI (aB b d) λy=>
     bI (ue n y) λz=>
     bI (ch b d z) λA=>
     a (A,wr (d+1))
    ) else(
     bI (e6 c.body b) λR=>
     k (⟨c.nest,b⟩:Part)
    )
   ) n (c.body,0)) (W:=λ_ o=>o) (m:=λ_=>(p.parts.length:Int)) (g:=kg) (s:=0) (K:=λB=>aa ((⟨p.bb,B⟩:Prog),ab)) (λ_ _ _ h=>h) (λ_ _=>rfl) O (λx C k q=>?_) O O (ad.some ?_)
 ·obtain⟨_,X,D,_⟩:=gr (w x C);refine xX (l:=x.body) (n:=n) (F:=λx k=>bI (ue n x) k) (W:=λ_ o=>o) (m:=λ_=>(x.body.length:Int)) (g:=ls) (s:=0) (K:=λb=>bI (e6 x.body b) λ_=>k (⟨x.nest,b⟩:Part)) (λ_ _ _ h=>h) (λ_ _=>rfl) O (λs G k q=>ag (XV i (D s G)) q) O O ?_;refine ag (gA bl) ?_
  have:(⟨x.nest,x.body.take 0++(x.body.drop 0).map ls⟩:Part)=kg x:=by simp[kg]
  grind
 simp[CP]
theorem Vz(e:7700000<=n)(h:d<=4)(a:eM s d=ab)(c:eM s 4=ab):Ao n s=aa (ls s,ab):=by
 obtain⟨n,rfl⟩: ∃j,n=j+1:=⟨n-1,O⟩
 have b:nj 4 s:=QL a;unfold Ao;refine ad.eq (ag (KV O (b.mono (O:4<=1100000)).sm 4) ?_);rw[c];refine b1 (ag (z1 O ((b.mono (O:4<=1100000)).1).sm) (ag (Nz 5 n s.value O (kd a).2.1) (ad.some rfl)))
theorem On{a:aE}(h:fA a d=ab)(b:d<=e):fA a e=ab:=by
 unfold fA at h⊢
 grind
theorem P5{a:cx}(h:fU a d=ab)(b:d<=e):fU a e=ab:=by unfold fU at h⊢;rw[qk,gx] at h;rw[h.2,Bool.and_true];exact gx.2 λx c=>On (h.1 x c) b
theorem afn{x:Expr}(h:eJ x d=ab)(a:d<=e):eJ x e=ab:=by
 unfold eJ at h⊢;split at h
 ·rename_i b;rw[bg b];simp only[cB] at h⊢;exact⟨h.1,h.2.1,On h.2.2 a⟩
 rename_i b;rw[be b];split at h
 ·rename_i c;rw[bg c];simp only[cB] at h⊢;exact⟨h.1,h.2.1,P5 h.2.2 a⟩
 rename_i c
 grind
theorem Nw{d e:Int}(a:d<=e): ∀{L:Nat} {x:Expr},dF L x d=ab->dF L x e=ab
 |0,_,h=>by cases h
 |L+1,x,h=>by obtain⟨c,i,l⟩:=hl h;exact GJ c (afn i a) λk b=>Nw a (l k b)
theorem ada(h:eM s d=ab):eM s 4=ab:=by unfold eM at h⊢;simp only[cB,decide_eq_true_eq] at h⊢;exact⟨O,P5 h.2.1 h.1.2,Nw h.1.2 h.2.2.1,h.2.2.2⟩
theorem adb(h:eM s d=ab):d<=4:=by
 unfold eM at h
 grind
theorem UX(H:7700000<=n)(q:er 1100000 p):vY n p=aa (u3 p):=by
 unfold vY u3;refine ad.eq (ag (jh O q) (ag (iO H q.sm) (ad.cond (λh=>ad.some ?_) λh=>?_)))
 ·rw[be (by simpa using h)];rfl
 have K:b9 p=ab:=by simpa using h
 rw[bg K];obtain⟨u,v,E,W,_⟩:=ep K;refine ag (pR O q) ?_;refine ad.loop (λz:List Part×Int=> ∃i:Nat,z.2=i/\i<=p.parts.length/\z.1=(p.parts.take i).map kg++p.parts.drop i) (λz=>p.parts.length-z.2.toNat) ?_ n _ ⟨0,rfl,O,bl⟩ Z;rintro r ⟨x,z⟩ ⟨i,L,I,d⟩ X;dsimp only at L d⊢;subst L;have a:((p.parts.take i).map kg).length=i:=by rw[dH,c8];omega
 have w:x.length=p.parts.length:=by rw[d,dQ,a,fN];omega
 rw[w];refine aV (λf=>?_) λg=>ad.some ?_
 ·obtain⟨P,l⟩: ∃P,p.parts[i]? =aa P:=⟨_,bD (O:i<p.parts.length)⟩
  have A:x[i]? =aa P:=by
   rw[d,ic O,a,l6,fv];exact l
  obtain⟨_,M,t,_⟩:=gr (W P (bX l));refine ad.loop (λz:List Part×Int=> ∃j:Nat,z.2=j/\j<=P.body.length/\z.1=x.set i ⟨P.nest,(P.body.take j).map ls++P.body.drop j⟩) (λz=>P.body.length-z.2.toNat) ?_ n _ ⟨0,rfl,O,by
   dsimp only;rw[List.take_zero,List.map_nil,tW,qg];exact(acs A).symm⟩ Z
  rintro m ⟨y,N⟩ ⟨j,e,S,k⟩ B;dsimp only at e k⊢;subst e;have C:y[i]? =aa ⟨P.nest,(P.body.take j).map ls++P.body.drop j⟩:=by rw[k,ia O]
  have b:((P.body.take j).map ls).length=j:=by rw[dH,c8];omega
  have D:((P.body.take j).map ls++P.body.drop j).length=P.body.length:=by rw[dQ,b,fN];omega
  refine ag (bq C) ?_;dsimp only;rw[D];refine aV (λQ=>?_) λR=>?_
  ·obtain⟨s,o⟩: ∃s,P.body[j]? =aa s:=⟨_,bD (O:j<P.body.length)⟩
   have F:((P.body.take j).map ls++P.body.drop j)[j]? =aa s:=by
    rw[ic O,b,l6,fv];exact o
   have c:=t s (bX o);refine ag (bq F) (ag (Vz H (adb c) c (ada c)) (ag (dU O _) (ag (dU (by rw[k,gf];omega) _) ?_)));rw[bf O];refine B _ ⟨j+1,Z,O,?_⟩ Z;dsimp only;rw[k,dh,dh,nT,nd _ _ O,b,l6,la o,tV,eN,o];simp
  have G:j=P.body.length:=O
  rw[bf O];refine X _ ⟨i+1,Z,O,?_⟩ Z;dsimp only;rw[k,G,eb,qe,jr,d,nd _ _ O,a,l6,la l,tV,eN,l];simp[kg]
 have:i=p.parts.length:=O
 rw[d,this,eb,qe,jr];rfl
theorem adZ(h:eM s d=ab):eM (ls s) d=ab:=by obtain⟨b,a,_⟩:=kd h;unfold eM at h⊢;simp only[cB,decide_eq_true_eq] at h⊢;exact⟨h.1,b,m7 a,by have:=N2 a;show dI 5 (ga 5 s.value)<=12;omega⟩
theorem XK(b:eM s d=ab){q:List Int}(h:gS r s q=ab):gS r (ls s) q=ab:=by unfold gS at h⊢;rw[qk,gx] at h;rw[show(ls s).write=s.write from rfl,h.1,gg];exact gx.2 λa c=>h.2 a (Mv (kd b).2.1 a c)
theorem Mw(x:Part):jl (kg x)=jl x:=rfl
theorem aaQ{x:Part}(h:eL r x=ab):eL r (kg x)=ab:=by
 obtain⟨d,e,c,i⟩:=gr h;unfold eL ot;rw[show(kg x).nest=x.nest from rfl,d,Mw];have k:(kg x).body=x.body.map ls:=rfl;rw[k,dH,bS e];simp only[Option.isSome_some,Bool.true_and,cB,kp];refine⟨λs b=>?_,λs b q l=>?_⟩
 ·obtain⟨t,a,rfl⟩:=eH.1 b;exact adZ (c t a)
 obtain⟨t,a,rfl⟩:=eH.1 b
 have:=i t a q l;exact⟨XK (c t a) this.1,this.2⟩
theorem ad0(h:b9 p=ab):b9 (CP p)=ab:=by
 unfold b9 jJ at h⊢;simp only[cB,decide_eq_true_eq,kp] at h⊢;obtain⟨⟨a,b,c⟩,d⟩:=h;refine⟨⟨a,by simpa[CP] using b,λx e=>?_⟩,?_⟩
 ·obtain⟨y,i,rfl⟩:=eH.1 e;exact aaQ (c y i)
 show((p.parts.map kg).map fR).sum<=120;rw[List.map_map,show p.parts.map (fR ∘ kg)=p.parts.map fR from List.map_congr_left (λx _=>by
  show fR (kg x)=fR x;unfold fR;rw[Mw,show(kg x).body.length=x.body.length by simp[kg]])]
 exact d
end
def po(p:Prog)(a:Int):Bool:=(List.range (bL p.parts).length).all (λi=>match (bL p.parts)[i]? with
 |some x=> !((kV p (bL p.parts)).getD i al&&aj (x.part=a))
 |none=>ab)
variable {p:Prog}{n:Nat}{a:Int}
theorem Ba{part:Int}:po p part=ab↔ ∀(i:Nat) x,(bL p.parts)[i]? =aa x->(kV p (bL p.parts)).getD i al=ab->x.part≠part:=by
 unfold po
 grind
theorem Nb(p:Prog)(l:List cO):(kV p l).length=l.length:=tK p l l.length
theorem H8(d:b9 p=ab)(i:Nat):b9 ⟨p.bb,p.parts.take i++p.parts.drop (i+1)⟩=ab:=by
 have b: ∀x∈p.parts.take i++p.parts.drop (i+1),x∈p.parts:=λx e=>by
  grind
 have c:=(ep d).2.2.2.1;have k:=(Dt p.parts)
 have m: ∀l:List Part,(∀x∈l,x∈p.parts)->0<=(l.map fR).sum:=λl n=>by
  induction l with
  |nil=>simp
  |cons a l o=>
   simp only[hg,List.sum_cons]
   have:=(Am (c a (n a fh))).1
   have:=o λx e=>n x (eW _ e);omega
 unfold b9 jJ at d⊢;simp only[cB,decide_eq_true_eq,kp] at d⊢;obtain⟨⟨aP,a2,a3⟩,a4⟩:=d;refine⟨⟨aP,by simp only[iJ,mf,ni];omega,λx e=>a3 x (b x e)⟩,?_⟩;have q:(p.parts.map fR).sum=((p.parts.take i).map fR).sum+((p.parts.drop i).map fR).sum:=by
  conv=>lhs;rw[<-ua i p.parts]
  grind
 have r:((p.parts.drop (i+1)).map fR).sum<=((p.parts.drop i).map fR).sum:=by
  cases h:p.parts.drop i with
  |nil=>
   have:p.parts.drop (i+1)=[]:=by rw[<-List.drop_drop,h];rfl
   rw[this];simp
  |cons a l=>
   have:p.parts.drop (i+1)=l:=by rw[<-List.drop_drop,h];rfl
   rw[this];simp only[hg,List.sum_cons]
   have:=(Am (c a (ft (i:=i) (by rw[h];exact fh)))).1;omega
 grind
theorem PG(a:b9 p=ab)(i:Nat):er 1100000 ⟨p.bb,p.parts.take i++p.parts.drop (i+1)⟩:=(gX (H8 a i)).mono O
def mm(p:Prog)(a:Int):Prog×Bool:=if(b9 p&&(eA p a&&po p a))=ab then(⟨p.bb,p.parts.take a.toNat++p.parts.drop (a.toNat+1)⟩,ab) else dq
theorem aaN(G:7810000<=n)(H:er 1100000 p)(g: -1<=a/\a<=9):pV n p a=aa (mm p a):=by
 unfold pV mm;refine ad.eq (ag (tz G H.sm) ?_);by_cases c:b9 p=ab
 ·rw[bg c,c];have Q:=(ep c).2.2.2.2;refine bW (ad.aQ (λz=>z= !eA p a) (λj d=>b1 (ag (oT n H.2.1 a) (d _ rfl))) λz o=>?_);subst o;cases s:eA p a with
  |false=>exact bW (ad.some rfl)
  |true=>
   have w:0<=a/\a<(p.parts.length:Int):=e4 s;refine b1 (ag (x:=kV p (bL p.parts)) (abn G c) ?_);have A:=Nb p (bL p.parts);rw[A];refine ad.loop (λz:Int=> ∃i:Nat,z=i/\i<=(bL p.parts).length/\ ∀(j:Nat) x,j<i->(bL p.parts)[j]? =aa x->(kV p (bL p.parts)).getD j al=ab->x.part≠a) (λz=>(bL p.parts).length-z.toNat) ?_ n _ ⟨0,rfl,O,λj x h=>O⟩ O;rintro B z ⟨i,rfl,t,q⟩ R;refine aV (λW=>?_) λX=>?_
   ·obtain⟨x,C⟩: ∃x,(bL p.parts)[i]? =aa x:=⟨_,bD (O:i<(bL p.parts).length)⟩
    have D:aB (kV p (bL p.parts)) (i:Int)=aa ((kV p (bL p.parts)).getD i al):=by
     have b:i<(kV p (bL p.parts)).length:=O
     rw[bq (bD b),fa,bD b];rfl
    have k:aB (gw p).list (i:Int)=aa x:=bq C;refine ag D (ad.aQ (λz=>z=((kV p (bL p.parts)).getD i al&&aj (x.part=a))) (λj d=>ad.cond (λh=>ag k (d _ (by rw[h];rfl))) λh=>d _ (by rw[h];rfl)) λz o=>?_);subst o;refine ad.cond (λh=>ad.some ?_) λh=>?_
    ·rw[qk,decide_eq_true_eq] at h
     have:po p a=al:=by
      cases f:po p a with
      |false=>rfl
      |true=>exact br h.2 (Ba.1 f i x C h.1)
     rw[this];rfl
    rw[bf O];refine R _ ⟨i+1,O,O,λj y d F r=>?_⟩ O;by_cases e:j=i
    ·subst e;rw[C] at F;cases F;rw[r,gg] at h;exact of_decide_eq_false h
    exact q j y O F r
   have m:po p a=ab:=Ba.2 λj x K r=>q j x (by have:=(d6.1 K).1;omega) K r;rw[m];refine ag (sj O c) (ag (x:=(dL p.parts a (a+1),hd p.parts a (a+1) (⟨[],[]⟩:Part))) ?_ (ad.some ?_))
   ·unfold tm;rw[bf O,bS w.1,bS (O:a<=a+1),bS (O:a+1<=(p.parts.length:Int)),bR (show¬a=a+1 by omega)];rfl
   show(⟨p.bb,(hd p.parts a (a+1) (⟨[],[]⟩:Part)).take (dL p.parts a (a+1))⟩,ab)=((⟨p.bb,p.parts.take a.toNat++p.parts.drop (a.toNat+1)⟩:Prog),ab)
   have L:(p.parts.take a.toNat++p.parts.drop (a+1).toNat).length=dL p.parts a (a+1):=by
    unfold dL;simp only[iJ,mf,ni];omega
   unfold hd;rw[tZ (by rw[L];exact df _),jM (l:=p.parts.take a.toNat++p.parts.drop (a+1).toNat) (by rw[L];exact df _),show(a+1).toNat=a.toNat+1 by omega]
 rw[be c,show b9 p=al by simpa using c];refine b1 (ad.aQ (λz=>z=ab) (λj d=>bW (d _ rfl)) λz o=>?_);rw[o];exact bW (ad.some rfl)
theorem aa9(Q:7810000<=n)(m:er 1100000 p)(I: -1<=a/\a<=9):pT n p a=aa (mm p a):=by
 unfold pT mm;refine ad.eq (ag (jh O m) (ad.aQ (λz=>z= !(b9 p&&eA p a)) (λj o=>?_) λz R=>?_))
 ·refine ag (iO O m.sm) (ad.cond (λh=>o _ ?_) λh=>?_)
  ·rw[so h];rfl
  have bx:=qv h;refine aV (λq=>o _ ?_) λq=>o _ ?_
  ·rw[bx,show eA p a=al from bR O];rfl
  by_cases K:(p.parts.length:Int)<=a
  ·rw[bx,bS K,show eA p a=al from bR O];rfl
  rw[bx,bR K,show eA p a=ab from bS O];rfl
 subst R;by_cases bx:b9 p=ab
 ·rw[bx];have W:=(ep bx).2.2.2.2;cases A:eA p a with
  |false=>exact bW (ad.some rfl)
  |true=>
   have X:0<=a/\a<(p.parts.length:Int):=e4 A;refine b1 (ag (T4 Q m.sm) (ag (vS O bx) ?_));rw[bg bx];have f:=Nb p (bL p.parts);have g:=LY (kV p (bL p.parts));have r: ∀c∈p9 (kV p (bL p.parts)),∃(i:Nat) (x:cO),c=i/\(bL p.parts)[i]? =aa x/\(kV p (bL p.parts)).getD i al=ab:=λc B=>by
    obtain⟨M,q⟩:=Ff.1 B;have s:c.toNat<(bL p.parts).length:=by
     by_cases h:c.toNat<(bL p.parts).length
     ·exact h
     rw[fa,El O] at q;cases q
    exact⟨c.toNat,_,O,bD s,q⟩
   generalize t:p9 (kV p (bL p.parts))=L at*;refine ad.loop (λz:Int=> ∃i:Nat,z=i/\i<=L.length/\ ∀c∈L.take i,∀x,(bL p.parts)[c.toNat]? =aa x->x.part≠a) (λz=>L.length-z.toNat) ?_ n _ ⟨0,rfl,O,λc B=>by simp at B⟩ O;rintro C z ⟨i,rfl,N,b⟩ u;refine aV (λs=>?_) λv=>?_
   ·obtain⟨c,D⟩: ∃c,L[i]? =aa c:=⟨_,bD (O:i<L.length)⟩
    obtain⟨k,x,rfl,w,F⟩:=r c (bX D);refine ag (bq D) (ag (bq w) (aV (λh=>ad.some ?_) λh=>?_))
    ·have:po p a=al:=by
      cases l:po p a with
      |false=>rfl
      |true=>exact br h (Ba.1 l k x w F)
     rw[this];rfl
    rw[bf O];refine u _ ⟨i+1,O,O,λd l y G=>?_⟩ O;rw[fQ D,eX,qj] at l;rcases l with l|rfl
    ·exact b d l y G
    rw[dh,w] at G;cases G;exact h
   have H:i=L.length:=O
   rw[H,eb] at b;have e:po p a=ab:=Ba.2 (λj x w F=>by
    have o:((j:Nat):Int)∈L:=by rw[<-t];exact Ff.2 ⟨O,by rw[dh];exact F⟩
    exact b _ o x (by rw[dh];exact w))
   rw[e];obtain⟨i,rfl⟩: ∃i:Nat,a=i:=⟨a.toNat,O⟩
   refine ag (x:=(⟨p.bb,p.parts.take i++p.parts.drop (i+1)⟩,ab)) (ad.eq ?_) (ad.some rfl);have E:=m.2.1;unfold jA;refine ag (pR O m) (ag (iU O O O) ?_);rw[dh,show(0:Int).toNat=0 from rfl,qg];refine ag (x:=p.parts.take i) (dM cd) (ag (x:=p.parts.take i) (by rw[dM cd,jr]) ?_);rw[bf O];refine ag (iU O O O) ?_;rw[dh,eb,show((i:Int)+1).toNat=i+1 by omega];refine ag (x:=p.parts.take i++p.parts.drop (i+1)) (dM cd) (ag (iO O (PG bx i).sm) ?_);rw[H8 bx i];exact b1 (ag (pR O (PG bx i)) (ad.some rfl))
 rw[show b9 p=al by simpa using bx];exact bW (ad.some rfl)
end Go.Lift
