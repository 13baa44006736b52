/- Tools. -/
import Derived.Test.YtcihigfifglboabGreatGRun1
set_option maxRecDepth 100000
set_option linter.unusedVariables false
namespace Go.Lift
open Go
section
theorem Gt{k:Type}{n:Int}(h:0<=n/\n<=1000000000)(x:k):mk n x=some (List.replicate n.toNat x):=by unfold mk;rw[a1 h]
variable {k n i L many:Nat}{p:Prog}{x y P:Part}{h R:Type}{l:Loop}{F:ay->Option ay}{K:List h->Option R}{Q:R->Prop}{s d a v c:Int}{f:ay->ay}{e:Expr}{o nest:List Loop}{r:List cg}{b:ay}{q:List Int}{ys:List Part}
theorem XA(a:b2 p=true):0<=fV p.aS/\fV p.aS<=144:=by
 obtain⟨d,c,_⟩:=ey a
 have:=ZJ c;omega
theorem PX(c:b2 p=true){x:cx}(e:gk p x):x.cL.length<=4:=by
 obtain⟨i,k,P,s,d,h,l,m,n,o,q,a,r⟩:=uI c e
 have:=a.1;have:=a.2.1;omega
theorem we{β:Type}{l:List h}{F:h->(β->Option R)->Option R}{g:h->β}{K:List β->Option R}(e: ∀x∈l,∀k:β->Option R,ab (k (g x)) Q->ab (F x k) Q)
  {s:Nat} (B:s<=l.length) {pre:List β} (C:pre.length<=1000) (D:l.length<=1000) (G:5000<=n) (m:ab (K (pre++(l.drop s).map g)) Q):
  ab (bo (λa ((x,i):List β×Int)=>bif decide (i<(l.length:Int)) then(Option.bind (au l i) λy=>F y λz=>Option.bind (app x [z]) λw=>a (w,wr (i+1))) else K x) n (pre,(s:Int))) Q:=by
 refine ab.loop (λz:List β×Int=> ∃i:Nat,z.2=i/\s<=i/\i<=l.length/\z.1=pre++((l.drop s).take (i-s)).map g) (λz=>l.length-z.2.toNat) ?_ n _ ⟨s,rfl,O,O,aX⟩ Z;rintro a ⟨x,z⟩ ⟨i,d,o,H,c⟩ p;dsimp only at d c⊢;subst d;refine aQ (λq=>?_) λr=>?_
 ·have bO:=bs (O:i<l.length);have A:x.length<=2000:=by rw[c,dB,c6,cJ,e6];omega
  refine ag (bk bO) (e _ (bF bO) _ (ag (cX bQ) ?_));rw[be O];refine p _ ⟨i+1,Z,O,O,?_⟩ Z;dsimp only;rw[show i+1-s=(i-s)+1 by omega,ei,fP,show s+(i-s)=i by omega,bO,c,fQ,ie];rfl
 have:i=l.length:=O
 subst this;rw[c,jd (by rw[e6];omega)];exact m
theorem oz{H:Type}{l:List H}{f:H->Option h}{g:H->h}(c: ∀x∈l,f x=some (g x))(d:l.length<=1000)(e:5000<=n)(m:ab (K (l.map g)) Q):
  ab (bo (λa ((x,i):List h×Int)=>bif decide (i<(l.length:Int)) then(Option.bind (au l i) λy=>Option.bind (f y) λz=>Option.bind (app x [z]) λw=>a (w,wr (i+1))) else K x) n ([],0)) Q:=
 we (F:=λy k=>Option.bind (f y) k) (g:=g) (s:=0) (pre:=[]) (λx o k p=>ag (c x o) p) O aX d e (by simpa using m)
theorem yz{l:List h}{F:h->(h->Option R)->Option R}{W:List h->Option R->Option R}{m:List h->Int}{g:h->h}
  (B: ∀y o,y.length=l.length->ab o Q->ab (W y o) Q) (C: ∀y:List h,y.length=l.length->m y=(l.length:Int))
  {s:Nat} (X:s<=l.length) (D: ∀x∈l,∀k:h->Option R,ab (k (g x)) Q->ab (F x k) Q) (Y:l.length<=1000) (b:5000<=n) (G:ab (K (l.take s++(l.drop s).map g)) Q):
  ab (bo (λa ((y,i):List h×Int)=>W y (bif decide (i<m y) then(Option.bind (au y i) λx=>F x λz=>Option.bind (b' y i z) λw=>a (w,wr (i+1))) else K y)) n (l,(s:Int))) Q:=by
 refine ab.loop (λz:List h×Int=> ∃i:Nat,z.2=i/\s<=i/\i<=l.length/\z.1=l.take s++((l.drop s).take (i-s)).map g++l.drop i) (λz=>l.length-z.2.toNat) ?_ n _ ⟨s,rfl,O,O,aX⟩ Z;rintro a ⟨x,z⟩ ⟨i,A,H,f,d⟩ I;dsimp only at A d⊢;subst A;have c:(l.take s++((l.drop s).take (i-s)).map g).length=i:=by rw[dB,c6,cJ,cJ,e6];omega
 have p:x.length=l.length:=by rw[d,dB,c,e6];omega
 refine B _ _ p ?_;rw[C _ p];refine aQ (λL=>?_) λU=>?_
 ·obtain⟨e,q⟩: ∃e,l[i]? =some e:=⟨_,bs (O:i<l.length)⟩
  have r:x[i]? =some e:=by
   rw[d,gU O,c,j',fP];exact q
  refine ag (bk r) (D _ (bF q) _ (ag (dH O _) ?_));rw[be O];refine I _ ⟨i+1,Z,O,O,?_⟩ Z;dsimp only;rw[d,cY,mF _ _ O,c,j',jU q,vv,show i+1-s=(i-s)+1 by omega,ei,fP,show s+(i-s)=i by omega,q];simp
 have:i=l.length:=O
 subst this;rw[d,jd (l:=l.drop s) (by rw[e6];omega),ny,kG];exact G
def pS(f:ay->ay)(a:b0):b0:=⟨a.array,a.bC.map f⟩
def p6(f:ay->ay):Nat->Expr->Expr
 |0,e=>e
 |L+1,e=>⟨e.kind,e.num,if e.kind=2 then f e.index else⟨[],0⟩,if e.kind=3 then pS f e.read else⟨[],[]⟩,e.bm.map (p6 f L)⟩
def iq(f:ay->ay)(s:Stmt):Stmt:=⟨pS f s.write,p6 f 5 s.value⟩
def d7(f:ay->ay)(l:Loop):Loop:=⟨l.bf.map f,l.aH.map f⟩
theorem H1(h:ef e d=true)(a:e.kind=2):cQ e.index=true/\jB e.read=true:=by unfold ef eO at h;rw[a1 a] at h;simp only[Bool.and_eq_true] at h;exact⟨h.2.2.1,h.2.1⟩
theorem rr(h:ef e d=true)(a:e.kind=3):fN e.read d=true/\hc e.index=true:=by unfold ef at h;rw[a6 O,a1 a] at h;simp only[Bool.and_eq_true] at h;exact⟨h.2.2,h.2.1⟩
theorem wQ(h:ef e d=true)(a: ¬e.kind=2)(c: ¬e.kind=3):hc e.index=true/\jB e.read=true:=by unfold ef at h;rw[a6 a,a6 c] at h;split at h<;>simp only[Bool.and_eq_true] at h<;>exact⟨h.2.1,h.2.2⟩
theorem sS{a:ay}(h:hc a=true):a=⟨[],0⟩:=by obtain⟨c,k⟩:=a;simp only[hc,Bool.and_eq_true,decide_eq_true_eq] at h;obtain⟨d,rfl⟩:=h;rw[kE d]
theorem sT{a:b0}(h:jB a=true):a=⟨[],[]⟩:=by obtain⟨c,k⟩:=a;simp only[jB,Bool.and_eq_true,decide_eq_true_eq] at h;obtain⟨rfl,d⟩:=h;rw[kE d]
theorem Jt(c:5000<=n){a:b0}(e:fN a d=true)(h: ∀x,cQ x=true->F x=some (f x)):sv n a F=some (pS f a):=by obtain⟨m,o,i⟩:=mN e;refine ab.eq ?_;unfold sv;exact oz (K:=λk=>some (⟨a.array,k⟩:b0)) (λx l=>h x (i x l)) O c (ab.some rfl)
theorem JX{d:Int}{F:ay->Option ay}{f:ay->ay}(i: ∀x,cQ x=true->F x=some (f x)): ∀(L n:Nat) (e:Expr),5000+L<=n->dA L e d=true->lI (n+1) e F=some (p6 f L e)
 |0,_,_,_,h=>by cases h
 |L+1,n,e,D,h=>by
  obtain⟨G,l,p⟩:=gY h;obtain⟨n,rfl⟩: ∃j,n=j+1:=⟨n-1,O⟩
  have q:e.bm.length<=2:=by have:=pe e.kind;omega
  unfold lI;refine ab.eq (ab.aA (λz=>(⟨z.1,z.2.1⟩:ay)=(if e.kind=2 then f e.index else⟨[],0⟩)/\(⟨z.2.2.1,z.2.2.2⟩:b0)=(if e.kind=3 then pS f e.read else⟨[],[]⟩)) (λj k=>?_) λz r=>?_)
  ·refine aQ (λa=>?_) λa=>aQ (λc=>?_) λc=>?_
   ·exact ag (i _ (H1 l a).1) (k _ ⟨by rw[a1 a],by rw[a6 O]⟩)
   ·exact ag (Jt O (rr l c).1 i) (k _ ⟨by rw[a6 a],by rw[a1 c]⟩)
   exact k _ ⟨by rw[a6 a],by rw[a6 c]⟩
  obtain⟨s,w,y,A⟩:=z;obtain⟨m,o⟩:=r;dsimp only at m o⊢;refine oz (K:=λB=>some (⟨e.kind,e.num,(⟨s,w⟩:ay),(⟨y,A⟩:b0),B⟩:Expr)) (λx C=>JX i L n x O (p x C)) O O (ab.some ?_);rw[m,o];rfl
theorem JV(i:6000<=n){s:Stmt}(c:eo s d=true)(a: ∀x,cQ x=true->F x=some (f x)):pb n s F=some (iq f s):=by
 obtain⟨e,h,_⟩:=kv c;obtain⟨n,rfl⟩: ∃j,n=j+1:=⟨n-1,O⟩
 unfold pb;rw[Jt O e a,JX a 5 n s.value O h];rfl
theorem Gu{k:Type}{f:k->k}: ∀{l:List k},(∀x∈l,f x=x)->l.map f=l
 | [],_=>rfl
 |x::l,h=>by rw[List.map_cons,h x eR,Gu λy a=>h y (ev _ a)]
theorem L0{a:b0}(c:fN a d=true)(e: ∀x,cQ x=true->f x=x):pS f a=a:=by obtain⟨k,l,h⟩:=mN c;unfold pS;rw[Gu λx i=>e x (h x i)]
theorem NG{d:Int}{f:ay->ay}(l: ∀x,cQ x=true->f x=x): ∀{L:Nat} {e:Expr},dA L e d=true->p6 f L e=e
 |0,_,_=>rfl
 |L+1,e,h=>by
  obtain⟨o,i,m⟩:=gY h;obtain⟨kind,num,index,read,n⟩:=e;unfold p6;dsimp only at o i m⊢;rw[Gu λx p=>NG l (m x p)];by_cases c:kind=2
  ·have a:=H1 i c;dsimp only at a;rw[a1 c,a6 O,l _ a.1,sT a.2]
  by_cases k:kind=3
  ·have a:=rr i k;dsimp only at a;rw[a6 c,a1 k,L0 a.1 l,sS a.2]
  have a:=wQ i c k;dsimp only at a;rw[a6 c,a6 k,sS a.1,sT a.2]
theorem Zt(a: ∀x,cQ x=true->f x=x){s:Stmt}(c:eo s d=true):iq f s=s:=by obtain⟨e,h,_⟩:=kv c;unfold iq;rw[L0 e a,NG a h]
def kg(l:Loop):Prop:=(l.bf.length<=2/\ ∀x∈l.bf,cQ x=true)/\l.aH.length<=2/\ ∀x∈l.aH,cQ x=true
theorem aau(h:Fit o): ∀l∈o,kg l:=λl a=>by
 obtain⟨i,c⟩:=j9.1 a
 have:=h.2 i l c;exact⟨(pP this.1).2,(pP this.2).2⟩
theorem hX(h:en r x=true):x.nest.length<=4/\ ∀l∈x.nest,kg l:=by have:=(rV (gh h).1).1;exact⟨this.1,aau this⟩
theorem Ou{a:ay}(h:cQ a=true):dm 4 a:=by have:=(fK h).1;unfold dm;omega
theorem A3{l:List ay}(e:l.length<=2)(c: ∀x∈l,cQ x=true):eM 4 l:=⟨O,λa d=>Ou (c a d)⟩
theorem Ot{d:Int}: ∀{L:Nat} {e:Expr},dA L e d=true->hR 4 L e
 |0,_,h=>by cases h
 |L+1,e,h=>by
  obtain⟨m,a,n⟩:=gY h
  have:=pe e.kind;refine⟨O,?_,?_,λk m=>Ot (n k m)⟩
  ·by_cases c:e.kind=2
   ·exact Ou (H1 a c).1
   by_cases i:e.kind=3
   ·rw[sS (rr a i).2];unfold dm;simp
   rw[sS (wQ a c i).1];unfold dm;simp
  by_cases i:e.kind=3
  ·have:=mN (rr a i).1;exact A3 this.2.1 this.2.2
  by_cases c:e.kind=2
  ·rw[sT (H1 a c).2];exact⟨aX,λx l=>by cases l⟩
  rw[sT (wQ a c i).2];exact⟨aX,λx l=>by cases l⟩
theorem O0{s:Stmt}(a:eo s d=true):iv 4 s:=by
 obtain⟨c,e,_⟩:=kv a
 have:=mN c;exact⟨A3 this.2.1 this.2.2,Ot e⟩
theorem tC(h:en r x=true):fv 4 x:=by obtain⟨d,a⟩:=hX h;obtain⟨_,e,i,_⟩:=gh h;exact⟨⟨d,λl c=>⟨A3 (a l c).1.1 (a l c).1.2,A3 (a l c).2.1 (a l c).2.2⟩⟩,e.2,λs k=>O0 (i s k)⟩
theorem Oq{l:List cg}(a:l.length<=4)(c:ku l):rl 4 l:=⟨a,λx d=>by have:=c x d;simp only[j4,Bool.and_eq_true,decide_eq_true_eq] at this;omega⟩
theorem kN(h:b2 p=true):c5 4 p:=by obtain⟨a,c,d,e,_⟩:=ey h;exact⟨Oq a c,d,λx i=>tC (e x i)⟩
theorem Ar{B:Nat}{l:List ay}(h:l.length<=B)(c: ∀x∈l,dm B (f x)):eM B (l.map f):=⟨by rw[c6];exact h,λa d=>by obtain⟨x,e,rfl⟩:=eK.1 d;exact c x e⟩
theorem Of{d:Int}{f:ay->ay}(c: ∀x,cQ x=true->dm 4 (f x)): ∀{L:Nat} {e:Expr},dA L e d=true->hR 4 L (p6 f L e)
 |0,_,h=>by cases h
 |L+1,e,h=>by
  obtain⟨m,n,o⟩:=gY h
  have:=pe e.kind;unfold p6 hR;refine⟨by dsimp only;rw[c6];omega,?_,?_,λk m=>?_⟩
  ·dsimp only;by_cases i:e.kind=2
   ·rw[a1 i];exact c _ (H1 n i).1
   rw[a6 i];unfold dm;simp
  ·dsimp only;by_cases l:e.kind=3
   ·rw[a1 l]
    have:=mN (rr n l).1;exact Ar O λx a=>c x (this.2.2 x a)
   rw[a6 l];exact⟨aX,λx a=>by cases a⟩
  obtain⟨x,a,rfl⟩:=eK.1 m;exact Of c (o x a)
theorem A2(a: ∀x,cQ x=true->dm 4 (f x)){s:Stmt}(c:eo s d=true):iv 4 (iq f s):=by
 obtain⟨e,h,_⟩:=kv c
 have:=mN e;exact⟨Ar O λx i=>a x (this.2.2 x i),Of a h⟩
theorem wD(c: ∀x,cQ x=true->dm 4 (f x))(h:kg l):eM 4 (d7 f l).bf/\eM 4 (d7 f l).aH:=
 ⟨Ar (by have:=h.1.1;omega) λx a=>c x (h.1.2 x a),Ar (by have:=h.2.1;omega) λx a=>c x (h.2.2 x a)⟩
theorem LR(n:Nat){a:ay}(h:a.aT.length<=1000):lu n a=some a:=by unfold lu jy;rw[a1 O];rfl
theorem zm(n:Nat): ∀x,cQ x=true->lu n x=some x:=λx a=>LR n (by have:=(fK a).1;omega)
theorem KR(a:5000<=n){l:List ay}(h:l.length<=2)(c: ∀x∈l,cQ x=true):qn n l=some l:=by unfold qn;refine ab.eq (oz (g:=λx=>x) (K:=λd=>some d) (λx e=>zm n x (c x e)) O a (ab.some ?_));simp
theorem KQ(d:5000<=n)(p:nest.length<=4)(a: ∀l∈nest,kg l):sG n nest=some nest:=by unfold sG;refine ab.eq ?_;refine we (β:=Loop) (l:=nest) (n:=n) (F:=λe k=>Option.bind (qn n e.bf) λh=>Option.bind (qn n e.aH) λi=>k (⟨h,i⟩:Loop)) (g:=λx=>x) (s:=0) (pre:=[]) (K:=λm=>some m) ?_ O aX O d (ab.some aX);exact λx c k o=>ag (KR d (a x c).1.1 (a x c).1.2) (ag (KR d (a x c).2.1 (a x c).2.2) o)
theorem P8(c:6000<=n){s:Stmt}(a:eo s d=true):yO n s=some s:=by unfold yO;rw[JV c a (F:=λe=>lu n e) (f:=λx=>x) (zm n),Zt (λ_ _=>rfl) a];rfl
theorem KP(a:6000<=n)(h:en r x=true):qH n x=some x:=by obtain⟨c,d⟩:=hX h;obtain⟨_,l,e,_⟩:=gh h;unfold qH;refine ab.eq (ag (KQ O c d) (oz (g:=λx=>x) (K:=λi=>some (⟨x.nest,i⟩:Part)) (λs k=>P8 a (e s k)) O O (ab.some ?_)));simp
theorem qJ(q:6000<=n)(h:b2 p=true):nV n p=some p:=by
 obtain⟨r,w,C,y,_⟩:=ey h;unfold nV;refine ab.eq (we (F:=λo k=>Option.bind (jy o.bU) λz=>k (⟨o.name,z⟩:cg)) (g:=λx=>x) (s:=0) (pre:=[]) (K:=λA=>bo (λa ((c,d):(List Part)×Int)=>
    bif decide (d<(p.parts.length:Int)) then(
     Option.bind (au p.parts d) λe=>
     Option.bind (qH n e) λi=>
     Option.bind (app c [i]) λl=>
     a (l,wr (d+1))
    ) else(
     some (⟨A,c⟩:Prog)
    )
   ) n ([],0)) (λx m k B=>ag (x:=x.bU) ?_ B) O aX O O ?_)
 ·have:=(Oq r w).2 x m;unfold jy;rw[a1 O]
 refine oz (g:=λx=>x) (K:=λc=>some (⟨_,c⟩:Prog)) (λx m=>KP q (y x m)) O O (ab.some ?_);simp
theorem oA{k:Type}{a b:List k}(h:b.length=a.length):jX a b=some ():=by unfold jX;rw[a1 h]
theorem IZ(p:5000<=n)(w:kg l)(q: ∀x,cQ x=true->F x=some (f x)):sp n l F=some (d7 f l):=by
 obtain⟨⟨aJ,a2⟩,B,A⟩:=w;unfold sp;refine ab.eq (ab.loop (λz:Loop×Int=>(z.2=0/\z.1=l)\/(z.2=1/\z.1=⟨l.bf.map f,l.aH⟩)\/(z.2=2/\z.1=d7 f l)) (λz=>3-z.2.toNat) ?_ n _ (.inl ⟨rfl,rfl⟩) Z);rintro a ⟨x,i⟩ r c;dsimp only at r c⊢;rcases r with ⟨rfl,rfl⟩|⟨rfl,rfl⟩|⟨rfl,rfl⟩
 ·refine ag (oA rfl) (ag (oA rfl) (aQ (λ_=>aQ (λ_=>?_) λh=>(h rfl).elim) λh=>bA h O));refine yz (F:=λx k=>Option.bind (F x) k) (W:=λ_ o=>o) (m:=λ_=>(x.bf.length:Int)) (g:=f) (s:=0) (K:=λy=>a ((⟨y,x.aH⟩:Loop),wr (0+1))) (λ_ _ _ h=>h) (λ_ _=>rfl) O (λx d k e=>ag (q x (a2 x d)) e) O p ?_;rw[be O];exact c _ (.inr (.inl ⟨Z,aX⟩)) Z
 ·refine ag (oA aX) (ag (oA rfl) (aQ (λ_=>aQ (λh=>bA h O) λ_=>aQ (λ_=>?_) λh=>(h rfl).elim) λh=>bA h O));refine yz (F:=λx k=>Option.bind (F x) k) (W:=λ_ o=>o) (m:=λ_=>(l.aH.length:Int)) (g:=f) (s:=0) (K:=λy=>a ((⟨l.bf.map f,y⟩:Loop),wr (1+1))) (λ_ _ _ h=>h) (λ_ _=>rfl) O (λx d k e=>ag (q x (A x d)) e) O p ?_;rw[be O];exact c _ (.inr (.inr ⟨Z,by simp[d7]⟩)) Z
 refine ag (oA (by simp[d7])) (ag (oA (by simp[d7])) (aQ (λh=>bA h O) λ_=>ab.some rfl))
def pY(k:Nat)(g f:ay->ay)(x:Part)(l:Loop):Part:=⟨x.nest.take k++d7 g l::(x.nest.drop (k+1)).map (d7 f),x.body.map (iq f)⟩
theorem xV(I:6000<=n){body:List Stmt}{s:Nat}(N:s<=nest.length)(P:nest.length<=4)(L: ∀l∈nest.drop s,kg l)(S:body.length<=4)(Q: ∀s∈body,eo s d=true)(G: ∀x,cQ x=true->F x=some (f x)):
  oU n ⟨nest,body⟩ (s:Int) F=some ⟨nest.take s++(nest.drop s).map (d7 f),body.map (iq f)⟩:=by
 have A: ∀(a:List Loop),ab (bo (λc ((y,j):(List Stmt)×Int)=>
    Option.bind (jX body y) λT=>
    bif decide (j<(body.length:Int)) then(
     Option.bind (au y j) λR=>
     Option.bind (pb n R F) λU=>
     Option.bind (b' y j U) λX=>
     c (X,wr (j+1))
    ) else(
     some (⟨a,y⟩:Part)
    )
   ) n (body,0)) (λr=>r=⟨a,body.map (iq f)⟩):=λa=>
  yz (F:=λx k=>Option.bind (pb n x F) k) (W:=λy o=>Option.bind (jX body y) λ_=>o) (m:=λ_=>(body.length:Int)) (g:=iq f) (s:=0) (K:=λy=>some (⟨a,y⟩:Part)) (λy o h Y=>ag (oA h) Y) (λ_ _=>rfl) O (λx p k b=>ag (JV I (Q x p) G) b) O O (ab.some aX)
 unfold oU;refine ab.eq ?_
 -- the loops ahead stay: only those behind are changed
 refine ab.loop (λz:List Loop×Int=> ∃i:Nat,z.2=i/\s<=i/\i<=nest.length/\z.1=nest.take s++((nest.drop s).take (i-s)).map (d7 f)++nest.drop i) (λz=>nest.length-z.2.toNat) ?_ n _ ⟨s,rfl,O,O,aX⟩ Z;rintro B ⟨x,z⟩ ⟨i,H,t,V,p⟩ u;dsimp only at H p⊢;subst H;have q:(nest.take s++((nest.drop s).take (i-s)).map (d7 f)).length=i:=by rw[dB,c6,cJ,cJ,e6];omega
 have C:x.length=nest.length:=by rw[p,dB,q,e6];omega
 refine ag (oA C) (aQ (λv=>?_) λE=>?_)
 ·obtain⟨e,w⟩: ∃e,nest[i]? =some e:=⟨_,bs (O:i<nest.length)⟩
  have D:x[i]? =some e:=by
   rw[p,gU O,q,j',fP];exact w
  have M:e∈nest.drop s:=j9.2 ⟨i-s,by rw[fP,show s+(i-s)=i by omega];exact w⟩;refine ag (bk D) (ag (IZ O (L _ M) G) (ag (dH O _) ?_));rw[be O];refine u _ ⟨i+1,Z,O,O,?_⟩ Z;dsimp only;rw[p,cY,mF _ _ O,q,j',jU w,vv,show i+1-s=(i-s)+1 by omega,ei,fP,show s+(i-s)=i by omega,w];simp
 have:i=nest.length:=O
 subst this;rw[p,jd (l:=nest.drop s) (by rw[e6];omega),ny,kG];exact A _
theorem FV(c:5000<=n){l:List ay}(k:l.length<=2)(d: ∀x∈l,cQ x=true)(e: ∀x,cQ x=true->js n x a v b=some (f x)):vC n l a v b=some (l.map f):=by unfold vC;exact ab.eq (oz (K:=λh=>some h) (λx i=>e x (d x i)) O c (ab.some rfl))
theorem Xc(d:5000<=n)(c:kg l)(e: ∀x,cQ x=true->js n x a v b=some (f x)):vW n l a v b=some (d7 f l):=by unfold vW;rw[FV d c.1.1 c.1.2 e,FV d c.2.1 c.2.2 e];rfl
theorem Ko(e:5000<=n){a:b0}(h:fN a d=true)(i: ∀x,cQ x=true->js n x c v b=some (f x)):u5 n a c v b=some (pS f a):=by have:=mN h;unfold u5;rw[FV e this.2.1 this.2.2 i];rfl
theorem L5{d a v:Int}{b:ay}{f:ay->ay}(l: ∀n,5000<=n-> ∀x,cQ x=true->js n x a v b=some (f x)): ∀(L n:Nat) (e:Expr),5000+L<=n->dA L e d=true->qU (n+1) e a v b=some (p6 f L e)
 |0,_,_,_,h=>by cases h
 |L+1,n,e,F,h=>by
  obtain⟨G,m,q⟩:=gY h;obtain⟨n,rfl⟩: ∃j,n=j+1:=⟨n-1,O⟩
  have r:e.bm.length<=2:=by have:=pe e.kind;omega
  unfold qU;refine ab.eq (ab.aA (λz=>(⟨z.1,z.2⟩:ay)=(if e.kind=2 then f e.index else⟨[],0⟩)) (λj c=>?_) λz o=>ab.aA (λy=>(⟨y.1,y.2⟩:b0)=(if e.kind=3 then pS f e.read else⟨[],[]⟩)) (λj c=>?_) λy p=>?_)
  ·exact aQ (λi=>ag (l _ O _ (H1 m i).1) (c _ (by rw[a1 i]))) λi=>c _ (by rw[a6 i])
  ·exact aQ (λk=>ag (Ko O (rr m k).1 (l _ O)) (c _ (by rw[a1 k]))) λk=>c _ (by rw[a6 k])
  obtain⟨s,w⟩:=z;obtain⟨A,B⟩:=y;dsimp only at o p⊢;refine oz (K:=λC=>some (⟨e.kind,e.num,(⟨s,w⟩:ay),(⟨A,B⟩:b0),C⟩:Expr)) (λx D=>L5 l L n x O (q x D)) O O (ab.some ?_);rw[o,p];rfl
theorem Xe(w:6000<=n){l:List Stmt}(e:l.length<=4)(c: ∀s∈l,eo s d=true)(h: ∀n,5000<=n-> ∀x,cQ x=true->js n x a v b=some (f x)):z1 n l a v b=some (l.map (iq f)):=by
 obtain⟨n,rfl⟩: ∃j,n=j+1:=⟨n-1,O⟩
 unfold z1;refine ab.eq ?_;refine we (β:=Stmt) (l:=l) (n:=n+1) (F:=λi k=>Option.bind (u5 (n+1) i.write a v b) λm=>Option.bind (qU (n+1) i.value a v b) λo=>k (⟨m,o⟩:Stmt)) (g:=iq f) (s:=0) (pre:=[]) (K:=λp=>some p) (λx q k r=>?_) O aX O O (ab.some aX);obtain⟨e,c,_⟩:=kv (c x q);exact ag (Ko O e (h _ O)) (ag (L5 h 5 n x.value O c) r)
theorem Dx(c:6000<=n){s:Nat}(r:s+1<=x.nest.length)(w:x.nest.length<=4)(e: ∀l∈x.nest,kg l)(h:x.body.length<=4)(i: ∀s∈x.body,eo s d=true){way:Int}(a: ∀n,5000<=n-> ∀x,cQ x=true->js n x way v b=some (f x)):
  sE n x (s:Int) way v b=some ⟨x.nest.take (s+1)++(x.nest.drop (s+1)).map (d7 f),x.body.map (iq f)⟩:=by unfold sE;rw[be O];refine ab.eq (ag (gN O O O) ?_);rw[show((s:Int)+1).toNat=s+1 by omega,show(0:Int).toNat=0 from rfl,nx];refine ag (x:=x.nest.take (s+1)) (cX bQ) (ag (Xe c h i a) ?_);exact we (F:=λm k=>Option.bind (vW n m way v b) k) (g:=d7 f) (s:=s+1) (pre:=x.nest.take (s+1)) (K:=λo=>some (⟨o,x.body.map (iq f)⟩:Part)) (λl p k q=>ag (Xc O (e l p) (a _ O)) q) O bQ O O (ab.some rfl)
theorem LV(n:Nat){a:ay}(h:dm 1000 a):xR n a=some a:=by unfold xR;rw[na _ h];rfl
theorem Eg(a:5000<=n){l:List ay}(h:eM 1000 l):ug n l=some l:=by unfold ug;exact ab.eq (qN (K:=λc=>some c) (λx d=>LV n (h.2 x d)) h.1 a (ab.some rfl))
theorem LW(c:5000<=n){a:b0}(h:eM 1000 a.bC):xS n a=some a:=by unfold xS;rw[Eg c h];rfl
theorem KT: ∀(L n:Nat) (e:Expr),5000+L<=n->hR 1000 L e->pt (n+1) e=some e
 |0,_,_,_,h=>h.elim
 |L+1,n,e,m,h=>by
  obtain⟨a,c,d,i⟩:=h;obtain⟨n,rfl⟩: ∃j,n=j+1:=⟨n-1,O⟩
  unfold pt Ir;rw[LV _ c,LW O d];refine ab.eq (ag rfl (ag rfl (ag (x:=e.bm) ?_ (ab.some (by cases e;rfl)))));exact ab.eq (qN (f:=pt (n+1)) (K:=λk=>some k) (λx l=>KT L n x O (i x l)) a O (ab.some rfl))
theorem VP(a:6000<=n){s:Stmt}(h:iv 1000 s):CL n s=some s:=by
 obtain⟨n,rfl⟩: ∃j,n=j+1:=⟨n-1,O⟩
 unfold CL;rw[LW O h.1,KT 5 n s.value O h.2];rfl
theorem VQ(e:6000<=n)(h:fv 1000 x):CM n x=some x:=by
 obtain⟨⟨i,d⟩,k,m⟩:=h;have o:B4 n x.nest=some x.nest:=by
  unfold B4;refine ab.eq (qN (K:=λc=>some c) (λl a=>?_) i O (ab.some rfl));unfold Jf;rw[Eg O (d l a).1,Eg O (d l a).2];rfl
 have p:B2 n x.body=some x.body:=by
  unfold B2;exact ab.eq (qN (K:=λc=>some c) (λl a=>VP e (m l a)) k O (ab.some rfl))
 unfold CM;rw[o,p];rfl
theorem kx(d:6000<=n)(h:c5 1000 p):jO n p=some p:=by
 obtain⟨⟨e,i⟩,k,m⟩:=h;have o:B0 n p.aS=some p.aS:=by
  unfold B0;refine ab.eq (qN (K:=λa=>some a) (λl c=>?_) e O (ab.some rfl));unfold I5;rw[na _ (i l c)];rfl
 have q:B3 n p.parts=some p.parts:=by
  unfold B3;exact ab.eq (qN (K:=λa=>some a) (λl c=>VQ d (m l c)) k O (ab.some rfl))
 unfold jO;rw[o,q];rfl
theorem vB{k:Type}{f:k->k->Option Bool}{l:List k}(o: ∀x∈l,f x x=some true)(y:l.length<n)(z:l.length<=1000000):
  (bif !decide ((l.length:Int)=(l.length:Int)) then(some false) else(bo (λa (c:Int)=>bif decide (c<(l.length:Int)) then(Option.bind (au l c) λp=>Option.bind (au l c) λq=>Option.bind (f p q) λr=>bif !r then(some false) else(a (wr (c+1)))) else(some true)) n 0))=some true:=by
 refine ab.eq (eP (λh=>(h rfl).elim) λ_=>?_);refine ab.loop (λx:Int=> ∃i:Nat,x=i/\i<=l.length) (λx=>l.length-x.toNat) ?_ n 0 ⟨0,rfl,O⟩ O;rintro d x ⟨i,rfl,A⟩ s;refine aQ (λw=>?_) λ_=>ab.some rfl;obtain⟨e,m⟩: ∃e,l[i]? =some e:=⟨_,bs (O:i<l.length)⟩
 refine ag (bk m) (ag (bk m) (ag (o e (bF m)) (b3 ?_)));rw[be O];exact s _ ⟨i+1,O,O⟩ O
theorem Lk{a:List Int}(m:a.length<n)(o:a.length<=1000000):su n a a=some true:=by
 unfold su;refine ab.eq (eP (λh=>(h rfl).elim) λ_=>?_);refine ab.loop (λx:Int=> ∃i:Nat,x=i/\i<=a.length) (λx=>a.length-x.toNat) ?_ n 0 ⟨0,rfl,O⟩ O;rintro c x ⟨i,rfl,p⟩ k;refine aQ (λl=>?_) λ_=>ab.some rfl;obtain⟨e,d⟩: ∃e,a[i]? =some e:=⟨_,bs (O:i<a.length)⟩
 refine ag (bk d) (ag (bk d) (eP (λh=>(h rfl).elim) λ_=>?_));rw[be O];exact k _ ⟨i+1,O,O⟩ O
theorem Nv(e:5000<=n){a:ay}(h:dm 1000 a):jR n a a=some true:=by unfold dm at h;unfold jR;refine ab.eq (ab.aA (λz=>z=true) (λj c=>ag (Lk O O) (bS (c _ (bz rfl)))) λz d=>ab.some d)
theorem FA(a:5000<=n){l:List ay}(h:eM 1000 l):p9 n l l (λc d=>jR n c d)=some true:=by have:=h.1;unfold p9;exact vB (λx e=>Nv a (h.2 x e)) O O
theorem Nw(c:5000<=n){a:b0}(h:eM 1000 a.bC):xZ n a a=some true:=by unfold xZ;refine ab.eq (ab.aA (λz=>z=true) (λj d=>?_) λz e=>ab.some e);exact aQ (λ_=>ag (FA c h) (d _ rfl)) λh=>(h rfl).elim
theorem Mv: ∀(L n:Nat) (e:Expr),5000+L<=n->hR 1000 L e->qq (n+1) e e=some true
 |0,_,_,_,h=>h.elim
 |L+1,n,e,m,h=>by
  obtain⟨o,a,c,d⟩:=h;obtain⟨n,rfl⟩: ∃j,n=j+1:=⟨n-1,O⟩
  unfold qq;refine ab.eq (ab.aA (λz=>z=true) (λj i=>?_) λz k=>ab.some k);refine aQ (λ_=>aQ (λ_=>ag (Nv O a) (bS (ag (Nw O c) (bS (ag (x:=true) ?_ (i _ rfl)))))) λh=>(h rfl).elim) λh=>(h rfl).elim;unfold Iw;exact vB (λx l=>Mv L n x O (d x l)) O O
theorem XE(d:6000<=n){s:Stmt}(h:iv 1000 s):yu n s s=some true:=by
 obtain⟨n,rfl⟩: ∃j,n=j+1:=⟨n-1,O⟩
 unfold yu;refine ab.eq (ab.aA (λz=>z=true) (λj a=>?_) λz c=>ab.some c);exact ag (Nw O h.1) (bS (ag (Mv 5 n s.value O h.2) (a _ rfl)))
theorem Xx(a:5000<=n)(h:kb 1000 o):sB n o o=some true:=by
 have:=h.1;unfold sB BX;rw[vB (λl c=>?_) O O]
 ·rfl
 unfold uS;refine ab.eq (ab.aA (λz=>z=true) (λj d=>?_) λz e=>ab.some e);exact ag (FA a (h.2 l c).1) (bS (ag (FA a (h.2 l c).2) (d _ rfl)))
theorem Xu(a:6000<=n)(h:fv 1000 x):xM n x x=some true:=by have:=h.2.1;unfold xM;refine ab.eq (ab.aA (λz=>z=true) (λj c=>?_) λz d=>ab.some d);refine ag (Xx O h.1) (bS (ag (x:=true) ?_ (c _ rfl)));unfold Iu;exact vB (λs e=>XE a (h.2.2 s e)) O O
theorem MG(e:6000<=n)(h:c5 1000 p):qf n p p=some true:=by
 obtain⟨⟨l,i⟩,m,k⟩:=h;unfold qf;refine ab.eq (ab.aA (λz=>z=true) (λj a=>?_) λz c=>ab.some c);refine ag (x:=true) ?_ (bS (ag (x:=true) ?_ (a _ rfl)))
 ·unfold Im;refine vB (λx d=>?_) O O;unfold xN;refine ab.eq (ab.aA (λz=>z=true) (λj a=>?_) λz c=>ab.some c)
  have:=i x d;exact aQ (λ_=>ag (Lk O O) (a _ rfl)) λh=>(h rfl).elim
 unfold Iv;exact vB (λx d=>Xu e (k x d)) O O
def cS(p:Prog)(c a:Int):Bool:=b2 p&&match au p.parts c with
 |some x=>decide (0<=a/\a<(x.nest.length:Int))
 |none=>false
theorem wV{k:Type}{l:List k}{i:Int}(h: ¬(0<=i/\i<(l.length:Int))):au l i=none:=by
 cases a:au l i with
 |none=>rfl
 |some x=>
  obtain⟨c,d⟩:=mu a
  have:=(bR.1 d).1;exact bA ⟨c,O⟩ h
theorem aaY{l:List R}{i:Int}{x:R}(h:au l i=some x): ∃k:Nat,i=k/\k<l.length/\l[k]? =some x:=by obtain⟨c,a⟩:=mu h;exact⟨i.toNat,O,(bR.1 a).1,a⟩
theorem qy(n:Nat)(h:p.parts.length<=1000)(a:Int):kO n p a=some (decide (0<=a/\a<(p.parts.length:Int))):=by unfold kO;rw[d4,be O];exact congrArg some (decide_eq_decide.2 O)
theorem wk(r:7000<=n)(l:c5 1000 p)(a c:Int)(s:c≠ -1):jY n p a c=some (if cS p a c=true then(p,true) else(⟨[],[]⟩,false)):=by
 unfold jY;refine ab.eq (ab.aA (λz=>z= !cS p a c) (λj k=>?_) λz m=>?_)
 ·refine ag (uh r l.sm) (ab.cond (λh=>?_) λh=>?_)
  ·refine k _ ?_;unfold cS;rw[show b2 p=false by simpa using h];rfl
  have o:b2 p=true:=by simpa using h
  refine ag (qy n l.2.1 a) ?_;by_cases e:0<=a/\a<(p.parts.length:Int)
  ·obtain⟨x,i,q⟩:=gm e.1 e.2;rw[bz e];refine b3 (eP (λ_=>ag (x:=cS p a c) ?_ (k _ rfl)) λh=>bA h s);unfold Ix;refine ab.eq (ab.aA (λz=>z=cS p a c) (λj k=>?_) λz m=>ab.some m);rw[qy n l.2.1 a,bz e];refine ag rfl (bS (ag i ?_))
   have:=(l.2.2 x (bF q)).1.1;rw[be O,d4];refine ag rfl (k _ ?_);unfold cS;rw[o,i];exact decide_eq_decide.2 O
  rw[bx e];refine bS (k _ ?_);unfold cS;rw[wV e,jg];rfl
 subst m;by_cases d:cS p a c=true
 ·rw[d];have o:b2 p=true:=by unfold cS at d;rw[oE] at d;exact d.1
  obtain⟨x,i⟩: ∃x,au p.parts a=some x:=by
   cases i:au p.parts a with
   |some x=>exact⟨x,rfl⟩
   |none=>unfold cS at d;rw[i,jg] at d;cases d
  exact b3 (ag (qJ O o) (ag i (ab.some rfl)))
 rw[show cS p a c=false by simpa using d];exact bS (ab.some rfl)
def hD(q:Prog):Prog×Bool:=if b2 q=true then(q,true) else(⟨[],[]⟩,false)
theorem qz(c:7000<=n)(d:c5 1000 p):lz n p=some (hD p):=by
 unfold lz hD;refine ab.eq (ag (uh c d.sm) (ab.cond (λh=>ab.some ?_) λh=>?_))
 ·rw[a6 (by simpa using h)]
 have a:b2 p=true:=by simpa using h
 rw[a1 a];exact ag (qJ O a) (ab.some rfl)
theorem mz(l:7000<=n)(m:c5 1000 p)(a c:Int):nn n p a c=some (cS p a c):=by
 unfold nn;refine ab.eq (ab.aA (λz=>z=cS p a c) (λj d=>?_) λz o=>ab.some o);refine ag (jP l m.sm) (ab.cond (λe=>?_) λe=>d _ (by unfold cS;rw[e];rfl));refine aQ (λi=>aQ (λk=>?_) λk=>?_) λi=>?_
 ·obtain⟨x,h,q⟩:=gm i k;refine aQ (λr=>ag h (d _ ?_)) λr=>d _ ?_
  ·unfold cS;rw[e,h];exact decide_eq_decide.2 O
  unfold cS;rw[e,h];exact(bx O).symm
 ·exact d _ (by unfold cS;rw[wV O,jg])
 exact d _ (by unfold cS;rw[wV O,jg])
theorem wq(e:7000<=n)(a:c5 1000 p)(k:i<p.parts.length)(l:fv 1000 y):jr n p (i:Int) 1 [y]=some (hD ⟨p.aS,p.parts.set i y⟩):=by
 have c:=a.2.1;have d:c5 1000 ⟨p.aS,p.parts.set i y⟩:=⟨a.1,by dsimp only;rw[eS];exact c,po a.2.2 l⟩
 unfold jr hD;refine ab.eq (ag (m' O a) (ag (gN O O O) ?_));rw[cY,show(0:Int).toNat=0 from rfl,nx];refine ag (x:=p.parts.take i) (cX bQ) (ag (x:=p.parts.take i++[y]) (cX bQ) ?_);rw[be O];refine ag (gN O O O) ?_;rw[cY,c4,show((i:Int)+1).toNat=i+1 by omega];refine ag (x:=p.parts.set i y) ?_ (ag (jP e d.sm) (ab.cond (λh=>ab.some ?_) λh=>?_))
 ·rw[cX bQ,List.set_eq_take_append_cons_drop,a1 k,ie];rfl
 ·rw[a6 (by simpa using h)]
 rw[a1 (by simpa using h)];exact ag (m' O d) (ab.some rfl)
def eU(a:ay)(k:Int)(b:ay):ay:=⟨List.zipWith (λx y=>x+k*y) a.aT b.aT,a.const+k*b.const⟩
def gP(k:Nat):ay:=⟨[0,0,0,0].set k 1,0⟩
def g'(k:Nat)(b x:ay):ay:=eU x (-(x.aT.getD k 0)) b
def fe(m:Int)(a:ay):Prop:=a.aT.length=4/\cI m a.const/\ ∀c∈a.aT,cI m c
theorem fe.mono{m b:Int}{a:ay}(h:fe m a)(e:m<=b):fe b a:=⟨h.1,⟨by have:=h.2.1.1;omega,by have:=h.2.1.2;omega⟩,λc d=>⟨by have:=(h.2.2 c d).1;omega,by have:=(h.2.2 c d).2;omega⟩⟩
theorem l8{l:List Int}(h:l.length=4): ∃a b c d,l=[a,b,c,d]:=by
 match l,h with
 | [a,b,c,d],_=>exact⟨a,b,c,d,rfl⟩
theorem nv{a:ay}(h:cQ a=true):fe 99 a:=by obtain⟨i,k,d⟩:=fK h;exact⟨i,k,λc e=>⟨by have:=(d c e).1;omega,by have:=(d c e).2;omega⟩⟩
theorem te(a:k<4):fe 6 (gP k):=by rcases(O:k=0\/k=1\/k=2\/k=3) with rfl|rfl|rfl|rfl<;>(unfold fe cI gP;simp)
theorem ke{k b:Int}(a:cI 1000 k)(c:cI 1000 b):cI 1000000 (k*b):=Ba O O a c
theorem yG{x:Int}(c:cI 1000 a)(d:cI 1000000 x):wr (a+wr x)=a+x:=by unfold cI at c d;rw[be (n:=x) O,be O]
theorem aaq(m:Nat)(a c d e ac k h i l n o:Int):rH (m+6) ⟨[a,c,d,e],ac⟩ k ⟨[h,i,l,n],o⟩=
  some ⟨[wr (a+wr (k*h)),wr (c+wr (k*i)),wr (d+wr (k*l)),wr (e+wr (k*n))],wr (ac+wr (k*o))⟩:=J
theorem zU(y:5000<=n){a:ay}(p:fe 1000 a)(q:fe 1000 b){k:Int}(c:cI 1000 k):rH n a k b=some (eU a k b):=by
 obtain⟨m,rfl⟩: ∃m,n=m+6:=⟨n-6,O⟩
 obtain⟨ac,a⟩:=a;obtain⟨z,b⟩:=b;obtain⟨h,i,d⟩:=p;obtain⟨l,o,e⟩:=q;dsimp only at h i d l o e;obtain⟨a0,aJ,a2,a3,rfl⟩:=l8 h;obtain⟨r,s,w,x,rfl⟩:=l8 l;rw[aaq,yG (d a0 aX) (ke c (e r aX)),yG (d aJ aX) (ke c (e s aX)),yG (d a2 aX) (ke c (e w aX)),yG (d a3 aX) (ke c (e x aX)),yG i (ke c o)];rfl
def nS(a:ay)(x:Int)(b:ay)(y:Int):ay:=⟨List.zipWith (λp q=>x*p+y*q) a.aT b.aT,x*a.const+y*b.const⟩
theorem aaP(m:Nat)(a c d e ac x h i k l n y:Int):hW (m+6) ⟨[a,c,d,e],ac⟩ x ⟨[h,i,k,l],n⟩ y=
  some ⟨[wr (wr (x*a)+wr (y*h)),wr (wr (x*c)+wr (y*i)),wr (wr (x*d)+wr (y*k)),wr (wr (x*e)+wr (y*l))],wr (wr (x*ac)+wr (y*n))⟩:=J
theorem yH{x:Int}(c:cI 1000000 a)(d:cI 1000000 x):wr (wr a+wr x)=a+x:=by unfold cI at c d;rw[be (n:=x) O,be (n:=a) O,be O]
theorem sR(A:5000<=n){a:ay}(p:fe 1000 a)(q:fe 1000 b){x y:Int}(c:cI 1000 x)(d:cI 1000 y):hW n a x b y=some (nS a x b y):=by
 obtain⟨m,rfl⟩: ∃m,n=m+6:=⟨n-6,O⟩
 obtain⟨ac,a⟩:=a;obtain⟨B,b⟩:=b;obtain⟨i,k,e⟩:=p;obtain⟨l,o,h⟩:=q;dsimp only at i k e l o h;obtain⟨a0,aJ,a2,a3,rfl⟩:=l8 i;obtain⟨r,s,w,z,rfl⟩:=l8 l;rw[aaP,yH (ke c (e a0 aX)) (ke d (h r aX)),yH (ke c (e aJ aX)) (ke d (h s aX)),yH (ke c (e a2 aX)) (ke d (h w aX)),yH (ke c (e a3 aX)) (ke d (h z aX)),yH (ke c k) (ke d o)];rfl
theorem FR(a b:ay)(k:Int):nS a 1 b k=eU a k b:=by unfold nS eU;simp only[Int.one_mul]
theorem Og(a b:ay)(k:Int)(c:a.aT.length=4)(d:b.aT.length=4):(eU a k b).aT.length=4:=by unfold eU;rw[vt];omega
def tU(a:ay)(k:Nat)(b:ay):ay:=eU ⟨a.aT.set k 0,a.const⟩ (a.aT.getD k 0) b
theorem M1{a:ay}(h:fe 1000 a)(k:Nat):fe 1000 ⟨a.aT.set k 0,a.const⟩:=⟨by dsimp only;rw[eS];exact h.1,h.2.1,po h.2.2 ⟨O,O⟩⟩
theorem Nn{a:ay}(h:fe 1000 a)(d:k<4):a.aT[k]? =some (a.aT.getD k 0)/\cI 1000 (a.aT.getD k 0):=by
 have c:k<a.aT.length:=by rw[h.1];exact d
 have e:=bs c;have i:a.aT.getD k 0=a.aT[k]:=by rw[eu,e];rfl
 rw[i];exact⟨e,h.2.2 _ (fx c)⟩
theorem Ek(e:5000<=n){a:ay}(c:fe 1000 a)(h:fe 1000 b)(d:k<4):tm n a (k:Int) b=some (tU a k b):=by
 obtain⟨i,l⟩:=Nn c d;have m:k<a.aT.length:=by rw[c.1];exact d
 unfold tm;rw[LR n (by have:=c.1;omega)];refine ab.eq (ag rfl (ag (bk i) (ag (dH O _) (ag (zU e (M1 c k) h l) (ab.some rfl)))))
theorem Kr(h:5000<=n){a:ay}(c:fe 1000 a)(i:fe 1000 b)(d:k<4):zc n a (k:Int) b=some (tU a k b):=by
 obtain⟨e,l⟩:=Nn c d;have m:k<a.aT.length:=by rw[c.1];exact d
 unfold zc;rw[na _ (by have:=c.1;omega)];refine ab.eq (ag rfl (ag (bk e) (ag (dH O _) (ag (bk e) (ag (sR h (M1 c k) i ⟨O,O⟩ l) (ab.some ?_))))));rw[FR];rfl
theorem zT(n:Nat)(a:k<4):nf n (k:Int) 1=some (gP k):=by rcases(O:k=0\/k=1\/k=2\/k=3) with rfl|rfl|rfl|rfl<;>rfl
theorem zJ(n:Nat)(a:k<4):lK n (k:Int)=some (gP k):=by rcases(O:k=0\/k=1\/k=2\/k=3) with rfl|rfl|rfl|rfl<;>rfl
def ns(k:Nat)(b:ay):ay:=eU (gP k) (-1) b
theorem F7{a:ay}(d:a.aT.length=4)(e:b.aT.length=4)(h:k<4)(c:b.aT.getD k 0=0):tU a k (ns k b)=g' k b a:=by
 obtain⟨a,ac⟩:=a;obtain⟨b,i⟩:=b;dsimp only at d e c;obtain⟨a0,aJ,a2,a3,rfl⟩:=l8 d;obtain⟨l,m,n,o,rfl⟩:=l8 e;rcases(O:k=0\/k=1\/k=2\/k=3) with rfl|rfl|rfl|rfl<;>
  (simp only[List.getD_cons_zero,List.getD_cons_succ] at c;subst c;simp[tU,ns,g',eU,gP,Int.mul_neg,Int.neg_mul])
def d':Prog×Bool:=(⟨[],[]⟩,false)
def uX(p:Prog)(a c:Int)(g f:ay->ay):Prog×Bool:=
 match au p.parts a with
 |some P=>match au P.nest c with
  |some l=>hD ⟨p.aS,p.parts.set a.toNat (pY c.toNat g f P l)⟩
  |none=>d'
 |none=>d'
theorem j2{b:Int}(h:cS p a b=true):b2 p=true/\ ∃(i k:Nat) (P:Part) (l:Loop),a=i/\b=k/\p.parts[i]? =some P/\P.nest[k]? =some l/\i<p.parts.length/\k<P.nest.length/\en p.aS P=true/\k<4:=by
 unfold cS at h;rw[oE] at h;obtain⟨m,h⟩:=h;refine⟨m,?_⟩;cases d:au p.parts a with
 |none=>rw[d] at h;cases h
 |some P=>
  rw[d] at h;obtain⟨i,rfl,o,n⟩:=aaY d;obtain⟨q,r⟩:=e4 h;obtain⟨l,s,e⟩:=gm q r;have c:=(ey m).2.2.2.1 P (bF n)
  have:=(hX c).1;exact⟨i,b.toNat,P,l,rfl,O,n,e,o,O,c,O⟩
theorem AE(c:en r P=true)(e:P.nest[k]? =some l){g:ay->ay}(m: ∀x,cQ x=true->dm 4 (g x))(h: ∀x,cQ x=true->dm 4 (f x)):fv 4 (pY k g f P l):=by
 obtain⟨q,i⟩:=hX c;obtain⟨_,n,o,_⟩:=gh c;have w:=(bR.1 e).1;refine⟨⟨by simp only[pY,List.length_append,List.length_cons,List.length_map,List.length_take,List.length_drop];omega,λy a=>?_⟩,by simp only[pY,List.length_map];exact n.2,λs p=>?_⟩
 ·rcases dZ.1 a with a|a
  ·exact((tC c).1.2 y (fR a))
  rcases dN.1 a with rfl|a
  ·exact wD m (i l (bF e))
  obtain⟨z,d,rfl⟩:=eK.1 a;exact wD h (i z (eV d))
 obtain⟨z,d,rfl⟩:=eK.1 p;exact A2 h (o z d)
theorem wS(a:c5 1000 p)(i:Nat)(c:fv 4 y):c5 1000 ⟨p.aS,p.parts.set i y⟩:=⟨a.1,by dsimp only;rw[eS];exact a.2.1,po a.2.2 (c.mono O)⟩
theorem wE{k:Int}(a:b.aT.length=4): ∀x,cQ x=true->dm 4 (eU x k b):=λx c=>by have:=Og x b k (fK c).1 a;unfold dm;omega
theorem A8(a:b.aT.length=4): ∀x,cQ x=true->dm 4 (g' k b x):=λx c=>wE a x c
theorem F5(s:k<4)(h:fe 6 b):fe 1000 (ns k b):=by
 obtain⟨b,w⟩:=b;obtain⟨d,e,a⟩:=h;dsimp only at d e a;obtain⟨i,l,m,n,rfl⟩:=l8 d;have o:=a i aX;have p:=a l aX;have q:=a m aX;have r:=a n aX;unfold cI at e o p q r;rcases(O:k=0\/k=1\/k=2\/k=3) with rfl|rfl|rfl|rfl<;>
  (refine⟨rfl,?_,λc x=>?_⟩<;>unfold cI<;>simp[ns,gP,eU] at* <;>omega)
theorem Zu(a:k<4)(c:fe 6 b)(e:b.aT.getD k 0=0): ∀n,5000<=n-> ∀x,cQ x=true->js n x 1 (k:Int) (ns k b)=some (g' k b x):=λn h x d=>by unfold js;rw[Kr h ((nv d).mono O) (F5 a c) a,F7 (nv d).1 c.1 a e];rfl
theorem take_set{l r:List R}{x y:R}(h:l[k]? =some x):(l.take (k+1)++r).set k y=l.take k++y::r:=by have a:=(bR.1 h).1;rw[ei,h,ie,mF _ _ bQ,cJ,vx O,j'];rfl
theorem NB(C:6000<=n)(z:en r P=true)(m:P.nest[k]? =some l)(o:k<4)(p:fe 6 b)(D:b.aT.getD k 0=0):
  vV n P (k:Int) b=some (pY k (λx=>eU x 1 b) (g' k b) P l):=by
 obtain⟨F,A⟩:=hX z;obtain⟨_,G,H,_⟩:=gh z;have I:=(bR.1 m).1;have c:=A l (bF m);have B: ∀x,cQ x=true->hW n x 1 b 1=some (eU x 1 b):=λx e=>by
  rw[sR O ((nv e).mono O) (p.mono O) ⟨O,O⟩ ⟨O,O⟩,FR]
 unfold vV;simp only[bk m,Option.bind_some];refine ab.eq (ag (zJ n o) (ag (sR O ((te o).mono O) (p.mono O) ⟨O,O⟩ ⟨O,O⟩) ?_));rw[FR];refine ag (Dx C O F A G.2 H (Zu o p D)) ?_;refine oz (n:=n) (l:=l.bf) (f:=λx=>hW n x 1 b 1) (K:=λL=>bo (λa ((d,h):(List ay)×Int)=>
    bif decide (h<(l.aH.length:Int)) then(
     Option.bind (au l.aH h) λq=>
     Option.bind (hW n q 1 b 1) λs=>
     Option.bind (app d [s]) λw=>
     a (w,wr (h+1))
    ) else(
     Option.bind (au (P.nest.take (k+1)++(P.nest.drop (k+1)).map (d7 (g' k b))) (k:Int)) λy=>
     Option.bind (b' (P.nest.take (k+1)++(P.nest.drop (k+1)).map (d7 (g' k b))) (k:Int) (⟨L,d⟩:Loop)) λi=>
     some (⟨i,P.body.map (iq (g' k b))⟩:Part)
    )
   ) n ([],0)) (λx e=>B x (c.1.2 x e)) (by have:=c.1.1;omega) O ?_
 refine oz (n:=n) (l:=l.aH) (f:=λx=>hW n x 1 b 1) (g:=λx=>eU x 1 b) (K:=λd=>Option.bind (au (P.nest.take (k+1)++(P.nest.drop (k+1)).map (d7 (g' k b))) (k:Int)) λy=>Option.bind (b' (P.nest.take (k+1)++(P.nest.drop (k+1)).map (d7 (g' k b))) (k:Int) (⟨l.bf.map λx=>eU x 1 b,d⟩:Loop)) λi=>some (⟨i,P.body.map (iq (g' k b))⟩:Part)) (λx e=>B x (c.2.2 x e)) (by have:=c.2.1;omega) O ?_;have e:(P.nest.take (k+1)++(P.nest.drop (k+1)).map (d7 (g' k b)))[k]? =some l:=by
  rw[gJ bQ,fy,a1 O];exact m
 refine ag (bk e) (ag (dH bQ _) (ab.some ?_));rw[cY,take_set m];rfl
def jE(s:Int):ay:=⟨[0,0,0,0],s⟩
theorem A7(h: -6<=s/\s<=6):fe 6 (jE s):=by unfold jE fe cI;simp;omega
theorem OO(s:Int)(a:k<4):(jE s).aT.getD k 0=0:=by rcases(O:k=0\/k=1\/k=2\/k=3) with rfl|rfl|rfl|rfl<;>rfl
def ve(p:Prog)(d a c:Int):Prog×Bool:=
 if cS p d a=true/\(-6<=c/\c<=6) then uX p d a (λx=>eU x 1 (jE c)) (g' a.toNat (jE c)) else d'
theorem Lv(n:Nat)(s:Int):wi n s=some (decide (-6<=s/\s<=6)):=by unfold wi;rw[d4];rfl
theorem qL{b:Int}(h:a<0):cS p b a=false:=by
 cases c:cS p b a with
 |false=>rfl
 |true=>obtain⟨_,i,k,P,l,_,d,_⟩:=j2 c;omega
theorem zo(a:p.parts[i]? =some P)(c:P.nest[k]? =some l)(g f:ay->ay):uX p (i:Int) (k:Int) g f=hD ⟨p.aS,p.parts.set i (pY k g f P l)⟩:=by unfold uX;rw[bk a];dsimp only;rw[bk c];rfl
theorem afn(r:7000<=n)(o:c5 1000 p)(a c d:Int):Da n p a c d=some (ve p a c d):=by
 unfold Da ve;refine ab.eq (ag (kx O o) (ab.aA (λz=>z= !(cS p a c&&decide (-6<=d/\d<=6))) (λj s=>?_) λz y=>?_))
 ·refine ag (mz r o a c) (ab.cond (λh=>s _ ?_) λh=>ag (yb n d 6 O) (s _ ?_))
  ·rw[show cS p a c=false by simpa using h];rfl
  rw[show cS p a c=true by simpa using h];rfl
 subst y;by_cases e:cS p a c=true/\(-6<=d/\d<=6)
 ·rw[a1 e,e.1,bz e.2];refine b3 ?_;obtain⟨F,i,k,P,l,rfl,rfl,w,q,A,B,m,x⟩:=j2 e.1;refine ag (bk w) (ag (gW n d) (ag (NB O m q x (A7 e.2) (OO _ x)) (ag (wq r o A ((AE m q (wE (A7 e.2).1) (A8 (A7 e.2).1)).mono O)) (ab.some ?_))));rw[zo w q];rfl
 rw[a6 e,show(cS p a c&&decide (-6<=d/\d<=6))=false by
  cases C:cS p a c with
  |false=>rfl
  |true=>exact bx λD=>e ⟨C,D⟩]
 exact bS (ab.some rfl)
theorem Wx(c:5000<=n)(h: -6<=s/\s<=6): ∀x,cQ x=true->xW n x s=some (eU x 1 (jE s)):=λx a=>by unfold xW;have d:pa n 1=some ⟨[0,0,0,0],1⟩:=rfl;rw[d];refine ab.eq (ag rfl (ag (zU c ((nv a).mono O) (b:=⟨[0,0,0,0],1⟩) (by unfold fe cI;simp) ⟨O,O⟩) (ab.some ?_)));unfold eU jE;obtain⟨a0,aJ,a2,a3,e⟩:=l8 (fK a).1;rw[e];simp
theorem Ww(d:5000<=n)(a:k<4)(h: -6<=s/\s<=6): ∀x,cQ x=true->uO n x (k:Int) (⟨(gP k).aT,wr (0-s)⟩:ay)=some (g' k (jE s) x):=λx c=>by
 have e:(⟨(gP k).aT,wr (0-s)⟩:ay)=ns k (jE s):=by
  rw[be O];rcases(O:k=0\/k=1\/k=2\/k=3) with rfl|rfl|rfl|rfl<;>(unfold gP ns jE eU gP;simp)
 unfold uO;rw[e,Ek d ((nv c).mono O) (F5 a (A7 h)) a,F7 (nv c).1 rfl a (OO _ a)];rfl
theorem zB(i:7000<=n)(e:c5 1000 p)(a:Int):ab (jY n p a (-1)) (λr=>r.2=false->r=d'):=by
 unfold jY;refine ab.aA (λz=>z=false->b2 p=true/\(0<=a/\a<(p.parts.length:Int))) (λj c=>?_) λz k=>?_
 ·refine ag (uh i e.sm) (ab.cond (λh=>c _ λh=>by cases h) λh=>?_);refine ag (qy n e.2.1 a) (ab.cond (λh=>c _ λh=>by cases h) λd=>eP (λh=>(h rfl).elim) λ_=>c _ λ_=>⟨by simpa using h,by simpa using d⟩)
 refine ab.cond (λ_=>ab.some λ_=>rfl) λh=>?_;obtain⟨l,m,d⟩:=k h;obtain⟨x,o,q⟩:=gm m d;exact ag (qJ O l) (ag o (ab.some λh=>by cases h))
theorem ad3(w:7000<=n)(A:c5 1000 p)(c d a:Int):C0 n p c d a=some (ve p c d a):=by
 unfold C0 ve;by_cases e:d= -1
 ·subst e;rw[a6 λh=>by rw[qL O] at h;cases h.1];refine ab.eq (cc (zB w A c) λY L=>ab.cond (λ_=>ab.aA (λz=>z=true) (λj B=>aQ (λ_=>B _ rfl) λh=>bA (show(-1:Int)<0 by omega) h) λz C=>by rw[C];exact bS (ab.some rfl)) λ_=>ab.some rfl)
 refine ab.eq (ag (wk w A c d e) ?_);by_cases m:cS p c d=true
 ·rw[a1 m];refine bS (ab.aA (λz=>z= !decide (-6<=a/\a<=6)) (λj B=>?_) λz C=>?_)
  ·refine aQ (λh=>?_) λ_=>ag (Lv n a) (B _ rfl);rw[qL h] at m;cases m
  subst C;by_cases q: -6<=a/\a<=6
  ·rw[a1 ⟨m,q⟩,bz q];refine b3 ?_;obtain⟨b,i,k,P,l,rfl,rfl,G,r,f,Q,o,H⟩:=j2 m;obtain⟨L,I⟩:=hX o;obtain⟨_,R,U,_⟩:=gh o;refine ag (bk G) (ag (bk r) (ag (IZ O (I l (bF r)) (Wx O q)) (ag (dH O _) (ag (dH Z _) (ag (zT n H) ?_)))));rw[be (n:=(k:Int)+1) O];have D:=xV (n:=n) O (nest:=P.nest.set k (d7 (λx=>eU x 1 (jE a)) l)) (body:=P.body) (s:=k+1) bQ bQ (λy K=>by
    rw[pH O] at K;exact I y (eV K)) R.2 U (F:=λW=>uO n W (k:Int) (⟨(gP k).aT,wr (0-a)⟩:ay)) (Ww O H q)
   rw[cY,cY];refine ag D (ag (dH bQ _) ?_);rw[cY,List.set_set];have X:(⟨(P.nest.set k (d7 (λx=>eU x 1 (jE a)) l)).take (k+1)++((P.nest.set k (d7 (λx=>eU x 1 (jE a)) l)).drop (k+1)).map (d7 (g' k (jE a))),P.body.map (iq (g' k (jE a)))⟩:Part)=pY k (λx=>eU x 1 (jE a)) (g' k (jE a)) P l:=by
    rw[pH O,ei,hq O,List.take_set_of_le (cN k),ie];rfl
   rw[X];refine ag (qz w (wS A i (AE o r (wE rfl) (A8 rfl)))) (ab.some ?_);rw[zo G r]
  rw[a6 λh=>q h.2,bx q];exact bS (ab.some rfl)
 rw[a6 m,a6 λh=>m h.1];exact b3 (ab.some rfl)
theorem aft{k:Type}{l:List k}{x:k}(h:l[i]? =some x):l.set i x=l:=by
 refine List.ext_getElem? λj=>?_;by_cases a:i=j
 ·subst a;rw[hq (bR.1 h).1,h]
 rw[je a]
theorem ae1:c5 1000 d'.1:=⟨⟨by simp[d'],λx a=>by cases a⟩,by simp[d'],λx a=>by cases a⟩
def ft(k:Nat)(s:Int):ay:=⟨[0,0,0,0].set k s,0⟩
theorem rF(k:Nat)(h: -6<=s/\s<=6):fe 6 (ft k s):=by refine⟨by simp[ft],⟨by simp[ft],by simp[ft]⟩,po (λc a=>?_) ⟨h.1,h.2⟩⟩;simp at a;subst a;exact⟨O,O⟩
theorem OS(s:Int)(a:k+1<4):(ft k s).aT.getD (k+1) 0=0:=by rcases(O:k=0\/k=1\/k=2) with rfl|rfl|rfl<;>rfl
def vf(p:Prog)(c a s:Int):Prog×Bool:=
 if cS p c a=true/\cS p c (a+1)=true/\(-6<=s/\s<=6) then uX p c (a+1) (λx=>eU x 1 (ft a.toNat s)) (g' (a.toNat+1) (ft a.toNat s)) else d'
theorem aaz(a:k<4)(s:Int):nS (gP k) s ⟨[0,0,0,0],0⟩ 0=ft k s:=by rcases(O:k=0\/k=1\/k=2\/k=3) with rfl|rfl|rfl|rfl<;>simp[nS,gP,ft]
theorem aaD(d:k<4)(s:Int){a:ay}(c:a.aT.length=4):eU a s (gP k)=eU a 1 (ft k s):=by obtain⟨a0,aJ,a2,a3,e⟩:=l8 c;rcases(O:k=0\/k=1\/k=2\/k=3) with rfl|rfl|rfl|rfl<;>simp[eU,gP,ft,e]
theorem aa6(a:k+1<4)(s:Int):eU (gP (k+1)) (-s) (gP k)=ns (k+1) (ft k s):=by rcases(O:k=0\/k=1\/k=2) with rfl|rfl|rfl<;>simp[ns,eU,gP,ft]
theorem afo(r:7000<=n)(o:c5 1000 p)(a c s:Int):DE n p a c s=some (vf p a c s):=by
 unfold DE vf;refine ab.eq (ag (kx O o) (ab.aA (λz=>z= !(cS p a c&&(cS p a (c+1)&&decide (-6<=s/\s<=6)))) (λj w=>?_) λz D=>?_))
 ·refine ag (mz r o a c) (ab.cond (λh=>w _ ?_) λh=>?_)
  ·rw[show cS p a c=false by simpa using h];rfl
  have m:cS p a c=true:=by simpa using h
  obtain⟨F,i,k,P,l,rfl,rfl,y,q,C,A,e,B⟩:=j2 m;rw[be O];refine ag (mz r o _ _) (ab.cond (λh=>w _ ?_) λh=>ag (yb n s 6 O) (w _ ?_))
  ·rw[m,show cS p (i:Int) ((k:Int)+1)=false by simpa using h];rfl
  rw[m,show cS p (i:Int) ((k:Int)+1)=true by simpa using h];rfl
 subst D;by_cases d:cS p a c=true/\cS p a (c+1)=true/\(-6<=s/\s<=6)
 ·rw[a1 d,d.1,d.2.1,bz d.2.2];refine b3 ?_;obtain⟨F,i,G,P,l,rfl,H,y,q,C,A,e,B⟩:=j2 d.2.1;obtain⟨_,Q,k,R,U,I,rfl,_⟩:=j2 d.1;obtain rfl:G=k+1:=O
  refine ag (zJ n O) (ag (x:=⟨[0,0,0,0],0⟩) rfl (ag (sR O ((te O).mono O) (by unfold fe cI;simp) ⟨O,O⟩ ⟨O,O⟩) ?_));rw[aaz O,be O];refine ag (bk y) (ag (NB O e q B (rF k d.2.2) (OS s B)) (ag (wq r o C ((AE e q (wE (rF k d.2.2).1) (A8 (rF k d.2.2).1)).mono O)) (ab.some ?_)));show hD _=_;rw[show((k:Int)+1)=((k+1:Nat):Int) by omega,zo y q];rfl
 rw[a6 d,show(cS p a c&&(cS p a (c+1)&&decide (-6<=s/\s<=6)))=false by
  cases m:cS p a c with
  |false=>rfl
  |true=>cases K:cS p a (c+1) with
   |false=>rfl
   |true=>exact bx λL=>d ⟨m,K,L⟩]
 exact bS (ab.some rfl)
theorem XI(d:5000<=n)(a:k<4)(e: -6<=s/\s<=6): ∀x,cQ x=true->x6 n x s (k:Int)=some (eU x 1 (ft k s)):=λx c=>by unfold x6;rw[zT n a];refine ab.eq (ag rfl (ag (zU d ((nv c).mono O) ((te a).mono O) ⟨O,O⟩) (ab.some (aaD a s (fK c).1))))
theorem XH(e:5000<=n)(a:k+1<4)(c: -6<=s/\s<=6): ∀x,cQ x=true->uR n x (k:Int) (ns (k+1) (ft k s))=some (g' (k+1) (ft k s) x):=λx d=>by unfold uR;rw[be O,show((k:Int)+1)=((k+1:Nat):Int) by omega,Ek e ((nv d).mono O) (F5 a (rF k c)) a,F7 (nv d).1 (rF k c).1 a (OS s a)];rfl
theorem ad4(C:7000<=n)(D:c5 1000 p)(a c s:Int):yY n p a c s=some (vf p a c s):=by
 unfold yY vf;by_cases e:c= -1
 ·subst e;rw[a6 λh=>by rw[qL O] at h;cases h.1];refine ab.eq (cc (zB C D a) λg Q=>ab.cond (λ_=>ab.aA (λz=>z=true) (λj w=>aQ (λ_=>w _ rfl) λh=>bA (show(-1:Int)<0 by omega) h) λz G=>by rw[G];exact bS (ab.some rfl)) λ_=>ab.some rfl)
 refine ab.eq (ag (wk C D a c e) ?_);by_cases q:cS p a c=true
 ·rw[a1 q];obtain⟨R,i,k,P,t,rfl,rfl,A,U,u,W,o,H⟩:=j2 q;obtain⟨Q,K⟩:=hX o;obtain⟨_,X,Y,_⟩:=gh o;have r:cS p (i:Int) ((k:Int)+1)=decide (k+1<P.nest.length):=by
   unfold cS;rw[R,bk A];exact decide_eq_decide.2 O
  refine bS (ab.aA (λz=>z= !(decide (k+1<P.nest.length)&&decide (-6<=s/\s<=6))) (λj w=>?_) λz G=>?_)
  ·refine aQ (λh=>bA h O) λ_=>ag (bk A) ?_;rw[be O];refine aQ (λh=>w _ ?_) λh=>ag (Lv n s) (w _ ?_)
   ·rw[bx (show¬k+1<P.nest.length by omega)];rfl
   rw[bz (O:k+1<P.nest.length)];rfl
  subst G;by_cases d:k+1<P.nest.length
  ·by_cases m: -6<=s/\s<=6
   ·rw[a1 ⟨q,by rw[r,bz d],m⟩,bz m,bz d];refine b3 ?_;obtain⟨l,B⟩: ∃l,P.nest[k+1]? =some l:=⟨_,bs d⟩
    rw[be (n:=(k:Int)+1) O,be (n:=(k:Int)+2) O,be (n:=0-s) O,show((k:Int)+1)=((k+1:Nat):Int) by omega,show((k:Int)+2)=((k+1+1:Nat):Int) by omega,show 0-s= -s by omega];refine ag (bk A) (ag (bk B) (ag (IZ O (K l (bF B)) (XI O H m)) (ag (dH O _) (ag (dH Z _) (ag (zT n O) (ag (zT n H) (ag (zU O ((te O).mono O) ((te H).mono O) ⟨O,O⟩) ?_)))))));rw[aa6 O];have I:=xV (n:=n) O (nest:=P.nest.set (k+1) (d7 (λx=>eU x 1 (ft k s)) l)) (body:=P.body) (s:=k+1+1) bQ bQ (λy L=>by
     rw[pH O] at L;exact K y (eV L)) X.2 Y (F:=λb=>uR n b (k:Int) (ns (k+1) (ft k s))) (XH O O m)
    rw[cY,cY];refine ag I (ag (dH bQ _) ?_);rw[cY,List.set_set];have f:(⟨(P.nest.set (k+1) (d7 (λx=>eU x 1 (ft k s)) l)).take (k+1+1)++((P.nest.set (k+1) (d7 (λx=>eU x 1 (ft k s)) l)).drop (k+1+1)).map (d7 (g' (k+1) (ft k s))),P.body.map (iq (g' (k+1) (ft k s)))⟩:Part)=pY (k+1) (λx=>eU x 1 (ft k s)) (g' (k+1) (ft k s)) P l:=by
     rw[pH O,ei,hq O,List.take_set_of_le (cN _),ie];rfl
    rw[f];refine ag (qz C (wS D i (AE o B (wE (rF k m).1) (A8 (rF k m).1)))) (ab.some ?_);rw[zo A B];rfl
   rw[a6 λh=>m h.2.2,bx m,jg];exact bS (ab.some rfl)
  rw[a6 (λh=>by rw[r,bx d] at h;cases h.2.1),bx d];exact bS (ab.some rfl)
 rw[a6 q,a6 λh=>q h.1];exact b3 (ab.some rfl)
theorem aat{B:Option Bool}{b:Int}(h:b<=1048576->ab B λr=>r=true):ab (aA (fun(e:Bool)=>bif e then(some true) else B) λc=>bif decide ((1048576:Int)<a) then(c true) else(c (decide ((1048576:Int)<b)))) (λr=>r=true):=by exact ab.aA (λz=>z=false->b<=1048576) (λj d=>aQ (λ_=>d _ λh=>by cases h) λ_=>d _ λh=>by have:=of_decide_eq_false h;omega) λz i=>ab.cond (λ_=>ab.some rfl) λk=>h (i k)
theorem aas{I S:Option (Prog×Bool)}{REST:Prog×Bool->Prog×Bool->Option Bool}{R:Prog×Bool}(m:c5 1000 R.1)(o:I=some R)(p:S=some R)(q:R.2=true->ab (REST R R) λr=>r=true):
  ab (Option.bind I λa=>Option.bind S λc=>aA (fun(s:Bool)=>
    bif s then(
     aA (fun(d:Bool)=>
      some d
     ) (λl=>
      bif(a.2==c.2) then(
       Option.bind (qf N a.1 c.1) λe=>
       l e
      ) else(
       l false
      )
     )
    ) else(
     REST a c
    )
   ) (λh=>
    bif !(a.2==c.2) then(
     h true
    ) else(
     Option.bind (qf N a.1 c.1) λw=>
     bif !w then(
      h true
     ) else(
      h (!a.2)
     )
    )
   )) (λr=>r=true):=by
 have A:N=100000:=rfl;have hs:=MG (n:=N) O m;have x:(R.2==R.2)=true:=by cases R.2<;>rfl
 refine ag o (ag p (ab.aA (λz=>z= !R.2) (λj i=>?_) λz k=>?_))
 ·rw[x];exact b3 (ag hs (b3 (i _ rfl)))
 subst k;cases y:R.2 with
 |false=>exact bS (ab.aA (λz=>z=true) (λj i=>bS (ag hs (i _ rfl))) λz k=>ab.some k)
 |true=>exact b3 (q y)
def low(k:Nat)(b:ay):Prop:= ∀j,k<=j->b.aT.getD j 0=0
def kL(n:Int):Expr:=⟨1,n,⟨[],0⟩,⟨[],[]⟩,[]⟩
def gF(e:Expr)(n:Int):Bool:=decide (e.kind=1)&&decide (e.num=n)
def gS(k x y:Int):Int:=if k=5 then x-y else if k=6 then x*y else x+y
def iI(e:Expr):Expr:=
 if e.kind=2/\eG e.index.aT=0/\0<=e.index.const then kL e.index.const
 else match e.bm with
  | [a,b]=>
   if a.kind=1/\b.kind=1 then(if 0<=gS e.kind a.num b.num/\gS e.kind a.num b.num<=99 then kL (gS e.kind a.num b.num) else e)
   else if(¬e.kind=6/\gF b 0=true)\/(e.kind=6/\gF b 1=true) then a
   else if(e.kind=4/\gF a 0=true)\/(e.kind=6/\gF a 1=true) then b
   else if e.kind=6/\(gF a 0=true\/gF b 0=true) then kL 0
   else e
  |_=>e
def la(e:Expr)(a:List Expr):Expr:=⟨e.kind,e.num,e.index,e.read,a⟩
def fL:Nat->Expr->Expr
 |0,e=>e
 |L+1,e=>iI (la e (e.bm.map (fL L)))
theorem Mn{d:Int}: ∀{L:Nat} {e:Expr},dA L e d=true->dA (L+1) e d=true
 |0,_,h=>by cases h
 |L+1,e,h=>by obtain⟨c,i,l⟩:=gY h;show(decide (fq e.kind=e.bm.length)&&(ef e d&&e.bm.all λk=>dA (L+1) k d))=true;rw[bz c,i,fb,fb];exact fw.2 λk a=>Mn (l k a)
theorem IJ(a:fq e.kind=e.bm.length)(c:ef e d=true)(h: ∀k∈e.bm,dA L k d=true):dA (L+1) e d=true:=by show(decide (fq e.kind=e.bm.length)&&(ef e d&&e.bm.all λk=>dA L k d))=true;rw[bz a,c,fb,fb];exact fw.2 h
theorem Oc{d:Int}: ∀{L:Nat} {e:Expr},dA L e d=true->dy (L+1) e=dy L e
 |0,_,h=>by cases h
 |L+1,e,h=>by obtain⟨i,l,c⟩:=gY h;show 1+(e.bm.map (dy (L+1))).sum=1+(e.bm.map (dy L)).sum;rw[show e.bm.map (dy (L+1))=e.bm.map (dy L) from List.map_congr_left λk a=>Oc (c k a)]
theorem MF{d:Int}: ∀{L:Nat} {e:Expr},dA L e d=true->dX (L+1) e=dX L e
 |0,_,h=>by cases h
 |L+1,e,h=>by obtain⟨i,l,c⟩:=gY h;show(if e.kind=3 then [e.read] else [])++e.bm.flatMap (dX (L+1))=(if e.kind=3 then [e.read] else [])++e.bm.flatMap (dX L);rw[List.flatMap_def,List.flatMap_def,show e.bm.map (dX (L+1))=e.bm.map (dX L) from List.map_congr_left λk a=>MF (c k a)]
theorem FW(l:ef e d=true):iI e=e\/(∃n,iI e=kL n/\0<=n/\n<=99)\/ ∃k∈e.bm,iI e=k:=by
 obtain⟨kind,num,index,read,i⟩:=e;unfold iI;dsimp only;split
 ·rename_i h
  have:=(fK (H1 l h.1).1).2.1;exact .inr (.inl ⟨_,rfl,h.2.2,this.2⟩)
 match i with
 | []=>exact .inl rfl
 | [a]=>exact .inl rfl
 | [a,b]=>
  dsimp only;split
  ·split
   ·rename_i h;exact .inr (.inl ⟨_,rfl,h⟩)
   exact .inl rfl
  split
  ·exact .inr (.inr ⟨a,aX,rfl⟩)
  split
  ·exact .inr (.inr ⟨b,aX,rfl⟩)
  split
  ·exact .inr (.inl ⟨0,rfl,O,O⟩)
  exact .inl rfl
 |a::b::c::r=>exact .inl rfl
theorem Xb(L:Nat){n:Int}(h:0<=n/\n<=99)(d:Int):dA (L+1) (kL n) d=true:=by
 refine IJ (by simp[kL,fq]) ?_ λk a=>by cases a
 unfold ef kL hc jB;simp;omega
theorem EY(h:ef e d=true)(a:List Expr):ef (la e a) d=true:=h
theorem qe{d:Int}: ∀{L:Nat} {e:Expr},dA L e d=true->dA L (fL L e) d=true
 |0,_,h=>by cases h
 |L+1,e,h=>by
  obtain⟨o,l,m⟩:=gY h;have p:dA (L+1) (la e (e.bm.map (fL L))) d=true:=IJ (by simp only[la,List.length_map];exact o) l (λk a=>by
   obtain⟨y,i,rfl⟩:=eK.1 a;exact qe (m y i))
  show dA (L+1) (iI (la e (e.bm.map (fL L)))) d=true;rcases FW (EY l (e.bm.map (fL L))) with c|⟨n,c,q⟩|⟨k,a,c⟩
  ·rw[c];exact p
  ·rw[c];exact Xb L q d
  rw[c];obtain⟨y,i,rfl⟩:=eK.1 a;exact Mn (qe (m y i))
theorem MY{k:Type}(f:k->Int)(c: ∀x,0<=f x): ∀{l:List k} {x:k},x∈l->f x<=(l.map f).sum
 |y::l,x,h=>by
  have d: ∀l:List k,0<=(l.map f).sum:=λl=>by
   induction l with
   |nil=>simp
   |cons a l e=>simp only[List.map_cons,List.sum_cons];have:=c a;omega
  simp only[List.map_cons,List.sum_cons];rcases dN.1 h with rfl|h
  ·have:=d l;omega
  have:=MY f c h;have:=c y;omega
theorem Mk{k:Type}(f g:k->Int): ∀{l:List k},(∀x∈l,f x<=g x)->(l.map f).sum<=(l.map g).sum
 | [],_=>gu _
 |x::l,h=>by
  simp only[List.map_cons,List.sum_cons]
  have:=h x eR
  have:=Mk f g λy a=>h y (ev _ a);omega
theorem O9{d:Int}: ∀{L:Nat} {e:Expr},dA L e d=true->dy L (fL L e)<=dy L e
 |0,_,h=>by cases h
 |L+1,e,h=>by
  obtain⟨q,o,i⟩:=gY h;have m:dy (L+1) (la e (e.bm.map (fL L)))<=dy (L+1) e:=by
   show 1+((e.bm.map (fL L)).map (dy L)).sum<=1+(e.bm.map (dy L)).sum;rw[List.map_map]
   have:=Mk (dy L ∘ fL L) (dy L) (l:=e.bm) λk a=>O9 (i k a);omega
  show dy (L+1) (iI (la e (e.bm.map (fL L))))<=dy (L+1) e;rcases FW (EY o (e.bm.map (fL L))) with c|⟨n,c,r⟩|⟨k,a,c⟩
  ·rw[c];exact m
  ·rw[c];exact q6 (L+1) e
  rw[c];refine Int.le_trans ?_ m;obtain⟨y,p,rfl⟩:=eK.1 a;rw[Oc (qe (i y p))];have s:dy L (fL L y)<=((e.bm.map (fL L)).map (dy L)).sum:=MY (dy L) (λx=>by have:=q6 L x;omega) a;show _<=1+((e.bm.map (fL L)).map (dy L)).sum;omega
theorem O'{d:Int}: ∀{L:Nat} {e:Expr},dA L e d=true-> ∀a∈dX L (fL L e),a∈dX L e
 |0,_,h=>by cases h
 |L+1,e,h=>by
  obtain⟨w,s,p⟩:=gY h;have q: ∀a∈dX (L+1) (la e (e.bm.map (fL L))),a∈dX (L+1) e:=λa c=>by
   have c:a∈(if e.kind=3 then [e.read] else [])++(e.bm.map (fL L)).flatMap (dX L):=c;show a∈(if e.kind=3 then [e.read] else [])++e.bm.flatMap (dX L);rcases dZ.1 c with c|c
   ·exact mH _ c
   refine pG _ ?_;obtain⟨y,m,o⟩:=yC.1 c;obtain⟨z,r,rfl⟩:=eK.1 m;exact yC.2 ⟨z,r,O' (p z r) a o⟩
  intro a c;have c:a∈dX (L+1) (iI (la e (e.bm.map (fL L)))):=c;rcases FW (EY s (e.bm.map (fL L))) with i|⟨n,i,x⟩|⟨k,l,i⟩
  ·rw[i] at c;exact q a c
  ·rw[i] at c;simp[dX,kL] at c
  rw[i] at c;obtain⟨y,m,rfl⟩:=eK.1 l;rw[MF (qe (p y m))] at c;refine q a ?_;show a∈(if e.kind=3 then [e.read] else [])++(e.bm.map (fL L)).flatMap (dX L);exact pG _ (yC.2 ⟨_,l,c⟩)
theorem Wy(h:dA L e d=true): ∃K,L=K+1:=by
 cases L with
 |zero=>cases h
 |succ K=>exact⟨K,rfl⟩
theorem Vs(n:Nat)(e:Expr)(k:Int):iA n e k=some (gF e k):=by unfold iA gF;cases decide (e.kind=1)<;>rfl
theorem VF(n:Nat)(e:Expr)(k:Int):pq n e k=some (gF e k):=by unfold pq gF;cases decide (e.kind=1)<;>rfl
def Bq(a:Expr):Prop:=a.kind=1->0<=a.num/\a.num<=99
theorem Gy(h:dA L e d=true):Bq e:=λc=>by obtain⟨K,rfl⟩:=Wy h;obtain⟨_,a,_⟩:=gY h;unfold ef at a;rw[a6 O,a6 O,a1 c] at a;simp only[Bool.and_eq_true,decide_eq_true_eq] at a;exact a.1
theorem OD{b:Int}(d:0<=a/\a<=99)(c:0<=b/\b<=99):0<=a*b/\a*b<=9801:=by
 refine⟨mK d.1 c.1,?_⟩
 have:=q1 d.2 c.2 c.1 (by omega:(0:Int)<=99);omega
theorem aap(n:Nat)(L:c=4\/c=5\/c=6){a b:Expr}(Q:Bq a)(R:Bq b):
  aA (fun(s:Bool)=>
      bif s then(
       aA (fun(q:Int)=>
        Option.bind (fg n q 0 99) λd=>
        bif d then(
         Option.bind (nL n q) λe=>
         some e
        ) else(
         some (⟨c,0,(⟨[],0⟩:ay),(⟨[],[]⟩:b0),[a,b]⟩:Expr)
        )
       ) (λl=>
        bif decide (c=5) then(
         l (wr (a.num-b.num))
        ) else(
         bif decide (c=6) then(
          l (wr (a.num*b.num))
         ) else(
          l (wr (a.num+b.num))
         )
        )
       )
      ) else(
       aA (fun(w:Bool)=>
        bif w then(
         some a
        ) else(
         aA (fun(x:Bool)=>
          bif x then(
           some b
          ) else(
           aA (fun(y:Bool)=>
            bif y then(
             Option.bind (nL n 0) λA=>
             some A
            ) else(
             some (⟨c,0,(⟨[],0⟩:ay),(⟨[],[]⟩:b0),[a,b]⟩:Expr)
            )
           ) (λm=>
            bif decide (c=6) then(
             Option.bind (iA n a 0) λB=>
             bif B then(
              m true
             ) else(
              Option.bind (iA n b 0) λC=>
              m C
             )
            ) else(
             m false
            )
           )
          )
         ) (λi=>
          bif decide (c=4) then(
           Option.bind (iA n a 0) λD=>
           bif D then(
            i true
           ) else(
            bif decide (c=6) then(
             Option.bind (iA n a 1) λF=>
             i F
            ) else(
             i false
            )
           )
          ) else(
           bif decide (c=6) then(
            Option.bind (iA n a 1) λG=>
            i G
           ) else(
            i false
           )
          )
         )
        )
       ) (λk=>
        bif !(decide (c=6)) then(
         Option.bind (iA n b 0) λH=>
         bif H then(
          k true
         ) else(
          bif decide (c=6) then(
           Option.bind (iA n b 1) λI=>
           k I
          ) else(
           k false
          )
         )
        ) else(
         bif decide (c=6) then(
          Option.bind (iA n b 1) λK=>
          k K
         ) else(
          k false
         )
        )
       )
      )
     ) (λr=>
      bif decide (a.kind=1) then(
       r (decide (b.kind=1))
      ) else(
       r false
      )
     )=some (iI ⟨c,0,⟨[],0⟩,⟨[],[]⟩,[a,b]⟩):=by
 have U: ¬(c=2/\eG ([]:List Int)=0/\(0:Int)<=0):=λh=>O
 unfold iI;dsimp only;rw[a6 U];simp only[Vs,Option.bind_some,aA];by_cases o:a.kind=1/\b.kind=1
 ·have W:=Q o.1;have X:=R o.2;have v:=OD W X;rw[a1 o,bz o.1,bz o.2];simp only[cond_true];have Y:(bif decide (c=5) then(Option.bind (fg n (wr (a.num-b.num)) 0 99) λd=>bif d then(Option.bind (nL n (wr (a.num-b.num))) λe=>some e) else(some (⟨c,0,⟨[],0⟩,⟨[],[]⟩,[a,b]⟩:Expr)))
    else bif decide (c=6) then(Option.bind (fg n (wr (a.num*b.num)) 0 99) λd=>bif d then(Option.bind (nL n (wr (a.num*b.num))) λe=>some e) else(some (⟨c,0,⟨[],0⟩,⟨[],[]⟩,[a,b]⟩:Expr)))
    else(Option.bind (fg n (wr (a.num+b.num)) 0 99) λd=>bif d then(Option.bind (nL n (wr (a.num+b.num))) λe=>some e) else(some (⟨c,0,⟨[],0⟩,⟨[],[]⟩,[a,b]⟩:Expr))))
    =Option.bind (fg n (gS c a.num b.num) 0 99) λd=>bif d then(Option.bind (nL n (gS c a.num b.num)) λe=>some e) else(some (⟨c,0,⟨[],0⟩,⟨[],[]⟩,[a,b]⟩:Expr)):=by
   rw[be (n:=a.num-b.num) O,be (n:=a.num*b.num) O,be (n:=a.num+b.num) O];unfold gS;rcases L with rfl|rfl|rfl<;>rfl
  refine Y.trans ?_;rw[d4,Option.bind_some];by_cases p:0<=gS c a.num b.num/\gS c a.num b.num<=99
  ·rw[a1 p,bz p];rfl
  rw[a6 p,bx p];rfl
 rw[a6 o];have g:(bif decide (a.kind=1) then decide (b.kind=1) else false)=false:=by
  cases j:decide (a.kind=1) with
  |false=>rfl
  |true=>
   have: ¬b.kind=1:=λh=>o ⟨e4 j,h⟩;rw[bx this];rfl
 have p: ∀{f:Bool->Option Expr},(bif decide (a.kind=1) then f (decide (b.kind=1)) else f false)=f false:=fun {f}=>by
  have:(bif decide (a.kind=1) then f (decide (b.kind=1)) else f false)=f (bif decide (a.kind=1) then decide (b.kind=1) else false):=by cases decide (a.kind=1)<;>rfl
  rw[this,g]
 refine(p (f:=λz=>bif z then _ else _)).trans ?_;generalize gF a 0=a0;generalize gF a 1=aJ;generalize gF b 0=t;generalize gF b 1=u;rcases L with rfl|rfl|rfl<;>cases a0<;>cases aJ<;>cases t<;>cases u<;>rfl
theorem Xp(n:Nat)(k:Int):rv n k=some (decide (4<=k/\k<=6)):=by unfold rv;rw[d4];rfl
theorem F1(h:fq e.kind=e.bm.length):((e.kind=1\/e.kind=2\/e.kind=3)/\e.bm=[])\/((e.kind=4\/e.kind=5\/e.kind=6)/\ ∃a b,e.bm=[a,b]):=by
 unfold fq at h;split at h
 ·rename_i d;exact .inl ⟨d,kE O⟩
 split at h
 ·rename_i d;refine .inr ⟨d,?_⟩
  match i:e.bm,h with
  | [a,b],_=>exact⟨a,b,rfl⟩
  | [],h=>simp at h
  | [a],h=>simp at h
  |a::b::c::r,h=>simp at h;omega
 omega
theorem aaR(a:ef e d=true)(h:e.kind=4\/e.kind=5\/e.kind=6):e.num=0/\e.index=⟨[],0⟩/\e.read=⟨[],[]⟩:=by have c:=wQ a O O;unfold ef at a;rw[a6 O,a6 O,a6 O] at a;simp only[Bool.and_eq_true,decide_eq_true_eq] at a;exact⟨a.1,sS c.1,sT c.2⟩
theorem AW(a:ef e d=true):jk e.index/\ki e.read.bC:=by
 by_cases h:e.kind=2
 ·have:=H1 a h;refine⟨by have:=(fK this.1).1;unfold jk;omega,?_⟩;rw[sT this.2];exact⟨aX,λx c=>by cases c⟩
 by_cases i:e.kind=3
 ·have:=rr a i;have k:=mN this.1;refine⟨?_,Nx k.2.1 k.2.2⟩;rw[sS this.2];unfold jk;simp
 have:=wQ a h i;refine⟨?_,?_⟩
 ·rw[sS this.1];unfold jk;simp
 rw[sT this.2];exact⟨aX,λx c=>by cases c⟩
def mA(e:Expr):Bool:=decide (e.kind=2)&&(decide (eG e.index.aT=0)&&decide (0<=e.index.const))
theorem K2(e:Expr):mA e=true↔e.kind=2/\eG e.index.aT=0/\0<=e.index.const:=by unfold mA;simp
theorem KU(h:mA e=true):iI e=kL e.index.const:=by unfold iI;rw[a1 ((K2 e).1 h)]
theorem LX(h:mA e=false)(a:e.bm=[]):iI e=e:=by unfold iI;rw[a6 (λc=>by rw[(K2 e).2 c] at h;cases h),a]
theorem H3{d:Int}: ∀(L n:Nat) (e:Expr),6000+L<=n->dA L e d=true->qs (n+1) e=some (fL L e)
 |0,_,_,_,h=>by cases h
 |L+1,n,e,K,h=>by
  obtain⟨r,s,w⟩:=gY h;obtain⟨n,rfl⟩: ∃j,n=j+1:=⟨n-1,O⟩
  unfold qs;refine ab.eq (ab.aA (λz=>z=mA e) (λj m=>?_) λz B=>?_)
  ·refine aQ (λo=>ag (yW O (AW s).1) (aQ (λC=>m _ ?_) λC=>m _ ?_)) λo=>m _ ?_
   ·unfold mA;rw[bz o,bz (O:eG e.index.aT=0)];rfl
   ·unfold mA;rw[bx (show¬eG e.index.aT=0 by omega),Bool.false_and,jg]
   unfold mA;rw[bx o];rfl
  subst B;have p:fL (L+1) e=iI (la e (e.bm.map (fL L))):=rfl;refine ab.cond (λq=>?_) λq=>?_
  ·refine ag (x:=kL e.index.const) rfl (ab.some ?_);rw[p];exact(KU (e:=la e (e.bm.map (fL L))) q).symm
  refine ag (Xp _ _) (eP (λl=>ab.some ?_) λl=>?_)
  ·rcases F1 r with ⟨_,k⟩|⟨i,_⟩
   ·rw[p,k]
    have:la e []=e:=by cases e;cases k;rfl
    show e=iI (la e []);rw[this];exact(LX q k).symm
   exact bA O l
  rcases F1 r with ⟨i,_⟩|⟨i,a,b,c⟩
  ·omega
  have y:=w a (by rw[c];simp);have A:=w b (by rw[c];simp);have D:au e.bm 0=some a:=by rw[c];rfl
  have F:au e.bm 1=some b:=by rw[c];rfl
  refine ag D (ag (H3 L n a O y) (ag F (ag (H3 L n b O A) (ab.of (aap (n+1) i (Gy (qe y)) (Gy (qe A))) ?_))));obtain⟨G,H,I⟩:=aaR s i;rw[p,c];unfold la;rw[G,H,I];rfl
theorem XJ(n:Nat)(o:e.kind=4\/e.kind=5\/e.kind=6){x y:Int}(l:0<=x/\x<=99)(m:0<=y/\y<=99):Af n e x y=some (if 0<=gS e.kind x y/\gS e.kind x y<=99 then kL (gS e.kind x y) else e):=by
 have p:=OD l m;unfold Af;refine ab.eq (ab.aA (λz=>z=gS e.kind x y) (λj a=>?_) λz d=>?_)
 ·rw[be (n:=x+y) O,be (n:=x-y) O,be (n:=x*y) O];refine aQ (λh=>a _ ?_) λh=>aQ (λi=>a _ ?_) λi=>a _ ?_
  ·unfold gS;rw[a6 O,a6 O]
  ·unfold gS;rw[a1 i]
  unfold gS;rw[a6 i,a1 O]
 subst d;refine ab.aA (λz=>z= !decide (0<=gS e.kind x y/\gS e.kind x y<=99)) (λj a=>aQ (λh=>a _ ?_) λh=>a _ ?_) λz d=>?_
 ·rw[bx O];rfl
 ·by_cases k:(99:Int)<gS e.kind x y
  ·rw[bz k,bx O];rfl
  rw[bx k,bz O];rfl
 subst d;by_cases c:0<=gS e.kind x y/\gS e.kind x y<=99
 ·rw[bz c,a1 c];exact b3 (ag rfl (ab.some rfl))
 rw[bx c,a6 c];exact bS (ab.some rfl)
theorem W5(K:5000<=n)(B:jk e.index)(C:fq e.kind=e.bm.length)(y: ∀k∈e.bm,Bq k):yL n e=some (iI e):=by
 unfold yL;refine ab.eq (ab.aA (λz=>z=mA e) (λj l=>?_) λz q=>?_)
 ·refine aQ (λr=>ag (yl O B) (aQ (λD=>l _ ?_) λD=>l _ ?_)) λr=>l _ ?_
  ·unfold mA;rw[bz r,bz (O:eG e.index.aT=0)];rfl
  ·unfold mA;rw[bx (show¬eG e.index.aT=0 by omega),Bool.false_and,jg]
  unfold mA;rw[bx r];rfl
 subst q;refine ab.cond (λs=>ag (x:=kL e.index.const) rfl (ab.some (KU s).symm)) λs=>?_;rcases F1 C with ⟨_,o⟩|⟨d,a,b,c⟩
 ·refine aQ (λ_=>ab.some (LX s o).symm) λh=>bA (by rw[o];rfl) h
 have F:=y a (by rw[c];simp);have G:=y b (by rw[c];simp);refine aQ (λh=>by rw[c] at h;simp at h) λ_=>ag (show au e.bm 0=some a by rw[c];rfl) (ag (show au e.bm 1=some b by rw[c];rfl) ?_);have i:iI e=(if a.kind=1/\b.kind=1 then(if 0<=gS e.kind a.num b.num/\gS e.kind a.num b.num<=99 then kL (gS e.kind a.num b.num) else e)
   else if(¬e.kind=6/\gF b 0=true)\/(e.kind=6/\gF b 1=true) then a
   else if(e.kind=4/\gF a 0=true)\/(e.kind=6/\gF a 1=true) then b
   else if e.kind=6/\(gF a 0=true\/gF b 0=true) then kL 0
   else e):=by
  unfold iI;rw[a6 (λh=>O),c]
 rw[i];refine ab.aA (λz=>z=decide (a.kind=1/\b.kind=1)) (λj l=>aQ (λh=>l _ ?_) λh=>l _ ?_) λz q=>?_
 ·by_cases p:b.kind=1
  ·rw[bz p,bz ⟨h,p⟩]
  rw[bx p,bx λw=>p w.2]
 ·rw[bx λw=>h w.1]
 subst q;by_cases m:a.kind=1/\b.kind=1
 ·rw[bz m,a1 m];exact bS (ag (XJ n d (F m.1) (G m.2)) (ab.some rfl))
 rw[bx m,a6 m];refine b3 ?_;simp only[VF,Option.bind_some,aA];generalize gF a 0=a0;generalize gF a 1=aJ;generalize gF b 0=H;generalize gF b 1=I;obtain⟨kind,num,index,read,A⟩:=e;dsimp only at d⊢;rcases d with rfl|rfl|rfl<;>cases a0<;>cases aJ<;>cases H<;>cases I<;>exact ab.some rfl
theorem Qh{d:Int}: ∀(L n:Nat) (e:Expr),6000+L<=n->dA L e d=true->qO (n+1) e=some (fL L e)
 |0,_,_,_,h=>by cases h
 |L+1,n,e,s,h=>by
  obtain⟨m,a,l⟩:=gY h;obtain⟨n,rfl⟩: ∃j,n=j+1:=⟨n-1,O⟩
  have o:e.bm.length<=2:=by have:=pe e.kind;omega
  unfold qO;refine ab.eq (ag (y1 _ (AW a).1) (ag (yw O (AW a).2) ?_));refine oz (f:=qO (n+1)) (g:=fL L) (K:=λp=>Option.bind (yL (n+1) (⟨e.kind,e.num,e.index,e.read,p⟩:Expr)) λc=>some c) (λx q=>Qh L n x O (l x q)) O O ?_;refine ag (W5 O (AW a).1 (by simpa using m) λk i=>?_) (ab.some rfl);obtain⟨y,r,rfl⟩:=eK.1 i;exact Gy (qe (l y r))
def jw(l:List cx)(p:Prog)(a:Int)(c:Nat):Prop:= ∃x∈l,x.part=a/\dc p x=c
def kt(l:List cx)(p:Prog)(a:Int)(c:Nat):Prop:= ∃x∈l,x.part=a/\(c:Int)∈rc p x
theorem wg{l:List cx}{c:Nat}{x:cx}:jw (l++[x]) p a c↔jw l p a c\/(x.part=a/\dc p x=c):=by
 unfold jw;constructor
 ·rintro⟨y,d,h⟩;rcases dZ.1 d with d|d
  ·exact .inl ⟨y,d,h⟩
  rw[mI] at d;subst d;exact .inr h
 rintro(⟨y,d,h⟩|h)
 ·exact⟨y,mH _ d,h⟩
 exact⟨x,aX,h⟩
theorem wh{l:List cx}{c:Nat}{x:cx}:kt (l++[x]) p a c↔kt l p a c\/(x.part=a/\(c:Int)∈rc p x):=by
 unfold kt;constructor
 ·rintro⟨y,d,h⟩;rcases dZ.1 d with d|d
  ·exact .inl ⟨y,d,h⟩
  rw[mI] at d;subst d;exact .inr h
 rintro(⟨y,d,h⟩|h)
 ·exact⟨y,mH _ d,h⟩
 exact⟨x,aX,h⟩
def ht(T:Nat)(f:List Bool)(S:Nat->Prop):Prop:=f.length=T/\ ∀c,c<T->(f.getD c false=true↔S c)
theorem Fh(T:Nat):ht T (List.replicate T false) (λ_=>False):=⟨C6,λc a=>by rw[eu,s3];split<;>simp⟩
theorem FH{T:Nat}{f:List Bool}{S:Nat->Prop}(h:ht T f S){d:Nat}(a:d<T):ht T (f.set d true) (λc=>S c\/c=d):=⟨by rw[eS];exact h.1,λc i=>by
 by_cases e:d=c
 ·subst e;rw[eu,hq (by rw[h.1];exact a)];simp
 rw[eu,je e,<-eu,h.2 c i];constructor
 ·exact .inl
 rintro(h|h)
 ·exact h
 exact bA h.symm e⟩
theorem lL{T:Nat}{f:List Bool}{S X:Nat->Prop}(h:ht T f S)(d: ∀c,c<T->(S c↔X c)):ht T f X:=⟨h.1,λc a=>(h.2 c a).trans (d c a)⟩
theorem ry{T:Nat}{f:List Bool}{S:Nat->Prop}(h:ht T f S){c:Nat}(d:c<T):au f (c:Int)=some (f.getD c false):=by
 have a:c<f.length:=by rw[h.1];exact d
 rw[bk (bs a),eu,bs a];rfl
theorem LF(B:5000<=n){T:Nat}{cs:List Int}(C:cs.length<=1000)(o: ∀c∈cs,0<=c/\c<(T:Int)){K:List Bool->Option R}{f:List Bool}{S:Nat->Prop}(p:ht T f S)(q: ∀g,ht T g (λc=>S c\/(c:Int)∈cs)->ab (K g) Q):
  ab (bo (λa (z:(List Bool)×Int)=>bif decide (z.2<(cs.length:Int)) then(Option.bind (au cs z.2) λx=>Option.bind (au z.1 x) λ_=>Option.bind (b' z.1 x true) λy=>a (y,wr (z.2+1))) else(K z.1)) n (f,0)) Q:=by
 refine ab.loop (λz:List Bool×Int=> ∃i:Nat,z.2=i/\i<=cs.length/\ht T z.1 λc=>S c\/(c:Int)∈cs.take i) (λz=>cs.length-z.2.toNat) ?_ n _ ⟨0,rfl,O,lL p λc _=>aX⟩ Z;rintro a ⟨x,z⟩ ⟨i,m,D,k⟩ r;dsimp only at m k⊢;subst m;refine aQ (λs=>?_) λw=>?_
 ·obtain⟨c,l⟩: ∃c,cs[i]? =some c:=⟨_,bs (O:i<cs.length)⟩
  have a8:=o c (bF l);have A:=k.1;refine ag (bk l) (ag (wW a8.1 O) (ag (Ff a8.1 O true) ?_));rw[be O];refine r _ ⟨i+1,Z,O,lL (FH k (d:=c.toNat) O) λe F=>?_⟩ Z;rw[gd l,dZ,mI];constructor
  ·rintro((h|h)|h)
   ·exact .inl h
   ·exact .inr (.inl h)
   exact .inr (.inr O)
  rintro(h|h|h)
  ·exact .inl (.inl h)
  ·exact .inl (.inr h)
  exact .inr O
 have e:i=cs.length:=O
 refine q x (lL k λc _=>?_);rw[e,c4]
theorem wI(a:b2 p=true):((ib p:Nat):Int)=fV p.aS/\ib p<=144:=by have:=XA a;show(((fV p.aS).toNat:Nat):Int)=_/\(fV p.aS).toNat<=144;omega
theorem K5(cG:7100<=n)(A:b2 p=true)(a:Int):ab (xF n (fX p) a) (λr=>ht (ib p) r.1 (kt (bB p.parts) p a)/\ht (ib p) r.2 (jw (bB p.parts) p a)):=by
 obtain⟨I,L,_,_,U⟩:=ey A;have eZ:=wI A;unfold xF;refine ag (KJ (p:=p) O I L) (ag (Gt ⟨O,O⟩ false) (ag (KJ (p:=p) O I L) (ag (Gt ⟨O,O⟩ false) ?_)));show ab (bo _ n (List.replicate (ib p) false,List.replicate (ib p) false,0)) _;refine ab.loop (λz:List Bool×List Bool×Int=> ∃i:Nat,z.2.2=i/\i<=(bB p.parts).length/\ht (ib p) z.1 (kt ((bB p.parts).take i) p a)/\ht (ib p) z.2.1 (jw ((bB p.parts).take i) p a)) (λz=>(bB p.parts).length-z.2.2.toNat) ?_ n _ ⟨0,rfl,O,lL (Fh _) (λc _=>by simp[kt]),lL (Fh _) λc _=>by simp[jw]⟩ Z;rintro B ⟨x,y,z⟩ ⟨i,o,aH,q,l⟩ W;dsimp only at o q l⊢;subst o;have m:(fX p).list=bB p.parts:=rfl;rw[m];refine aQ (λX=>?_) λY=>ab.some ?_
 ·obtain⟨u,k⟩: ∃u,(bB p.parts)[i]? =some u:=⟨_,bs (O:i<(bB p.parts).length)⟩
  have b:=iE (bF k);obtain⟨gv,t,ahx,_⟩:=qw A b;have C:(fX p).reads[i]? =some (rc p u):=kZ k;have D:(fX p).dv[i]? =some (dc p u:Int):=kZ (f:=λx=>(dc p x:Int)) k;refine ab.aA (λz:List Bool×List Bool×Int×Int×List Int=>ht (ib p) z.1 (kt ((bB p.parts).take (i+1)) p a)/\ht (ib p) z.2.1 (jw ((bB p.parts).take (i+1)) p a)) (λj Q=>?_) λz o=>?_
  ·refine ag (bk k) (eP (λs=>Q _ ⟨lL q λc _=>?_,lL l λc _=>?_⟩) λR=>ag (bk C) ?_)
   ·rw[gd k,wh];exact⟨.inl,λh=>h.elim id λh=>bA h.1 s⟩
   ·rw[gd k,wg];exact⟨.inl,λh=>h.elim id λh=>bA h.1 s⟩
   refine LF (T:=ib p) O (cs:=rc p u) O (λc v=>by have:=t c v;omega) (K:=λF=>Option.bind (au (fX p).dv (i:Int)) λw=>Option.bind (au y w) λE=>Option.bind (b' y w true) λG=>j (F,G,u.part,u.stmt,u.cL)) q λg H=>?_;refine ag (bk D) (ag (ry l O) (ag (Ff O (by rw[l.1];omega) true) (Q _ ⟨lL H λc _=>?_,?_⟩)))
   ·rw[gd k,wh];exact or_congr Iff.rfl ⟨λh=>⟨R,h⟩,λh=>h.2⟩
   refine lL (FH l (d:=dc p u) O) λc _=>?_;rw[gd k,wg];exact or_congr Iff.rfl ⟨λh=>⟨R,h.symm⟩,λh=>h.2.symm⟩
  obtain⟨M,N,P,S,V⟩:=z;dsimp only at o⊢;rw[be O];exact W _ ⟨i+1,Z,O,o.1,o.2⟩ Z
 have e:i=(bB p.parts).length:=O
 rw[e,c4] at q l;exact⟨q,l⟩
theorem DD(L:7100<=n)(o:b2 p=true)(a:Int)(w:Bool):ab (sx n p a w) (λr=>r.length<=144/\ ∀c:Int,c∈r↔0<=c/\c.toNat<ib p/\(if w=true then jw (bB p.parts) p a c.toNat else kt (bB p.parts) p a c.toNat)):=by
 obtain⟨Q,R,_,_,U⟩:=ey o;have v:=wI o;unfold sx;refine ag (KA O Q R) (ag (Gt ⟨O,O⟩ false) (ag (uE O o) (ag (E4 L o) ?_)));show ab (bo _ n (List.replicate (ib p) false,0)) _;refine ab.loop (λz:List Bool×Int=> ∃i:Nat,z.2=i/\i<=(bB p.parts).length/\ht (ib p) z.1 λc=>if w=true then jw ((bB p.parts).take i) p a c else kt ((bB p.parts).take i) p a c) (λz=>(bB p.parts).length-z.2.toNat) ?_ n _ ⟨0,rfl,O,lL (Fh _) λc _=>by simp[kt,jw]⟩ Z;rintro A ⟨x,z⟩ ⟨i,y,E,l⟩ W;dsimp only at y l⊢;subst y;refine aQ (λk=>?_) λX=>?_
 ·obtain⟨u,m⟩: ∃u,(bB p.parts)[i]? =some u:=⟨_,bs (O:i<(bB p.parts).length)⟩
  have Y:=iE (bF m);obtain⟨M,b,N,_⟩:=qw o Y;have q:(lW p)[i]? =some (⟨rc p u,(dc p u:Int)⟩:kJ):=kZ (f:=λx=>(⟨rc p x,(dc p x:Int)⟩:kJ)) m;refine ab.aA (λz:List Bool=>ht (ib p) z λc=>if w=true then jw ((bB p.parts).take (i+1)) p a c else kt ((bB p.parts).take (i+1)) p a c) (λj B=>?_) λz y=>?_
  ·refine ag (bk m) (eP (λC=>B _ (lL l λc _=>?_)) λI=>?_)
   ·rw[gd m,wg,wh];split<;>exact⟨.inl,λh=>h.elim id λh=>bA h.1 C⟩
   cases w with
   |true=>
    refine bS (ag (bk q) (ag (ry l O) (ag (Ff (by(try dsimp only);omega) (by rw[l.1];(try dsimp only);omega) true) (B _ ?_))));refine lL (FH l (d:=dc p u) O) λc _=>?_;rw[gd m,wg,wh];exact or_congr Iff.rfl ⟨λh=>⟨I,h.symm⟩,λh=>h.2.symm⟩
   |false=>
    refine b3 ?_;simp only[bk q,Option.bind_some];refine LF (T:=ib p) O (cs:=rc p u) O (λc t=>by have:=b c t;omega) (K:=λD=>j D) l λg F=>B _ (lL F λc _=>?_);rw[gd m,wg,wh];exact or_congr Iff.rfl ⟨λh=>⟨I,h⟩,λh=>h.2⟩
  rw[be O];exact W _ ⟨i+1,Z,O,y⟩ Z
 have e:i=(bB p.parts).length:=O
 rw[e,c4] at l;have G:=l.1;refine ag (J2 O O) (ab.some ⟨by have:=Kp x;omega,λc=>?_⟩);rw[D2];constructor
 ·rintro⟨H,s⟩;have k:c.toNat<ib p:=by
   rw[<-G];by_cases h:c.toNat<x.length
   ·exact h
   rw[eu,q4 O] at s;cases s
  exact⟨H,k,(l.2 _ k).1 s⟩
 rintro⟨H,k,s⟩;exact⟨H,(l.2 _ k).2 s⟩
theorem F0(r:5000<=n){a b:List Int}(s:a.length<=1000)(m:b.length<=1000):vl n a b=some (a.any λc=>decide (c∈b)):=by
 refine ab.eq ?_;unfold vl;refine ab.loop (λz:Int=> ∃i:Nat,z=i/\i<=a.length/\(a.take i).any (λc=>decide (c∈b))=false) (λz=>a.length-z.toNat) ?_ n 0 ⟨0,rfl,O,aX⟩ O;rintro k z ⟨i,rfl,w,d⟩ o;refine aQ (λp=>?_) λq=>ab.some ?_
 ·obtain⟨c,l⟩: ∃c,a[i]? =some c:=⟨_,bs (O:i<a.length)⟩
  refine ag (bk l) (ag (Fa O m c) (ab.cond (λh=>ab.some ?_) λh=>?_))
  ·exact(ig.2 ⟨c,bF l,h⟩).symm
  rw[be O];refine o _ ⟨i+1,O,O,?_⟩ O;rw[gd l,sZ,d];simpa using h
 have e:i=a.length:=O
 rw[e,c4] at d;exact d.symm
def Bl(p:Prog)(a b:Int):Prop:= ∀x∈bB p.parts,∀y∈bB p.parts,x.part=a->y.part=b-> ¬OM p x y
noncomputable def rQ(p:Prog)(a b:Int):Bool:= @decide (Bl p a b) (Classical.propDecidable _)
theorem H4{b:Int}:rQ p a b=true↔Bl p a b:=by unfold rQ;exact @decide_eq_true_iff _ (Classical.propDecidable _)
theorem KG(n:b2 p=true){b:Int}:Bl p a b↔ ∀c,c<ib p-> ¬(jw (bB p.parts) p a c/\(kt (bB p.parts) p b c\/jw (bB p.parts) p b c))/\ ¬(jw (bB p.parts) p b c/\kt (bB p.parts) p a c):=by
 have o:=wI n;constructor
 ·intro h c _;refine⟨?_,?_⟩
  ·rintro⟨⟨x,l,e,m⟩,⟨y,k,d,i⟩|⟨y,k,d,i⟩⟩
   ·exact h x l y k e d (.inl (by rw[m];exact i))
   exact h x l y k e d (.inr (.inr (by rw[m,i])))
  rintro⟨⟨y,k,d,i⟩,⟨x,l,e,m⟩⟩;exact h x l y k e d (.inr (.inl (by rw[i];exact m)))
 intro h x l y k e d bP;have q:=(qw n (iE l)).1;have r:=(qw n (iE k)).1;rcases bP with bP|bP|bP
 ·exact(h (dc p x) O).1 ⟨⟨x,l,e,rfl⟩,.inl ⟨y,k,d,bP⟩⟩
 ·exact(h (dc p y) O).2 ⟨⟨y,k,d,rfl⟩,⟨x,l,e,bP⟩⟩
 exact(h (dc p x) O).1 ⟨⟨x,l,e,rfl⟩,.inr ⟨y,k,d,bP.symm⟩⟩
def ee(p:Prog)(a:Int):Bool:=decide (0<=a/\a<(p.parts.length:Int))
noncomputable def j0(p:Prog)(a b:Int):Bool:=b2 p&&(ee p a&&(ee p b&&(!decide (a=b)&&rQ p a b)))
theorem sC{b:Bool}(h:(!b)=true):b=false:=by cases b with
 |false=>rfl
 |true=>cases h
theorem qI{b:Bool}(h:(!b)=false):b=true:=by cases b with
 |false=>cases h
 |true=>rfl
theorem Vt(cG:5000<=n){T:Nat}(kp:T<=1000){I E M K:List Bool}{x p q l:Nat->Prop}(F:ht T I x)(L:ht T E p)(Q:ht T M q)(y:ht T K l){v:Bool}(N:v=true↔ ∀c,c<T-> ¬(p c/\(q c\/l c))/\ ¬(l c/\x c)):
  ab (bo (λm (k:Int)=>
     bif decide (k<(I.length:Int)) then(
      aA (fun(R:Bool)=>
       bif R then(
        some false
       ) else(
        m (wr (k+1))
       )
      ) (λo=>
       Option.bind (au E k) λU=>
       bif U then(
        Option.bind (au M k) λW=>
        bif W then(
         o true
        ) else(
         Option.bind (au K k) λX=>
         bif X then(
          o true
         ) else(
          o false
         )
        )
       ) else(
        Option.bind (au K k) λY=>
        bif Y then(
         Option.bind (au I k) λb=>
         o b
        ) else(
         o false
        )
       )
      )
     ) else(
      some true
     )
    ) n 0) (λr=>r=v):=by
 have A: ∀c,c<T->((p c/\(q c\/l c))\/(l c/\x c))->v=false:=λc f h=>by
  cases g:v with
  |false=>rfl
  |true=>
   have:=N.1 g c f;rcases h with h|h
   ·exact bA h this.1
   exact bA h this.2
 have t:=F.1;refine ab.loop (λz:Int=> ∃i:Nat,z=i/\i<=T/\ ∀c,c<i-> ¬(p c/\(q c\/l c))/\ ¬(l c/\x c)) (λz=>T-z.toNat) ?_ n 0 ⟨0,rfl,O,λc h=>O⟩ O;rintro u z ⟨i,rfl,aH,B⟩ V;rw[t];refine aQ (λhlt=>?_) λiC=>ab.some ?_
 ·have a:i<T:=O
  refine ab.aA (λz=>(z=true->(p i/\(q i\/l i))\/(l i/\x i))/\(z=false-> ¬(p i/\(q i\/l i))/\ ¬(l i/\x i))) (λj C=>?_) λz P=>ab.cond (λh=>ab.some (A i a (P.1 h)).symm) λh=>?_
  ·refine ag (ry L a) (ab.cond (λG=>?_) λG=>?_)
   ·have w:=(L.2 i a).1 G;refine ag (ry Q a) (ab.cond (λH=>C _ ⟨λ_=> .inl ⟨w,.inl ((Q.2 i a).1 H)⟩,λh=>(by cases h)⟩) λH=>ag (ry y a) (ab.cond (λd=>C _ ⟨λ_=> .inl ⟨w,.inr ((y.2 i a).1 d)⟩,λh=>(by cases h)⟩) λd=>C _ ⟨λh=>(by cases h),λ_=>?_⟩));have ag6: ¬q i:=λh=>by rw[(Q.2 i a).2 h] at H;cases H
    have D: ¬l i:=λh=>by rw[(y.2 i a).2 h] at d;cases d
    exact⟨λh=>h.2.elim ag6 D,λh=>D h.1⟩
   have S: ¬p i:=λh=>by rw[(L.2 i a).2 h] at G;cases G
   refine ag (ry y a) (ab.cond (λd=>ag (ry F a) (C _ ⟨λh=> .inr ⟨(y.2 i a).1 d,(F.2 i a).1 h⟩,λh=>⟨λs=>S s.1,λs=>by rw[(F.2 i a).2 s.2] at h;cases h⟩⟩)) λd=>C _ ⟨λh=>(by cases h),λ_=>⟨λs=>S s.1,λs=>by rw[(y.2 i a).2 s.1] at d;cases d⟩⟩)
  rw[be O];refine V _ ⟨i+1,O,O,λc f=>?_⟩ O;by_cases e:c=i
  ·subst e;exact P.2 h
  exact B c O
 exact(N.2 λc f=>B c O).symm
theorem YC(l:7100<=n)(q:ln p)(a b:Int):BU n p a b=some (j0 p a b):=by
 unfold BU;refine ab.eq (ag (yp l q) ?_);by_cases c:b2 p=true
 ·rw[a1 c];have C:=wI c;have d:=q.2.1;refine bS (ab.aA (λz=>z= !(ee p a&&(ee p b&& !decide (a=b)))) (λj e=>b3 (ag (qy n d a) (ab.cond (λh=>e _ ?_) λh=>ag (qy n d b) (ab.cond (λm=>e _ ?_) λm=>e _ ?_)))) λz o=>?_)
  ·have:ee p a=false:=sC h;rw[this];rfl
  ·have i:ee p a=true:=qI h;have k:ee p b=false:=sC m;rw[i,k];rfl
  ·have i:ee p a=true:=qI h;have k:ee p b=true:=qI m;rw[i,k];simp
  subst o;unfold j0;rw[c];cases i:ee p a with
  |false=>exact bS (ab.some rfl)
  |true=>
   cases k:ee p b with
   |false=>exact bS (ab.some rfl)
   |true=>
    cases D:decide (a=b) with
    |true=>exact bS (ab.some rfl)
    |false=>
     refine b3 (cc (K5 l c a) λr ⟨w,x⟩=>cc (K5 l c b) λs ⟨y,A⟩=>?_);exact(Vt O (T:=ib p) O w x y A (v:=rQ p a b) (by rw[H4,KG c])).mono λr B=>B
 rw[a6 c];refine b3 (ab.aA (λz=>z=true) (λj e=>bS (e _ rfl)) λz o=>?_);rw[o];refine bS (ab.some ?_);unfold j0;rw[show b2 p=false by simpa using c];rfl
theorem XL(B:7100<=n)(W:ln p)(a b:Int):BS n p a b=some (j0 p a b):=by
 unfold BS;refine ab.eq (ab.aA (λz=>z= !(b2 p&&(ee p a&&(ee p b&& !decide (a=b))))) (λj i=>?_) λz F=>?_)
 ·refine ag (jP O W) (ab.cond (λh=>i _ ?_) λh=>?_)
  ·rw[show b2 p=false by simpa using h];rfl
  have l:b2 p=true:=by simpa using h
  rw[l] at i;refine aQ (λL=>i _ ?_) λL=>aQ (λX=>i _ ?_) λX=>aQ (λQ=>i _ ?_) λQ=>aQ (λY=>i _ ?_) λY=>i _ ?_
  ·rw[show ee p a=false from bx O];rfl
  ·rw[show ee p b=false from bx O];simp
  ·rw[show ee p a=false from bx O];rfl
  ·rw[show ee p b=false from bx O];simp
  rw[show ee p a=true from bz O,show ee p b=true from bz O];simp
 subst F;unfold j0;by_cases l:b2 p=true
 ·rw[l];have t:=wI l;cases L:ee p a with
  |false=>exact bS (ab.some rfl)
  |true=>
   cases Q:ee p b with
   |false=>exact bS (ab.some rfl)
   |true=>
    cases u:decide (a=b) with
    |true=>exact bS (ab.some rfl)
    |false=>
     have m:=H4.trans (KG l (a:=a) (b:=b));have k: ∀c,c<ib p->((jw (bB p.parts) p a c/\(kt (bB p.parts) p b c\/jw (bB p.parts) p b c))\/(jw (bB p.parts) p b c/\kt (bB p.parts) p a c))->rQ p a b=false:=λc o h=>by
      cases G:rQ p a b with
      |false=>rfl
      |true=>
       have:=m.1 G c o;rcases h with h|h
       ·exact bA h this.1
       exact bA h this.2
     refine b3 (cc (DD B l a true) λq ⟨v,C⟩=>cc (DD B l b true) λr ⟨E,D⟩=>ab.aA (λz=>z=rQ p a b) (λj i=>?_) λz F=>ab.some F);refine ag (F0 O O O) (ab.cond (λh=>?_) λh=>i _ ?_)
     ·have f: ∀c,c∈q->c∈r->False:=λc e d=>by
       have:q.any (λc=>decide (c∈r))=true:=ig.2 ⟨c,e,bz d⟩;rw[this] at h;cases h
      refine cc (DD B l b false) λH ⟨M,R⟩=>ag (F0 O O O) (ab.cond (λh=>?_) λh=>i _ ?_)
      ·have g: ∀c,c∈q->c∈H->False:=λc e d=>by
        have:q.any (λc=>decide (c∈H))=true:=ig.2 ⟨c,e,bz d⟩;rw[this] at h;cases h
       refine cc (DD B l a false) λs ⟨l10,w⟩=>ag (F0 O O O) (i _ ?_);cases I:r.any (λc=>decide (c∈s)) with
       |true=>
        obtain⟨c,e,d⟩:=ig.1 I;obtain⟨U,x,y⟩:=(D c).1 e;obtain⟨_,_,A⟩:=(w c).1 (e4 d);exact(k c.toNat x (.inr ⟨y,A⟩)).symm
       |false=>
        refine(m.2 λc o=>⟨?_,?_⟩).symm
        ·rintro⟨e,d|d⟩
         ·exact g (c:Int) ((C _).2 ⟨O,o,e⟩) ((R _).2 ⟨O,o,d⟩)
         exact f (c:Int) ((C _).2 ⟨O,o,e⟩) ((D _).2 ⟨O,o,d⟩)
        rintro⟨e,d⟩
        have:r.any (λc=>decide (c∈s))=true:=ig.2 ⟨(c:Int),(D _).2 ⟨O,o,e⟩,bz ((w _).2 ⟨O,o,d⟩)⟩;rw[this] at I;cases I
      have K:q.any (λc=>decide (c∈H))=true:=by simpa using h
      obtain⟨c,e,d⟩:=ig.1 K;obtain⟨U,x,y⟩:=(C c).1 e;obtain⟨_,_,A⟩:=(R c).1 (e4 d);exact(k c.toNat x (.inl ⟨y,.inl A⟩)).symm
     have K:q.any (λc=>decide (c∈r))=true:=by simpa using h
     obtain⟨c,e,d⟩:=ig.1 K;obtain⟨U,x,y⟩:=(C c).1 e;obtain⟨_,_,A⟩:=(D c).1 (e4 d);exact(k c.toNat x (.inl ⟨y,.inr A⟩)).symm
 rw[show b2 p=false by simpa using l];exact bS (ab.some rfl)
def lX{k:Type}(l:List k)(i:Nat)(a b:k):List k:=l.take i++b::a::l.drop (i+2)
theorem F4{k:Type}{l:List k}{a b:k}(c:l[i]? =some a)(d:l[i+1]? =some b):l=l.take i++a::b::l.drop (i+2):=by have e:l.drop i=a::l.drop (i+1):=jU c;have h:l.drop (i+1)=b::l.drop (i+2):=jU d;rw[<-h,<-e,s6]
noncomputable def qX(p:Prog)(a:Int):Prog×Bool:=
 if j0 p a (a+1)=true then
  (match au p.parts a,au p.parts (a+1) with
  |some c,some d=>(⟨p.aS,lX p.parts a.toNat c d⟩,true)
  |_,_=>d')
 else d'
theorem uH{b:Int}(h:j0 p a b=true):b2 p=true/\(0<=a/\a<(p.parts.length:Int))/\(0<=b/\b<(p.parts.length:Int))/\Bl p a b:=by unfold j0 at h;simp only[Bool.and_eq_true] at h;exact⟨h.1,e4 h.2.1,e4 h.2.2.1,H4.1 h.2.2.2.2⟩
theorem H5(h:j0 p a (a+1)=true): ∃(i:Nat) (c d:Part),a=i/\p.parts[i]? =some c/\p.parts[i+1]? =some d/\i+1<p.parts.length:=by
 obtain⟨e,k,l,_⟩:=uH h;obtain⟨i,rfl⟩: ∃i:Nat,a=i:=⟨a.toNat,O⟩
 exact⟨i,_,_,rfl,bs O,bs O,O⟩
theorem IK(h:j0 p (i:Int) ((i:Int)+1)=true)(a:p.parts[i]? =some x)(c:p.parts[i+1]? =some P):qX p (i:Int)=(⟨p.aS,lX p.parts i x P⟩,true):=by unfold qX;rw[a1 h,bk a,show((i:Int)+1)=((i+1:Nat):Int) by omega,bk c];rfl
theorem Wt{k:Type}{l:List k}{a b:k}(c:l[i]? =some a)(d:l[i+1]? =some b){x:k}:x∈lX l i a b↔x∈l:=by
 conv=>rhs;rw[F4 c d]
 unfold lX;simp only[List.mem_append,List.mem_cons];constructor
 ·rintro(h|h|h|h)
  ·exact .inl h
  ·exact .inr (.inr (.inl h))
  ·exact .inr (.inl h)
  exact .inr (.inr (.inr h))
 rintro(h|h|h|h)
 ·exact .inl h
 ·exact .inr (.inr (.inl h))
 ·exact .inr (.inl h)
 exact .inr (.inr (.inr h))
theorem Wu{k:Type}{l:List k}{a b:k}(h:i+1<l.length):(lX l i a b).length=l.length:=by unfold lX;simp only[List.length_append,List.length_cons,List.length_take,List.length_drop];omega
theorem Ws{k:Type}{l:List k}{a b:k}(e:l[i]? =some a)(c:l[i+1]? =some b):(l.set i b).set (i+1) a=lX l i a b:=by
 have aH:=(bR.1 c).1;have d:(l.take i).length=i:=by rw[cJ];omega
 conv=>lhs;rw[F4 e c]
 rw[mF _ _ O,d,j',vv,mF _ _ O,d,show i+1-i=1 by omega];rfl
theorem IL(a:b2 p=true){s:Part}(d:p.parts[i]? =some P)(c:p.parts[i+1]? =some s):b2 ⟨p.aS,lX p.parts i P s⟩=true:=by
 have aH:=(bR.1 c).1;unfold b2 j7 at a⊢;simp only[Bool.and_eq_true,decide_eq_true_eq,List.all_eq_true] at a⊢;obtain⟨⟨aJ,a2,a3⟩,a4⟩:=a;refine⟨⟨aJ,by rw[Wu aH];exact a2,λx h=>a3 x ((Wt d c).1 h)⟩,?_⟩;have e:=F4 d c
 have:(p.parts.map fB).sum=((lX p.parts i P s).map fB).sum:=by
  conv=>lhs;rw[e]
  unfold lX;simp only[List.map_append,List.map_cons,List.sum_append,List.sum_cons];omega
 rw[<-this];exact a4
theorem Nc(a:b2 p=true)(c:p.parts[i]? =some x)(d:p.parts[i+1]? =some P):c5 1000 ⟨p.aS,lX p.parts i x P⟩:=(kN (IL a c d)).mono O
theorem ad7(m:7100<=n)(o:c5 1000 p)(s: -1<=a/\a<=9):Dj n p a=some (qX p a):=by
 unfold Dj;rw[be (n:=a+1) O];refine ab.eq (ab.aA (λz=>z= !j0 p a (a+1)) (λj e=>?_) λz q=>?_)
 ·refine aQ (λh=>e _ ?_) λh=>aQ (λd=>e _ ?_) λd=>ag (YC m o.sm a (a+1)) (e _ rfl)
  ·cases c:j0 p a (a+1) with
   |false=>rfl
   |true=>have:=uH c;omega
  cases c:j0 p a (a+1) with
  |false=>rfl
  |true=>have:=uH c;omega
 subst q;cases c:j0 p a (a+1) with
 |false=>
  refine bS (ab.some ?_);unfold qX;rw[a6 (by rw[c];simp)];rfl
 |true=>
  refine b3 ?_;obtain⟨i,w,l,rfl,k,d,x⟩:=H5 c;rw[IK c k d,show((i:Int)+1)=((i+1:Nat):Int) by omega];refine ag (qJ O (uH c).1) (ag (bk d) (ag (bk k) (ag (dH O _) ?_)));rw[cY];have r:(p.parts.set i l)[i+1]? =some l:=by rw[je O];exact d
  refine ag (bk r) (ag (dH (by rw[eS];omega) _) (ab.some ?_));rw[cY,Ws k d]
theorem afr(m:7100<=n)(e:c5 1000 p)(q: -1<=a/\a<=9):C8 n p a=some (qX p a):=by
 unfold C8;rw[be (n:=a+1) O];refine ab.eq (ag (kx O e) (ag (XL m e.sm a (a+1)) ?_));cases h:j0 p a (a+1) with
 |false=>
  refine bS (ab.some ?_);unfold qX;rw[a6 (by rw[h];simp)];rfl
 |true=>
  refine b3 ?_;obtain⟨i,k,l,rfl,c,d,r⟩:=H5 h;have bJ:=(uH h).1;have o:=e.2.1;rw[IK h c d,show((i:Int)+1)=((i+1:Nat):Int) by omega];refine ag (bk d) (ag (bk c) (ag (x:=(⟨p.aS,lX p.parts i k l⟩,true)) (ab.eq ?_) (ab.some rfl)));unfold jr;refine ag (m' O e) (ag (gN O O O) ?_);rw[cY,show(0:Int).toNat=0 from rfl,nx];refine ag (x:=p.parts.take i) (cX bQ) (ag (x:=p.parts.take i++[l,k]) (cX bQ) ?_);rw[be O];refine ag (gN O O O) ?_;rw[cY,c4,show((i:Int)+2).toNat=i+2 by omega];refine ag (x:=lX p.parts i k l) ?_ (ag (jP O (Nc bJ c d).sm) ?_)
  ·rw[cX bQ,ie];rfl
  rw[IL bJ c d];exact b3 (ag (m' O (Nc bJ c d)) (ab.some rfl))
theorem Oe{p:Prog}(c:b2 p=true){x:cx}(i:gk p x): ∀{Y:List cx} {m:List Int},(∀y∈Y,gk p y)->(∀y∈Y,G0 p x y)->rM p.aS m->my p (jj p m x) Y=jj p (my p m Y) x
 | [],m,_,_,_=>rfl
 |y::Y,m,d,e,h=>by show my p (jj p (jj p m x) y) Y=jj p (my p (jj p m y) Y) x;rw[e y eR m h];exact Oe c i (λz a=>d z (ev _ a)) (λz a=>e z (ev _ a)) (M3 c h (d y eR))
theorem block{p:Prog}(a:b2 p=true): ∀{X Y:List cx} {m:List Int},(∀x∈X,gk p x)->(∀y∈Y,gk p y)->(∀x∈X,∀y∈Y,G0 p x y)->rM p.aS m->my p (my p m X) Y=my p (my p m Y) X
 | [],Y,m,_,_,_,_=>rfl
 |x::X,Y,m,c,e,h,i=>by show my p (my p (jj p m x) X) Y=my p (jj p (my p m Y) x) X;rw[block a (λz d=>c z (ev _ d)) e (λz d=>h z (ev _ d)) (M3 a i (c x eR)),Oe a (c x eR) e (h x eR) i]
def nQ(a b:Loop):Bool:=pN a.bf b.bf&&pN a.aH b.aH
def pR(a b:List Loop):Bool:=kB nQ a b
theorem Tp(d:5000<=n){a b:List Loop}(c:pV a):sB n a b=some (pR a b):=by unfold sB BX;refine ab.eq (ag (Fg (p:=nQ) (f:=λk l=>uS n k l) (λx h y _=>?_) (by have:=c.1;omega) (by have:=c.1;omega)) (ab.some rfl));unfold uS nQ;refine ab.eq (ab.aA (λz=>z=(pN x.bf y.bf&&pN x.aH y.aH)) (λj i=>ag (JA d (c.2 x h).1) (ab.cond (λe=>ag (JA d (c.2 x h).2) (i _ (by rw[e];rfl))) λe=>i _ (by rw[e];rfl))) λz m=>ab.some m)
theorem Tb(m:5000<=n){a b:List Loop}(o:pV a):DF n a b=some (pR a b):=by
 unfold DF pR;have cD:=o.1;refine ab.eq (eP (λh=>ab.some ?_) λh=>?_)
 ·cases c:kB nQ a b with
  |false=>rfl
  |true=>exact bA (by rw[E3 c]) h
 refine ab.loop (λx:Int=> ∃i:Nat,x=i/\i<=a.length/\kB nQ (a.drop i) (b.drop i)=kB nQ a b) (λx=>a.length-x.toNat) ?_ n 0 ⟨0,rfl,O,rfl⟩ O;rintro k x ⟨i,rfl,G,c⟩ y;refine aQ (λA=>?_) λB=>ab.some ?_
 ·have p:i<a.length:=O
  have q:i<b.length:=O
  have d:=bs p;have l:=bs q;have r:=o.2 _ (bF d);rw[k9 p,k9 q] at c;simp only[kB] at c;refine ab.aA (λz=>z= !nQ a[i] b[i]) (λj s=>?_) λz C=>?_
  ·refine ag (bk d) (ag (bk l) (ag (Jy m r.1) (ab.cond (λe=>s _ ?_) λe=>ag (Jy m r.2) (s _ ?_))))
   ·unfold nQ;rw[sC e];rfl
   unfold nQ;rw[qI e];rfl
  subst C;cases w:nQ a[i] b[i] with
  |false=>rw[w] at c;exact bS (ab.some c)
  |true=>
   rw[w,fb] at c;refine b3 ?_;rw[be O];exact y _ ⟨i+1,O,O,c⟩ O
 have D:a.drop i=[]:=kF O;have F:b.drop i=[]:=kF O;rw[D,F] at c;exact c
def ir:List Int->List Int->Bool
 |a::as,b::c=>if a=b then ir as c else decide (a<b)
 | [],_::_=>true
 |_,[]=>false
theorem L9{p:List Int}(B:p.length<n)(C:p.length<=1000)(D:q.length<=1000):yM n p q=some (ir p q):=by
 unfold yM;refine ab.eq (ab.loop (λx:Int=> ∃i:Nat,x=i/\i<=p.length/\i<=q.length/\ir (p.drop i) (q.drop i)=ir p q) (λx=>p.length-x.toNat) ?_ n 0 ⟨0,rfl,O,O,rfl⟩ O);rintro c x ⟨i,rfl,F,G,a⟩ o;refine ab.aA (λz=>z=decide (i<p.length/\i<q.length)) (λj m=>aQ (λh=>m _ ?_) λh=>m _ ?_) λz r=>?_
 ·rw[e5];simp only[decide_eq_true_eq];omega
 ·exact(bx O).symm
 subst r;refine aQ (λh=>?_) λh=>ab.some ?_
 ·have d:=bs h.1;have k:=bs h.2;rw[k9 h.1,k9 h.2] at a;simp only[ir] at a;refine ag (bk d) (ag (bk k) (eP (λl=>ab.some ?_) λs=>?_))
  ·rw[a6 l] at a;exact a
  rw[a1 s] at a;rw[be O];exact o _ ⟨i+1,O,O,O,a⟩ O
 rw[<-a];by_cases e:i<p.length
 ·have w:q.drop i=[]:=kF O;rw[w,k9 e];simp only[ir];exact bx O
 have y:p.drop i=[]:=kF O;rw[y];by_cases A:i<q.length
 ·rw[k9 A];simp only[ir];exact bz O
 rw[kF (O:q.length<=i)];simp only[ir];exact bx O
theorem Vr(n:Nat)(x y:Int):BV n x y=some (if x<y then-1 else if y<x then 1 else 0):=by
 unfold BV Cc;simp only[Option.bind,decide_true,Bool.not_true,cond_false];by_cases h:x<y
 ·rw[bz h,a1 h];rfl
 rw[bx h,a6 h];by_cases a:y<x
 ·rw[bz a,a1 a];rfl
 rw[bx a,a6 a];rfl
theorem YE{p:List Int}(D:p.length<n)(F:p.length<=1000)(G:q.length<=1000):zu n p q=some (ir p q):=by
 unfold zu I1;refine ab.eq (cc (P:=λc:Int=>decide (c<0)=ir p q) ?_ λc y=>ab.some y);refine ab.loop (λx:Int=> ∃i:Nat,x=i/\i<=p.length/\i<=q.length/\ir (p.drop i) (q.drop i)=ir p q) (λx=>p.length-x.toNat) ?_ n 0 ⟨0,rfl,O,O,rfl⟩ O;rintro k x ⟨i,rfl,H,I,a⟩ z;refine aQ (λA=>?_) λB=>?_
 ·have e:i<p.length:=O
  have l:=bs e;refine ag (bk l) (aQ (λh=>ab.some ?_) λh=>?_)
  ·rw[<-a,kF (O:q.length<=i),k9 e];simp[ir]
  have s:i<q.length:=O
  have m:=bs s;rw[k9 e,k9 s] at a;simp only[ir] at a;refine ag (bk m) (ag (Vr n _ _) ?_);by_cases d:p[i]<q[i]
  ·rw[a1 d];refine eP (λ_=>ab.some ?_) λo=>bA o O;rw[a6 O] at a;rw[<-a,bz d];rfl
  rw[a6 d];by_cases w:q[i]<p[i]
  ·rw[a1 w];refine eP (λ_=>ab.some ?_) λo=>bA o O;rw[a6 O] at a;rw[<-a,bx d];rfl
  rw[a6 w];refine eP (λr=>bA rfl r) λ_=>?_;rw[a1 O] at a;rw[be O];exact z _ ⟨i+1,O,O,O,a⟩ O
 have C:p.drop i=[]:=kF O;rw[C] at a;refine aQ (λh=>ab.some ?_) λh=>ab.some ?_
 ·rw[<-a,k9 (O:i<q.length)];rfl
 rw[<-a,kF (O:q.length<=i)];rfl
def kM(p:Prog)(i many:Nat)(a:List Part):Prog:=⟨p.aS,p.parts.take i++a++p.parts.drop (i+many)⟩
theorem AB(a:c5 900 p)(k:ys.length<=4)(d: ∀y∈ys,fv 1000 y):c5 1000 (kM p i many ys):=by
 have e:=a.2.1;refine⟨(a.mono (O:900<=1000)).1,?_,λx c=>?_⟩
 ·show(p.parts.take i++ys++p.parts.drop (i+many)).length<=1000;simp only[List.length_append,List.length_take,List.length_drop];omega
 have c:x∈p.parts.take i++ys++p.parts.drop (i+many):=c;simp only[List.mem_append] at c;rcases c with (h|h)|h
 ·exact(a.mono (O:900<=1000)).2.2 x (fR h)
 ·exact d x h
 exact(a.mono (O:900<=1000)).2.2 x (eV h)
theorem Fb(e:7000<=n)(a:c5 900 p)(o:i+many<=p.parts.length)(k:ys.length<=4)(l: ∀y∈ys,fv 1000 y):jr n p (i:Int) (many:Int) ys=some (hD (kM p i many ys)):=by
 have m:=a.2.1;have c:=a.mono (O:900<=1000);have d:=AB a (i:=i) (many:=many) k l;unfold jr hD;refine ab.eq (ag (m' O c) (ag (gN O O O) ?_));rw[cY,show(0:Int).toNat=0 from rfl,nx];refine ag (x:=p.parts.take i) (cX bQ) (ag (x:=p.parts.take i++ys) (cX bQ) ?_);rw[be O];refine ag (gN O O O) ?_;rw[cY,c4,show((i:Int)+(many:Int)).toNat=i+many by omega];refine ag (x:=(kM p i many ys).parts) ?_ ?_;rotate_left;show ab (Option.bind (kl n (kM p i many ys)) _) _;refine(ag (jP e d.sm) (ab.cond (λh=>ab.some ?_) λh=>?_))
 ·rw[a6 (by simpa using h)]
 ·rw[a1 (by simpa using h)];exact ag (m' O d) (ab.some rfl)
 rw[cX bQ];rfl
def mT(p:Prog)(c:Int)(d:fH):Bool:=match (bB p.parts)[d.eA.toNat]?,(bB p.parts)[d.eC.toNat]? with
 |some a,some b=>decide (a.part=c)&&(decide (b.part=c+1)&&ir b.cL a.cL)
 |_,_=>false
def rI(a c:Part):Part:=⟨a.nest,a.body++c.body⟩
abbrev nM(p:Prog):List fH:=fW p (bB p.parts) (bB p.parts).length
def GP(p:Prog)(a:Int)(c d:Part):Bool:=pR c.nest d.nest&& !(nM p).any (mT p a)
def ui(p:Prog)(a:Int):Prog×Bool:=
 if b2 p=true/\ee p a=true then
  (match au p.parts a,au p.parts (a+1) with
  |some c,some d=>if GP p a c d=true then hD (kM p a.toNat 2 [rI c d]) else d'
  |_,_=>d')
 else d'
theorem AK(c:b2 p=true){d:fH}(i:d∈nM p): ∃(s t:Nat) (a b:cx),d.eA=s/\d.eC=t/\(bB p.parts)[s]? =some a/\(bB p.parts)[t]? =some b/\s<t/\a.cL.length<=4/\b.cL.length<=4:=by obtain⟨s,t,k,l,_,rfl⟩:=MK.1 i;have e:=bs (O:s<(bB p.parts).length);have h:=bs l;exact⟨s,t,_,_,rfl,rfl,e,h,k,PX c (iE (bF e)),PX c (iE (bF h))⟩
theorem zx(c:b2 p=true):(nM p).length<=14400:=by have d:=yS p (bB p.parts) (bB p.parts).length;have a:=(ey c).2.2.2.2;have e:(bB p.parts).length*(bB p.parts).length<=120*120:=nz a a;exact gr d e
theorem zC(m:7000<=n)(i:c5 1000 p)(a:Int):jY n p a (-1)=some (if b2 p=true/\ee p a=true then(p,true) else d'):=by
 unfold jY;refine ab.eq (ab.aA (λz=>z= !(b2 p&&ee p a)) (λj d=>?_) λz o=>?_)
 ·refine ag (uh m i.sm) (ab.cond (λh=>d _ (by rw[sC h];rfl)) λh=>?_);have bJ:=qI h;refine ag (qy n i.2.1 a) (ab.cond (λe=>d _ ?_) λe=>eP (λh=>(h rfl).elim) λ_=>d _ ?_)
  ·rw[bJ,show ee p a=false from sC e];rfl
  rw[bJ,show ee p a=true from qI e];rfl
 subst o;refine ab.cond (λh=>ab.some ?_) λh=>?_
 ·have:=sC h;rw[a6 λk=>by rw[k.1,k.2] at this;cases this];rfl
 have:=qI h;simp only[Bool.and_eq_true] at this;obtain⟨bJ,l⟩:=this;rw[a1 ⟨bJ,l⟩];have c:0<=a/\a<(p.parts.length:Int):=e4 l;obtain⟨x,q,_⟩:=gm c.1 c.2;exact ag (qJ O bJ) (ag q (ab.some rfl))
theorem Zk{s:List Part}{j:Nat}(c:i<j)(d:j<=s.length): ∃r,uL n s (i:Int) (j:Int)=some r/\r.2.take r.1=s.take i++s.drop j:=by
 refine⟨(eJ s i j,jN s i j (⟨[],[]⟩:Part)),?_,?_⟩
 ·unfold uL;rw[bz (show(0:Int)<=(i:Int) by omega),bz (show(i:Int)<=(j:Int) by omega),bz (show(j:Int)<=(s.length:Int) by omega),bx (show¬(i:Int)=(j:Int) by omega)];rfl
 dsimp only;have a:(s.take (i:Int).toNat++s.drop (j:Int).toNat).length=eJ s i j:=by
  unfold eJ;simp only[List.length_append,List.length_take,List.length_drop];omega
 unfold jN;rw[pB (by rw[a];exact cN _),jd (l:=s.take (i:Int).toNat++s.drop (j:Int).toNat) (by rw[a];exact cN _),cY,cY]
theorem Mq(c:b2 p=true)(d:x∈p.parts)(e:P∈p.parts):fv 1000 (rI x P):=by
 obtain⟨_,_,a⟩:=kN c;obtain⟨aJ,a2,a3⟩:=a x d;obtain⟨l,m,i⟩:=a P e;refine⟨aJ.mono O,?_,λs k=>?_⟩
 ·show(x.body++P.body).length<=1000;rw[dB];omega
 rcases dZ.1 (show s∈x.body++P.body from k) with h|h
 ·exact(a3 s h).mono O
 exact(i s h).mono O
theorem ad1(cG:20000<=n)(H:c5 1000 p)(a8: -1<=c/\c<=9):Dq n p c=some (ui p c):=by
 unfold Dq ui;refine ab.eq (ag (zC O H c) ?_);by_cases A:b2 p=true/\ee p c=true
 ·rw[a1 A,a1 A];obtain⟨o,S⟩:=A;have T:0<=c/\c<(p.parts.length:Int):=e4 S;obtain⟨i,rfl⟩: ∃i:Nat,c=i:=⟨c.toNat,O⟩
  have e:=bs (O:i<p.parts.length);have I:=bk e;generalize V:p.parts[i]=l at I e;have BL:=(ey o).2.2.1;refine bS (ag I ?_);rw[be (n:=(i:Int)+1) O,be (n:=(i:Int)+2) O,I];by_cases B:i+1<p.parts.length
  ·have w:=bs B;generalize af2:p.parts[i+1]=m at w;have K:au p.parts ((i:Int)+1)=some m:=bk w;have m1:=bF e;have f:=bF w;rw[K];dsimp only;refine ab.aA (λz=>z= !pR l.nest m.nest) (λj q=>aQ (λh=>bA h O) λ_=>ag rfl (ag (Tp O (H.sm.2.2 l m1).1) (q _ rfl))) λz C=>?_;subst C;unfold GP;cases hne:pR l.nest m.nest with
   |false=>exact bS (ab.some rfl)
   |true=>
    refine b3 (ag (yp O H.sm) ?_);rw[a1 o];refine bS (ag (EX O o) ?_);have L:=zx o;have Q: ∀d∈nM p,d∈nM p:=λ_ h=>h;show ab (bo _ n 0) _;rw[fb];generalize g:nM p=D at L Q;rw[show fW p (bB p.parts) (bB p.parts).length=D from g];refine ab.loop (λx:Int=> ∃k:Nat,x=k/\k<=D.length/\(D.take k).any (mT p (i:Int))=false) (λx=>D.length-x.toNat) ?_ n 0 ⟨0,rfl,O,rfl⟩ O;rintro R x ⟨k,rfl,hk,U⟩ b7;refine aQ (λhlt=>?_) λiC=>?_
    ·have cv:=bs (O:k<D.length);generalize Hr:D[k]=d at cv;obtain⟨s,t,a,b,u,v,E,M,o3,Ic,Ih⟩:=AK o (g▸bF cv);refine ag (bk cv) (ag (x:=a) (by rw[u];exact bk E) (ag (x:=b) (by rw[v];exact bk M) ?_));have F:mT p (i:Int) d=(decide (a.part=(i:Int))&&(decide (b.part=(i:Int)+1)&&ir b.cL a.cL)):=by
      unfold mT;rw[u,v,Int.toNat_natCast,Int.toNat_natCast,E,M]
     refine ab.aA (λz=>z=mT p (i:Int) d) (λj q=>?_) λz C=>?_
     ·rw[F] at q;refine aQ (λG=>aQ (λB=>ag (YE O O O) (q _ ?_)) λB=>q _ ?_) λG=>q _ ?_
      ·rw[bz G,bz B];rfl
      ·rw[bz G,bx B];rfl
      rw[bx G];rfl
     subst C;refine ab.cond (λh=>ab.some ?_) λh=>?_
     ·rw[a6]; · rfl
      have:D.any (mT p (i:Int))=true:=ig.2 ⟨d,bF cv,h⟩;rw[this];simp
     rw[be O];exact b7 _ ⟨k+1,O,O,by rw[gd cv,sZ,U];simp[h]⟩ O
    rw[jd O] at U;rw[U,a1 (by rfl)];have df:=AB (i:=i) (many:=2) (ys:=[rI l m]) ((kN o).mono (O:4<=900)) aX λy N=>by rw[mI] at N;subst N;exact Mq o m1 f
    obtain⟨_,_,P⟩:=kN o;have cT:=(P l m1).2.1;have cu:=(P m f).2.1;obtain⟨r,W,X⟩:=Zk (n:=n) (s:=p.parts.set i (rI l m)) (i:=i+1) (j:=i+2) O (by rw[eS];omega);refine ag rfl (ag (x:=l.body++m.body) (cX O) (ag (x:=p.parts.set i (rI l m)) (dH O _) (ag (x:=r) W ?_)));have Y:(⟨p.aS,r.2.take r.1⟩:Prog)=kM p i 2 [rI l m]:=by
     unfold kM;rw[X];congr 1;rw[List.take_set,pH O,ei,e,mF _ _ (by rw[cJ];omega)]
     have:i-(p.parts.take i).length=0:=by rw[cJ];omega
     rw[this];rfl
    rw[Y,cY];exact ag (qz O df) (ab.some rfl)
  have K:au p.parts ((i:Int)+1)=none:=wV O;rw[K];refine ab.aA (λz=>z=true) (λj q=>aQ (λ_=>q _ rfl) λh=>bA (show(p.parts.length:Int)<=(i:Int)+1 by omega) h) λz C=>?_;rw[C];exact bS (ab.some rfl)
 rw[a6 A,a6 A];exact b3 (ab.some rfl)
theorem afl(cG:20000<=n)(A:c5 1000 p)(a8: -1<=c/\c<=9):De n p c=some (ui p c):=by
 unfold De ui;refine ab.eq (ag (kx O A) ?_);by_cases F:b2 p=true/\ee p c=true
 ·rw[a1 F];obtain⟨e,R⟩:=F;have M:0<=c/\c<(p.parts.length:Int):=e4 R;obtain⟨i,rfl⟩: ∃i:Nat,c=i:=⟨c.toNat,O⟩
  have m:=bs (O:i<p.parts.length);have U:=bk m;generalize N:p.parts[i]=o at U m;have H:=(ey e).2.2.1;rw[be (n:=(i:Int)+1) O,be (n:=(p.parts.length:Int)-1) O,U];by_cases q:i+1<p.parts.length
  ·have r:=bs q;generalize P:p.parts[i+1]=B at r;have I:au p.parts ((i:Int)+1)=some B:=bk r;have m1:=bF m;have W:=bF r;rw[I];dsimp only;refine ab.aA (λz=>z= !pR o.nest B.nest) (λj l=>ag (jP O A.sm) ?_) λz w=>?_
   ·rw[e];refine b3 (aQ (λh=>bA h O) λ_=>aQ (λh=>bA h O) λ_=>ag rfl (ag rfl (ag (Tb O (A.sm.2.2 o m1).1) (l _ rfl))))
   subst w;unfold GP;cases S:pR o.nest B.nest with
   |false=>exact bS (ab.some rfl)
   |true=>
    refine b3 (ag (uE O e) (ag (EL O e) ?_));have K:=zx e;rw[fb];generalize X:nM p=D at K;rw[show fW p (bB p.parts) (bB p.parts).length=D from X];refine ab.loop (λx:Int=> ∃k:Nat,x=k/\k<=D.length/\(D.take k).any (mT p (i:Int))=false) (λx=>D.length-x.toNat) ?_ n 0 ⟨0,rfl,O,rfl⟩ O;rintro L x ⟨k,rfl,hk,Q⟩ T;refine aQ (λV=>?_) λiC=>?_
    ·have cv:=bs (O:k<D.length);generalize Hr:D[k]=d at cv;obtain⟨s,t,a,b,Y,f,g,u,o3,Ic,Ih⟩:=AK e (X▸bF cv);refine ag (bk cv) (ag (x:=a) (by rw[Y];exact bk g) (ag (x:=b) (by rw[f];exact bk u) ?_));have C:mT p (i:Int) d=(decide (a.part=(i:Int))&&(decide (b.part=(i:Int)+1)&&ir b.cL a.cL)):=by
      unfold mT;rw[Y,f,Int.toNat_natCast,Int.toNat_natCast,g,u]
     refine ab.aA (λz=>z=mT p (i:Int) d) (λj l=>?_) λz w=>?_
     ·rw[C] at l;refine aQ (λG=>aQ (λq=>ag (L9 O O O) (l _ ?_)) λq=>l _ ?_) λG=>l _ ?_
      ·rw[bz G,bz q];rfl
      ·rw[bz G,bx q];rfl
      rw[bx G];rfl
     subst w;refine ab.cond (λh=>ab.some ?_) λh=>?_
     ·rw[a6]; · rfl
      have:D.any (mT p (i:Int))=true:=ig.2 ⟨d,bF cv,h⟩;rw[this];simp
     rw[be O];exact T _ ⟨k+1,O,O,by rw[gd cv,sZ,Q];simp[h]⟩ O
    rw[jd O] at Q;rw[Q,a1 (by rfl)];obtain⟨_,_,v⟩:=kN e;have cT:=(v o m1).2.1;have cu:=(v B W).2.1;refine ag rfl (ag (x:=o.body) (cX bQ) (ag rfl (ag (x:=o.body++B.body) (cX O) ?_)));have hw:=Fb (n:=n) O ((kN e).mono (O:4<=900)) (i:=i) (many:=2) O (ys:=[rI o B]) aX λy E=>by rw[mI] at E;subst E;exact Mq e m1 W
    rw[cY];exact ag hw (ab.some rfl)
  have I:au p.parts ((i:Int)+1)=none:=wV O;rw[I];refine ab.aA (λz=>z=true) (λj l=>ag (jP O A.sm) ?_) λz w=>?_
  ·rw[e];exact b3 (aQ (λh=>bA h O) λ_=>aQ (λ_=>l _ rfl) λh=>bA (show(p.parts.length:Int)-1<=(i:Int) by omega) h)
  rw[w];exact bS (ab.some rfl)
 rw[a6 F];refine ab.aA (λz=>z=true) (λj l=>ag (jP O A.sm) ?_) λz w=>by rw[w];exact bS (ab.some rfl)
 by_cases e:b2 p=true
 ·have R: ¬(0<=c/\c<(p.parts.length:Int)):=λh=>F ⟨e,bz h⟩;rw[e];have H:=A.2.1;rw[be (n:=(p.parts.length:Int)-1) O];exact b3 (aQ (λ_=>l _ rfl) λh=>aQ (λ_=>l _ rfl) λq=>bA (show(p.parts.length:Int)-1<=c by omega) q)
 rw[show b2 p=false by simpa using e];exact bS (l _ rfl)
def mU(p:Prog)(c k:Int)(d:fH):Bool:=match (bB p.parts)[d.eA.toNat]?,(bB p.parts)[d.eC.toNat]? with
 |some a,some b=>decide (a.part=c)&&(decide (b.part=c)&&(decide (k<=a.stmt)&&decide (b.stmt<k)))
 |_,_=>false
def GQ(p:Prog)(a k:Int)(P:Part):Bool:=decide (1<=k/\k<(P.body.length:Int))&& !(nM p).any (mU p a k)
def nI(P:Part)(k:Nat):Part:=⟨P.nest,P.body.take k⟩
def rL(P:Part)(k:Nat):Part:=⟨P.nest,P.body.drop k⟩
def ue(p:Prog)(a k:Int):Prog×Bool:=
 if b2 p=true/\ee p a=true then
  (match au p.parts a with
  |some P=>if GQ p a k P=true then hD (kM p a.toNat 1 [nI P k.toNat,rL P k.toNat]) else d'
  |none=>d')
 else d'
theorem Mz(d:b2 p=true)(e:P∈p.parts)(k:Nat): ∀y∈[nI P k,rL P k],fv 1000 y:=by
 obtain⟨_,_,h⟩:=kN d;obtain⟨aJ,a2,a3⟩:=h P e;intro y c;simp only[List.mem_cons,List.not_mem_nil,or_false] at c;rcases c with rfl|rfl
 ·refine⟨aJ.mono O,?_,λs a=>(a3 s (fR a)).mono O⟩;show(P.body.take k).length<=1000;rw[cJ];omega
 refine⟨aJ.mono O,?_,λs a=>(a3 s (eV a)).mono O⟩;show(P.body.drop k).length<=1000;rw[e6];omega
theorem NL{s:List Part}{v:List Part}(a:i<=s.length)(c:s.length+v.length<=1000000000):uJ n s (i:Int) v=some (s.take i++v++s.drop i):=by unfold uJ;rw[bz (show(0:Int)<=(i:Int) by omega),bz (show(i:Int)<=(s.length:Int) by omega),cond_true,cond_true,cY];exact cX (by simp only[List.length_append,List.length_take,List.length_drop];omega)
theorem ad0(cG:20000<=n)(W:c5 1000 p){k:Int}(a8: -1<=c/\c<=9):Ca n p c k=some (ue p c k):=by
 unfold Ca ue;refine ab.eq (ag (zC O W c) ?_);by_cases o:b2 p=true/\ee p c=true
 ·rw[a1 o,a1 o];obtain⟨l,M⟩:=o;have N:0<=c/\c<(p.parts.length:Int):=e4 M;obtain⟨i,rfl⟩: ∃i:Nat,c=i:=⟨c.toNat,O⟩
  have e:=bs (O:i<p.parts.length);have y:=bk e;generalize S:p.parts[i]=P at y e;have T:=(ey l).2.2.1;have m1:=bF e;have r:=(ey l).2.2.2.1 P m1;obtain⟨A,B⟩:=hX r;obtain⟨_,V,Pq,_⟩:=gh r;refine bS (ag y ?_);rw[be (n:=(i:Int)+1) O,be (n:=(P.body.length:Int)-1) O,y];dsimp only;refine ab.aA (λz=>z= !decide (1<=k/\k<(P.body.length:Int))) (λj X=>ag (d4 n k 1 _) (X _ ?_)) λz C=>?_
  ·congr 1;rw[e5];simp only[decide_eq_true_eq];omega
  subst C;unfold GQ;cases F:decide (1<=k/\k<(P.body.length:Int)) with
  |false=>exact bS (ab.some rfl)
  |true=>
   have hk:=e4 F;obtain⟨t,rfl⟩: ∃t:Nat,k=t:=⟨k.toNat,O⟩
   refine b3 (ag (yp O W.sm) ?_);rw[a1 l];refine bS (ag (EX O l) ?_);have G:=zx l;show ab (bo _ n 0) _;rw[fb];generalize Y:nM p=D at G;rw[show fW p (bB p.parts) (bB p.parts).length=D from Y];refine ab.loop (λx:Int=> ∃j:Nat,x=j/\j<=D.length/\(D.take j).any (mU p (i:Int) (t:Int))=false) (λx=>D.length-x.toNat) ?_ n 0 ⟨0,rfl,O,rfl⟩ O;rintro H x ⟨j,rfl,X,I⟩ b7;refine aQ (λhlt=>?_) λiC=>?_
   ·have cv:=bs (O:j<D.length);generalize Hr:D[j]=d at cv;obtain⟨s,u,a,b,f,g,v,E,o3,Ic,Ih⟩:=AK l (Y▸bF cv);refine ag (bk cv) (ag (x:=a) (by rw[f];exact bk v) (ag (x:=b) (by rw[g];exact bk E) ?_));have w:mU p (i:Int) (t:Int) d=(decide (a.part=(i:Int))&&(decide (b.part=(i:Int))&&(decide ((t:Int)<=a.stmt)&&decide (b.stmt<(t:Int))))):=by
     unfold mU;rw[f,g,Int.toNat_natCast,Int.toNat_natCast,v,E]
    refine ab.aA (λz=>z=mU p (i:Int) (t:Int) d) (λq m=>?_) λz C=>?_
    ·rw[w] at m;refine aQ (λK=>aQ (λL=>aQ (λQ=>m _ ?_) λQ=>m _ ?_) λL=>m _ ?_) λK=>m _ ?_
     ·rw[bz K,bz L,bz Q];simp
     ·rw[bx Q];simp
     ·rw[bx L];simp
     rw[bx K];rfl
    subst C;refine ab.cond (λh=>ab.some ?_) λh=>?_
    ·rw[a6]; · rfl
     have:D.any (mU p (i:Int) (t:Int))=true:=ig.2 ⟨d,bF cv,h⟩;rw[this];simp
    rw[be O];exact b7 _ ⟨j+1,O,O,by rw[gd cv,sZ,I];simp[h]⟩ O
   rw[jd O] at I;rw[I,a1 (by rfl)];have m:=AB (i:=i) (many:=1) (ys:=[nI P t,rL P t]) ((kN l).mono (O:4<=900)) aX (Mz l m1 t);refine ag (KQ O A B) (ag (gN O O O) ?_);rw[cY,cY,c4];refine ag (x:=P.body.drop t) ?_ (ag (gN O O O) ?_)
   ·unfold Jg
    have:(P.body.drop t).isEmpty=false:=by
     cases R:P.body.drop t with
     |nil=>
      have:=congrArg List.length R;rw[e6,List.length_nil] at this;omega
     |cons=>rfl
    rw[this,cond_false];rw[cX bQ];rfl
   rw[cY,show(0:Int).toNat=0 from rfl,nx];refine ag (x:=p.parts.set i (nI P t)) (dH O _) (ag (NL (i:=i+1) (by rw[eS];omega) (by rw[eS];simp;omega)) ?_);have U:(⟨p.aS,(p.parts.set i (nI P t)).take (i+1)++[rL P t]++(p.parts.set i (nI P t)).drop (i+1)⟩:Prog)=kM p i 1 [nI P t,rL P t]:=by
    unfold kM;congr 1;rw[List.take_set,pH O,ei,e,mF _ _ (by rw[cJ];omega)]
    have:i-(p.parts.take i).length=0:=by rw[cJ];omega
    rw[this];simp
   show ab (Option.bind (lz n (⟨p.aS,(p.parts.set i (nI P t)).take (i+1)++[rL P t]++(p.parts.set i (nI P t)).drop (i+1)⟩:Prog)) _) _;rw[U];simp only[Int.toNat_natCast];exact ag (qz O m) (ab.some rfl)
 rw[a6 o,a6 o];exact b3 (ab.some rfl)
theorem afk(cG:20000<=n)(B:c5 1000 p){k:Int}(a8: -1<=c/\c<=9):BW n p c k=some (ue p c k):=by
 unfold BW ue;refine ab.eq (ag (kx O B) ?_);by_cases A:b2 p=true/\ee p c=true
 ·rw[a1 A];obtain⟨e,Q⟩:=A;have g:0<=c/\c<(p.parts.length:Int):=e4 Q;obtain⟨i,rfl⟩: ∃i:Nat,c=i:=⟨c.toNat,O⟩
  have l:=bs (O:i<p.parts.length);have R:=bk l;generalize v:p.parts[i]=P at R l;have E:=(ey e).2.2.1;have m1:=bF l;have C:=(ey e).2.2.2.1 P m1;obtain⟨_,M,N,_⟩:=gh C;rw[R];dsimp only;refine ab.aA (λz=>z= !decide (1<=k/\k<(P.body.length:Int))) (λj m=>ag (jP O B.sm) ?_) λz o=>?_
  ·rw[e];refine b3 (aQ (λh=>bA h O) λ_=>aQ (λh=>bA h O) λ_=>aQ (λh=>m _ ?_) λh=>ag rfl (m _ ?_))
   ·rw[bx O];rfl
   rw[e5];simp only[Bool.not_eq_true',decide_eq_true_eq,decide_eq_false_iff_not];omega
  subst o;unfold GQ;cases F:decide (1<=k/\k<(P.body.length:Int)) with
  |false=>exact bS (ab.some rfl)
  |true=>
   have hk:=e4 F;obtain⟨t,rfl⟩: ∃t:Nat,k=t:=⟨k.toNat,O⟩
   refine b3 (ag (uE O e) (ag (EL O e) ?_));have G:=zx e;rw[fb];generalize U:nM p=D at G;rw[show fW p (bB p.parts) (bB p.parts).length=D from U];refine ab.loop (λx:Int=> ∃j:Nat,x=j/\j<=D.length/\(D.take j).any (mU p (i:Int) (t:Int))=false) (λx=>D.length-x.toNat) ?_ n 0 ⟨0,rfl,O,rfl⟩ O;rintro H x ⟨j,rfl,m,I⟩ S;refine aQ (λT=>?_) λV=>?_
   ·have cv:=bs (O:j<D.length);generalize Hr:D[j]=d at cv;obtain⟨s,u,a,b,W,X,Y,f,o3,Ic,Ih⟩:=AK e (U▸bF cv);refine ag (bk cv) (ag (x:=a) (by rw[W];exact bk Y) (ag (x:=b) (by rw[X];exact bk f) ?_));have r:mU p (i:Int) (t:Int) d=(decide (a.part=(i:Int))&&(decide (b.part=(i:Int))&&(decide ((t:Int)<=a.stmt)&&decide (b.stmt<(t:Int))))):=by
     unfold mU;rw[W,X,Int.toNat_natCast,Int.toNat_natCast,Y,f]
    refine ab.aA (λz=>z=mU p (i:Int) (t:Int) d) (λq w=>?_) λz o=>?_
    ·rw[r] at w;refine aQ (λK=>aQ (λy=>aQ (λL=>w _ ?_) λL=>w _ ?_) λy=>w _ ?_) λK=>w _ ?_
     ·rw[bz K,bz y,bz L];simp
     ·rw[bx L];simp
     ·rw[bx y];simp
     rw[bx K];rfl
    subst o;refine ab.cond (λh=>ab.some ?_) λh=>?_
    ·rw[a6]; · rfl
     have:D.any (mU p (i:Int) (t:Int))=true:=ig.2 ⟨d,bF cv,h⟩;rw[this];simp
    rw[be O];exact S _ ⟨j+1,O,O,by rw[gd cv,sZ,I];simp[h]⟩ O
   rw[jd O] at I;rw[I,a1 (by rfl)];refine ag rfl (ag (gN O O O) (ag (gN O O O) ?_));rw[cY,cY,c4,show(0:Int).toNat=0 from rfl,nx,cY];have hw:=Fb (n:=n) O ((kN e).mono (O:4<=900)) (i:=i) (many:=1) O (ys:=[nI P t,rL P t]) aX (Mz e m1 t);exact ag hw (ab.some rfl)
 rw[a6 A];refine ab.aA (λz=>z=true) (λj m=>ag (jP O B.sm) ?_) λz o=>by rw[o];exact bS (ab.some rfl)
 by_cases e:b2 p=true
 ·have Q: ¬(0<=c/\c<(p.parts.length:Int)):=λh=>A ⟨e,bz h⟩;rw[e];exact b3 (aQ (λ_=>m _ rfl) λh=>aQ (λ_=>m _ rfl) λy=>bA (show(p.parts.length:Int)<=c by omega) y)
 rw[show b2 p=false by simpa using e];exact bS (m _ rfl)
def jL(k:Nat)(x:ay):ay:=⟨(x.aT.take k++0::x.aT.drop k).take 4,x.const⟩
def fS(c:Int):ay:=⟨[0,0,0,0],c⟩
def mE(k:Nat)(s c:Int):ay:=⟨[0,0,0,0].set k s,c⟩
theorem NN(k:Nat): ∀x,cQ x=true->dm 4 (jL k x):=λx a=>by unfold dm jL;rw[cJ];omega
theorem Wv(l:5000<=n)(m:k<3): ∀x,cQ x=true->uN n x (k:Int)=some (jL k x):=λx h=>by obtain⟨i,_,_⟩:=fK h;obtain⟨a,b,c,d,e⟩:=l8 i;unfold uN;rw[zm n x h];obtain⟨cs,o⟩:=x;dsimp only at e;subst e;rcases(O:k=0\/k=1\/k=2) with rfl|rfl|rfl<;>rfl
theorem aa9(m:Nat)(a b c d e:Int)(B:ay)(h:k<3):js (m+6) ⟨[a,b,c,d],e⟩ 2 (k:Int) B=some (jL k ⟨[a,b,c,d],e⟩):=by rcases(O:k=0\/k=1\/k=2) with rfl|rfl|rfl<;>rfl
theorem Ys(h:k<3)(B:ay): ∀n,5000<=n-> ∀x,cQ x=true->js n x 2 (k:Int) B=some (jL k x):=λn p x i=>by
 obtain⟨m,rfl⟩: ∃m,n=m+6:=⟨n-6,O⟩
 obtain⟨l,_,_⟩:=fK i;obtain⟨a,b,c,d,e⟩:=l8 l;obtain⟨cs,o⟩:=x;dsimp only at e;subst e;exact aa9 m a b c d o B h
def jC(l:List ay):Bool:=l.all λa=>decide (eG a.aT=0)
def eI(l:Loop):Bool:=decide (l.bf.length=1)&&(decide (l.aH.length=1)&&(jC l.bf&&jC l.aH))
def d9(l:List ay):Int:=(l.headD ⟨[],0⟩).const
theorem KF(c:5000<=n){l:List ay}(i:l.length<=2)(d: ∀x∈l,cQ x=true):yP n l=some (jC l):=by
 unfold yP;rw[xP (p:=λa=>decide (0<(eG a.aT:Int))) (λx e=>by
  unfold Di;rw[yW c (show x.aT.length<=1000 by have:=(fK (d x e)).1;omega)];rfl) O O]
 show some (!l.any _)=_;congr 1;unfold jC;rw[List.not_any_eq_all_not];congr 1;funext a;by_cases h:eG a.aT=0
 ·simp[h]
 have:0<(eG a.aT:Int):=O
 simp[h];omega
theorem Fi(e:5000<=n)(h:kg l):uT n l=some (if eI l=true then(d9 l.bf,d9 l.aH,true) else(0,0,false)):=by
 obtain⟨⟨i,k⟩,m,o⟩:=h;unfold uT;refine ab.eq (ab.aA (λz=>z= !eI l) (λj a=>?_) λz p=>?_)
 ·refine eP (λh=>a _ ?_) λh=>eP (λq=>a _ ?_) λq=>ag (KF e i k) (ab.cond (λc=>a _ ?_) λc=>ag (KF e m o) (a _ ?_))
  ·unfold eI;rw[bx (show¬l.bf.length=1 by omega)];rfl
  ·unfold eI;rw[bx (show¬l.aH.length=1 by omega),Bool.false_and,jg];rfl
  ·unfold eI;rw[show jC l.bf=false by simpa using c];simp
  unfold eI;rw[show jC l.bf=true by simpa using c,bz (O:l.bf.length=1),bz (O:l.aH.length=1)];rfl
 subst p;cases d:eI l with
 |false=>exact bS (ab.some rfl)
 |true=>
  refine b3 ?_;unfold eI at d;simp only[Bool.and_eq_true,decide_eq_true_eq] at d;obtain⟨r,s,_⟩:=d;obtain⟨x,w⟩:=vq.1 r;obtain⟨y,A⟩:=vq.1 s;rw[w,A];exact ag (x:=x) rfl (ag (x:=y) rfl (ab.some rfl))
theorem ZE(w:5000<=n)(h:kg l):Ac n l=some (jC l.bf&&jC l.aH):=by
 obtain⟨⟨C,y⟩,D,A⟩:=h;have s: ∀x,cQ x=true->ob n x=some (eG x.aT:Int):=λx c=>yl w (show x.aT.length<=1000 by have:=(fK c).1;omega);have k: ∀(l:List ay) (i:Nat) (x:ay),l[i]? =some x->eG x.aT=0->jC (l.take i)=true->jC (l.take (i+1))=true:=λl i x c m d=>by
  unfold jC at d⊢;rw[ei,c,List.all_append,d];simp[m]
 have p: ∀(l:List ay) (i:Nat) (x:ay),l[i]? =some x-> ¬eG x.aT=0->jC l=false:=λl i x c m=>by
  unfold jC;rw[jf];exact⟨x,bF c,by simp[m]⟩
 unfold Ac;refine ab.eq (ab.loop (λz:Int=> ∃i:Nat,z=i/\i<=l.bf.length/\jC (l.bf.take i)=true) (λz=>l.bf.length-z.toNat) ?_ n _ ⟨0,rfl,O,rfl⟩ O);rintro o z ⟨i,rfl,B,d⟩ q;refine aQ (λa=>?_) λr=>?_
 ·have a:i<l.bf.length:=O
  have c:=bs a;refine ag (bk c) (ag (s _ (y _ (fx a))) (aQ (λm=>ab.some ?_) λm=>?_))
  ·rw[p l.bf i _ c O];rfl
  rw[be O];exact q _ ⟨i+1,O,O,k _ _ _ c O d⟩ O
 have e:i=l.bf.length:=O
 subst e;rw[c4] at d;rw[d,fb];refine ab.loop (λz:Int=> ∃i:Nat,z=i/\i<=l.aH.length/\jC (l.aH.take i)=true) (λz=>l.aH.length-z.toNat) ?_ n _ ⟨0,rfl,O,rfl⟩ O;rintro o z ⟨i,rfl,B,d⟩ q;refine aQ (λa=>?_) λr=>ab.some ?_
 ·have a:i<l.aH.length:=O
  have c:=bs a;refine ag (bk c) (ag (s _ (A _ (fx a))) (aQ (λm=>ab.some ?_) λm=>?_))
  ·exact(p l.aH i _ c O).symm
  rw[be O];exact q _ ⟨i+1,O,O,k _ _ _ c O d⟩ O
 have e:i=l.aH.length:=O
 subst e;rw[c4] at d;exact d.symm
theorem EH(d:5000<=n)(h:kg l):vi n l=some (if eI l=true then(d9 l.bf,d9 l.aH,true) else(0,0,false)):=by
 unfold vi;refine ab.eq (ab.aA (λz=>z= !eI l) (λj a=>?_) λz e=>?_)
 ·refine eP (λi=>a _ ?_) λi=>eP (λk=>a _ ?_) λk=>ag (ZE d h) (a _ ?_)
  ·unfold eI;rw[bx (show¬l.bf.length=1 by omega)];rfl
  ·unfold eI;rw[bx (show¬l.aH.length=1 by omega),Bool.false_and,jg];rfl
  unfold eI;rw[bz (O:l.bf.length=1),bz (O:l.aH.length=1)];rfl
 subst e;cases c:eI l with
 |false=>exact bS (ab.some rfl)
 |true=>
  refine b3 ?_;unfold eI at c;simp only[Bool.and_eq_true,decide_eq_true_eq] at c;obtain⟨m,o,_⟩:=c;obtain⟨x,p⟩:=vq.1 m;obtain⟨y,q⟩:=vq.1 o;rw[p,q];exact ag (x:=x) rfl (ag (x:=y) rfl (ab.some rfl))
def p3(a c s:Int):Int:=Int.tdiv (max 0 (c-a)+s-1) s
def wK(k:Nat)(s:Int)(P:Part)(l:Loop):Part:=
 ⟨P.nest.take k++(⟨[fS 0],[fS (p3 (d9 l.bf) (d9 l.aH) s)]⟩:Loop)::(⟨[fS (d9 l.bf),mE k s (d9 l.bf)],[fS (d9 l.aH),mE k s (d9 l.bf+s)]⟩:Loop)::(P.nest.drop (k+1)).map (d7 (jL k)),P.body.map (iq (jL k))⟩
def qW(p:Prog)(a c s:Int):Prog×Bool:=
 match au p.parts a with
 |some P=>match au P.nest c with
  |some l=>if cS p a c=true/\P.nest.length<4/\(1<=s/\s<=6)/\eI l=true then hD ⟨p.aS,p.parts.set a.toNat (wK c.toNat s P l)⟩ else d'
  |none=>d'
 |none=>d'
theorem EZ{b:Int}(h:cS p a b≠true):qW p a b s=d':=by
 unfold qW;split
 ·split
  ·rw[a6 λc=>h c.1]
  rfl
 rfl
theorem Ls(a:p.parts[i]? =some P)(c:P.nest[k]? =some l)(s:Int):
  qW p (i:Int) (k:Int) s=if cS p (i:Int) (k:Int)=true/\P.nest.length<4/\(1<=s/\s<=6)/\eI l=true then hD ⟨p.aS,p.parts.set i (wK k s P l)⟩ else d':=by unfold qW;rw[bk a];dsimp only;rw[bk c];rfl
theorem Fj(h:kg l)(k:eI l=true): ∃a b,l=⟨[a],[b]⟩/\a=fS (d9 l.bf)/\b=fS (d9 l.aH)/\cI 99 (d9 l.bf)/\cI 99 (d9 l.aH):=by
 obtain⟨⟨o,n⟩,p,q⟩:=h;unfold eI at k;simp only[Bool.and_eq_true,decide_eq_true_eq] at k;obtain⟨r,s,w,A⟩:=k;obtain⟨bf,H⟩:=l;dsimp only at*;obtain⟨x,B⟩:=vq.1 r;obtain⟨y,C⟩:=vq.1 s;subst B;subst C;have m: ∀z:ay,cQ z=true->jC [z]=true->z=fS z.const:=λz D k=>by
  obtain⟨F,_,_⟩:=fK D;obtain⟨a,b,c,d,e⟩:=l8 F;obtain⟨cs,I⟩:=z;dsimp only at e;subst e;unfold jC at k;simp only[List.all_cons,List.all_nil,Bool.and_true,decide_eq_true_eq] at k;have G:=yf (l:=[a,b,c,d]) (i:=0) rfl O;have o:=yf (l:=[a,b,c,d]) (i:=1) rfl O;have n:=yf (l:=[a,b,c,d]) (i:=2) rfl O;have p:=yf (l:=[a,b,c,d]) (i:=3) rfl O;rw[G,o,n,p];rfl
 exact⟨x,y,rfl,m x (n x aX) w,m y (q y aX) A,(fK (n x aX)).2.1,(fK (q y aX)).2.1⟩
theorem On{x:Int}(d:cI 99 c)(h:cI 99 x)(i:1<=s/\s<=6):0<=p3 c x s/\p3 c x s<=198:=by
 unfold cI at d h;unfold p3;rw[Int.tdiv_eq_ediv_of_nonneg O];refine⟨Int.ediv_nonneg O O,?_⟩;refine Int.le_trans (Int.ediv_le_ediv (a:=max 0 (x-c)+s-1) (b:=198*s) O ?_) (by rw[Int.mul_ediv_cancel _ O];omega)
 have:0<=(198-max 0 (x-c))*(s-1):=mK O O;have e:(198-max 0 (x-c))*(s-1)=198*s-198-max 0 (x-c)*(s-1):=by
  rw[Int.sub_mul,Int.mul_sub];omega
 have k:max 0 (x-c)*(s-1)≥0:=mK O O;rcases(O:s=1\/s=2\/s=3\/s=4\/s=5\/s=6) with rfl|rfl|rfl|rfl|rfl|rfl<;>omega
theorem Ml(i:en r P=true)(w:P.nest.length<4)(x:k<P.nest.length)(s:Int):fv 4 (wK k s P l):=by
 obtain⟨A,n⟩:=hX i;obtain⟨_,o,p,_⟩:=gh i;refine⟨⟨by simp only[wK,List.length_append,List.length_cons,List.length_map,List.length_take,List.length_drop];omega,λy e=>?_⟩,by simp only[wK,List.length_map];exact o.2,λs q=>?_⟩
 ·have h: ∀c,dm 4 (fS c):=λc=>by unfold dm fS;simp
  have m: ∀s c,dm 4 (mE k s c):=λs c=>by unfold dm mE;simp
  rcases dZ.1 e with e|e
  ·exact((tC i).1.2 y (fR e))
  rcases dN.1 e with rfl|e
  ·exact⟨⟨aX,λa d=>by simp at d;subst d;exact h _⟩,aX,λa d=>by simp at d;subst d;exact h _⟩
  rcases dN.1 e with rfl|e
  ·exact⟨⟨aX,λa d=>by simp at d;rcases d with rfl|rfl;exact h _;exact m _ _⟩,aX,λa d=>by simp at d;rcases d with rfl|rfl;exact h _;exact m _ _⟩
  obtain⟨z,h,rfl⟩:=eK.1 e;exact wD (NN k) (n z (eV h))
 obtain⟨z,h,rfl⟩:=eK.1 q;exact A2 (NN k) (p z h)
theorem Ly(n:Nat)(a:k<4)(s:Int):nf n (k:Int) s=some (mE k s 0):=by rcases(O:k=0\/k=1\/k=2\/k=3) with rfl|rfl|rfl|rfl<;>rfl
theorem zz(n:Nat)(c:Int):pa n c=some (fS c):=rfl
theorem Ob{b:Int}(c:cI 99 a)(d:cI 99 b)(e:1<=s/\s<=6):wr (Int.tdiv (wr ((wr ((max 0 (wr (b-a)))+s))-1)) s)=p3 a b s:=by obtain⟨h,i⟩:=On c d e;unfold cI at c d;rw[be (n:=b-a) O,be (n:=max 0 (b-a)+s) O,be (n:=max 0 (b-a)+s-1) O];exact be (by unfold p3 at h i;omega)
theorem aao{l:List Loop}(a:k<=l.length)(c:l.length<=1000)(v:Loop):uK n l (k:Int) [v]=some (l.take k++[v]++l.drop k):=by unfold uK;rw[bz (show(0:Int)<=(k:Int) by omega),bz (show(k:Int)<=(l.length:Int) by omega)];rw[cY];exact cX bQ
theorem ad6(G:7000<=n)(H:c5 1000 p)(c d s:Int):Dk n p c d s=some (qW p c d s):=by
 unfold Dk;by_cases m:d= -1
 ·subst m;rw[EZ (by rw[qL O];simp)];refine ab.eq (ag (zC G H c) ?_);by_cases I:b2 p=true/\ee p c=true
  ·rw[a1 I];have aH:=I.2;unfold ee at aH;simp only[decide_eq_true_eq] at aH;obtain⟨x,f,_⟩:=gm aH.1 aH.2;exact bS (ag f (ab.aA (λz=>z=true) (λj D=>aQ (λ_=>D _ rfl) λh=>bA (show(-1:Int)<0 by omega) h) λz K=>by rw[K];exact bS (ab.some rfl)))
  rw[a6 I];exact b3 (ab.some rfl)
 refine ab.eq (ag (wk G H c d m) ?_);by_cases q:cS p c d=true
 ·rw[a1 q];obtain⟨bJ,i,k,P,l,rfl,rfl,W,r,aH,L,o,X⟩:=j2 q;obtain⟨g,Y⟩:=hX o;obtain⟨_,t,u,_⟩:=gh o;have w:=Y l (bF r);rw[Ls W r];refine bS (ag (bk W) (ab.aA (λz=>z= !(decide (P.nest.length<4)&&decide (1<=s/\s<=6))) (λj D=>?_) λz K=>?_))
  ·refine aQ (λh=>bA h O) λ_=>aQ (λh=>D _ ?_) λh=>ag (d4 n s 1 6) (D _ ?_)
   ·rw[bx (show¬P.nest.length<4 by omega)];rfl
   rw[bz (O:P.nest.length<4)];rfl
  subst K;by_cases e:P.nest.length<4
  ·by_cases A:1<=s/\s<=6
   ·rw[bz e,bz A];refine b3 (ag (bk r) (ag (Fi O w) ?_));by_cases B:eI l=true
    ·rw[a1 B,a1 ⟨q,e,A,B⟩];obtain⟨a,b,_,_,_,v,E⟩:=Fj w B;have Q:=xV (n:=n) O (nest:=P.nest) (body:=P.body) (s:=k) O g (λy M=>Y y (eV M)) t.2 u (F:=λN=>uN n N (k:Int)) (Wv O O);have U:(P.nest.take k++(P.nest.drop k).map (d7 (jL k)))[k]? =some (d7 (jL k) l):=by
      rw[jU r,gU (by rw[cJ];omega),cJ,vx O,j'];rfl
     refine bS (ag Q (ag (dH Z _) (ag (x:=()) (by unfold jA;rw[a6 O]) (ag (Ly n X s) (ag (Ly n X s) (ag (zz n _) (ag (zz n _) (ag (bk U) (ag (dH bQ _) (ag (zz n 0) (ag (zz n _) (ag (aao bQ bQ _) (ag (dH bQ _) ?_)))))))))))));dsimp only;unfold cI at v E;rw[cY,cY,List.set_set,be (n:=d9 l.bf+s) O,Ob ⟨O,O⟩ ⟨O,O⟩ A];have T:P.nest.drop k=l::P.nest.drop (k+1):=jU r;have C:(P.nest.take k).length=k:=by rw[cJ];omega
     have V: ∀R S:Loop,(((P.nest.take k++(P.nest.drop k).map (d7 (jL k))).set k R).take k++[S]++((P.nest.take k++(P.nest.drop k).map (d7 (jL k))).set k R).drop k)=P.nest.take k++S::R::(P.nest.drop (k+1)).map (d7 (jL k)):=λR S=>by
      rw[T,List.map_cons,mF _ _ O,C,j',vv,pB O,jd O,C2 O,List.drop_of_length_le O];simp
     rw[V];exact ag (qz G (wS H i (Ml o e L s))) (ab.some rfl)
    rw[a6 B,a6 λh=>B h.2.2.2];exact b3 (ab.some rfl)
   rw[a6 λh=>A h.2.2.1,bx A,jg];exact bS (ab.some rfl)
  rw[a6 λh=>e h.2.1,bx e];exact bS (ab.some rfl)
 rw[a6 q,EZ q];exact b3 (ab.some rfl)
theorem abF(a:k<4)(s c:Int):nS (gP k) s (fS c) 1=mE k s c:=by rcases(O:k=0\/k=1\/k=2\/k=3) with rfl|rfl|rfl|rfl<;>simp[nS,gP,fS,mE]
theorem aa1(a:k<4)(s c e:Int):nS (mE k s c) 1 (fS e) 1=mE k s (c+e):=by rcases(O:k=0\/k=1\/k=2\/k=3) with rfl|rfl|rfl|rfl<;>simp[nS,fS,mE]
theorem OT(h:cI 1000 c):fe 1000 (fS c):=⟨rfl,h,λx a=>by simp[fS] at a;subst a;exact⟨O,O⟩⟩
theorem abG(d:cI 1000 s)(h:cI 1000 c):fe 1000 (mE k s c):=by refine⟨by simp[mE],h,po (λc a=>?_) d⟩;simp at a;subst a;exact⟨O,O⟩
theorem afq(D:7000<=n)(B:c5 1000 p)(c d s:Int):C9 n p c d s=some (qW p c d s):=by
 unfold C9;refine ab.eq (ag (kx O B) ?_);by_cases r:cS p c d=true
 ·obtain⟨u,i,k,P,l,rfl,rfl,F,G,W,H,o,C⟩:=j2 r;obtain⟨X,I⟩:=hX o;obtain⟨_,Y,f,_⟩:=gh o;have w:=I l (bF G);rw[Ls F G];refine ab.aA (λz=>z= !(decide (P.nest.length<4)&&decide (1<=s/\s<=6))) (λj m=>?_) λz y=>?_
  ·refine ag (x:=true) (by rw[mz D B _ _,r]) ?_;refine b3 (ag (bk F) (aQ (λh=>m _ ?_) λh=>aQ (λg=>m _ ?_) λg=>m _ ?_))
   ·rw[bx (show¬P.nest.length<4 by omega)];rfl
   ·rw[bx (show¬(1<=s/\s<=6) by omega),jg];rfl
   rw[bz (O:P.nest.length<4),fb];by_cases K:(6:Int)<s
   ·rw[bz K,bx (show¬(1<=s/\s<=6) by omega)];rfl
   rw[bx K,bz (show(1<=s/\s<=6) by omega)];rfl
  subst y;by_cases e:P.nest.length<4
  ·by_cases q:1<=s/\s<=6
   ·rw[bz e,bz q];refine b3 (ag (bk F) (ag (bk G) (ag (EH O w) ?_)));by_cases A:eI l=true
    ·rw[a1 A,a1 ⟨r,e,q,A⟩];obtain⟨a,b,_,_,_,L,Q⟩:=Fj w A;obtain⟨v,E⟩:=On L Q q;unfold cI at L Q;refine b3 (ab.aA (λz=>z=p3 (d9 l.bf) (d9 l.aH) s) (λj m=>aQ (λh=>ag (x:=()) (by unfold jA;rw[a6 O]) (m _ ?_)) λh=>m _ ?_) λz y=>?_)
     ·dsimp only at h⊢;rw[<-Ob ⟨O,O⟩ ⟨O,O⟩ q,be (n:=d9 l.aH-d9 l.bf) O,show max 0 (d9 l.aH-d9 l.bf)=d9 l.aH-d9 l.bf by omega]
     ·dsimp only at h⊢;unfold p3;rw[show max 0 (d9 l.aH-d9 l.bf)=0 by omega,Int.tdiv_eq_ediv_of_nonneg O];exact(Int.ediv_eq_zero_of_lt O O).symm
     subst y;have U:(P.nest.take k).length=k:=by rw[cJ];omega
     refine ag (Dx O O X I Y.2 f (Ys O _)) (ag (zJ n C) (ag (gW n _) (ag (sR O ((te C).mono O) (OT ⟨Z,Z⟩) ⟨O,O⟩ ⟨O,O⟩) ?_)));dsimp only;rw[abF C];refine ag (gW n _) (ag (gW n _) (ag (gW n _) (ag (sR O (abG ⟨O,O⟩ ⟨O,O⟩) (OT ⟨O,O⟩) ⟨O,O⟩ ⟨O,O⟩) ?_)));rw[aa1 C];refine ag (gN O O bQ) (ag (cX bQ) (ag (show m9 n=some (fS 0) from rfl) (ag (gW n _) (ag (cX bQ) ?_))));rw[be O];refine ag (gN O bQ aX) (ag (cX bQ) ?_);have t: ∀R S:Loop,([]++((P.nest.take (k+1)++(P.nest.drop (k+1)).map (d7 (jL k))).take (k:Int).toNat).drop (0:Int).toNat++[S,R]++((P.nest.take (k+1)++(P.nest.drop (k+1)).map (d7 (jL k))).take ((P.nest.take (k+1)++(P.nest.drop (k+1)).map (d7 (jL k))).length:Int).toNat).drop ((k:Int)+1).toNat)=P.nest.take k++S::R::(P.nest.drop (k+1)).map (d7 (jL k)):=λR S=>by
      have M:(P.nest.take (k+1)).length=k+1:=by rw[cJ];omega
      rw[cY,cY,show((k:Int)+1).toNat=k+1 by omega,show(0:Int).toNat=0 from rfl,nx,c4,pB O,List.take_take,vx O,C2 O,List.drop_of_length_le O];simp
     rw[t];exact ag (wq D B W ((Ml o e H s).mono O)) (ab.some rfl)
    rw[a6 A,a6 λh=>A h.2.2.2];exact bS (ab.some rfl)
   rw[a6 λh=>q h.2.2.1,bx q,jg];exact bS (ab.some rfl)
  rw[a6 λh=>e h.2.1,bx e];exact bS (ab.some rfl)
 rw[EZ r];refine ab.aA (λz=>z=true) (λj m=>ag (mz D B _ _) ?_) λz y=>by rw[y];exact bS (ab.some rfl)
 rw[show cS p c d=false by simpa using r];exact bS (m _ rfl)
def kA(P:Part)(a b:Int):Part:=⟨(⟨[fS a],[fS b]⟩:Loop)::P.nest.drop 1,P.body⟩
def qV(p:Prog)(a c:Int):Prog×Bool:=
 match au p.parts a with
 |some P=>match au P.nest 0 with
  |some l=>if cS p a 0=true/\eI l=true/\d9 l.bf<=c/\c<=d9 l.aH then hD (kM p a.toNat 1 [kA P (d9 l.bf) c,kA P c (d9 l.aH)]) else d'
  |none=>d'
 |none=>d'
theorem E2(h:cS p a 0≠true):qV p a c=d':=by
 unfold qV;split
 ·split
  ·rw[a6 λd=>h d.1]
  rfl
 rfl
theorem AF{k:Type}{l:List k}{x:k}(h:l[0]? =some x):au l 0=some x:=bk h
theorem Li(a:p.parts[i]? =some P)(d:P.nest[0]? =some l)(c:Int):
  qV p (i:Int) c=if cS p (i:Int) 0=true/\eI l=true/\d9 l.bf<=c/\c<=d9 l.aH then hD (kM p i 1 [kA P (d9 l.bf) c,kA P c (d9 l.aH)]) else d':=by unfold qV;rw[bk a];dsimp only;rw[AF d];rfl
theorem OA(k:en r P=true)(a b:Int):fv 4 (kA P a b):=by
 obtain⟨h,l,m⟩:=tC k;have i: ∀c,dm 4 (fS c):=λc=>by unfold dm fS;simp
 have:=h.1;refine⟨⟨by simp only[kA,List.length_cons,List.length_drop];omega,λy e=>?_⟩,l,m⟩;rcases dN.1 e with rfl|e
 ·exact⟨⟨aX,λa d=>by simp at d;subst d;exact i _⟩,aX,λa d=>by simp at d;subst d;exact i _⟩
 exact h.2 y (eV e)
theorem Lh(e:en r P=true)(a b c d:Int): ∀y∈[kA P a b,kA P c d],fv 1000 y:=by
 intro y h;simp only[List.mem_cons,List.not_mem_nil,or_false] at h;rcases h with rfl|rfl
 ·exact(OA e a b).mono O
 exact(OA e c d).mono O
theorem ZB(a:b2 p=true)(c:p.parts[i]? =some P):cS p (i:Int) 0=decide (0<P.nest.length):=by unfold cS;rw[a,bk c,fb];rw[e5];simp only[decide_eq_true_eq];omega
theorem Xs(a:i<p.parts.length)(A B:Part):(⟨p.aS,(p.parts.set i A).take (i+1)++[B]++(p.parts.set i A).drop (i+1)⟩:Prog)=kM p i 1 [A,B]:=by
 unfold kM;congr 1;rw[List.take_set,pH O,ei,bs a,mF _ _ (by rw[cJ];omega)]
 have:i-(p.parts.take i).length=0:=by rw[cJ];omega
 rw[this];simp
theorem ad5(g:20000<=n)(D:c5 1000 p)(d c:Int):v6 n p d c=some (qV p d c):=by
 unfold v6;refine ab.eq (ag (zC O D d) ?_);by_cases y:b2 p=true/\ee p d=true
 ·rw[a1 y];obtain⟨m,B⟩:=y;have F:0<=d/\d<(p.parts.length:Int):=e4 B;obtain⟨i,rfl⟩: ∃i:Nat,d=i:=⟨d.toNat,O⟩
  have q:=bs (O:i<p.parts.length);generalize G:p.parts[i]=P at q;have I:=(ey m).2.2.1;have e:=(ey m).2.2.2.1 P (bF q);obtain⟨K,A⟩:=hX e;have fD:=ZB m q;refine bS (ag (bk q) (aQ (λz=>ab.some ?_) λz=>?_))
  ·rw[E2 (by rw[fD,bx O];simp)];rfl
  have z:0<P.nest.length:=O
  rw[bz z] at fD;have o:=bs z;generalize P.nest[0]=l at o;have r:=A l (bF o);rw[Li q o];refine ag (AF o) (ag (Fi O r) ?_);by_cases s:eI l=true
  ·rw[a1 s];refine bS (ag (d4 n c _ _) ?_);by_cases w:d9 l.bf<=c/\c<=d9 l.aH
   ·rw[a1 ⟨fD,s,w.1,w.2⟩];dsimp only;rw[bz w];obtain⟨a,b,Q,U,W,j,t⟩:=Fj r s;have X:=AB (i:=i) (many:=1) (ys:=[kA P (d9 l.bf) c,kA P c (d9 l.aH)]) ((kN m).mono (O:4<=900)) aX (Lh e _ _ _ _);generalize d9 l.bf=L at*;generalize d9 l.aH=H at*;subst U;subst W;subst Q;have Y:P.nest=(⟨[fS L],[fS H]⟩:Loop)::P.nest.drop 1:=by
     have:=jU o
     rwa [nx] at this
    have C: ∀R:Loop,P.nest.set (0:Int).toNat R=R::P.nest.drop 1:=λR=>by
     show P.nest.set 0 R=_;rw[Y];rfl
    refine bS (ag (KP O e) (ag (x:=fS H) rfl (ag (x:=[fS c]) rfl (ag (dH O _) (ag (dH O _) (ag (AF o) (ag (x:=fS L) rfl (ag (x:=[fS c]) rfl (ag (dH O _) ?_)))))))));rw[C,C,be O,cY];refine ag (NL (i:=i+1) (by rw[eS];omega) (by rw[eS];simp;omega)) ?_;show ab (Option.bind (lz n (⟨p.aS,(p.parts.set i (kA P L c)).take (i+1)++[kA P c H]++(p.parts.set i (kA P L c)).drop (i+1)⟩:Prog)) _) _;rw[Xs O];exact ag (qz O X) (ab.some rfl)
   rw[a6 λh=>w ⟨h.2.2.1,h.2.2.2⟩];dsimp only;rw[bx w];exact b3 (ab.some rfl)
  rw[a6 s,a6 λh=>s h.2.1];exact b3 (ab.some rfl)
 rw[a6 y,E2 λf=>y ?_]
 ·exact b3 (ab.some rfl)
 obtain⟨m,i,k,P,l,rfl,_,u,_,B,_⟩:=j2 f;exact⟨m,bz O⟩
theorem afp(G:20000<=n)(A:c5 1000 p)(a c:Int):C' n p a c=some (qV p a c):=by
 unfold C';refine ab.eq (ag (kx O A) (ag (mz O A a 0) ?_));cases q:cS p a 0 with
 |false=>
  rw[E2 (by rw[q];simp)];exact bS (ab.some rfl)
 |true=>
  obtain⟨C,i,k,P,l,rfl,D,B,r,H,I,d,K⟩:=j2 q;obtain rfl:k=0:=O
  obtain⟨F,s⟩:=hX d;have w:=s l (bF r);rw[Li B r];refine b3 (ag (bk B) (ag (AF r) (ag (EH O w) ?_)));by_cases m:eI l=true
  ·rw[a1 m];dsimp only;refine ab.aA (λz=>z= !decide (d9 l.bf<=c/\c<=d9 l.aH)) (λj o=>b3 (aQ (λh=>o _ ?_) λh=>o _ ?_)) λz x=>?_
   ·rw[bx O];rfl
   ·rw[e5];simp only[Bool.not_eq_true',decide_eq_true_eq,decide_eq_false_iff_not];omega
   subst x;by_cases e:d9 l.bf<=c/\c<=d9 l.aH
   ·rw[a1 ⟨q,m,e.1,e.2⟩,bz e];refine b3 (ag (gW n _) (ag (gW n _) (ag (gN O O O) (ag (cX bQ) (ag (gW n _) (ag (gW n _) (ag (gN O O O) (ag (cX bQ) ?_))))))));rw[cY,c4];have y:=Fb (n:=n) O ((kN C).mono (O:4<=900)) (i:=i) (many:=1) O (ys:=[kA P (d9 l.bf) c,kA P c (d9 l.aH)]) aX (Lh d _ _ _ _);exact ag y (ab.some rfl)
   rw[a6 λh=>e ⟨h.2.2.1,h.2.2.2⟩,bx e];exact bS (ab.some rfl)
  rw[a6 m,a6 λh=>m h.2.1];exact ab.aA (λz=>z=true) (λj o=>bS (o _ rfl)) λz x=>by rw[x];exact bS (ab.some rfl)
end
section
def lf(s:Stmt):Stmt:=⟨s.write,fL 5 s.value⟩
def j3(x:Part):Part:=⟨x.nest,x.body.map lf⟩
def Bd(p:Prog):Prog:=⟨p.aS,p.parts.map j3⟩
variable {n:Nat}{s:Stmt}{d e:Int}{p:Prog}{r:List cg}
theorem UA(c:7000<=n)(a:eo s d=true):vL n s=some (lf s):=by
 obtain⟨n,rfl⟩: ∃j,n=j+1:=⟨n-1,O⟩
 unfold vL;rw[P8 O a];refine ab.eq (ag rfl (ag (H3 5 n s.value O (kv a).2.1) (ab.some rfl)))
def tJ(p:Prog):Prog×Bool:=if b2 p=true then(Bd p,true) else d'
theorem RM(r:7000<=n)(w:c5 1000 p):CA n p=some (tJ p):=by
 unfold CA tJ;refine ab.eq (ag (uh r w.sm) (ab.cond (λh=>ab.some ?_) λh=>?_))
 ·rw[a6 (by simpa using h)];rfl
 have i:b2 p=true:=by simpa using h
 rw[a1 i];obtain⟨I,L,Q,y,_⟩:=ey i;refine ag (qJ O i) ?_;refine yz (l:=p.parts) (n:=n) (F:=λd k=>bo (λa ((c,e):(List Stmt)×Int)=>
    bif decide (e<(d.body.length:Int)) then(
     Option.bind (au c e) λz=>
     Option.bind (vL n z) λA=>
     Option.bind (b' c e A) λB=>
     a (B,wr (e+1))
    ) else(
     Option.bind (jX d.body c) λR=>
     k (⟨d.nest,c⟩:Part)
    )
   ) n (d.body,0)) (W:=λ_ o=>o) (m:=λ_=>(p.parts.length:Int)) (g:=j3) (s:=0) (K:=λC=>some ((⟨p.aS,C⟩:Prog),true)) (λ_ _ _ h=>h) (λ_ _=>rfl) O (λx D k q=>?_) O O (ab.some ?_)
 ·obtain⟨_,U,G,_⟩:=gh (y x D);refine yz (l:=x.body) (n:=n) (F:=λx k=>Option.bind (vL n x) k) (W:=λ_ o=>o) (m:=λ_=>(x.body.length:Int)) (g:=lf) (s:=0) (K:=λc=>Option.bind (jX x.body c) λ_=>k (⟨x.nest,c⟩:Part)) (λ_ _ _ h=>h) (λ_ _=>rfl) O (λs H k q=>ag (UA r (G s H)) q) O O ?_;refine ag (oA aX) ?_
  have:(⟨x.nest,x.body.take 0++(x.body.drop 0).map lf⟩:Part)=j3 x:=by simp[j3]
  rw[this];exact q
 simp[Bd]
theorem Tc(h:7000<=n)(i:d<=4)(a:eo s d=true)(e:eo s 4=true):DG n s=some (lf s,true):=by
 obtain⟨n,rfl⟩: ∃j,n=j+1:=⟨n-1,O⟩
 have c:iv 4 s:=O0 a;unfold DG;refine ab.eq (ag (t6 O (c.mono (O:4<=1000)).sm 4) ?_);rw[e];refine b3 (ag (yw O ((c.mono (O:4<=1000)).1).sm) (ag (Qh 5 n s.value O (kv a).2.1) (ab.some rfl)))
theorem MQ{a:ay}(h:eO a d=true)(c:d<=e):eO a e=true:=by unfold eO at h⊢;rw[oE,decide_eq_true_eq] at h;rw[h.1,bz O];rfl
theorem Oh{a:b0}(h:fN a d=true)(c:d<=e):fN a e=true:=by unfold fN at h⊢;rw[oE,fw] at h;rw[h.2,Bool.and_true];exact fw.2 λx i=>MQ (h.1 x i) c
theorem aaQ{x:Expr}(h:ef x d=true)(a:d<=e):ef x e=true:=by
 unfold ef at h⊢;split at h
 ·rename_i c;rw[a1 c];simp only[Bool.and_eq_true] at h⊢;exact⟨h.1,h.2.1,MQ h.2.2 a⟩
 rename_i c;rw[a6 c];split at h
 ·rename_i i;rw[a1 i];simp only[Bool.and_eq_true] at h⊢;exact⟨h.1,h.2.1,Oh h.2.2 a⟩
 rename_i i;rw[a6 i];exact h
theorem Lj{d e:Int}(a:d<=e): ∀{L:Nat} {x:Expr},dA L x d=true->dA L x e=true
 |0,_,h=>by cases h
 |L+1,x,h=>by obtain⟨i,l,m⟩:=gY h;exact IJ i (aaQ l a) λk c=>Lj a (m k c)
theorem ZK(h:eo s d=true):eo s 4=true:=by unfold eo at h⊢;simp only[Bool.and_eq_true,decide_eq_true_eq] at h⊢;exact⟨O,Oh h.2.1 h.1.2,Lj h.1.2 h.2.2.1,h.2.2.2⟩
theorem ZM(h:eo s d=true):d<=4:=by unfold eo at h;simp only[Bool.and_eq_true,decide_eq_true_eq] at h;exact h.1.2
theorem RI(I:7000<=n)(r:c5 1000 p):Cw n p=some (tJ p):=by
 unfold Cw tJ;refine ab.eq (ag (kx O r) (ag (jP I r.sm) (ab.cond (λh=>ab.some ?_) λh=>?_)))
 ·rw[a6 (by simpa using h)];rfl
 have K:b2 p=true:=by simpa using h
 rw[a1 K];obtain⟨f,g,t,U,_⟩:=ey K;refine ag (m' O r) ?_;refine ab.loop (λz:List Part×Int=> ∃i:Nat,z.2=i/\i<=p.parts.length/\z.1=(p.parts.take i).map j3++p.parts.drop i) (λz=>p.parts.length-z.2.toNat) ?_ n _ ⟨0,rfl,O,aX⟩ Z;rintro w ⟨x,z⟩ ⟨i,L,u,e⟩ W;dsimp only at L e⊢;subst L;have a:((p.parts.take i).map j3).length=i:=by rw[c6,cJ];omega
 have A:x.length=p.parts.length:=by rw[e,dB,a,e6];omega
 rw[A];refine aQ (λX=>?_) λY=>ab.some ?_
 ·obtain⟨P,m⟩: ∃P,p.parts[i]? =some P:=⟨_,bs (O:i<p.parts.length)⟩
  have B:x[i]? =some P:=by
   rw[e,gU O,a,j',fP];exact m
  obtain⟨_,v,b,_⟩:=gh (U P (bF m));refine ab.loop (λz:List Part×Int=> ∃j:Nat,z.2=j/\j<=P.body.length/\z.1=x.set i ⟨P.nest,(P.body.take j).map lf++P.body.drop j⟩) (λz=>P.body.length-z.2.toNat) ?_ n _ ⟨0,rfl,O,by
   dsimp only;rw[List.take_zero,List.map_nil,sY,nx];exact(aft B).symm⟩ Z
  rintro o ⟨y,E⟩ ⟨j,k,M,l⟩ C;dsimp only at k l⊢;subst k;have D:y[i]? =some ⟨P.nest,(P.body.take j).map lf++P.body.drop j⟩:=by rw[l,hq O]
  have c:((P.body.take j).map lf).length=j:=by rw[c6,cJ];omega
  have F:((P.body.take j).map lf++P.body.drop j).length=P.body.length:=by rw[dB,c,e6];omega
  refine ag (bk D) ?_;dsimp only;rw[F];refine aQ (λQ=>?_) λR=>?_
  ·obtain⟨s,q⟩: ∃s,P.body[j]? =some s:=⟨_,bs (O:j<P.body.length)⟩
   have G:((P.body.take j).map lf++P.body.drop j)[j]? =some s:=by
    rw[gU O,c,j',fP];exact q
   have d:=b s (bF q);refine ag (bk G) (ag (Tc I (ZM d) d (ZK d)) (ag (dH O _) (ag (dH (by rw[l,eS];omega) _) ?_)));rw[be O];refine C _ ⟨j+1,Z,O,?_⟩ Z;dsimp only;rw[l,cY,cY,List.set_set,mF _ _ O,c,j',jU q,vv,ei,q];simp
  have H:j=P.body.length:=O
  rw[be O];refine W _ ⟨i+1,Z,O,?_⟩ Z;dsimp only;rw[l,H,c4,ny,kG,e,mF _ _ O,a,j',jU m,vv,ei,m];simp[j3]
 have:i=p.parts.length:=O
 rw[e,this,c4,ny,kG];rfl
theorem ZC(h:eo s d=true):eo (lf s) d=true:=by obtain⟨c,a,_⟩:=kv h;unfold eo at h⊢;simp only[Bool.and_eq_true,decide_eq_true_eq] at h⊢;exact⟨h.1,c,qe a,by have:=O9 a;show dy 5 (fL 5 s.value)<=12;omega⟩
theorem UE(c:eo s d=true){q:List Int}(h:gD r s q=true):gD r (lf s) q=true:=by unfold gD at h⊢;rw[oE,fw] at h;rw[show(lf s).write=s.write from rfl,h.1,fb];exact fw.2 λa e=>h.2 a (O' (kv c).2.1 a e)
theorem KL(x:Part):iX (j3 x)=iX x:=rfl
theorem WK{x:Part}(h:en r x=true):en r (j3 x)=true:=by
 obtain⟨e,i,d,k⟩:=gh h;unfold en nN;rw[show(j3 x).nest=x.nest from rfl,e,KL];have l:(j3 x).body=x.body.map lf:=rfl;rw[l,c6,bz i];simp only[Option.isSome_some,Bool.true_and,Bool.and_eq_true,List.all_eq_true];refine⟨λs c=>?_,λs c q m=>?_⟩
 ·obtain⟨t,a,rfl⟩:=eK.1 c;exact ZC (d t a)
 obtain⟨t,a,rfl⟩:=eK.1 c
 have:=k t a q m;exact⟨UE (d t a) this.1,this.2⟩
theorem ZD(h:b2 p=true):b2 (Bd p)=true:=by
 unfold b2 j7 at h⊢;simp only[Bool.and_eq_true,decide_eq_true_eq,List.all_eq_true] at h⊢;obtain⟨⟨a,c,d⟩,e⟩:=h;refine⟨⟨a,by simpa[Bd] using c,λx i=>?_⟩,?_⟩
 ·obtain⟨y,k,rfl⟩:=eK.1 i;exact WK (d y k)
 show((p.parts.map j3).map fB).sum<=120;rw[List.map_map,show p.parts.map (fB ∘ j3)=p.parts.map fB from List.map_congr_left (λx _=>by
  show fB (j3 x)=fB x;unfold fB;rw[KL,show(j3 x).body.length=x.body.length by simp[j3]])]
 exact e
end
def oO(p:Prog)(a:Int):Bool:=(List.range (bB p.parts).length).all (λi=>match (bB p.parts)[i]? with
 |some x=> !((j6 p (bB p.parts)).getD i false&&decide (x.part=a))
 |none=>true)
variable {p:Prog}{n:Nat}{a:Int}
theorem zy{part:Int}:oO p part=true↔ ∀(i:Nat) x,(bB p.parts)[i]? =some x->(j6 p (bB p.parts)).getD i false=true->x.part≠part:=by
 unfold oO;rw[fw];constructor
 ·intro h i x a c e
  have:=h i (s0.2 (bR.1 a).1);rw[a] at this;simp only[c,e,decide_true,Bool.and_self,Bool.not_true] at this;cases this
 intro h i d;cases a:(bB p.parts)[i]? with
 |none=>rfl
 |some x=>
  dsimp only;cases c:(j6 p (bB p.parts)).getD i false with
  |false=>rfl
  |true=>rw[bx (h i x a c)];rfl
theorem L3(p:Prog)(l:List cx):(j6 p l).length=l.length:=sF p l l.length
theorem F'(k:b2 p=true)(i:Nat):b2 ⟨p.aS,p.parts.take i++p.parts.drop (i+1)⟩=true:=by
 have c: ∀x∈p.parts.take i++p.parts.drop (i+1),x∈p.parts:=λx d=>by
  rcases dZ.1 d with h|h
  ·exact fR h
  exact eV h
 have e:=(ey k).2.2.2.1;have n:=(BR p.parts)
 have o: ∀l:List Part,(∀x∈l,x∈p.parts)->0<=(l.map fB).sum:=λl q=>by
  induction l with
  |nil=>simp
  |cons a l r=>
   simp only[List.map_cons,List.sum_cons]
   have:=(yT (e a (q a eR))).1
   have:=r λx d=>q x (ev _ d);omega
 unfold b2 j7 at k⊢;simp only[Bool.and_eq_true,decide_eq_true_eq,List.all_eq_true] at k⊢;obtain⟨⟨aJ,a2,a3⟩,a4⟩:=k;refine⟨⟨aJ,by simp only[List.length_append,List.length_take,List.length_drop];omega,λx d=>a3 x (c x d)⟩,?_⟩;have s:(p.parts.map fB).sum=((p.parts.take i).map fB).sum+((p.parts.drop i).map fB).sum:=by
  conv=>lhs;rw[<-s6 i p.parts]
  rw[fQ,yD]
 have w:((p.parts.drop (i+1)).map fB).sum<=((p.parts.drop i).map fB).sum:=by
  cases m:p.parts.drop i with
  |nil=>
   have:p.parts.drop (i+1)=[]:=by rw[<-List.drop_drop,m];rfl
   rw[this];simp
  |cons a l=>
   have:p.parts.drop (i+1)=l:=by rw[<-List.drop_drop,m];rfl
   rw[this];simp only[List.map_cons,List.sum_cons]
   have:=(yT (e a (eV (i:=i) (by rw[m];exact eR)))).1;omega
 simp only[List.map_append,List.sum_append];omega
theorem Ni(a:b2 p=true)(i:Nat):c5 1000 ⟨p.aS,p.parts.take i++p.parts.drop (i+1)⟩:=(kN (F' a i)).mono O
def tM(p:Prog)(a:Int):Prog×Bool:=if(b2 p&&(ee p a&&oO p a))=true then(⟨p.aS,p.parts.take a.toNat++p.parts.drop (a.toNat+1)⟩,true) else d'
theorem WI(H:7100<=n)(I:c5 1000 p)(Y: -1<=a/\a<=9):yZ n p a=some (tM p a):=by
 unfold yZ tM;refine ab.eq (ag (yp H I.sm) ?_);by_cases d:b2 p=true
 ·rw[a1 d,d];have Q:=(ey d).2.2.2.2;refine bS (ab.aA (λz=>z= !ee p a) (λj k=>b3 (ag (qy n I.2.1 a) (k _ rfl))) λz q=>?_);subst q;cases w:ee p a with
  |false=>exact bS (ab.some rfl)
  |true=>
   have A:0<=a/\a<(p.parts.length:Int):=e4 w;refine b3 (ag (x:=j6 p (bB p.parts)) (Xo H d) ?_);have B:=L3 p (bB p.parts);rw[B];refine ab.loop (λz:Int=> ∃i:Nat,z=i/\i<=(bB p.parts).length/\ ∀(j:Nat) x,j<i->(bB p.parts)[j]? =some x->(j6 p (bB p.parts)).getD j false=true->x.part≠a) (λz=>(bB p.parts).length-z.toNat) ?_ n _ ⟨0,rfl,O,λj x h=>O⟩ O;rintro C z ⟨i,rfl,b,r⟩ R;refine aQ (λU=>?_) λW=>?_
   ·obtain⟨x,D⟩: ∃x,(bB p.parts)[i]? =some x:=⟨_,bs (O:i<(bB p.parts).length)⟩
    have F:au (j6 p (bB p.parts)) (i:Int)=some ((j6 p (bB p.parts)).getD i false):=by
     have c:i<(j6 p (bB p.parts)).length:=O
     rw[bk (bs c),eu,bs c];rfl
    have m:au (fX p).list (i:Int)=some x:=bk D;refine ag F (ab.aA (λz=>z=((j6 p (bB p.parts)).getD i false&&decide (x.part=a))) (λj k=>ab.cond (λh=>ag m (k _ (by rw[h];rfl))) λh=>k _ (by rw[h];rfl)) λz q=>?_);subst q;refine ab.cond (λh=>ab.some ?_) λh=>?_
    ·rw[oE,decide_eq_true_eq] at h
     have:oO p a=false:=by
      cases X:oO p a with
      |false=>rfl
      |true=>exact bA h.2 (zy.1 X i x D h.1)
     rw[this];rfl
    rw[be O];refine R _ ⟨i+1,O,O,λj y k G s=>?_⟩ O;by_cases e:j=i
    ·subst e;rw[D] at G;cases G;rw[s,fb] at h;exact of_decide_eq_false h
    exact r j y O G s
   have o:oO p a=true:=zy.2 λj x K s=>r j x (by have:=(bR.1 K).1;omega) K s;rw[o];refine ag (qJ O d) (ag (x:=(eJ p.parts a (a+1),jN p.parts a (a+1) (⟨[],[]⟩:Part))) ?_ (ab.some ?_))
   ·unfold uL;rw[be O,bz A.1,bz (O:a<=a+1),bz (O:a+1<=(p.parts.length:Int)),bx (show¬a=a+1 by omega)];rfl
   show(⟨p.aS,(jN p.parts a (a+1) (⟨[],[]⟩:Part)).take (eJ p.parts a (a+1))⟩,true)=((⟨p.aS,p.parts.take a.toNat++p.parts.drop (a.toNat+1)⟩:Prog),true)
   have L:(p.parts.take a.toNat++p.parts.drop (a+1).toNat).length=eJ p.parts a (a+1):=by
    unfold eJ;simp only[List.length_append,List.length_take,List.length_drop];omega
   unfold jN;rw[pB (by rw[L];exact cN _),jd (l:=p.parts.take a.toNat++p.parts.drop (a+1).toNat) (by rw[L];exact cN _),show(a+1).toNat=a.toNat+1 by omega]
 rw[a6 d,show b2 p=false by simpa using d];refine b3 (ab.aA (λz=>z=true) (λj k=>bS (k _ rfl)) λz q=>?_);rw[q];exact bS (ab.some rfl)
theorem W8(Q:7100<=n)(o:c5 1000 p)(u: -1<=a/\a<=9):DH n p a=some (tM p a):=by
 unfold DH tM;refine ab.eq (ag (kx O o) (ab.aA (λz=>z= !(b2 p&&ee p a)) (λj q=>?_) λz R=>?_))
 ·refine ag (jP O o.sm) (ab.cond (λh=>q _ ?_) λh=>?_)
  ·rw[sC h];rfl
  have bJ:=qI h;refine aQ (λr=>q _ ?_) λr=>q _ ?_
  ·rw[bJ,show ee p a=false from bx O];rfl
  by_cases K:(p.parts.length:Int)<=a
  ·rw[bJ,bz K,show ee p a=false from bx O];rfl
  rw[bJ,bx K,show ee p a=true from bz O];rfl
 subst R;by_cases bJ:b2 p=true
 ·rw[bJ];have U:=(ey bJ).2.2.2.2;cases B:ee p a with
  |false=>exact bS (ab.some rfl)
  |true=>
   have W:0<=a/\a<(p.parts.length:Int):=e4 B;refine b3 (ag (Rp Q o.sm) (ag (uE O bJ) ?_));rw[a1 bJ];have X:=L3 p (bB p.parts);have Y:=Kp (j6 p (bB p.parts));have s: ∀c∈px (j6 p (bB p.parts)),∃(i:Nat) (x:cx),c=i/\(bB p.parts)[i]? =some x/\(j6 p (bB p.parts)).getD i false=true:=λc C=>by
    obtain⟨v,r⟩:=D2.1 C;have w:c.toNat<(bB p.parts).length:=by
     by_cases h:c.toNat<(bB p.parts).length
     ·exact h
     rw[eu,q4 O] at r;cases r
    exact⟨c.toNat,_,O,bs w,r⟩
   generalize b:px (j6 p (bB p.parts))=L at*;refine ab.loop (λz:Int=> ∃i:Nat,z=i/\i<=L.length/\ ∀c∈L.take i,∀x,(bB p.parts)[c.toNat]? =some x->x.part≠a) (λz=>L.length-z.toNat) ?_ n _ ⟨0,rfl,O,λc C=>by simp at C⟩ O;rintro D z ⟨i,rfl,E,e⟩ f;refine aQ (λw=>?_) λg=>?_
   ·obtain⟨c,F⟩: ∃c,L[i]? =some c:=⟨_,bs (O:i<L.length)⟩
    obtain⟨k,x,rfl,A,G⟩:=s c (bF F);refine ag (bk F) (ag (bk A) (aQ (λh=>ab.some ?_) λh=>?_))
    ·have:oO p a=false:=by
      cases m:oO p a with
      |false=>rfl
      |true=>exact bA h (zy.1 m k x A G)
     rw[this];rfl
    rw[be O];refine f _ ⟨i+1,O,O,λd m y H=>?_⟩ O;rw[gd F,dZ,mI] at m;rcases m with m|rfl
    ·exact e d m y H
    rw[cY,A] at H;cases H;exact h
   have I:i=L.length:=O
   rw[I,c4] at e;have l:oO p a=true:=zy.2 (λj x A G=>by
    have q:((j:Nat):Int)∈L:=by rw[<-b];exact D2.2 ⟨O,by rw[cY];exact G⟩
    exact e _ q x (by rw[cY];exact A))
   rw[l];obtain⟨i,rfl⟩: ∃i:Nat,a=i:=⟨a.toNat,O⟩
   refine ag (x:=(⟨p.aS,p.parts.take i++p.parts.drop (i+1)⟩,true)) (ab.eq ?_) (ab.some rfl);have t:=o.2.1;unfold jr;refine ag (m' O o) (ag (gN O O O) ?_);rw[cY,show(0:Int).toNat=0 from rfl,nx];refine ag (x:=p.parts.take i) (cX bQ) (ag (x:=p.parts.take i) (by rw[cX bQ,kG]) ?_);rw[be O];refine ag (gN O O O) ?_;rw[cY,c4,show((i:Int)+1).toNat=i+1 by omega];refine ag (x:=p.parts.take i++p.parts.drop (i+1)) (cX bQ) (ag (jP O (Ni bJ i).sm) ?_);rw[F' bJ i];exact b3 (ag (m' O (Ni bJ i)) (ab.some rfl))
 rw[show b2 p=false by simpa using bJ];exact bS (ab.some rfl)
end Go.Lift
