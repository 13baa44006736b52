/- Tools. -/
import Derived.Test.YtcihigfifglboabGreatHRun1
set_option maxRecDepth 100000
set_option linter.unusedVariables false
namespace Go.Lift
open Go
section
theorem Gr{k:Type}{n:Int}(h:0<=n/\n<=1000000000)(x:k):mk n x=some (List.replicate n.toNat x):=by unfold mk;rw[a1 h]
variable {k n i L many:Nat}{p:Prog}{x y P:Part}{h R:Type}{l:Loop}{F:ay->Option ay}{K:List h->Option R}{Q:R->Prop}{s d a v c:Int}{f:ay->ay}{e:Expr}{o nest:List Loop}{r:List cg}{b:ay}{q:List Int}{ys:List Part}
theorem Ye(a:b2 p=true):0<=fX p.aR/\fX p.aR<=144:=by
 obtain⟨d,c,_⟩:=eA a
 have:=ZN c;omega
theorem P2(c:b2 p=true){x:cx}(e:gn p x):x.cK.length<=4:=by
 obtain⟨i,k,P,s,d,h,l,m,n,o,q,a,r⟩:=uJ c e
 have:=a.1;have:=a.2.1;omega
theorem H1{β:Type}{l:List h}{F:h->(β->Option R)->Option R}{g:h->β}{K:List β->Option R}(e: ∀x∈l,∀k:β->Option R,ab (k (g x)) Q->ab (F x k) Q)
  {s:Nat} (B:s<=l.length) {pre:List β} (C:pre.length<=1000) (D:l.length<=1000) (G:5000<=n) (m:ab (K (pre++(l.drop s).map g)) Q):
  ab (bo (λa ((x,i):List β×Int)=>bif decide (i<(l.length:Int)) then(Option.bind (au l i) λy=>F y λz=>Option.bind (app x [z]) λw=>a (w,wr (i+1))) else K x) n (pre,(s:Int))) Q:=by
 refine ab.loop (λz:List β×Int=> ∃i:Nat,z.2=i/\s<=i/\i<=l.length/\z.1=pre++((l.drop s).take (i-s)).map g) (λz=>l.length-z.2.toNat) ?_ n _ ⟨s,rfl,O,O,aW⟩ Z;rintro a ⟨x,z⟩ ⟨i,d,o,H,c⟩ p;dsimp only at d c⊢;subst d;refine aQ (λq=>?_) λr=>?_
 ·have bN:=bs (O:i<l.length);have A:x.length<=2000:=by rw[c,dD,c5,cL,fq];omega
  refine ag (bk bN) (e _ (bE bN) _ (ag (cY bQ) ?_));rw[be O];refine p _ ⟨i+1,Z,O,O,?_⟩ Z;dsimp only;rw[show i+1-s=(i-s)+1 by omega,ek,fT,show s+(i-s)=i by omega,bN,c,fU,ih];rfl
 have:i=l.length:=O
 subst this;rw[c,ji (by rw[fq];omega)];exact m
theorem ow{H:Type}{l:List H}{f:H->Option h}{g:H->h}(c: ∀x∈l,f x=some (g x))(d:l.length<=1000)(e:5000<=n)(m:ab (K (l.map g)) Q):
  ab (bo (λa ((x,i):List h×Int)=>bif decide (i<(l.length:Int)) then(Option.bind (au l i) λy=>Option.bind (f y) λz=>Option.bind (app x [z]) λw=>a (w,wr (i+1))) else K x) n ([],0)) Q:=
 H1 (F:=λy k=>Option.bind (f y) k) (g:=g) (s:=0) (pre:=[]) (λx o k p=>ag (c x o) p) O aW d e (by simpa using m)
theorem yC{l:List h}{F:h->(h->Option R)->Option R}{W:List h->Option R->Option R}{m:List h->Int}{g:h->h}
  (B: ∀y o,y.length=l.length->ab o Q->ab (W y o) Q) (C: ∀y:List h,y.length=l.length->m y=(l.length:Int))
  {s:Nat} (X:s<=l.length) (D: ∀x∈l,∀k:h->Option R,ab (k (g x)) Q->ab (F x k) Q) (Y:l.length<=1000) (b:5000<=n) (G:ab (K (l.take s++(l.drop s).map g)) Q):
  ab (bo (λa ((y,i):List h×Int)=>W y (bif decide (i<m y) then(Option.bind (au y i) λx=>F x λz=>Option.bind (b' y i z) λw=>a (w,wr (i+1))) else K y)) n (l,(s:Int))) Q:=by
 refine ab.loop (λz:List h×Int=> ∃i:Nat,z.2=i/\s<=i/\i<=l.length/\z.1=l.take s++((l.drop s).take (i-s)).map g++l.drop i) (λz=>l.length-z.2.toNat) ?_ n _ ⟨s,rfl,O,O,aW⟩ Z;rintro a ⟨x,z⟩ ⟨i,A,H,f,d⟩ I;dsimp only at A d⊢;subst A;have c:(l.take s++((l.drop s).take (i-s)).map g).length=i:=by rw[dD,c5,cL,cL,fq];omega
 have p:x.length=l.length:=by rw[d,dD,c,fq];omega
 refine B _ _ p ?_;rw[C _ p];refine aQ (λL=>?_) λU=>?_
 ·obtain⟨e,q⟩: ∃e,l[i]? =some e:=⟨_,bs (O:i<l.length)⟩
  have r:x[i]? =some e:=by
   rw[d,gX O,c,kd,fT];exact q
  refine ag (bk r) (D _ (bE q) _ (ag (dJ O _) ?_));rw[be O];refine I _ ⟨i+1,Z,O,O,?_⟩ Z;dsimp only;rw[d,c3,mH _ _ O,c,kd,jW q,vv,show i+1-s=(i-s)+1 by omega,ek,fT,show s+(i-s)=i by omega,q];simp
 have:i=l.length:=O
 subst this;rw[d,ji (l:=l.drop s) (by rw[fq];omega),nz,kK];exact G
def pW(f:ay->ay)(a:bZ):bZ:=⟨a.array,a.bC.map f⟩
def qa(f:ay->ay):Nat->Expr->Expr
 |0,e=>e
 |L+1,e=>⟨e.kind,e.num,if e.kind=2 then f e.index else⟨[],0⟩,if e.kind=3 then pW f e.read else⟨[],[]⟩,e.bm.map (qa f L)⟩
def iq(f:ay->ay)(s:Stmt):Stmt:=⟨pW f s.write,qa f 5 s.value⟩
def d8(f:ay->ay)(l:Loop):Loop:=⟨l.bf.map f,l.aI.map f⟩
theorem pU(h:eh e d=true)(a:e.kind=2):cR e.index=true/\jD e.read=true:=by unfold eh eR at h;rw[a1 a] at h;simp only[Bool.and_eq_true] at h;exact⟨h.2.2.1,h.2.1⟩
theorem rv(h:eh e d=true)(a:e.kind=3):fR e.read d=true/\hg e.index=true:=by unfold eh at h;rw[a6 O,a1 a] at h;simp only[Bool.and_eq_true] at h;exact⟨h.2.2,h.2.1⟩
theorem wP(h:eh e d=true)(a: ¬e.kind=2)(c: ¬e.kind=3):hg e.index=true/\jD e.read=true:=by unfold eh at h;rw[a6 a,a6 c] at h;split at h<;>simp only[Bool.and_eq_true] at h<;>exact⟨h.2.1,h.2.2⟩
theorem t7{a:ay}(h:hg a=true):a=⟨[],0⟩:=by obtain⟨c,k⟩:=a;simp only[hg,Bool.and_eq_true,decide_eq_true_eq] at h;obtain⟨d,rfl⟩:=h;rw[kI d]
theorem t8{a:bZ}(h:jD a=true):a=⟨[],[]⟩:=by obtain⟨c,k⟩:=a;simp only[jD,Bool.and_eq_true,decide_eq_true_eq] at h;obtain⟨rfl,d⟩:=h;rw[kI d]
theorem Jt(c:5000<=n){a:bZ}(e:fR a d=true)(h: ∀x,cR x=true->F x=some (f x)):sC n a F=some (pW f a):=by obtain⟨m,o,i⟩:=mP e;refine ab.eq ?_;unfold sC;exact ow (K:=λk=>some (⟨a.array,k⟩:bZ)) (λx l=>h x (i x l)) O c (ab.some rfl)
theorem JZ{d:Int}{F:ay->Option ay}{f:ay->ay}(i: ∀x,cR x=true->F x=some (f x)): ∀(L n:Nat) (e:Expr),5000+L<=n->dC L e d=true->lK (n+1) e F=some (qa f L e)
 |0,_,_,_,h=>by cases h
 |L+1,n,e,D,h=>by
  obtain⟨G,l,p⟩:=g' h;obtain⟨n,rfl⟩: ∃j,n=j+1:=⟨n-1,O⟩
  have q:e.bm.length<=2:=by have:=pj e.kind;omega
  unfold lK;refine ab.eq (ab.aA (λz=>(⟨z.1,z.2.1⟩:ay)=(if e.kind=2 then f e.index else⟨[],0⟩)/\(⟨z.2.2.1,z.2.2.2⟩:bZ)=(if e.kind=3 then pW f e.read else⟨[],[]⟩)) (λj k=>?_) λz r=>?_)
  ·refine aQ (λa=>?_) λa=>aQ (λc=>?_) λc=>?_
   ·exact ag (i _ (pU l a).1) (k _ ⟨by rw[a1 a],by rw[a6 O]⟩)
   ·exact ag (Jt O (rv l c).1 i) (k _ ⟨by rw[a6 a],by rw[a1 c]⟩)
   exact k _ ⟨by rw[a6 a],by rw[a6 c]⟩
  obtain⟨s,w,y,A⟩:=z;obtain⟨m,o⟩:=r;dsimp only at m o⊢;refine ow (K:=λB=>some (⟨e.kind,e.num,(⟨s,w⟩:ay),(⟨y,A⟩:bZ),B⟩:Expr)) (λx C=>JZ i L n x O (p x C)) O O (ab.some ?_);rw[m,o];rfl
theorem JX(i:6000<=n){s:Stmt}(c:er s d=true)(a: ∀x,cR x=true->F x=some (f x)):pe n s F=some (iq f s):=by
 obtain⟨e,h,_⟩:=kA c;obtain⟨n,rfl⟩: ∃j,n=j+1:=⟨n-1,O⟩
 unfold pe;rw[Jt O e a,JZ a 5 n s.value O h];rfl
theorem Gs{k:Type}{f:k->k}: ∀{l:List k},(∀x∈l,f x=x)->l.map f=l
 | [],_=>rfl
 |x::l,h=>by rw[List.map_cons,h x eU,Gs λy a=>h y (ey _ a)]
theorem L2{a:bZ}(c:fR a d=true)(e: ∀x,cR x=true->f x=x):pW f a=a:=by obtain⟨k,l,h⟩:=mP c;unfold pW;rw[Gs λx i=>e x (h x i)]
theorem NF{d:Int}{f:ay->ay}(l: ∀x,cR x=true->f x=x): ∀{L:Nat} {e:Expr},dC L e d=true->qa f L e=e
 |0,_,_=>rfl
 |L+1,e,h=>by
  obtain⟨o,i,m⟩:=g' h;obtain⟨kind,num,index,read,n⟩:=e;unfold qa;dsimp only at o i m⊢;rw[Gs λx p=>NF l (m x p)];by_cases c:kind=2
  ·have a:=pU i c;dsimp only at a;rw[a1 c,a6 O,l _ a.1,t8 a.2]
  by_cases k:kind=3
  ·have a:=rv i k;dsimp only at a;rw[a6 c,a1 k,L2 a.1 l,t7 a.2]
  have a:=wP i c k;dsimp only at a;rw[a6 c,a6 k,t7 a.1,t8 a.2]
theorem Zw(a: ∀x,cR x=true->f x=x){s:Stmt}(c:er s d=true):iq f s=s:=by obtain⟨e,h,_⟩:=kA c;unfold iq;rw[L2 e a,NF a h]
def kl(l:Loop):Prop:=(l.bf.length<=2/\ ∀x∈l.bf,cR x=true)/\l.aI.length<=2/\ ∀x∈l.aI,cR x=true
theorem aaw(h:Fit o): ∀l∈o,kl l:=λl a=>by
 obtain⟨i,c⟩:=kc.1 a
 have:=h.2 i l c;exact⟨(pT this.1).2,(pT this.2).2⟩
theorem hZ(h:ep r x=true):x.nest.length<=4/\ ∀l∈x.nest,kl l:=by have:=(rZ (gk h).1).1;exact⟨this.1,aaw this⟩
theorem Ot{a:ay}(h:cR a=true):dp 4 a:=by have:=(fM h).1;unfold dp;omega
theorem A8{l:List ay}(e:l.length<=2)(c: ∀x∈l,cR x=true):eP 4 l:=⟨O,λa d=>Ot (c a d)⟩
theorem Oq{d:Int}: ∀{L:Nat} {e:Expr},dC L e d=true->hT 4 L e
 |0,_,h=>by cases h
 |L+1,e,h=>by
  obtain⟨m,a,n⟩:=g' h
  have:=pj e.kind;refine⟨O,?_,?_,λk m=>Oq (n k m)⟩
  ·by_cases c:e.kind=2
   ·exact Ot (pU a c).1
   by_cases i:e.kind=3
   ·rw[t7 (rv a i).2];unfold dp;simp
   rw[t7 (wP a c i).1];unfold dp;simp
  by_cases i:e.kind=3
  ·have:=mP (rv a i).1;exact A8 this.2.1 this.2.2
  by_cases c:e.kind=2
  ·rw[t8 (pU a c).2];exact⟨aW,λx l=>by cases l⟩
  rw[t8 (wP a c i).2];exact⟨aW,λx l=>by cases l⟩
theorem O3{s:Stmt}(a:er s d=true):iw 4 s:=by
 obtain⟨c,e,_⟩:=kA a
 have:=mP c;exact⟨A8 this.2.1 this.2.2,Oq e⟩
theorem tG(h:ep r x=true):fx 4 x:=by obtain⟨d,a⟩:=hZ h;obtain⟨_,e,i,_⟩:=gk h;exact⟨⟨d,λl c=>⟨A8 (a l c).1.1 (a l c).1.2,A8 (a l c).2.1 (a l c).2.2⟩⟩,e.2,λs k=>O3 (i s k)⟩
theorem Oo{l:List cg}(a:l.length<=4)(c:kz l):rp 4 l:=⟨a,λx d=>by have:=c x d;simp only[j6,Bool.and_eq_true,decide_eq_true_eq] at this;omega⟩
theorem kR(h:b2 p=true):c9 4 p:=by obtain⟨a,c,d,e,_⟩:=eA h;exact⟨Oo a c,d,λx i=>tG (e x i)⟩
theorem AP{B:Nat}{l:List ay}(h:l.length<=B)(c: ∀x∈l,dp B (f x)):eP B (l.map f):=⟨by rw[c5];exact h,λa d=>by obtain⟨x,e,rfl⟩:=eM.1 d;exact c x e⟩
theorem Oh{d:Int}{f:ay->ay}(c: ∀x,cR x=true->dp 4 (f x)): ∀{L:Nat} {e:Expr},dC L e d=true->hT 4 L (qa f L e)
 |0,_,h=>by cases h
 |L+1,e,h=>by
  obtain⟨m,n,o⟩:=g' h
  have:=pj e.kind;unfold qa hT;refine⟨by dsimp only;rw[c5];omega,?_,?_,λk m=>?_⟩
  ·dsimp only;by_cases i:e.kind=2
   ·rw[a1 i];exact c _ (pU n i).1
   rw[a6 i];unfold dp;simp
  ·dsimp only;by_cases l:e.kind=3
   ·rw[a1 l]
    have:=mP (rv n l).1;exact AP O λx a=>c x (this.2.2 x a)
   rw[a6 l];exact⟨aW,λx a=>by cases a⟩
  obtain⟨x,a,rfl⟩:=eM.1 m;exact Oh c (o x a)
theorem A7(a: ∀x,cR x=true->dp 4 (f x)){s:Stmt}(c:er s d=true):iw 4 (iq f s):=by
 obtain⟨e,h,_⟩:=kA c
 have:=mP e;exact⟨AP O λx i=>a x (this.2.2 x i),Oh a h⟩
theorem wC(c: ∀x,cR x=true->dp 4 (f x))(h:kl l):eP 4 (d8 f l).bf/\eP 4 (d8 f l).aI:=
 ⟨AP (by have:=h.1.1;omega) λx a=>c x (h.1.2 x a),AP (by have:=h.2.1;omega) λx a=>c x (h.2.2 x a)⟩
theorem LV(n:Nat){a:ay}(h:a.aT.length<=1000):lx n a=some a:=by unfold lx jB;rw[a1 O];rfl
theorem zq(n:Nat): ∀x,cR x=true->lx n x=some x:=λx a=>LV n (by have:=(fM a).1;omega)
theorem KT(a:5000<=n){l:List ay}(h:l.length<=2)(c: ∀x∈l,cR x=true):qt n l=some l:=by unfold qt;refine ab.eq (ow (g:=λx=>x) (K:=λd=>some d) (λx e=>zq n x (c x e)) O a (ab.some ?_));simp
theorem KS(d:5000<=n)(p:nest.length<=4)(a: ∀l∈nest,kl l):sM n nest=some nest:=by unfold sM;refine ab.eq ?_;refine H1 (β:=Loop) (l:=nest) (n:=n) (F:=λe k=>Option.bind (qt n e.bf) λh=>Option.bind (qt n e.aI) λi=>k (⟨h,i⟩:Loop)) (g:=λx=>x) (s:=0) (pre:=[]) (K:=λm=>some m) ?_ O aW O d (ab.some aW);exact λx c k o=>ag (KT d (a x c).1.1 (a x c).1.2) (ag (KT d (a x c).2.1 (a x c).2.2) o)
theorem Qc(c:6000<=n){s:Stmt}(a:er s d=true):yR n s=some s:=by unfold yR;rw[JX c a (F:=λe=>lx n e) (f:=λx=>x) (zq n),Zw (λ_ _=>rfl) a];rfl
theorem KR(a:6000<=n)(h:ep r x=true):qL n x=some x:=by obtain⟨c,d⟩:=hZ h;obtain⟨_,l,e,_⟩:=gk h;unfold qL;refine ab.eq (ag (KS O c d) (ow (g:=λx=>x) (K:=λi=>some (⟨x.nest,i⟩:Part)) (λs k=>Qc a (e s k)) O O (ab.some ?_)));simp
theorem qN(q:6000<=n)(h:b2 p=true):nW n p=some p:=by
 obtain⟨r,w,C,y,_⟩:=eA h;unfold nW;refine ab.eq (H1 (F:=λo k=>Option.bind (jB o.bT) λz=>k (⟨o.name,z⟩:cg)) (g:=λx=>x) (s:=0) (pre:=[]) (K:=λA=>bo (λa ((c,d):(List Part)×Int)=>
    bif decide (d<(p.parts.length:Int)) then(
     Option.bind (au p.parts d) λe=>
     Option.bind (qL n e) λi=>
     Option.bind (app c [i]) λl=>
     a (l,wr (d+1))
    ) else(
     some (⟨A,c⟩:Prog)
    )
   ) n ([],0)) (λx m k B=>ag (x:=x.bT) ?_ B) O aW O O ?_)
 ·have:=(Oo r w).2 x m;unfold jB;rw[a1 O]
 refine ow (g:=λx=>x) (K:=λc=>some (⟨_,c⟩:Prog)) (λx m=>KR q (y x m)) O O (ab.some ?_);simp
theorem oA{k:Type}{a b:List k}(h:b.length=a.length):jY a b=some ():=by unfold jY;rw[a1 h]
theorem I5(p:5000<=n)(w:kl l)(q: ∀x,cR x=true->F x=some (f x)):sw n l F=some (d8 f l):=by
 obtain⟨⟨aK,a2⟩,B,A⟩:=w;unfold sw;refine ab.eq (ab.loop (λz:Loop×Int=>(z.2=0/\z.1=l)\/(z.2=1/\z.1=⟨l.bf.map f,l.aI⟩)\/(z.2=2/\z.1=d8 f l)) (λz=>3-z.2.toNat) ?_ n _ (.inl ⟨rfl,rfl⟩) Z);rintro a ⟨x,i⟩ r c;dsimp only at r c⊢;rcases r with ⟨rfl,rfl⟩|⟨rfl,rfl⟩|⟨rfl,rfl⟩
 ·refine ag (oA rfl) (ag (oA rfl) (aQ (λ_=>aQ (λ_=>?_) λh=>(h rfl).elim) λh=>bB h O));refine yC (F:=λx k=>Option.bind (F x) k) (W:=λ_ o=>o) (m:=λ_=>(x.bf.length:Int)) (g:=f) (s:=0) (K:=λy=>a ((⟨y,x.aI⟩:Loop),wr (0+1))) (λ_ _ _ h=>h) (λ_ _=>rfl) O (λx d k e=>ag (q x (a2 x d)) e) O p ?_;rw[be O];exact c _ (.inr (.inl ⟨Z,aW⟩)) Z
 ·refine ag (oA aW) (ag (oA rfl) (aQ (λ_=>aQ (λh=>bB h O) λ_=>aQ (λ_=>?_) λh=>(h rfl).elim) λh=>bB h O));refine yC (F:=λx k=>Option.bind (F x) k) (W:=λ_ o=>o) (m:=λ_=>(l.aI.length:Int)) (g:=f) (s:=0) (K:=λy=>a ((⟨l.bf.map f,y⟩:Loop),wr (1+1))) (λ_ _ _ h=>h) (λ_ _=>rfl) O (λx d k e=>ag (q x (A x d)) e) O p ?_;rw[be O];exact c _ (.inr (.inr ⟨Z,by simp[d8]⟩)) Z
 refine ag (oA (by simp[d8])) (ag (oA (by simp[d8])) (aQ (λh=>bB h O) λ_=>ab.some rfl))
def p2(k:Nat)(g f:ay->ay)(x:Part)(l:Loop):Part:=⟨x.nest.take k++d8 g l::(x.nest.drop (k+1)).map (d8 f),x.body.map (iq f)⟩
theorem xU(I:6000<=n){body:List Stmt}{s:Nat}(N:s<=nest.length)(P:nest.length<=4)(L: ∀l∈nest.drop s,kl l)(S:body.length<=4)(Q: ∀s∈body,er s d=true)(G: ∀x,cR x=true->F x=some (f x)):
  oX n ⟨nest,body⟩ (s:Int) F=some ⟨nest.take s++(nest.drop s).map (d8 f),body.map (iq f)⟩:=by
 have A: ∀(a:List Loop),ab (bo (λc ((y,j):(List Stmt)×Int)=>
    Option.bind (jY body y) λT=>
    bif decide (j<(body.length:Int)) then(
     Option.bind (au y j) λR=>
     Option.bind (pe n R F) λU=>
     Option.bind (b' y j U) λX=>
     c (X,wr (j+1))
    ) else(
     some (⟨a,y⟩:Part)
    )
   ) n (body,0)) (λr=>r=⟨a,body.map (iq f)⟩):=λa=>
  yC (F:=λx k=>Option.bind (pe n x F) k) (W:=λy o=>Option.bind (jY body y) λ_=>o) (m:=λ_=>(body.length:Int)) (g:=iq f) (s:=0) (K:=λy=>some (⟨a,y⟩:Part)) (λy o h Y=>ag (oA h) Y) (λ_ _=>rfl) O (λx p k b=>ag (JX I (Q x p) G) b) O O (ab.some aW)
 unfold oX;refine ab.eq ?_
 -- the loops ahead stay: only those behind are changed
 refine ab.loop (λz:List Loop×Int=> ∃i:Nat,z.2=i/\s<=i/\i<=nest.length/\z.1=nest.take s++((nest.drop s).take (i-s)).map (d8 f)++nest.drop i) (λz=>nest.length-z.2.toNat) ?_ n _ ⟨s,rfl,O,O,aW⟩ Z;rintro B ⟨x,z⟩ ⟨i,H,t,V,p⟩ u;dsimp only at H p⊢;subst H;have q:(nest.take s++((nest.drop s).take (i-s)).map (d8 f)).length=i:=by rw[dD,c5,cL,cL,fq];omega
 have C:x.length=nest.length:=by rw[p,dD,q,fq];omega
 refine ag (oA C) (aQ (λv=>?_) λE=>?_)
 ·obtain⟨e,w⟩: ∃e,nest[i]? =some e:=⟨_,bs (O:i<nest.length)⟩
  have D:x[i]? =some e:=by
   rw[p,gX O,q,kd,fT];exact w
  have M:e∈nest.drop s:=kc.2 ⟨i-s,by rw[fT,show s+(i-s)=i by omega];exact w⟩;refine ag (bk D) (ag (I5 O (L _ M) G) (ag (dJ O _) ?_));rw[be O];refine u _ ⟨i+1,Z,O,O,?_⟩ Z;dsimp only;rw[p,c3,mH _ _ O,q,kd,jW w,vv,show i+1-s=(i-s)+1 by omega,ek,fT,show s+(i-s)=i by omega,w];simp
 have:i=nest.length:=O
 subst this;rw[p,ji (l:=nest.drop s) (by rw[fq];omega),nz,kK];exact A _
theorem FV(c:5000<=n){l:List ay}(k:l.length<=2)(d: ∀x∈l,cR x=true)(e: ∀x,cR x=true->jv n x a v b=some (f x)):vC n l a v b=some (l.map f):=by unfold vC;exact ab.eq (ow (K:=λh=>some h) (λx i=>e x (d x i)) O c (ab.some rfl))
theorem Xf(d:5000<=n)(c:kl l)(e: ∀x,cR x=true->jv n x a v b=some (f x)):vV n l a v b=some (d8 f l):=by unfold vV;rw[FV d c.1.1 c.1.2 e,FV d c.2.1 c.2.2 e];rfl
theorem Kn(e:5000<=n){a:bZ}(h:fR a d=true)(i: ∀x,cR x=true->jv n x c v b=some (f x)):u5 n a c v b=some (pW f a):=by have:=mP h;unfold u5;rw[FV e this.2.1 this.2.2 i];rfl
theorem L7{d a v:Int}{b:ay}{f:ay->ay}(l: ∀n,5000<=n-> ∀x,cR x=true->jv n x a v b=some (f x)): ∀(L n:Nat) (e:Expr),5000+L<=n->dC L e d=true->qY (n+1) e a v b=some (qa f L e)
 |0,_,_,_,h=>by cases h
 |L+1,n,e,F,h=>by
  obtain⟨G,m,q⟩:=g' h;obtain⟨n,rfl⟩: ∃j,n=j+1:=⟨n-1,O⟩
  have r:e.bm.length<=2:=by have:=pj e.kind;omega
  unfold qY;refine ab.eq (ab.aA (λz=>(⟨z.1,z.2⟩:ay)=(if e.kind=2 then f e.index else⟨[],0⟩)) (λj c=>?_) λz o=>ab.aA (λy=>(⟨y.1,y.2⟩:bZ)=(if e.kind=3 then pW f e.read else⟨[],[]⟩)) (λj c=>?_) λy p=>?_)
  ·exact aQ (λi=>ag (l _ O _ (pU m i).1) (c _ (by rw[a1 i]))) λi=>c _ (by rw[a6 i])
  ·exact aQ (λk=>ag (Kn O (rv m k).1 (l _ O)) (c _ (by rw[a1 k]))) λk=>c _ (by rw[a6 k])
  obtain⟨s,w⟩:=z;obtain⟨A,B⟩:=y;dsimp only at o p⊢;refine ow (K:=λC=>some (⟨e.kind,e.num,(⟨s,w⟩:ay),(⟨A,B⟩:bZ),C⟩:Expr)) (λx D=>L7 l L n x O (q x D)) O O (ab.some ?_);rw[o,p];rfl
theorem Xh(w:6000<=n){l:List Stmt}(e:l.length<=4)(c: ∀s∈l,er s d=true)(h: ∀n,5000<=n-> ∀x,cR x=true->jv n x a v b=some (f x)):z' n l a v b=some (l.map (iq f)):=by
 obtain⟨n,rfl⟩: ∃j,n=j+1:=⟨n-1,O⟩
 unfold z';refine ab.eq ?_;refine H1 (β:=Stmt) (l:=l) (n:=n+1) (F:=λi k=>Option.bind (u5 (n+1) i.write a v b) λm=>Option.bind (qY (n+1) i.value a v b) λo=>k (⟨m,o⟩:Stmt)) (g:=iq f) (s:=0) (pre:=[]) (K:=λp=>some p) (λx q k r=>?_) O aW O O (ab.some aW);obtain⟨e,c,_⟩:=kA (c x q);exact ag (Kn O e (h _ O)) (ag (L7 h 5 n x.value O c) r)
theorem DO(c:6000<=n){s:Nat}(r:s+1<=x.nest.length)(w:x.nest.length<=4)(e: ∀l∈x.nest,kl l)(h:x.body.length<=4)(i: ∀s∈x.body,er s d=true){way:Int}(a: ∀n,5000<=n-> ∀x,cR x=true->jv n x way v b=some (f x)):
  sK n x (s:Int) way v b=some ⟨x.nest.take (s+1)++(x.nest.drop (s+1)).map (d8 f),x.body.map (iq f)⟩:=by unfold sK;rw[be O];refine ab.eq (ag (hG O O O) ?_);rw[show((s:Int)+1).toNat=s+1 by omega,show(0:Int).toNat=0 from rfl,oC];refine ag (x:=x.nest.take (s+1)) (cY bQ) (ag (Xh c h i a) ?_);exact H1 (F:=λm k=>Option.bind (vV n m way v b) k) (g:=d8 f) (s:=s+1) (pre:=x.nest.take (s+1)) (K:=λo=>some (⟨o,x.body.map (iq f)⟩:Part)) (λl p k q=>ag (Xf O (e l p) (a _ O)) q) O bQ O O (ab.some rfl)
theorem LX(n:Nat){a:ay}(h:dp 1000 a):xQ n a=some a:=by unfold xQ;rw[nc _ h];rfl
theorem Ej(a:5000<=n){l:List ay}(h:eP 1000 l):uj n l=some l:=by unfold uj;exact ab.eq (qR (K:=λc=>some c) (λx d=>LX n (h.2 x d)) h.1 a (ab.some rfl))
theorem LY(c:5000<=n){a:bZ}(h:eP 1000 a.bC):xR n a=some a:=by unfold xR;rw[Ej c h];rfl
theorem KV: ∀(L n:Nat) (e:Expr),5000+L<=n->hT 1000 L e->py (n+1) e=some e
 |0,_,_,_,h=>h.elim
 |L+1,n,e,m,h=>by
  obtain⟨a,c,d,i⟩:=h;obtain⟨n,rfl⟩: ∃j,n=j+1:=⟨n-1,O⟩
  unfold py Io;rw[LX _ c,LY O d];refine ab.eq (ag rfl (ag rfl (ag (x:=e.bm) ?_ (ab.some (by cases e;rfl)))));exact ab.eq (qR (f:=py (n+1)) (K:=λk=>some k) (λx l=>KV L n x O (i x l)) a O (ab.some rfl))
theorem VU(a:6000<=n){s:Stmt}(h:iw 1000 s):CP n s=some s:=by
 obtain⟨n,rfl⟩: ∃j,n=j+1:=⟨n-1,O⟩
 unfold CP;rw[LY O h.1,KV 5 n s.value O h.2];rfl
theorem VV(e:6000<=n)(h:fx 1000 x):CQ n x=some x:=by
 obtain⟨⟨i,d⟩,k,m⟩:=h;have o:B1 n x.nest=some x.nest:=by
  unfold B1;refine ab.eq (qR (K:=λc=>some c) (λl a=>?_) i O (ab.some rfl));unfold Jd;rw[Ej O (d l a).1,Ej O (d l a).2];rfl
 have p:B7 n x.body=some x.body:=by
  unfold B7;exact ab.eq (qR (K:=λc=>some c) (λl a=>VU e (m l a)) k O (ab.some rfl))
 unfold CQ;rw[o,p];rfl
theorem kB(d:6000<=n)(h:c9 1000 p):jQ n p=some p:=by
 obtain⟨⟨e,i⟩,k,m⟩:=h;have o:B5 n p.aR=some p.aR:=by
  unfold B5;refine ab.eq (qR (K:=λa=>some a) (λl c=>?_) e O (ab.some rfl));unfold I1;rw[nc _ (i l c)];rfl
 have q:B8 n p.parts=some p.parts:=by
  unfold B8;exact ab.eq (qR (K:=λa=>some a) (λl c=>VV d (m l c)) k O (ab.some rfl))
 unfold jQ;rw[o,q];rfl
theorem vB{k:Type}{f:k->k->Option Bool}{l:List k}(o: ∀x∈l,f x x=some true)(y:l.length<n)(z:l.length<=1000000):
  (bif !decide ((l.length:Int)=(l.length:Int)) then(some false) else(bo (λa (c:Int)=>bif decide (c<(l.length:Int)) then(Option.bind (au l c) λp=>Option.bind (au l c) λq=>Option.bind (f p q) λr=>bif !r then(some false) else(a (wr (c+1)))) else(some true)) n 0))=some true:=by
 refine ab.eq (eS (λh=>(h rfl).elim) λ_=>?_);refine ab.loop (λx:Int=> ∃i:Nat,x=i/\i<=l.length) (λx=>l.length-x.toNat) ?_ n 0 ⟨0,rfl,O⟩ O;rintro d x ⟨i,rfl,A⟩ s;refine aQ (λw=>?_) λ_=>ab.some rfl;obtain⟨e,m⟩: ∃e,l[i]? =some e:=⟨_,bs (O:i<l.length)⟩
 refine ag (bk m) (ag (bk m) (ag (o e (bE m)) (b5 ?_)));rw[be O];exact s _ ⟨i+1,O,O⟩ O
theorem Ll{a:List Int}(m:a.length<n)(o:a.length<=1000000):sB n a a=some true:=by
 unfold sB;refine ab.eq (eS (λh=>(h rfl).elim) λ_=>?_);refine ab.loop (λx:Int=> ∃i:Nat,x=i/\i<=a.length) (λx=>a.length-x.toNat) ?_ n 0 ⟨0,rfl,O⟩ O;rintro c x ⟨i,rfl,p⟩ k;refine aQ (λl=>?_) λ_=>ab.some rfl;obtain⟨e,d⟩: ∃e,a[i]? =some e:=⟨_,bs (O:i<a.length)⟩
 refine ag (bk d) (ag (bk d) (eS (λh=>(h rfl).elim) λ_=>?_));rw[be O];exact k _ ⟨i+1,O,O⟩ O
theorem Nx(e:5000<=n){a:ay}(h:dp 1000 a):jT n a a=some true:=by unfold dp at h;unfold jT;refine ab.eq (ab.aA (λz=>z=true) (λj c=>ag (Ll O O) (bR (c _ (bA rfl)))) λz d=>ab.some d)
theorem FA(a:5000<=n){l:List ay}(h:eP 1000 l):qd n l l (λc d=>jT n c d)=some true:=by have:=h.1;unfold qd;exact vB (λx e=>Nx a (h.2 x e)) O O
theorem Ny(c:5000<=n){a:bZ}(h:eP 1000 a.bC):xZ n a a=some true:=by unfold xZ;refine ab.eq (ab.aA (λz=>z=true) (λj d=>?_) λz e=>ab.some e);exact aQ (λ_=>ag (FA c h) (d _ rfl)) λh=>(h rfl).elim
theorem Mz: ∀(L n:Nat) (e:Expr),5000+L<=n->hT 1000 L e->qw (n+1) e e=some true
 |0,_,_,_,h=>h.elim
 |L+1,n,e,m,h=>by
  obtain⟨o,a,c,d⟩:=h;obtain⟨n,rfl⟩: ∃j,n=j+1:=⟨n-1,O⟩
  unfold qw;refine ab.eq (ab.aA (λz=>z=true) (λj i=>?_) λz k=>ab.some k);refine aQ (λ_=>aQ (λ_=>ag (Nx O a) (bR (ag (Ny O c) (bR (ag (x:=true) ?_ (i _ rfl)))))) λh=>(h rfl).elim) λh=>(h rfl).elim;unfold It;exact vB (λx l=>Mz L n x O (d x l)) O O
theorem XF(d:6000<=n){s:Stmt}(h:iw 1000 s):yx n s s=some true:=by
 obtain⟨n,rfl⟩: ∃j,n=j+1:=⟨n-1,O⟩
 unfold yx;refine ab.eq (ab.aA (λz=>z=true) (λj a=>?_) λz c=>ab.some c);exact ag (Ny O h.1) (bR (ag (Mz 5 n s.value O h.2) (a _ rfl)))
theorem Xz(a:5000<=n)(h:kf 1000 o):sH n o o=some true:=by
 have:=h.1;unfold sH Ca;rw[vB (λl c=>?_) O O]
 ·rfl
 unfold uT;refine ab.eq (ab.aA (λz=>z=true) (λj d=>?_) λz e=>ab.some e);exact ag (FA a (h.2 l c).1) (bR (ag (FA a (h.2 l c).2) (d _ rfl)))
theorem XV(a:6000<=n)(h:fx 1000 x):xL n x x=some true:=by have:=h.2.1;unfold xL;refine ab.eq (ab.aA (λz=>z=true) (λj c=>?_) λz d=>ab.some d);refine ag (Xz O h.1) (bR (ag (x:=true) ?_ (c _ rfl)));unfold Ir;exact vB (λs e=>XF a (h.2.2 s e)) O O
theorem Ar(e:6000<=n)(h:c9 1000 p):sv n p p=some true:=by
 obtain⟨⟨l,i⟩,m,k⟩:=h;unfold sv;refine ab.eq (ab.aA (λz=>z=true) (λj a=>?_) λz c=>ab.some c);refine ag (x:=true) ?_ (bR (ag (x:=true) ?_ (a _ rfl)))
 ·unfold Ik;refine vB (λx d=>?_) O O;unfold xM;refine ab.eq (ab.aA (λz=>z=true) (λj a=>?_) λz c=>ab.some c)
  have:=i x d;exact aQ (λ_=>ag (Ll O O) (a _ rfl)) λh=>(h rfl).elim
 unfold Is;exact vB (λx d=>XV e (k x d)) O O
def cT(p:Prog)(c a:Int):Bool:=b2 p&&match au p.parts c with
 |some x=>decide (0<=a/\a<(x.nest.length:Int))
 |none=>false
theorem wV{k:Type}{l:List k}{i:Int}(h: ¬(0<=i/\i<(l.length:Int))):au l i=none:=by
 cases a:au l i with
 |none=>rfl
 |some x=>
  obtain⟨c,d⟩:=mw a
  have:=(bS.1 d).1;exact bB ⟨c,O⟩ h
theorem aaX{l:List R}{i:Int}{x:R}(h:au l i=some x): ∃k:Nat,i=k/\k<l.length/\l[k]? =some x:=by obtain⟨c,a⟩:=mw h;exact⟨i.toNat,O,(bS.1 a).1,a⟩
theorem qD(n:Nat)(h:p.parts.length<=1000)(a:Int):kS n p a=some (decide (0<=a/\a<(p.parts.length:Int))):=by unfold kS;rw[d5,be O];exact congrArg some (decide_eq_decide.2 O)
theorem wj(r:7000<=n)(l:c9 1000 p)(a c:Int)(s:c≠ -1):jZ n p a c=some (if cT p a c=true then(p,true) else(⟨[],[]⟩,false)):=by
 unfold jZ;refine ab.eq (ab.aA (λz=>z= !cT p a c) (λj k=>?_) λz m=>?_)
 ·refine ag (r0 r l.sm) (ab.cond (λh=>?_) λh=>?_)
  ·refine k _ ?_;unfold cT;rw[show b2 p=false by simpa using h];rfl
  have o:b2 p=true:=by simpa using h
  refine ag (qD n l.2.1 a) ?_;by_cases e:0<=a/\a<(p.parts.length:Int)
  ·obtain⟨x,i,q⟩:=gq e.1 e.2;rw[bA e];refine b5 (eS (λ_=>ag (x:=cT p a c) ?_ (k _ rfl)) λh=>bB h s);unfold Iu;refine ab.eq (ab.aA (λz=>z=cT p a c) (λj k=>?_) λz m=>ab.some m);rw[qD n l.2.1 a,bA e];refine ag rfl (bR (ag i ?_))
   have:=(l.2.2 x (bE q)).1.1;rw[be O,d5];refine ag rfl (k _ ?_);unfold cT;rw[o,i];exact decide_eq_decide.2 O
  rw[bu e];refine bR (k _ ?_);unfold cT;rw[wV e,jl];rfl
 subst m;by_cases d:cT p a c=true
 ·rw[d];have o:b2 p=true:=by unfold cT at d;rw[oF] at d;exact d.1
  obtain⟨x,i⟩: ∃x,au p.parts a=some x:=by
   cases i:au p.parts a with
   |some x=>exact⟨x,rfl⟩
   |none=>unfold cT at d;rw[i,jl] at d;cases d
  exact b5 (ag (qN O o) (ag i (ab.some rfl)))
 rw[show cT p a c=false by simpa using d];exact bR (ab.some rfl)
def hE(q:Prog):Prog×Bool:=if b2 q=true then(q,true) else(⟨[],[]⟩,false)
theorem qE(c:7000<=n)(d:c9 1000 p):lB n p=some (hE p):=by
 unfold lB hE;refine ab.eq (ag (r0 c d.sm) (ab.cond (λh=>ab.some ?_) λh=>?_))
 ·rw[a6 (by simpa using h)]
 have a:b2 p=true:=by simpa using h
 rw[a1 a];exact ag (qN O a) (ab.some rfl)
theorem mB(l:7000<=n)(m:c9 1000 p)(a c:Int):nr n p a c=some (cT p a c):=by
 unfold nr;refine ab.eq (ab.aA (λz=>z=cT p a c) (λj d=>?_) λz o=>ab.some o);refine ag (jR l m.sm) (ab.cond (λe=>?_) λe=>d _ (by unfold cT;rw[e];rfl));refine aQ (λi=>aQ (λk=>?_) λk=>?_) λi=>?_
 ·obtain⟨x,h,q⟩:=gq i k;refine aQ (λr=>ag h (d _ ?_)) λr=>d _ ?_
  ·unfold cT;rw[e,h];exact decide_eq_decide.2 O
  unfold cT;rw[e,h];exact(bu O).symm
 ·exact d _ (by unfold cT;rw[wV O,jl])
 exact d _ (by unfold cT;rw[wV O,jl])
theorem wo(e:7000<=n)(a:c9 1000 p)(k:i<p.parts.length)(l:fx 1000 y):ju n p (i:Int) 1 [y]=some (hE ⟨p.aR,p.parts.set i y⟩):=by
 have c:=a.2.1;have d:c9 1000 ⟨p.aR,p.parts.set i y⟩:=⟨a.1,by dsimp only;rw[eV];exact c,ps a.2.2 l⟩
 unfold ju hE;refine ab.eq (ag (nb O a) (ag (hG O O O) ?_));rw[c3,show(0:Int).toNat=0 from rfl,oC];refine ag (x:=p.parts.take i) (cY bQ) (ag (x:=p.parts.take i++[y]) (cY bQ) ?_);rw[be O];refine ag (hG O O O) ?_;rw[c3,c6,show((i:Int)+1).toNat=i+1 by omega];refine ag (x:=p.parts.set i y) ?_ (ag (jR e d.sm) (ab.cond (λh=>ab.some ?_) λh=>?_))
 ·rw[cY bQ,List.set_eq_take_append_cons_drop,a1 k,ih];rfl
 ·rw[a6 (by simpa using h)]
 rw[a1 (by simpa using h)];exact ag (nb O d) (ab.some rfl)
def eX(a:ay)(k:Int)(b:ay):ay:=⟨List.zipWith (λx y=>x+k*y) a.aT b.aT,a.const+k*b.const⟩
def gR(k:Nat):ay:=⟨[0,0,0,0].set k 1,0⟩
def hb(k:Nat)(b x:ay):ay:=eX x (-(x.aT.getD k 0)) b
def fg(m:Int)(a:ay):Prop:=a.aT.length=4/\cJ m a.const/\ ∀c∈a.aT,cJ m c
theorem fg.mono{m b:Int}{a:ay}(h:fg m a)(e:m<=b):fg b a:=⟨h.1,⟨by have:=h.2.1.1;omega,by have:=h.2.1.2;omega⟩,λc d=>⟨by have:=(h.2.2 c d).1;omega,by have:=(h.2.2 c d).2;omega⟩⟩
theorem ma{l:List Int}(h:l.length=4): ∃a b c d,l=[a,b,c,d]:=by
 match l,h with
 | [a,b,c,d],_=>exact⟨a,b,c,d,rfl⟩
theorem nx{a:ay}(h:cR a=true):fg 99 a:=by obtain⟨i,k,d⟩:=fM h;exact⟨i,k,λc e=>⟨by have:=(d c e).1;omega,by have:=(d c e).2;omega⟩⟩
theorem th(a:k<4):fg 6 (gR k):=by rcases(O:k=0\/k=1\/k=2\/k=3) with rfl|rfl|rfl|rfl<;>(unfold fg cJ gR;simp)
theorem ki{k b:Int}(a:cJ 1000 k)(c:cJ 1000 b):cJ 1000000 (k*b):=Be O O a c
theorem yJ{x:Int}(c:cJ 1000 a)(d:cJ 1000000 x):wr (a+wr x)=a+x:=by unfold cJ at c d;rw[be (n:=x) O,be O]
theorem aa2(m:Nat)(a c d e ac k h i l n o:Int):rM (m+6) ⟨[a,c,d,e],ac⟩ k ⟨[h,i,l,n],o⟩=
  some ⟨[wr (a+wr (k*h)),wr (c+wr (k*i)),wr (d+wr (k*l)),wr (e+wr (k*n))],wr (ac+wr (k*o))⟩:=J
theorem zZ(y:5000<=n){a:ay}(p:fg 1000 a)(q:fg 1000 b){k:Int}(c:cJ 1000 k):rM n a k b=some (eX a k b):=by
 obtain⟨m,rfl⟩: ∃m,n=m+6:=⟨n-6,O⟩
 obtain⟨ac,a⟩:=a;obtain⟨z,b⟩:=b;obtain⟨h,i,d⟩:=p;obtain⟨l,o,e⟩:=q;dsimp only at h i d l o e;obtain⟨a0,aK,a2,a3,rfl⟩:=ma h;obtain⟨r,s,w,x,rfl⟩:=ma l;rw[aa2,yJ (d a0 aW) (ki c (e r aW)),yJ (d aK aW) (ki c (e s aW)),yJ (d a2 aW) (ki c (e w aW)),yJ (d a3 aW) (ki c (e x aW)),yJ i (ki c o)];rfl
def nT(a:ay)(x:Int)(b:ay)(y:Int):ay:=⟨List.zipWith (λp q=>x*p+y*q) a.aT b.aT,x*a.const+y*b.const⟩
theorem aaO(m:Nat)(a c d e ac x h i k l n y:Int):hY (m+6) ⟨[a,c,d,e],ac⟩ x ⟨[h,i,k,l],n⟩ y=
  some ⟨[wr (wr (x*a)+wr (y*h)),wr (wr (x*c)+wr (y*i)),wr (wr (x*d)+wr (y*k)),wr (wr (x*e)+wr (y*l))],wr (wr (x*ac)+wr (y*n))⟩:=J
theorem yK{x:Int}(c:cJ 1000000 a)(d:cJ 1000000 x):wr (wr a+wr x)=a+x:=by unfold cJ at c d;rw[be (n:=x) O,be (n:=a) O,be O]
theorem sX(A:5000<=n){a:ay}(p:fg 1000 a)(q:fg 1000 b){x y:Int}(c:cJ 1000 x)(d:cJ 1000 y):hY n a x b y=some (nT a x b y):=by
 obtain⟨m,rfl⟩: ∃m,n=m+6:=⟨n-6,O⟩
 obtain⟨ac,a⟩:=a;obtain⟨B,b⟩:=b;obtain⟨i,k,e⟩:=p;obtain⟨l,o,h⟩:=q;dsimp only at i k e l o h;obtain⟨a0,aK,a2,a3,rfl⟩:=ma i;obtain⟨r,s,w,z,rfl⟩:=ma l;rw[aaO,yK (ki c (e a0 aW)) (ki d (h r aW)),yK (ki c (e aK aW)) (ki d (h s aW)),yK (ki c (e a2 aW)) (ki d (h w aW)),yK (ki c (e a3 aW)) (ki d (h z aW)),yK (ki c k) (ki d o)];rfl
theorem FQ(a b:ay)(k:Int):nT a 1 b k=eX a k b:=by unfold nT eX;simp only[Int.one_mul]
theorem Oi(a b:ay)(k:Int)(c:a.aT.length=4)(d:b.aT.length=4):(eX a k b).aT.length=4:=by unfold eX;rw[vt];omega
def tX(a:ay)(k:Nat)(b:ay):ay:=eX ⟨a.aT.set k 0,a.const⟩ (a.aT.getD k 0) b
theorem Nl{a:ay}(h:fg 1000 a)(k:Nat):fg 1000 ⟨a.aT.set k 0,a.const⟩:=⟨by dsimp only;rw[eV];exact h.1,h.2.1,ps h.2.2 ⟨O,O⟩⟩
theorem Nq{a:ay}(h:fg 1000 a)(d:k<4):a.aT[k]? =some (a.aT.getD k 0)/\cJ 1000 (a.aT.getD k 0):=by
 have c:k<a.aT.length:=by rw[h.1];exact d
 have e:=bs c;have i:a.aT.getD k 0=a.aT[k]:=by rw[ew,e];rfl
 rw[i];exact⟨e,h.2.2 _ (fz c)⟩
theorem En(e:5000<=n){a:ay}(c:fg 1000 a)(h:fg 1000 b)(d:k<4):ts n a (k:Int) b=some (tX a k b):=by
 obtain⟨i,l⟩:=Nq c d;have m:k<a.aT.length:=by rw[c.1];exact d
 unfold ts;rw[LV n (by have:=c.1;omega)];refine ab.eq (ag rfl (ag (bk i) (ag (dJ O _) (ag (zZ e (Nl c k) h l) (ab.some rfl)))))
theorem KA(h:5000<=n){a:ay}(c:fg 1000 a)(i:fg 1000 b)(d:k<4):zf n a (k:Int) b=some (tX a k b):=by
 obtain⟨e,l⟩:=Nq c d;have m:k<a.aT.length:=by rw[c.1];exact d
 unfold zf;rw[nc _ (by have:=c.1;omega)];refine ab.eq (ag rfl (ag (bk e) (ag (dJ O _) (ag (bk e) (ag (sX h (Nl c k) i ⟨O,O⟩ l) (ab.some ?_))))));rw[FQ];rfl
theorem zY(n:Nat)(a:k<4):nh n (k:Int) 1=some (gR k):=by rcases(O:k=0\/k=1\/k=2\/k=3) with rfl|rfl|rfl|rfl<;>rfl
theorem zN(n:Nat)(a:k<4):lM n (k:Int)=some (gR k):=by rcases(O:k=0\/k=1\/k=2\/k=3) with rfl|rfl|rfl|rfl<;>rfl
def nv(k:Nat)(b:ay):ay:=eX (gR k) (-1) b
theorem F5{a:ay}(d:a.aT.length=4)(e:b.aT.length=4)(h:k<4)(c:b.aT.getD k 0=0):tX a k (nv k b)=hb k b a:=by
 obtain⟨a,ac⟩:=a;obtain⟨b,i⟩:=b;dsimp only at d e c;obtain⟨a0,aK,a2,a3,rfl⟩:=ma d;obtain⟨l,m,n,o,rfl⟩:=ma e;rcases(O:k=0\/k=1\/k=2\/k=3) with rfl|rfl|rfl|rfl<;>
  (simp only[List.getD_cons_zero,List.getD_cons_succ] at c;subst c;simp[tX,nv,hb,eX,gR,Int.mul_neg,Int.neg_mul])
def ea:Prog×Bool:=(⟨[],[]⟩,false)
def uX(p:Prog)(a c:Int)(g f:ay->ay):Prog×Bool:=
 match au p.parts a with
 |some P=>match au P.nest c with
  |some l=>hE ⟨p.aR,p.parts.set a.toNat (p2 c.toNat g f P l)⟩
  |none=>ea
 |none=>ea
theorem j4{b:Int}(h:cT p a b=true):b2 p=true/\ ∃(i k:Nat) (P:Part) (l:Loop),a=i/\b=k/\p.parts[i]? =some P/\P.nest[k]? =some l/\i<p.parts.length/\k<P.nest.length/\ep p.aR P=true/\k<4:=by
 unfold cT at h;rw[oF] at h;obtain⟨m,h⟩:=h;refine⟨m,?_⟩;cases d:au p.parts a with
 |none=>rw[d] at h;cases h
 |some P=>
  rw[d] at h;obtain⟨i,rfl,o,n⟩:=aaX d;obtain⟨q,r⟩:=e6 h;obtain⟨l,s,e⟩:=gq q r;have c:=(eA m).2.2.2.1 P (bE n)
  have:=(hZ c).1;exact⟨i,b.toNat,P,l,rfl,O,n,e,o,O,c,O⟩
theorem AG(c:ep r P=true)(e:P.nest[k]? =some l){g:ay->ay}(m: ∀x,cR x=true->dp 4 (g x))(h: ∀x,cR x=true->dp 4 (f x)):fx 4 (p2 k g f P l):=by
 obtain⟨q,i⟩:=hZ c;obtain⟨_,n,o,_⟩:=gk c;have w:=(bS.1 e).1;refine⟨⟨by simp only[p2,List.length_append,List.length_cons,List.length_map,List.length_take,List.length_drop];omega,λy a=>?_⟩,by simp only[p2,List.length_map];exact n.2,λs p=>?_⟩
 ·rcases dZ.1 a with a|a
  ·exact((tG c).1.2 y (ga a))
  rcases dP.1 a with rfl|a
  ·exact wC m (i l (bE e))
  obtain⟨z,d,rfl⟩:=eM.1 a;exact wC h (i z (e7 d))
 obtain⟨z,d,rfl⟩:=eM.1 p;exact A7 h (o z d)
theorem wS(a:c9 1000 p)(i:Nat)(c:fx 4 y):c9 1000 ⟨p.aR,p.parts.set i y⟩:=⟨a.1,by dsimp only;rw[eV];exact a.2.1,ps a.2.2 (c.mono O)⟩
theorem wD{k:Int}(a:b.aT.length=4): ∀x,cR x=true->dp 4 (eX x k b):=λx c=>by have:=Oi x b k (fM c).1 a;unfold dp;omega
theorem Bi(a:b.aT.length=4): ∀x,cR x=true->dp 4 (hb k b x):=λx c=>wD a x c
theorem F7(s:k<4)(h:fg 6 b):fg 1000 (nv k b):=by
 obtain⟨b,w⟩:=b;obtain⟨d,e,a⟩:=h;dsimp only at d e a;obtain⟨i,l,m,n,rfl⟩:=ma d;have o:=a i aW;have p:=a l aW;have q:=a m aW;have r:=a n aW;unfold cJ at e o p q r;rcases(O:k=0\/k=1\/k=2\/k=3) with rfl|rfl|rfl|rfl<;>
  (refine⟨rfl,?_,λc x=>?_⟩<;>unfold cJ<;>simp[nv,gR,eX] at* <;>omega)
theorem Zx(a:k<4)(c:fg 6 b)(e:b.aT.getD k 0=0): ∀n,5000<=n-> ∀x,cR x=true->jv n x 1 (k:Int) (nv k b)=some (hb k b x):=λn h x d=>by unfold jv;rw[KA h ((nx d).mono O) (F7 a c) a,F5 (nx d).1 c.1 a e];rfl
theorem take_set{l r:List R}{x y:R}(h:l[k]? =some x):(l.take (k+1)++r).set k y=l.take k++y::r:=by have a:=(bS.1 h).1;rw[ek,h,ih,mH _ _ bQ,cL,vx O,kd];rfl
theorem NA(C:6000<=n)(z:ep r P=true)(m:P.nest[k]? =some l)(o:k<4)(p:fg 6 b)(D:b.aT.getD k 0=0):
  vT n P (k:Int) b=some (p2 k (λx=>eX x 1 b) (hb k b) P l):=by
 obtain⟨F,A⟩:=hZ z;obtain⟨_,G,H,_⟩:=gk z;have I:=(bS.1 m).1;have c:=A l (bE m);have B: ∀x,cR x=true->hY n x 1 b 1=some (eX x 1 b):=λx e=>by
  rw[sX O ((nx e).mono O) (p.mono O) ⟨O,O⟩ ⟨O,O⟩,FQ]
 unfold vT;simp only[bk m,Option.bind_some];refine ab.eq (ag (zN n o) (ag (sX O ((th o).mono O) (p.mono O) ⟨O,O⟩ ⟨O,O⟩) ?_));rw[FQ];refine ag (DO C O F A G.2 H (Zx o p D)) ?_;refine ow (n:=n) (l:=l.bf) (f:=λx=>hY n x 1 b 1) (K:=λL=>bo (λa ((d,h):(List ay)×Int)=>
    bif decide (h<(l.aI.length:Int)) then(
     Option.bind (au l.aI h) λq=>
     Option.bind (hY n q 1 b 1) λs=>
     Option.bind (app d [s]) λw=>
     a (w,wr (h+1))
    ) else(
     Option.bind (au (P.nest.take (k+1)++(P.nest.drop (k+1)).map (d8 (hb k b))) (k:Int)) λy=>
     Option.bind (b' (P.nest.take (k+1)++(P.nest.drop (k+1)).map (d8 (hb k b))) (k:Int) (⟨L,d⟩:Loop)) λi=>
     some (⟨i,P.body.map (iq (hb k b))⟩:Part)
    )
   ) n ([],0)) (λx e=>B x (c.1.2 x e)) (by have:=c.1.1;omega) O ?_
 refine ow (n:=n) (l:=l.aI) (f:=λx=>hY n x 1 b 1) (g:=λx=>eX x 1 b) (K:=λd=>Option.bind (au (P.nest.take (k+1)++(P.nest.drop (k+1)).map (d8 (hb k b))) (k:Int)) λy=>Option.bind (b' (P.nest.take (k+1)++(P.nest.drop (k+1)).map (d8 (hb k b))) (k:Int) (⟨l.bf.map λx=>eX x 1 b,d⟩:Loop)) λi=>some (⟨i,P.body.map (iq (hb k b))⟩:Part)) (λx e=>B x (c.2.2 x e)) (by have:=c.2.1;omega) O ?_;have e:(P.nest.take (k+1)++(P.nest.drop (k+1)).map (d8 (hb k b)))[k]? =some l:=by
  rw[gL bQ,fA,a1 O];exact m
 refine ag (bk e) (ag (dJ bQ _) (ab.some ?_));rw[c3,take_set m];rfl
def jG(s:Int):ay:=⟨[0,0,0,0],s⟩
theorem Bb(h: -6<=s/\s<=6):fg 6 (jG s):=by unfold jG fg cJ;simp;omega
theorem OR(s:Int)(a:k<4):(jG s).aT.getD k 0=0:=by rcases(O:k=0\/k=1\/k=2\/k=3) with rfl|rfl|rfl|rfl<;>rfl
def ve(p:Prog)(d a c:Int):Prog×Bool:=
 if cT p d a=true/\(-6<=c/\c<=6) then uX p d a (λx=>eX x 1 (jG c)) (hb a.toNat (jG c)) else ea
theorem L9(n:Nat)(s:Int):wh n s=some (decide (-6<=s/\s<=6)):=by unfold wh;rw[d5];rfl
theorem qP{b:Int}(h:a<0):cT p b a=false:=by
 cases c:cT p b a with
 |false=>rfl
 |true=>obtain⟨_,i,k,P,l,_,d,_⟩:=j4 c;omega
theorem zs(a:p.parts[i]? =some P)(c:P.nest[k]? =some l)(g f:ay->ay):uX p (i:Int) (k:Int) g f=hE ⟨p.aR,p.parts.set i (p2 k g f P l)⟩:=by unfold uX;rw[bk a];dsimp only;rw[bk c];rfl
theorem afq(r:7000<=n)(o:c9 1000 p)(a c d:Int):Dd n p a c d=some (ve p a c d):=by
 unfold Dd ve;refine ab.eq (ag (kB O o) (ab.aA (λz=>z= !(cT p a c&&decide (-6<=d/\d<=6))) (λj s=>?_) λz y=>?_))
 ·refine ag (mB r o a c) (ab.cond (λh=>s _ ?_) λh=>ag (yb n d 6 O) (s _ ?_))
  ·rw[show cT p a c=false by simpa using h];rfl
  rw[show cT p a c=true by simpa using h];rfl
 subst y;by_cases e:cT p a c=true/\(-6<=d/\d<=6)
 ·rw[a1 e,e.1,bA e.2];refine b5 ?_;obtain⟨F,i,k,P,l,rfl,rfl,w,q,A,B,m,x⟩:=j4 e.1;refine ag (bk w) (ag (gZ n d) (ag (NA O m q x (Bb e.2) (OR _ x)) (ag (wo r o A ((AG m q (wD (Bb e.2).1) (Bi (Bb e.2).1)).mono O)) (ab.some ?_))));rw[zs w q];rfl
 rw[a6 e,show(cT p a c&&decide (-6<=d/\d<=6))=false by
  cases C:cT p a c with
  |false=>rfl
  |true=>exact bu λD=>e ⟨C,D⟩]
 exact bR (ab.some rfl)
theorem Ww(c:5000<=n)(h: -6<=s/\s<=6): ∀x,cR x=true->xV n x s=some (eX x 1 (jG s)):=λx a=>by unfold xV;have d:pd n 1=some ⟨[0,0,0,0],1⟩:=rfl;rw[d];refine ab.eq (ag rfl (ag (zZ c ((nx a).mono O) (b:=⟨[0,0,0,0],1⟩) (by unfold fg cJ;simp) ⟨O,O⟩) (ab.some ?_)));unfold eX jG;obtain⟨a0,aK,a2,a3,e⟩:=ma (fM a).1;rw[e];simp
theorem Wv(d:5000<=n)(a:k<4)(h: -6<=s/\s<=6): ∀x,cR x=true->uP n x (k:Int) (⟨(gR k).aT,wr (0-s)⟩:ay)=some (hb k (jG s) x):=λx c=>by
 have e:(⟨(gR k).aT,wr (0-s)⟩:ay)=nv k (jG s):=by
  rw[be O];rcases(O:k=0\/k=1\/k=2\/k=3) with rfl|rfl|rfl|rfl<;>(unfold gR nv jG eX gR;simp)
 unfold uP;rw[e,En d ((nx c).mono O) (F7 a (Bb h)) a,F5 (nx c).1 rfl a (OR _ a)];rfl
theorem zF(i:7000<=n)(e:c9 1000 p)(a:Int):ab (jZ n p a (-1)) (λr=>r.2=false->r=ea):=by
 unfold jZ;refine ab.aA (λz=>z=false->b2 p=true/\(0<=a/\a<(p.parts.length:Int))) (λj c=>?_) λz k=>?_
 ·refine ag (r0 i e.sm) (ab.cond (λh=>c _ λh=>by cases h) λh=>?_);refine ag (qD n e.2.1 a) (ab.cond (λh=>c _ λh=>by cases h) λd=>eS (λh=>(h rfl).elim) λ_=>c _ λ_=>⟨by simpa using h,by simpa using d⟩)
 refine ab.cond (λ_=>ab.some λ_=>rfl) λh=>?_;obtain⟨l,m,d⟩:=k h;obtain⟨x,o,q⟩:=gq m d;exact ag (qN O l) (ag o (ab.some λh=>by cases h))
theorem ad8(w:7000<=n)(A:c9 1000 p)(c d a:Int):Dr n p c d a=some (ve p c d a):=by
 unfold Dr ve;by_cases e:d= -1
 ·subst e;rw[a6 λh=>by rw[qP O] at h;cases h.1];refine ab.eq (cc (zF w A c) λY L=>ab.cond (λ_=>ab.aA (λz=>z=true) (λj B=>aQ (λ_=>B _ rfl) λh=>bB (show(-1:Int)<0 by omega) h) λz C=>by rw[C];exact bR (ab.some rfl)) λ_=>ab.some rfl)
 refine ab.eq (ag (wj w A c d e) ?_);by_cases m:cT p c d=true
 ·rw[a1 m];refine bR (ab.aA (λz=>z= !decide (-6<=a/\a<=6)) (λj B=>?_) λz C=>?_)
  ·refine aQ (λh=>?_) λ_=>ag (L9 n a) (B _ rfl);rw[qP h] at m;cases m
  subst C;by_cases q: -6<=a/\a<=6
  ·rw[a1 ⟨m,q⟩,bA q];refine b5 ?_;obtain⟨b,i,k,P,l,rfl,rfl,G,r,f,Q,o,H⟩:=j4 m;obtain⟨L,I⟩:=hZ o;obtain⟨_,R,U,_⟩:=gk o;refine ag (bk G) (ag (bk r) (ag (I5 O (I l (bE r)) (Ww O q)) (ag (dJ O _) (ag (dJ Z _) (ag (zY n H) ?_)))));rw[be (n:=(k:Int)+1) O];have D:=xU (n:=n) O (nest:=P.nest.set k (d8 (λx=>eX x 1 (jG a)) l)) (body:=P.body) (s:=k+1) bQ bQ (λy K=>by
    rw[pK O] at K;exact I y (e7 K)) R.2 U (F:=λW=>uP n W (k:Int) (⟨(gR k).aT,wr (0-a)⟩:ay)) (Wv O H q)
   rw[c3,c3];refine ag D (ag (dJ bQ _) ?_);rw[c3,List.set_set];have X:(⟨(P.nest.set k (d8 (λx=>eX x 1 (jG a)) l)).take (k+1)++((P.nest.set k (d8 (λx=>eX x 1 (jG a)) l)).drop (k+1)).map (d8 (hb k (jG a))),P.body.map (iq (hb k (jG a)))⟩:Part)=p2 k (λx=>eX x 1 (jG a)) (hb k (jG a)) P l:=by
    rw[pK O,ek,hr O,List.take_set_of_le (cO k),ih];rfl
   rw[X];refine ag (qE w (wS A i (AG o r (wD rfl) (Bi rfl)))) (ab.some ?_);rw[zs G r]
  rw[a6 λh=>q h.2,bu q];exact bR (ab.some rfl)
 rw[a6 m,a6 λh=>m h.1];exact b5 (ab.some rfl)
theorem afw{k:Type}{l:List k}{x:k}(h:l[i]? =some x):l.set i x=l:=by
 refine List.ext_getElem? λj=>?_;by_cases a:i=j
 ·subst a;rw[hr (bS.1 h).1,h]
 rw[jj a]
theorem ae4:c9 1000 ea.1:=⟨⟨by simp[ea],λx a=>by cases a⟩,by simp[ea],λx a=>by cases a⟩
def fv(k:Nat)(s:Int):ay:=⟨[0,0,0,0].set k s,0⟩
theorem rK(k:Nat)(h: -6<=s/\s<=6):fg 6 (fv k s):=by refine⟨by simp[fv],⟨by simp[fv],by simp[fv]⟩,ps (λc a=>?_) ⟨h.1,h.2⟩⟩;simp at a;subst a;exact⟨O,O⟩
theorem OV(s:Int)(a:k+1<4):(fv k s).aT.getD (k+1) 0=0:=by rcases(O:k=0\/k=1\/k=2) with rfl|rfl|rfl<;>rfl
def vf(p:Prog)(c a s:Int):Prog×Bool:=
 if cT p c a=true/\cT p c (a+1)=true/\(-6<=s/\s<=6) then uX p c (a+1) (λx=>eX x 1 (fv a.toNat s)) (hb (a.toNat+1) (fv a.toNat s)) else ea
theorem aaB(a:k<4)(s:Int):nT (gR k) s ⟨[0,0,0,0],0⟩ 0=fv k s:=by rcases(O:k=0\/k=1\/k=2\/k=3) with rfl|rfl|rfl|rfl<;>simp[nT,gR,fv]
theorem aaF(d:k<4)(s:Int){a:ay}(c:a.aT.length=4):eX a s (gR k)=eX a 1 (fv k s):=by obtain⟨a0,aK,a2,a3,e⟩:=ma c;rcases(O:k=0\/k=1\/k=2\/k=3) with rfl|rfl|rfl|rfl<;>simp[eX,gR,fv,e]
theorem aby(a:k+1<4)(s:Int):eX (gR (k+1)) (-s) (gR k)=nv (k+1) (fv k s):=by rcases(O:k=0\/k=1\/k=2) with rfl|rfl|rfl<;>simp[nv,eX,gR,fv]
theorem afr(r:7000<=n)(o:c9 1000 p)(a c s:Int):DH n p a c s=some (vf p a c s):=by
 unfold DH vf;refine ab.eq (ag (kB O o) (ab.aA (λz=>z= !(cT p a c&&(cT p a (c+1)&&decide (-6<=s/\s<=6)))) (λj w=>?_) λz D=>?_))
 ·refine ag (mB r o a c) (ab.cond (λh=>w _ ?_) λh=>?_)
  ·rw[show cT p a c=false by simpa using h];rfl
  have m:cT p a c=true:=by simpa using h
  obtain⟨F,i,k,P,l,rfl,rfl,y,q,C,A,e,B⟩:=j4 m;rw[be O];refine ag (mB r o _ _) (ab.cond (λh=>w _ ?_) λh=>ag (yb n s 6 O) (w _ ?_))
  ·rw[m,show cT p (i:Int) ((k:Int)+1)=false by simpa using h];rfl
  rw[m,show cT p (i:Int) ((k:Int)+1)=true by simpa using h];rfl
 subst D;by_cases d:cT p a c=true/\cT p a (c+1)=true/\(-6<=s/\s<=6)
 ·rw[a1 d,d.1,d.2.1,bA d.2.2];refine b5 ?_;obtain⟨F,i,eO,P,l,rfl,G,y,q,C,A,e,B⟩:=j4 d.2.1;obtain⟨_,L,k,Q,R,H,rfl,_⟩:=j4 d.1;obtain rfl:eO=k+1:=O
  refine ag (zN n O) (ag (x:=⟨[0,0,0,0],0⟩) rfl (ag (sX O ((th O).mono O) (by unfold fg cJ;simp) ⟨O,O⟩ ⟨O,O⟩) ?_));rw[aaB O,be O];refine ag (bk y) (ag (NA O e q B (rK k d.2.2) (OV s B)) (ag (wo r o C ((AG e q (wD (rK k d.2.2).1) (Bi (rK k d.2.2).1)).mono O)) (ab.some ?_)));show hE _=_;rw[show((k:Int)+1)=((k+1:Nat):Int) by omega,zs y q];rfl
 rw[a6 d,show(cT p a c&&(cT p a (c+1)&&decide (-6<=s/\s<=6)))=false by
  cases m:cT p a c with
  |false=>rfl
  |true=>cases I:cT p a (c+1) with
   |false=>rfl
   |true=>exact bu λK=>d ⟨m,I,K⟩]
 exact bR (ab.some rfl)
theorem XJ(d:5000<=n)(a:k<4)(e: -6<=s/\s<=6): ∀x,cR x=true->x6 n x s (k:Int)=some (eX x 1 (fv k s)):=λx c=>by unfold x6;rw[zY n a];refine ab.eq (ag rfl (ag (zZ d ((nx c).mono O) ((th a).mono O) ⟨O,O⟩) (ab.some (aaF a s (fM c).1))))
theorem XI(e:5000<=n)(a:k+1<4)(c: -6<=s/\s<=6): ∀x,cR x=true->uS n x (k:Int) (nv (k+1) (fv k s))=some (hb (k+1) (fv k s) x):=λx d=>by unfold uS;rw[be O,show((k:Int)+1)=((k+1:Nat):Int) by omega,En e ((nx d).mono O) (F7 a (rK k c)) a,F5 (nx d).1 (rK k c).1 a (OV s a)];rfl
theorem ad9(C:7000<=n)(D:c9 1000 p)(a c s:Int):y0 n p a c s=some (vf p a c s):=by
 unfold y0 vf;by_cases e:c= -1
 ·subst e;rw[a6 λh=>by rw[qP O] at h;cases h.1];refine ab.eq (cc (zF C D a) λg Q=>ab.cond (λ_=>ab.aA (λz=>z=true) (λj w=>aQ (λ_=>w _ rfl) λh=>bB (show(-1:Int)<0 by omega) h) λz G=>by rw[G];exact bR (ab.some rfl)) λ_=>ab.some rfl)
 refine ab.eq (ag (wj C D a c e) ?_);by_cases q:cT p a c=true
 ·rw[a1 q];obtain⟨R,i,k,P,t,rfl,rfl,A,U,u,W,o,H⟩:=j4 q;obtain⟨Q,K⟩:=hZ o;obtain⟨_,X,Y,_⟩:=gk o;have r:cT p (i:Int) ((k:Int)+1)=decide (k+1<P.nest.length):=by
   unfold cT;rw[R,bk A];exact decide_eq_decide.2 O
  refine bR (ab.aA (λz=>z= !(decide (k+1<P.nest.length)&&decide (-6<=s/\s<=6))) (λj w=>?_) λz G=>?_)
  ·refine aQ (λh=>bB h O) λ_=>ag (bk A) ?_;rw[be O];refine aQ (λh=>w _ ?_) λh=>ag (L9 n s) (w _ ?_)
   ·rw[bu (show¬k+1<P.nest.length by omega)];rfl
   rw[bA (O:k+1<P.nest.length)];rfl
  subst G;by_cases d:k+1<P.nest.length
  ·by_cases m: -6<=s/\s<=6
   ·rw[a1 ⟨q,by rw[r,bA d],m⟩,bA m,bA d];refine b5 ?_;obtain⟨l,B⟩: ∃l,P.nest[k+1]? =some l:=⟨_,bs d⟩
    rw[be (n:=(k:Int)+1) O,be (n:=(k:Int)+2) O,be (n:=0-s) O,show((k:Int)+1)=((k+1:Nat):Int) by omega,show((k:Int)+2)=((k+1+1:Nat):Int) by omega,show 0-s= -s by omega];refine ag (bk A) (ag (bk B) (ag (I5 O (K l (bE B)) (XJ O H m)) (ag (dJ O _) (ag (dJ Z _) (ag (zY n O) (ag (zY n H) (ag (zZ O ((th O).mono O) ((th H).mono O) ⟨O,O⟩) ?_)))))));rw[aby O];have I:=xU (n:=n) O (nest:=P.nest.set (k+1) (d8 (λx=>eX x 1 (fv k s)) l)) (body:=P.body) (s:=k+1+1) bQ bQ (λy L=>by
     rw[pK O] at L;exact K y (e7 L)) X.2 Y (F:=λb=>uS n b (k:Int) (nv (k+1) (fv k s))) (XI O O m)
    rw[c3,c3];refine ag I (ag (dJ bQ _) ?_);rw[c3,List.set_set];have f:(⟨(P.nest.set (k+1) (d8 (λx=>eX x 1 (fv k s)) l)).take (k+1+1)++((P.nest.set (k+1) (d8 (λx=>eX x 1 (fv k s)) l)).drop (k+1+1)).map (d8 (hb (k+1) (fv k s))),P.body.map (iq (hb (k+1) (fv k s)))⟩:Part)=p2 (k+1) (λx=>eX x 1 (fv k s)) (hb (k+1) (fv k s)) P l:=by
     rw[pK O,ek,hr O,List.take_set_of_le (cO _),ih];rfl
    rw[f];refine ag (qE C (wS D i (AG o B (wD (rK k m).1) (Bi (rK k m).1)))) (ab.some ?_);rw[zs A B];rfl
   rw[a6 λh=>m h.2.2,bu m,jl];exact bR (ab.some rfl)
  rw[a6 (λh=>by rw[r,bu d] at h;cases h.2.1),bu d];exact bR (ab.some rfl)
 rw[a6 q,a6 λh=>q h.1];exact b5 (ab.some rfl)
def low(k:Nat)(b:ay):Prop:= ∀j,k<=j->b.aT.getD j 0=0
def kP(n:Int):Expr:=⟨1,n,⟨[],0⟩,⟨[],[]⟩,[]⟩
def gH(e:Expr)(n:Int):Bool:=decide (e.kind=1)&&decide (e.num=n)
def gU(k x y:Int):Int:=if k=5 then x-y else if k=6 then x*y else x+y
def iJ(e:Expr):Expr:=
 if e.kind=2/\eI e.index.aT=0/\0<=e.index.const then kP e.index.const
 else match e.bm with
  | [a,b]=>
   if a.kind=1/\b.kind=1 then(if 0<=gU e.kind a.num b.num/\gU e.kind a.num b.num<=99 then kP (gU e.kind a.num b.num) else e)
   else if(¬e.kind=6/\gH b 0=true)\/(e.kind=6/\gH b 1=true) then a
   else if(e.kind=4/\gH a 0=true)\/(e.kind=6/\gH a 1=true) then b
   else if e.kind=6/\(gH a 0=true\/gH b 0=true) then kP 0
   else e
  |_=>e
def lb(e:Expr)(a:List Expr):Expr:=⟨e.kind,e.num,e.index,e.read,a⟩
def fN:Nat->Expr->Expr
 |0,e=>e
 |L+1,e=>iJ (lb e (e.bm.map (fN L)))
theorem Ms{d:Int}: ∀{L:Nat} {e:Expr},dC L e d=true->dC (L+1) e d=true
 |0,_,h=>by cases h
 |L+1,e,h=>by obtain⟨c,i,l⟩:=g' h;show(decide (fs e.kind=e.bm.length)&&(eh e d&&e.bm.all λk=>dC (L+1) k d))=true;rw[bA c,i,fe,fe];exact fy.2 λk a=>Ms (l k a)
theorem IG(a:fs e.kind=e.bm.length)(c:eh e d=true)(h: ∀k∈e.bm,dC L k d=true):dC (L+1) e d=true:=by show(decide (fs e.kind=e.bm.length)&&(eh e d&&e.bm.all λk=>dC L k d))=true;rw[bA a,c,fe,fe];exact fy.2 h
theorem N8{d:Int}: ∀{L:Nat} {e:Expr},dC L e d=true->dA (L+1) e=dA L e
 |0,_,h=>by cases h
 |L+1,e,h=>by obtain⟨i,l,c⟩:=g' h;show 1+(e.bm.map (dA (L+1))).sum=1+(e.bm.map (dA L)).sum;rw[show e.bm.map (dA (L+1))=e.bm.map (dA L) from List.map_congr_left λk a=>N8 (c k a)]
theorem MI{d:Int}: ∀{L:Nat} {e:Expr},dC L e d=true->dX (L+1) e=dX L e
 |0,_,h=>by cases h
 |L+1,e,h=>by obtain⟨i,l,c⟩:=g' h;show(if e.kind=3 then [e.read] else [])++e.bm.flatMap (dX (L+1))=(if e.kind=3 then [e.read] else [])++e.bm.flatMap (dX L);rw[List.flatMap_def,List.flatMap_def,show e.bm.map (dX (L+1))=e.bm.map (dX L) from List.map_congr_left λk a=>MI (c k a)]
theorem FW(l:eh e d=true):iJ e=e\/(∃n,iJ e=kP n/\0<=n/\n<=99)\/ ∃k∈e.bm,iJ e=k:=by
 obtain⟨kind,num,index,read,i⟩:=e;unfold iJ;dsimp only;split
 ·rename_i h
  have:=(fM (pU l h.1).1).2.1;exact .inr (.inl ⟨_,rfl,h.2.2,this.2⟩)
 match i with
 | []=>exact .inl rfl
 | [a]=>exact .inl rfl
 | [a,b]=>
  dsimp only;split
  ·split
   ·rename_i h;exact .inr (.inl ⟨_,rfl,h⟩)
   exact .inl rfl
  split
  ·exact .inr (.inr ⟨a,aW,rfl⟩)
  split
  ·exact .inr (.inr ⟨b,aW,rfl⟩)
  split
  ·exact .inr (.inl ⟨0,rfl,O,O⟩)
  exact .inl rfl
 |a::b::c::r=>exact .inl rfl
theorem Xe(L:Nat){n:Int}(h:0<=n/\n<=99)(d:Int):dC (L+1) (kP n) d=true:=by
 refine IG (by simp[kP,fs]) ?_ λk a=>by cases a
 unfold eh kP hg jD;simp;omega
theorem EZ(h:eh e d=true)(a:List Expr):eh (lb e a) d=true:=h
theorem qk{d:Int}: ∀{L:Nat} {e:Expr},dC L e d=true->dC L (fN L e) d=true
 |0,_,h=>by cases h
 |L+1,e,h=>by
  obtain⟨o,l,m⟩:=g' h;have p:dC (L+1) (lb e (e.bm.map (fN L))) d=true:=IG (by simp only[lb,List.length_map];exact o) l (λk a=>by
   obtain⟨y,i,rfl⟩:=eM.1 a;exact qk (m y i))
  show dC (L+1) (iJ (lb e (e.bm.map (fN L)))) d=true;rcases FW (EZ l (e.bm.map (fN L))) with c|⟨n,c,q⟩|⟨k,a,c⟩
  ·rw[c];exact p
  ·rw[c];exact Xe L q d
  rw[c];obtain⟨y,i,rfl⟩:=eM.1 a;exact Ms (qk (m y i))
theorem Ni{k:Type}(f:k->Int)(c: ∀x,0<=f x): ∀{l:List k} {x:k},x∈l->f x<=(l.map f).sum
 |y::l,x,h=>by
  have d: ∀l:List k,0<=(l.map f).sum:=λl=>by
   induction l with
   |nil=>simp
   |cons a l e=>simp only[List.map_cons,List.sum_cons];have:=c a;omega
  simp only[List.map_cons,List.sum_cons];rcases dP.1 h with rfl|h
  ·have:=d l;omega
  have:=Ni f c h;have:=c y;omega
theorem Mp{k:Type}(f g:k->Int): ∀{l:List k},(∀x∈l,f x<=g x)->(l.map f).sum<=(l.map g).sum
 | [],_=>gx _
 |x::l,h=>by
  simp only[List.map_cons,List.sum_cons]
  have:=h x eU
  have:=Mp f g λy a=>h y (ey _ a);omega
theorem Pe{d:Int}: ∀{L:Nat} {e:Expr},dC L e d=true->dA L (fN L e)<=dA L e
 |0,_,h=>by cases h
 |L+1,e,h=>by
  obtain⟨q,o,i⟩:=g' h;have m:dA (L+1) (lb e (e.bm.map (fN L)))<=dA (L+1) e:=by
   show 1+((e.bm.map (fN L)).map (dA L)).sum<=1+(e.bm.map (dA L)).sum;rw[List.map_map]
   have:=Mp (dA L ∘ fN L) (dA L) (l:=e.bm) λk a=>Pe (i k a);omega
  show dA (L+1) (iJ (lb e (e.bm.map (fN L))))<=dA (L+1) e;rcases FW (EZ o (e.bm.map (fN L))) with c|⟨n,c,r⟩|⟨k,a,c⟩
  ·rw[c];exact m
  ·rw[c];exact ra (L+1) e
  rw[c];refine Int.le_trans ?_ m;obtain⟨y,p,rfl⟩:=eM.1 a;rw[N8 (qk (i y p))];have s:dA L (fN L y)<=((e.bm.map (fN L)).map (dA L)).sum:=Ni (dA L) (λx=>by have:=ra L x;omega) a;show _<=1+((e.bm.map (fN L)).map (dA L)).sum;omega
theorem Pf{d:Int}: ∀{L:Nat} {e:Expr},dC L e d=true-> ∀a∈dX L (fN L e),a∈dX L e
 |0,_,h=>by cases h
 |L+1,e,h=>by
  obtain⟨w,s,p⟩:=g' h;have q: ∀a∈dX (L+1) (lb e (e.bm.map (fN L))),a∈dX (L+1) e:=λa c=>by
   have c:a∈(if e.kind=3 then [e.read] else [])++(e.bm.map (fN L)).flatMap (dX L):=c;show a∈(if e.kind=3 then [e.read] else [])++e.bm.flatMap (dX L);rcases dZ.1 c with c|c
   ·exact mJ _ c
   refine pJ _ ?_;obtain⟨y,m,o⟩:=yF.1 c;obtain⟨z,r,rfl⟩:=eM.1 m;exact yF.2 ⟨z,r,Pf (p z r) a o⟩
  intro a c;have c:a∈dX (L+1) (iJ (lb e (e.bm.map (fN L)))):=c;rcases FW (EZ s (e.bm.map (fN L))) with i|⟨n,i,x⟩|⟨k,l,i⟩
  ·rw[i] at c;exact q a c
  ·rw[i] at c;simp[dX,kP] at c
  rw[i] at c;obtain⟨y,m,rfl⟩:=eM.1 l;rw[MI (qk (p y m))] at c;refine q a ?_;show a∈(if e.kind=3 then [e.read] else [])++(e.bm.map (fN L)).flatMap (dX L);exact pJ _ (yF.2 ⟨_,l,c⟩)
theorem Wx(h:dC L e d=true): ∃K,L=K+1:=by
 cases L with
 |zero=>cases h
 |succ K=>exact⟨K,rfl⟩
theorem VB(n:Nat)(e:Expr)(k:Int):iB n e k=some (gH e k):=by unfold iB gH;cases decide (e.kind=1)<;>rfl
theorem U2(n:Nat)(e:Expr)(k:Int):pt n e k=some (gH e k):=by unfold pt gH;cases decide (e.kind=1)<;>rfl
def Bu(a:Expr):Prop:=a.kind=1->0<=a.num/\a.num<=99
theorem Gy(h:dC L e d=true):Bu e:=λc=>by obtain⟨K,rfl⟩:=Wx h;obtain⟨_,a,_⟩:=g' h;unfold eh at a;rw[a6 O,a6 O,a1 c] at a;simp only[Bool.and_eq_true,decide_eq_true_eq] at a;exact a.1
theorem OC{b:Int}(d:0<=a/\a<=99)(c:0<=b/\b<=99):0<=a*b/\a*b<=9801:=by
 refine⟨mM d.1 c.1,?_⟩
 have:=q6 d.2 c.2 c.1 (by omega:(0:Int)<=99);omega
theorem aa1(n:Nat)(L:c=4\/c=5\/c=6){a b:Expr}(Q:Bu a)(R:Bu b):
  aA (fun(s:Bool)=>
      bif s then(
       aA (fun(q:Int)=>
        Option.bind (fi n q 0 99) λd=>
        bif d then(
         Option.bind (nM n q) λe=>
         some e
        ) else(
         some (⟨c,0,(⟨[],0⟩:ay),(⟨[],[]⟩:bZ),[a,b]⟩:Expr)
        )
       ) (λl=>
        bif decide (c=5) then(
         l (wr (a.num-b.num))
        ) else(
         bif decide (c=6) then(
          l (wr (a.num*b.num))
         ) else(
          l (wr (a.num+b.num))
         )
        )
       )
      ) else(
       aA (fun(w:Bool)=>
        bif w then(
         some a
        ) else(
         aA (fun(x:Bool)=>
          bif x then(
           some b
          ) else(
           aA (fun(y:Bool)=>
            bif y then(
             Option.bind (nM n 0) λA=>
             some A
            ) else(
             some (⟨c,0,(⟨[],0⟩:ay),(⟨[],[]⟩:bZ),[a,b]⟩:Expr)
            )
           ) (λm=>
            bif decide (c=6) then(
             Option.bind (iB n a 0) λB=>
             bif B then(
              m true
             ) else(
              Option.bind (iB n b 0) λC=>
              m C
             )
            ) else(
             m false
            )
           )
          )
         ) (λi=>
          bif decide (c=4) then(
           Option.bind (iB n a 0) λD=>
           bif D then(
            i true
           ) else(
            bif decide (c=6) then(
             Option.bind (iB n a 1) λF=>
             i F
            ) else(
             i false
            )
           )
          ) else(
           bif decide (c=6) then(
            Option.bind (iB n a 1) λG=>
            i G
           ) else(
            i false
           )
          )
         )
        )
       ) (λk=>
        bif !(decide (c=6)) then(
         Option.bind (iB n b 0) λH=>
         bif H then(
          k true
         ) else(
          bif decide (c=6) then(
           Option.bind (iB n b 1) λI=>
           k I
          ) else(
           k false
          )
         )
        ) else(
         bif decide (c=6) then(
          Option.bind (iB n b 1) λK=>
          k K
         ) else(
          k false
         )
        )
       )
      )
     ) (λr=>
      bif decide (a.kind=1) then(
       r (decide (b.kind=1))
      ) else(
       r false
      )
     )=some (iJ ⟨c,0,⟨[],0⟩,⟨[],[]⟩,[a,b]⟩):=by
 have U: ¬(c=2/\eI ([]:List Int)=0/\(0:Int)<=0):=λh=>O
 unfold iJ;dsimp only;rw[a6 U];simp only[VB,Option.bind_some,aA];by_cases o:a.kind=1/\b.kind=1
 ·have W:=Q o.1;have X:=R o.2;have v:=OC W X;rw[a1 o,bA o.1,bA o.2];simp only[cond_true];have Y:(bif decide (c=5) then(Option.bind (fi n (wr (a.num-b.num)) 0 99) λd=>bif d then(Option.bind (nM n (wr (a.num-b.num))) λe=>some e) else(some (⟨c,0,⟨[],0⟩,⟨[],[]⟩,[a,b]⟩:Expr)))
    else bif decide (c=6) then(Option.bind (fi n (wr (a.num*b.num)) 0 99) λd=>bif d then(Option.bind (nM n (wr (a.num*b.num))) λe=>some e) else(some (⟨c,0,⟨[],0⟩,⟨[],[]⟩,[a,b]⟩:Expr)))
    else(Option.bind (fi n (wr (a.num+b.num)) 0 99) λd=>bif d then(Option.bind (nM n (wr (a.num+b.num))) λe=>some e) else(some (⟨c,0,⟨[],0⟩,⟨[],[]⟩,[a,b]⟩:Expr))))
    =Option.bind (fi n (gU c a.num b.num) 0 99) λd=>bif d then(Option.bind (nM n (gU c a.num b.num)) λe=>some e) else(some (⟨c,0,⟨[],0⟩,⟨[],[]⟩,[a,b]⟩:Expr)):=by
   rw[be (n:=a.num-b.num) O,be (n:=a.num*b.num) O,be (n:=a.num+b.num) O];unfold gU;rcases L with rfl|rfl|rfl<;>rfl
  refine Y.trans ?_;rw[d5,Option.bind_some];by_cases p:0<=gU c a.num b.num/\gU c a.num b.num<=99
  ·rw[a1 p,bA p];rfl
  rw[a6 p,bu p];rfl
 rw[a6 o];have g:(bif decide (a.kind=1) then decide (b.kind=1) else false)=false:=by
  cases j:decide (a.kind=1) with
  |false=>rfl
  |true=>
   have: ¬b.kind=1:=λh=>o ⟨e6 j,h⟩;rw[bu this];rfl
 have p: ∀{f:Bool->Option Expr},(bif decide (a.kind=1) then f (decide (b.kind=1)) else f false)=f false:=fun {f}=>by
  have:(bif decide (a.kind=1) then f (decide (b.kind=1)) else f false)=f (bif decide (a.kind=1) then decide (b.kind=1) else false):=by cases decide (a.kind=1)<;>rfl
  rw[this,g]
 refine(p (f:=λz=>bif z then _ else _)).trans ?_;generalize gH a 0=a0;generalize gH a 1=aK;generalize gH b 0=t;generalize gH b 1=u;rcases L with rfl|rfl|rfl<;>cases a0<;>cases aK<;>cases t<;>cases u<;>rfl
theorem Xs(n:Nat)(k:Int):rB n k=some (decide (4<=k/\k<=6)):=by unfold rB;rw[d5];rfl
theorem F1(h:fs e.kind=e.bm.length):((e.kind=1\/e.kind=2\/e.kind=3)/\e.bm=[])\/((e.kind=4\/e.kind=5\/e.kind=6)/\ ∃a b,e.bm=[a,b]):=by
 unfold fs at h;split at h
 ·rename_i d;exact .inl ⟨d,kI O⟩
 split at h
 ·rename_i d;refine .inr ⟨d,?_⟩
  match i:e.bm,h with
  | [a,b],_=>exact⟨a,b,rfl⟩
  | [],h=>simp at h
  | [a],h=>simp at h
  |a::b::c::r,h=>simp at h;omega
 omega
theorem aaQ(a:eh e d=true)(h:e.kind=4\/e.kind=5\/e.kind=6):e.num=0/\e.index=⟨[],0⟩/\e.read=⟨[],[]⟩:=by have c:=wP a O O;unfold eh at a;rw[a6 O,a6 O,a6 O] at a;simp only[Bool.and_eq_true,decide_eq_true_eq] at a;exact⟨a.1,t7 c.1,t8 c.2⟩
theorem A2(a:eh e d=true):jo e.index/\kn e.read.bC:=by
 by_cases h:e.kind=2
 ·have:=pU a h;refine⟨by have:=(fM this.1).1;unfold jo;omega,?_⟩;rw[t8 this.2];exact⟨aW,λx c=>by cases c⟩
 by_cases i:e.kind=3
 ·have:=rv a i;have k:=mP this.1;refine⟨?_,Nz k.2.1 k.2.2⟩;rw[t7 this.2];unfold jo;simp
 have:=wP a h i;refine⟨?_,?_⟩
 ·rw[t7 this.1];unfold jo;simp
 rw[t8 this.2];exact⟨aW,λx c=>by cases c⟩
def mC(e:Expr):Bool:=decide (e.kind=2)&&(decide (eI e.index.aT=0)&&decide (0<=e.index.const))
theorem K5(e:Expr):mC e=true↔e.kind=2/\eI e.index.aT=0/\0<=e.index.const:=by unfold mC;simp
theorem KW(h:mC e=true):iJ e=kP e.index.const:=by unfold iJ;rw[a1 ((K5 e).1 h)]
theorem LZ(h:mC e=false)(a:e.bm=[]):iJ e=e:=by unfold iJ;rw[a6 (λc=>by rw[(K5 e).2 c] at h;cases h),a]
theorem H0{d:Int}: ∀(L n:Nat) (e:Expr),6000+L<=n->dC L e d=true->qx (n+1) e=some (fN L e)
 |0,_,_,_,h=>by cases h
 |L+1,n,e,K,h=>by
  obtain⟨r,s,w⟩:=g' h;obtain⟨n,rfl⟩: ∃j,n=j+1:=⟨n-1,O⟩
  unfold qx;refine ab.eq (ab.aA (λz=>z=mC e) (λj m=>?_) λz B=>?_)
  ·refine aQ (λo=>ag (DA O (A2 s).1) (aQ (λC=>m _ ?_) λC=>m _ ?_)) λo=>m _ ?_
   ·unfold mC;rw[bA o,bA (O:eI e.index.aT=0)];rfl
   ·unfold mC;rw[bu (show¬eI e.index.aT=0 by omega),Bool.false_and,jl]
   unfold mC;rw[bu o];rfl
  subst B;have p:fN (L+1) e=iJ (lb e (e.bm.map (fN L))):=rfl;refine ab.cond (λq=>?_) λq=>?_
  ·refine ag (x:=kP e.index.const) rfl (ab.some ?_);rw[p];exact(KW (e:=lb e (e.bm.map (fN L))) q).symm
  refine ag (Xs _ _) (eS (λl=>ab.some ?_) λl=>?_)
  ·rcases F1 r with ⟨_,k⟩|⟨i,_⟩
   ·rw[p,k]
    have:lb e []=e:=by cases e;cases k;rfl
    show e=iJ (lb e []);rw[this];exact(LZ q k).symm
   exact bB O l
  rcases F1 r with ⟨i,_⟩|⟨i,a,b,c⟩
  ·omega
  have y:=w a (by rw[c];simp);have A:=w b (by rw[c];simp);have D:au e.bm 0=some a:=by rw[c];rfl
  have F:au e.bm 1=some b:=by rw[c];rfl
  refine ag D (ag (H0 L n a O y) (ag F (ag (H0 L n b O A) (ab.of (aa1 (n+1) i (Gy (qk y)) (Gy (qk A))) ?_))));obtain⟨G,H,I⟩:=aaQ s i;rw[p,c];unfold lb;rw[G,H,I];rfl
theorem XK(n:Nat)(o:e.kind=4\/e.kind=5\/e.kind=6){x y:Int}(l:0<=x/\x<=99)(m:0<=y/\y<=99):Aj n e x y=some (if 0<=gU e.kind x y/\gU e.kind x y<=99 then kP (gU e.kind x y) else e):=by
 have p:=OC l m;unfold Aj;refine ab.eq (ab.aA (λz=>z=gU e.kind x y) (λj a=>?_) λz d=>?_)
 ·rw[be (n:=x+y) O,be (n:=x-y) O,be (n:=x*y) O];refine aQ (λh=>a _ ?_) λh=>aQ (λi=>a _ ?_) λi=>a _ ?_
  ·unfold gU;rw[a6 O,a6 O]
  ·unfold gU;rw[a1 i]
  unfold gU;rw[a6 i,a1 O]
 subst d;refine ab.aA (λz=>z= !decide (0<=gU e.kind x y/\gU e.kind x y<=99)) (λj a=>aQ (λh=>a _ ?_) λh=>a _ ?_) λz d=>?_
 ·rw[bu O];rfl
 ·by_cases k:(99:Int)<gU e.kind x y
  ·rw[bA k,bu O];rfl
  rw[bu k,bA O];rfl
 subst d;by_cases c:0<=gU e.kind x y/\gU e.kind x y<=99
 ·rw[bA c,a1 c];exact b5 (ag rfl (ab.some rfl))
 rw[bu c,a6 c];exact bR (ab.some rfl)
theorem Wy(K:5000<=n)(B:jo e.index)(C:fs e.kind=e.bm.length)(y: ∀k∈e.bm,Bu k):yO n e=some (iJ e):=by
 unfold yO;refine ab.eq (ab.aA (λz=>z=mC e) (λj l=>?_) λz q=>?_)
 ·refine aQ (λr=>ag (yn O B) (aQ (λD=>l _ ?_) λD=>l _ ?_)) λr=>l _ ?_
  ·unfold mC;rw[bA r,bA (O:eI e.index.aT=0)];rfl
  ·unfold mC;rw[bu (show¬eI e.index.aT=0 by omega),Bool.false_and,jl]
  unfold mC;rw[bu r];rfl
 subst q;refine ab.cond (λs=>ag (x:=kP e.index.const) rfl (ab.some (KW s).symm)) λs=>?_;rcases F1 C with ⟨_,o⟩|⟨d,a,b,c⟩
 ·refine aQ (λ_=>ab.some (LZ s o).symm) λh=>bB (by rw[o];rfl) h
 have F:=y a (by rw[c];simp);have G:=y b (by rw[c];simp);refine aQ (λh=>by rw[c] at h;simp at h) λ_=>ag (show au e.bm 0=some a by rw[c];rfl) (ag (show au e.bm 1=some b by rw[c];rfl) ?_);have i:iJ e=(if a.kind=1/\b.kind=1 then(if 0<=gU e.kind a.num b.num/\gU e.kind a.num b.num<=99 then kP (gU e.kind a.num b.num) else e)
   else if(¬e.kind=6/\gH b 0=true)\/(e.kind=6/\gH b 1=true) then a
   else if(e.kind=4/\gH a 0=true)\/(e.kind=6/\gH a 1=true) then b
   else if e.kind=6/\(gH a 0=true\/gH b 0=true) then kP 0
   else e):=by
  unfold iJ;rw[a6 (λh=>O),c]
 rw[i];refine ab.aA (λz=>z=decide (a.kind=1/\b.kind=1)) (λj l=>aQ (λh=>l _ ?_) λh=>l _ ?_) λz q=>?_
 ·by_cases p:b.kind=1
  ·rw[bA p,bA ⟨h,p⟩]
  rw[bu p,bu λw=>p w.2]
 ·rw[bu λw=>h w.1]
 subst q;by_cases m:a.kind=1/\b.kind=1
 ·rw[bA m,a1 m];exact bR (ag (XK n d (F m.1) (G m.2)) (ab.some rfl))
 rw[bu m,a6 m];refine b5 ?_;simp only[U2,Option.bind_some,aA];generalize gH a 0=a0;generalize gH a 1=aK;generalize gH b 0=H;generalize gH b 1=I;obtain⟨kind,num,index,read,A⟩:=e;dsimp only at d⊢;rcases d with rfl|rfl|rfl<;>cases a0<;>cases aK<;>cases H<;>cases I<;>exact ab.some rfl
theorem Qm{d:Int}: ∀(L n:Nat) (e:Expr),6000+L<=n->dC L e d=true->qS (n+1) e=some (fN L e)
 |0,_,_,_,h=>by cases h
 |L+1,n,e,s,h=>by
  obtain⟨m,a,l⟩:=g' h;obtain⟨n,rfl⟩: ∃j,n=j+1:=⟨n-1,O⟩
  have o:e.bm.length<=2:=by have:=pj e.kind;omega
  unfold qS;refine ab.eq (ag (y3 _ (A2 a).1) (ag (yz O (A2 a).2) ?_));refine ow (f:=qS (n+1)) (g:=fN L) (K:=λp=>Option.bind (yO (n+1) (⟨e.kind,e.num,e.index,e.read,p⟩:Expr)) λc=>some c) (λx q=>Qm L n x O (l x q)) O O ?_;refine ag (Wy O (A2 a).1 (by simpa using m) λk i=>?_) (ab.some rfl);obtain⟨y,r,rfl⟩:=eM.1 i;exact Gy (qk (l y r))
def jz(l:List cx)(p:Prog)(a:Int)(c:Nat):Prop:= ∃x∈l,x.part=a/\dd p x=c
def ky(l:List cx)(p:Prog)(a:Int)(c:Nat):Prop:= ∃x∈l,x.part=a/\(c:Int)∈rc p x
theorem we{l:List cx}{c:Nat}{x:cx}:jz (l++[x]) p a c↔jz l p a c\/(x.part=a/\dd p x=c):=by
 unfold jz;constructor
 ·rintro⟨y,d,h⟩;rcases dZ.1 d with d|d
  ·exact .inl ⟨y,d,h⟩
  rw[mK] at d;subst d;exact .inr h
 rintro(⟨y,d,h⟩|h)
 ·exact⟨y,mJ _ d,h⟩
 exact⟨x,aW,h⟩
theorem wg{l:List cx}{c:Nat}{x:cx}:ky (l++[x]) p a c↔ky l p a c\/(x.part=a/\(c:Int)∈rc p x):=by
 unfold ky;constructor
 ·rintro⟨y,d,h⟩;rcases dZ.1 d with d|d
  ·exact .inl ⟨y,d,h⟩
  rw[mK] at d;subst d;exact .inr h
 rintro(⟨y,d,h⟩|h)
 ·exact⟨y,mJ _ d,h⟩
 exact⟨x,aW,h⟩
def hv(T:Nat)(f:List Bool)(S:Nat->Prop):Prop:=f.length=T/\ ∀c,c<T->(f.getD c false=true↔S c)
theorem Ft(T:Nat):hv T (List.replicate T false) (λ_=>False):=⟨Db,λc a=>by rw[ew,s9];split<;>simp⟩
theorem FG{T:Nat}{f:List Bool}{S:Nat->Prop}(h:hv T f S){d:Nat}(a:d<T):hv T (f.set d true) (λc=>S c\/c=d):=⟨by rw[eV];exact h.1,λc i=>by
 by_cases e:d=c
 ·subst e;rw[ew,hr (by rw[h.1];exact a)];simp
 rw[ew,jj e,<-ew,h.2 c i];constructor
 ·exact .inl
 rintro(h|h)
 ·exact h
 exact bB h.symm e⟩
theorem lN{T:Nat}{f:List Bool}{S X:Nat->Prop}(h:hv T f S)(d: ∀c,c<T->(S c↔X c)):hv T f X:=⟨h.1,λc a=>(h.2 c a).trans (d c a)⟩
theorem rC{T:Nat}{f:List Bool}{S:Nat->Prop}(h:hv T f S){c:Nat}(d:c<T):au f (c:Int)=some (f.getD c false):=by
 have a:c<f.length:=by rw[h.1];exact d
 rw[bk (bs a),ew,bs a];rfl
theorem LI(B:5000<=n){T:Nat}{cs:List Int}(C:cs.length<=1000)(o: ∀c∈cs,0<=c/\c<(T:Int)){K:List Bool->Option R}{f:List Bool}{S:Nat->Prop}(p:hv T f S)(q: ∀g,hv T g (λc=>S c\/(c:Int)∈cs)->ab (K g) Q):
  ab (bo (λa (z:(List Bool)×Int)=>bif decide (z.2<(cs.length:Int)) then(Option.bind (au cs z.2) λx=>Option.bind (au z.1 x) λ_=>Option.bind (b' z.1 x true) λy=>a (y,wr (z.2+1))) else(K z.1)) n (f,0)) Q:=by
 refine ab.loop (λz:List Bool×Int=> ∃i:Nat,z.2=i/\i<=cs.length/\hv T z.1 λc=>S c\/(c:Int)∈cs.take i) (λz=>cs.length-z.2.toNat) ?_ n _ ⟨0,rfl,O,lN p λc _=>aW⟩ Z;rintro a ⟨x,z⟩ ⟨i,m,D,k⟩ r;dsimp only at m k⊢;subst m;refine aQ (λs=>?_) λw=>?_
 ·obtain⟨c,l⟩: ∃c,cs[i]? =some c:=⟨_,bs (O:i<cs.length)⟩
  have a':=o c (bE l);have A:=k.1;refine ag (bk l) (ag (wW a'.1 O) (ag (Ff a'.1 O true) ?_));rw[be O];refine r _ ⟨i+1,Z,O,lN (FG k (d:=c.toNat) O) λe F=>?_⟩ Z;rw[gh l,dZ,mK];constructor
  ·rintro((h|h)|h)
   ·exact .inl h
   ·exact .inr (.inl h)
   exact .inr (.inr O)
  rintro(h|h|h)
  ·exact .inl (.inl h)
  ·exact .inl (.inr h)
  exact .inr O
 have e:i=cs.length:=O
 refine q x (lN k λc _=>?_);rw[e,c6]
theorem wH(a:b2 p=true):((ie p:Nat):Int)=fX p.aR/\ie p<=144:=by have:=Ye a;show(((fX p.aR).toNat:Nat):Int)=_/\(fX p.aR).toNat<=144;omega
theorem K8(cH:7100<=n)(A:b2 p=true)(a:Int):ab (xH n (fZ p) a) (λr=>hv (ie p) r.1 (ky (bz p.parts) p a)/\hv (ie p) r.2 (jz (bz p.parts) p a)):=by
 obtain⟨I,L,_,_,U⟩:=eA A;have e4:=wH A;unfold xH;refine ag (KL (p:=p) O I L) (ag (Gr ⟨O,O⟩ false) (ag (KL (p:=p) O I L) (ag (Gr ⟨O,O⟩ false) ?_)));show ab (bo _ n (List.replicate (ie p) false,List.replicate (ie p) false,0)) _;refine ab.loop (λz:List Bool×List Bool×Int=> ∃i:Nat,z.2.2=i/\i<=(bz p.parts).length/\hv (ie p) z.1 (ky ((bz p.parts).take i) p a)/\hv (ie p) z.2.1 (jz ((bz p.parts).take i) p a)) (λz=>(bz p.parts).length-z.2.2.toNat) ?_ n _ ⟨0,rfl,O,lN (Ft _) (λc _=>by simp[ky]),lN (Ft _) λc _=>by simp[jz]⟩ Z;rintro B ⟨x,y,z⟩ ⟨i,o,aI,q,l⟩ W;dsimp only at o q l⊢;subst o;have m:(fZ p).list=bz p.parts:=rfl;rw[m];refine aQ (λX=>?_) λY=>ab.some ?_
 ·obtain⟨u,k⟩: ∃u,(bz p.parts)[i]? =some u:=⟨_,bs (O:i<(bz p.parts).length)⟩
  have b:=iF (bE k);obtain⟨gy,t,ahx,_⟩:=qB A b;have C:(fZ p).reads[i]? =some (rc p u):=k3 k;have D:(fZ p).dx[i]? =some (dd p u:Int):=k3 (f:=λx=>(dd p x:Int)) k;refine ab.aA (λz:List Bool×List Bool×Int×Int×List Int=>hv (ie p) z.1 (ky ((bz p.parts).take (i+1)) p a)/\hv (ie p) z.2.1 (jz ((bz p.parts).take (i+1)) p a)) (λj Q=>?_) λz o=>?_
  ·refine ag (bk k) (eS (λs=>Q _ ⟨lN q λc _=>?_,lN l λc _=>?_⟩) λR=>ag (bk C) ?_)
   ·rw[gh k,wg];exact⟨.inl,λh=>h.elim id λh=>bB h.1 s⟩
   ·rw[gh k,we];exact⟨.inl,λh=>h.elim id λh=>bB h.1 s⟩
   refine LI (T:=ie p) O (cs:=rc p u) O (λc v=>by have:=t c v;omega) (K:=λF=>Option.bind (au (fZ p).dx (i:Int)) λw=>Option.bind (au y w) λE=>Option.bind (b' y w true) λG=>j (F,G,u.part,u.stmt,u.cK)) q λg H=>?_;refine ag (bk D) (ag (rC l O) (ag (Ff O (by rw[l.1];omega) true) (Q _ ⟨lN H λc _=>?_,?_⟩)))
   ·rw[gh k,wg];exact or_congr Iff.rfl ⟨λh=>⟨R,h⟩,λh=>h.2⟩
   refine lN (FG l (d:=dd p u) O) λc _=>?_;rw[gh k,we];exact or_congr Iff.rfl ⟨λh=>⟨R,h.symm⟩,λh=>h.2.symm⟩
  obtain⟨M,N,P,S,V⟩:=z;dsimp only at o⊢;rw[be O];exact W _ ⟨i+1,Z,O,o.1,o.2⟩ Z
 have e:i=(bz p.parts).length:=O
 rw[e,c6] at q l;exact⟨q,l⟩
theorem DG(L:7100<=n)(o:b2 p=true)(a:Int)(w:Bool):ab (sE n p a w) (λr=>r.length<=144/\ ∀c:Int,c∈r↔0<=c/\c.toNat<ie p/\(if w=true then jz (bz p.parts) p a c.toNat else ky (bz p.parts) p a c.toNat)):=by
 obtain⟨Q,R,_,_,U⟩:=eA o;have v:=wH o;unfold sE;refine ag (Kz O Q R) (ag (Gr ⟨O,O⟩ false) (ag (uG O o) (ag (E4 L o) ?_)));show ab (bo _ n (List.replicate (ie p) false,0)) _;refine ab.loop (λz:List Bool×Int=> ∃i:Nat,z.2=i/\i<=(bz p.parts).length/\hv (ie p) z.1 λc=>if w=true then jz ((bz p.parts).take i) p a c else ky ((bz p.parts).take i) p a c) (λz=>(bz p.parts).length-z.2.toNat) ?_ n _ ⟨0,rfl,O,lN (Ft _) λc _=>by simp[ky,jz]⟩ Z;rintro A ⟨x,z⟩ ⟨i,y,E,l⟩ W;dsimp only at y l⊢;subst y;refine aQ (λk=>?_) λX=>?_
 ·obtain⟨u,m⟩: ∃u,(bz p.parts)[i]? =some u:=⟨_,bs (O:i<(bz p.parts).length)⟩
  have Y:=iF (bE m);obtain⟨M,b,N,_⟩:=qB o Y;have q:(lX p)[i]? =some (⟨rc p u,(dd p u:Int)⟩:kN):=k3 (f:=λx=>(⟨rc p x,(dd p x:Int)⟩:kN)) m;refine ab.aA (λz:List Bool=>hv (ie p) z λc=>if w=true then jz ((bz p.parts).take (i+1)) p a c else ky ((bz p.parts).take (i+1)) p a c) (λj B=>?_) λz y=>?_
  ·refine ag (bk m) (eS (λC=>B _ (lN l λc _=>?_)) λI=>?_)
   ·rw[gh m,we,wg];split<;>exact⟨.inl,λh=>h.elim id λh=>bB h.1 C⟩
   cases w with
   |true=>
    refine bR (ag (bk q) (ag (rC l O) (ag (Ff (by(try dsimp only);omega) (by rw[l.1];(try dsimp only);omega) true) (B _ ?_))));refine lN (FG l (d:=dd p u) O) λc _=>?_;rw[gh m,we,wg];exact or_congr Iff.rfl ⟨λh=>⟨I,h.symm⟩,λh=>h.2.symm⟩
   |false=>
    refine b5 ?_;simp only[bk q,Option.bind_some];refine LI (T:=ie p) O (cs:=rc p u) O (λc t=>by have:=b c t;omega) (K:=λD=>j D) l λg F=>B _ (lN F λc _=>?_);rw[gh m,we,wg];exact or_congr Iff.rfl ⟨λh=>⟨I,h⟩,λh=>h.2⟩
  rw[be O];exact W _ ⟨i+1,Z,O,y⟩ Z
 have e:i=(bz p.parts).length:=O
 rw[e,c6] at l;have G:=l.1;refine ag (J4 O O) (ab.some ⟨by have:=Ko x;omega,λc=>?_⟩);rw[D5];constructor
 ·rintro⟨H,s⟩;have k:c.toNat<ie p:=by
   rw[<-G];by_cases h:c.toNat<x.length
   ·exact h
   rw[ew,q8 O] at s;cases s
  exact⟨H,k,(l.2 _ k).1 s⟩
 rintro⟨H,k,s⟩;exact⟨H,(l.2 _ k).2 s⟩
theorem F0(r:5000<=n){a b:List Int}(s:a.length<=1000)(m:b.length<=1000):vl n a b=some (a.any λc=>decide (c∈b)):=by
 refine ab.eq ?_;unfold vl;refine ab.loop (λz:Int=> ∃i:Nat,z=i/\i<=a.length/\(a.take i).any (λc=>decide (c∈b))=false) (λz=>a.length-z.toNat) ?_ n 0 ⟨0,rfl,O,aW⟩ O;rintro k z ⟨i,rfl,w,d⟩ o;refine aQ (λp=>?_) λq=>ab.some ?_
 ·obtain⟨c,l⟩: ∃c,a[i]? =some c:=⟨_,bs (O:i<a.length)⟩
  refine ag (bk l) (ag (Fa O m c) (ab.cond (λh=>ab.some ?_) λh=>?_))
  ·exact(ij.2 ⟨c,bE l,h⟩).symm
  rw[be O];refine o _ ⟨i+1,O,O,?_⟩ O;rw[gh l,s6,d];simpa using h
 have e:i=a.length:=O
 rw[e,c6] at d;exact d.symm
def Bq(p:Prog)(a b:Int):Prop:= ∀x∈bz p.parts,∀y∈bz p.parts,x.part=a->y.part=b-> ¬OY p x y
noncomputable def rX(p:Prog)(a b:Int):Bool:= @decide (Bq p a b) (Classical.propDecidable _)
theorem H2{b:Int}:rX p a b=true↔Bq p a b:=by unfold rX;exact @decide_eq_true_iff _ (Classical.propDecidable _)
theorem KI(n:b2 p=true){b:Int}:Bq p a b↔ ∀c,c<ie p-> ¬(jz (bz p.parts) p a c/\(ky (bz p.parts) p b c\/jz (bz p.parts) p b c))/\ ¬(jz (bz p.parts) p b c/\ky (bz p.parts) p a c):=by
 have o:=wH n;constructor
 ·intro h c _;refine⟨?_,?_⟩
  ·rintro⟨⟨x,l,e,m⟩,⟨y,k,d,i⟩|⟨y,k,d,i⟩⟩
   ·exact h x l y k e d (.inl (by rw[m];exact i))
   exact h x l y k e d (.inr (.inr (by rw[m,i])))
  rintro⟨⟨y,k,d,i⟩,⟨x,l,e,m⟩⟩;exact h x l y k e d (.inr (.inl (by rw[i];exact m)))
 intro h x l y k e d bP;have q:=(qB n (iF l)).1;have r:=(qB n (iF k)).1;rcases bP with bP|bP|bP
 ·exact(h (dd p x) O).1 ⟨⟨x,l,e,rfl⟩,.inl ⟨y,k,d,bP⟩⟩
 ·exact(h (dd p y) O).2 ⟨⟨y,k,d,rfl⟩,⟨x,l,e,bP⟩⟩
 exact(h (dd p x) O).1 ⟨⟨x,l,e,rfl⟩,.inr ⟨y,k,d,bP.symm⟩⟩
def ef(p:Prog)(a:Int):Bool:=decide (0<=a/\a<(p.parts.length:Int))
noncomputable def j1(p:Prog)(a b:Int):Bool:=b2 p&&(ef p a&&(ef p b&&(!decide (a=b)&&rX p a b)))
theorem sI{b:Bool}(h:(!b)=true):b=false:=by cases b with
 |false=>rfl
 |true=>cases h
theorem qM{b:Bool}(h:(!b)=false):b=true:=by cases b with
 |false=>cases h
 |true=>rfl
theorem VC(cH:5000<=n){T:Nat}(kt:T<=1000){I E M K:List Bool}{x p q l:Nat->Prop}(F:hv T I x)(L:hv T E p)(Q:hv T M q)(y:hv T K l){v:Bool}(N:v=true↔ ∀c,c<T-> ¬(p c/\(q c\/l c))/\ ¬(l c/\x c)):
  ab (bo (λm (k:Int)=>
     bif decide (k<(I.length:Int)) then(
      aA (fun(R:Bool)=>
       bif R then(
        some false
       ) else(
        m (wr (k+1))
       )
      ) (λo=>
       Option.bind (au E k) λU=>
       bif U then(
        Option.bind (au M k) λW=>
        bif W then(
         o true
        ) else(
         Option.bind (au K k) λX=>
         bif X then(
          o true
         ) else(
          o false
         )
        )
       ) else(
        Option.bind (au K k) λY=>
        bif Y then(
         Option.bind (au I k) λb=>
         o b
        ) else(
         o false
        )
       )
      )
     ) else(
      some true
     )
    ) n 0) (λr=>r=v):=by
 have A: ∀c,c<T->((p c/\(q c\/l c))\/(l c/\x c))->v=false:=λc f h=>by
  cases g:v with
  |false=>rfl
  |true=>
   have:=N.1 g c f;rcases h with h|h
   ·exact bB h this.1
   exact bB h this.2
 have t:=F.1;refine ab.loop (λz:Int=> ∃i:Nat,z=i/\i<=T/\ ∀c,c<i-> ¬(p c/\(q c\/l c))/\ ¬(l c/\x c)) (λz=>T-z.toNat) ?_ n 0 ⟨0,rfl,O,λc h=>O⟩ O;rintro u z ⟨i,rfl,aI,B⟩ V;rw[t];refine aQ (λhlt=>?_) λiD=>ab.some ?_
 ·have a:i<T:=O
  refine ab.aA (λz=>(z=true->(p i/\(q i\/l i))\/(l i/\x i))/\(z=false-> ¬(p i/\(q i\/l i))/\ ¬(l i/\x i))) (λj C=>?_) λz P=>ab.cond (λh=>ab.some (A i a (P.1 h)).symm) λh=>?_
  ·refine ag (rC L a) (ab.cond (λG=>?_) λG=>?_)
   ·have w:=(L.2 i a).1 G;refine ag (rC Q a) (ab.cond (λH=>C _ ⟨λ_=> .inl ⟨w,.inl ((Q.2 i a).1 H)⟩,λh=>(by cases h)⟩) λH=>ag (rC y a) (ab.cond (λd=>C _ ⟨λ_=> .inl ⟨w,.inr ((y.2 i a).1 d)⟩,λh=>(by cases h)⟩) λd=>C _ ⟨λh=>(by cases h),λ_=>?_⟩));have ag5: ¬q i:=λh=>by rw[(Q.2 i a).2 h] at H;cases H
    have D: ¬l i:=λh=>by rw[(y.2 i a).2 h] at d;cases d
    exact⟨λh=>h.2.elim ag5 D,λh=>D h.1⟩
   have S: ¬p i:=λh=>by rw[(L.2 i a).2 h] at G;cases G
   refine ag (rC y a) (ab.cond (λd=>ag (rC F a) (C _ ⟨λh=> .inr ⟨(y.2 i a).1 d,(F.2 i a).1 h⟩,λh=>⟨λs=>S s.1,λs=>by rw[(F.2 i a).2 s.2] at h;cases h⟩⟩)) λd=>C _ ⟨λh=>(by cases h),λ_=>⟨λs=>S s.1,λs=>by rw[(y.2 i a).2 s.1] at d;cases d⟩⟩)
  rw[be O];refine V _ ⟨i+1,O,O,λc f=>?_⟩ O;by_cases e:c=i
  ·subst e;exact P.2 h
  exact B c O
 exact(N.2 λc f=>B c O).symm
theorem YD(l:7100<=n)(q:lp p)(a b:Int):B0 n p a b=some (j1 p a b):=by
 unfold B0;refine ab.eq (ag (yt l q) ?_);by_cases c:b2 p=true
 ·rw[a1 c];have C:=wH c;have d:=q.2.1;refine bR (ab.aA (λz=>z= !(ef p a&&(ef p b&& !decide (a=b)))) (λj e=>b5 (ag (qD n d a) (ab.cond (λh=>e _ ?_) λh=>ag (qD n d b) (ab.cond (λm=>e _ ?_) λm=>e _ ?_)))) λz o=>?_)
  ·have:ef p a=false:=sI h;rw[this];rfl
  ·have i:ef p a=true:=qM h;have k:ef p b=false:=sI m;rw[i,k];rfl
  ·have i:ef p a=true:=qM h;have k:ef p b=true:=qM m;rw[i,k];simp
  subst o;unfold j1;rw[c];cases i:ef p a with
  |false=>exact bR (ab.some rfl)
  |true=>
   cases k:ef p b with
   |false=>exact bR (ab.some rfl)
   |true=>
    cases D:decide (a=b) with
    |true=>exact bR (ab.some rfl)
    |false=>
     refine b5 (cc (K8 l c a) λr ⟨w,x⟩=>cc (K8 l c b) λs ⟨y,A⟩=>?_);exact(VC O (T:=ie p) O w x y A (v:=rX p a b) (by rw[H2,KI c])).mono λr B=>B
 rw[a6 c];refine b5 (ab.aA (λz=>z=true) (λj e=>bR (e _ rfl)) λz o=>?_);rw[o];refine bR (ab.some ?_);unfold j1;rw[show b2 p=false by simpa using c];rfl
theorem XM(B:7100<=n)(W:lp p)(a b:Int):BX n p a b=some (j1 p a b):=by
 unfold BX;refine ab.eq (ab.aA (λz=>z= !(b2 p&&(ef p a&&(ef p b&& !decide (a=b))))) (λj i=>?_) λz F=>?_)
 ·refine ag (jR O W) (ab.cond (λh=>i _ ?_) λh=>?_)
  ·rw[show b2 p=false by simpa using h];rfl
  have l:b2 p=true:=by simpa using h
  rw[l] at i;refine aQ (λL=>i _ ?_) λL=>aQ (λX=>i _ ?_) λX=>aQ (λQ=>i _ ?_) λQ=>aQ (λY=>i _ ?_) λY=>i _ ?_
  ·rw[show ef p a=false from bu O];rfl
  ·rw[show ef p b=false from bu O];simp
  ·rw[show ef p a=false from bu O];rfl
  ·rw[show ef p b=false from bu O];simp
  rw[show ef p a=true from bA O,show ef p b=true from bA O];simp
 subst F;unfold j1;by_cases l:b2 p=true
 ·rw[l];have t:=wH l;cases L:ef p a with
  |false=>exact bR (ab.some rfl)
  |true=>
   cases Q:ef p b with
   |false=>exact bR (ab.some rfl)
   |true=>
    cases u:decide (a=b) with
    |true=>exact bR (ab.some rfl)
    |false=>
     have m:=H2.trans (KI l (a:=a) (b:=b));have k: ∀c,c<ie p->((jz (bz p.parts) p a c/\(ky (bz p.parts) p b c\/jz (bz p.parts) p b c))\/(jz (bz p.parts) p b c/\ky (bz p.parts) p a c))->rX p a b=false:=λc o h=>by
      cases G:rX p a b with
      |false=>rfl
      |true=>
       have:=m.1 G c o;rcases h with h|h
       ·exact bB h this.1
       exact bB h this.2
     refine b5 (cc (DG B l a true) λq ⟨v,C⟩=>cc (DG B l b true) λr ⟨E,D⟩=>ab.aA (λz=>z=rX p a b) (λj i=>?_) λz F=>ab.some F);refine ag (F0 O O O) (ab.cond (λh=>?_) λh=>i _ ?_)
     ·have f: ∀c,c∈q->c∈r->False:=λc e d=>by
       have:q.any (λc=>decide (c∈r))=true:=ij.2 ⟨c,e,bA d⟩;rw[this] at h;cases h
      refine cc (DG B l b false) λH ⟨M,R⟩=>ag (F0 O O O) (ab.cond (λh=>?_) λh=>i _ ?_)
      ·have g: ∀c,c∈q->c∈H->False:=λc e d=>by
        have:q.any (λc=>decide (c∈H))=true:=ij.2 ⟨c,e,bA d⟩;rw[this] at h;cases h
       refine cc (DG B l a false) λs ⟨l10,w⟩=>ag (F0 O O O) (i _ ?_);cases I:r.any (λc=>decide (c∈s)) with
       |true=>
        obtain⟨c,e,d⟩:=ij.1 I;obtain⟨U,x,y⟩:=(D c).1 e;obtain⟨_,_,A⟩:=(w c).1 (e6 d);exact(k c.toNat x (.inr ⟨y,A⟩)).symm
       |false=>
        refine(m.2 λc o=>⟨?_,?_⟩).symm
        ·rintro⟨e,d|d⟩
         ·exact g (c:Int) ((C _).2 ⟨O,o,e⟩) ((R _).2 ⟨O,o,d⟩)
         exact f (c:Int) ((C _).2 ⟨O,o,e⟩) ((D _).2 ⟨O,o,d⟩)
        rintro⟨e,d⟩
        have:r.any (λc=>decide (c∈s))=true:=ij.2 ⟨(c:Int),(D _).2 ⟨O,o,e⟩,bA ((w _).2 ⟨O,o,d⟩)⟩;rw[this] at I;cases I
      have K:q.any (λc=>decide (c∈H))=true:=by simpa using h
      obtain⟨c,e,d⟩:=ij.1 K;obtain⟨U,x,y⟩:=(C c).1 e;obtain⟨_,_,A⟩:=(R c).1 (e6 d);exact(k c.toNat x (.inl ⟨y,.inl A⟩)).symm
     have K:q.any (λc=>decide (c∈r))=true:=by simpa using h
     obtain⟨c,e,d⟩:=ij.1 K;obtain⟨U,x,y⟩:=(C c).1 e;obtain⟨_,_,A⟩:=(D c).1 (e6 d);exact(k c.toNat x (.inl ⟨y,.inr A⟩)).symm
 rw[show b2 p=false by simpa using l];exact bR (ab.some rfl)
def lY{k:Type}(l:List k)(i:Nat)(a b:k):List k:=l.take i++b::a::l.drop (i+2)
theorem F6{k:Type}{l:List k}{a b:k}(c:l[i]? =some a)(d:l[i+1]? =some b):l=l.take i++a::b::l.drop (i+2):=by have e:l.drop i=a::l.drop (i+1):=jW c;have h:l.drop (i+1)=b::l.drop (i+2):=jW d;rw[<-h,<-e,vr]
noncomputable def q1(p:Prog)(a:Int):Prog×Bool:=
 if j1 p a (a+1)=true then
  (match au p.parts a,au p.parts (a+1) with
  |some c,some d=>(⟨p.aR,lY p.parts a.toNat c d⟩,true)
  |_,_=>ea)
 else ea
theorem uI{b:Int}(h:j1 p a b=true):b2 p=true/\(0<=a/\a<(p.parts.length:Int))/\(0<=b/\b<(p.parts.length:Int))/\Bq p a b:=by unfold j1 at h;simp only[Bool.and_eq_true] at h;exact⟨h.1,e6 h.2.1,e6 h.2.2.1,H2.1 h.2.2.2.2⟩
theorem H3(h:j1 p a (a+1)=true): ∃(i:Nat) (c d:Part),a=i/\p.parts[i]? =some c/\p.parts[i+1]? =some d/\i+1<p.parts.length:=by
 obtain⟨e,k,l,_⟩:=uI h;obtain⟨i,rfl⟩: ∃i:Nat,a=i:=⟨a.toNat,O⟩
 exact⟨i,_,_,rfl,bs O,bs O,O⟩
theorem IH(h:j1 p (i:Int) ((i:Int)+1)=true)(a:p.parts[i]? =some x)(c:p.parts[i+1]? =some P):q1 p (i:Int)=(⟨p.aR,lY p.parts i x P⟩,true):=by unfold q1;rw[a1 h,bk a,show((i:Int)+1)=((i+1:Nat):Int) by omega,bk c];rfl
theorem WJ{k:Type}{l:List k}{a b:k}(c:l[i]? =some a)(d:l[i+1]? =some b){x:k}:x∈lY l i a b↔x∈l:=by
 conv=>rhs;rw[F6 c d]
 unfold lY;simp only[List.mem_append,List.mem_cons];constructor
 ·rintro(h|h|h|h)
  ·exact .inl h
  ·exact .inr (.inr (.inl h))
  ·exact .inr (.inl h)
  exact .inr (.inr (.inr h))
 rintro(h|h|h|h)
 ·exact .inl h
 ·exact .inr (.inr (.inl h))
 ·exact .inr (.inl h)
 exact .inr (.inr (.inr h))
theorem WK{k:Type}{l:List k}{a b:k}(h:i+1<l.length):(lY l i a b).length=l.length:=by unfold lY;simp only[List.length_append,List.length_cons,List.length_take,List.length_drop];omega
theorem WI{k:Type}{l:List k}{a b:k}(e:l[i]? =some a)(c:l[i+1]? =some b):(l.set i b).set (i+1) a=lY l i a b:=by
 have aI:=(bS.1 c).1;have d:(l.take i).length=i:=by rw[cL];omega
 conv=>lhs;rw[F6 e c]
 rw[mH _ _ O,d,kd,vv,mH _ _ O,d,show i+1-i=1 by omega];rfl
theorem II(a:b2 p=true){s:Part}(d:p.parts[i]? =some P)(c:p.parts[i+1]? =some s):b2 ⟨p.aR,lY p.parts i P s⟩=true:=by
 have aI:=(bS.1 c).1;unfold b2 ka at a⊢;simp only[Bool.and_eq_true,decide_eq_true_eq,List.all_eq_true] at a⊢;obtain⟨⟨aK,a2,a3⟩,a4⟩:=a;refine⟨⟨aK,by rw[WK aI];exact a2,λx h=>a3 x ((WJ d c).1 h)⟩,?_⟩;have e:=F6 d c
 have:(p.parts.map fD).sum=((lY p.parts i P s).map fD).sum:=by
  conv=>lhs;rw[e]
  unfold lY;simp only[List.map_append,List.map_cons,List.sum_append,List.sum_cons];omega
 rw[<-this];exact a4
theorem Nd(a:b2 p=true)(c:p.parts[i]? =some x)(d:p.parts[i+1]? =some P):c9 1000 ⟨p.aR,lY p.parts i x P⟩:=(kR (II a c d)).mono O
theorem aeb(m:7100<=n)(o:c9 1000 p)(s: -1<=a/\a<=9):Dm n p a=some (q1 p a):=by
 unfold Dm;rw[be (n:=a+1) O];refine ab.eq (ab.aA (λz=>z= !j1 p a (a+1)) (λj e=>?_) λz q=>?_)
 ·refine aQ (λh=>e _ ?_) λh=>aQ (λd=>e _ ?_) λd=>ag (YD m o.sm a (a+1)) (e _ rfl)
  ·cases c:j1 p a (a+1) with
   |false=>rfl
   |true=>have:=uI c;omega
  cases c:j1 p a (a+1) with
  |false=>rfl
  |true=>have:=uI c;omega
 subst q;cases c:j1 p a (a+1) with
 |false=>
  refine bR (ab.some ?_);unfold q1;rw[a6 (by rw[c];simp)];rfl
 |true=>
  refine b5 ?_;obtain⟨i,w,l,rfl,k,d,x⟩:=H3 c;rw[IH c k d,show((i:Int)+1)=((i+1:Nat):Int) by omega];refine ag (qN O (uI c).1) (ag (bk d) (ag (bk k) (ag (dJ O _) ?_)));rw[c3];have r:(p.parts.set i l)[i+1]? =some l:=by rw[jj O];exact d
  refine ag (bk r) (ag (dJ (by rw[eV];omega) _) (ab.some ?_));rw[c3,WI k d]
theorem afu(m:7100<=n)(e:c9 1000 p)(q: -1<=a/\a<=9):C4 n p a=some (q1 p a):=by
 unfold C4;rw[be (n:=a+1) O];refine ab.eq (ag (kB O e) (ag (XM m e.sm a (a+1)) ?_));cases h:j1 p a (a+1) with
 |false=>
  refine bR (ab.some ?_);unfold q1;rw[a6 (by rw[h];simp)];rfl
 |true=>
  refine b5 ?_;obtain⟨i,k,l,rfl,c,d,r⟩:=H3 h;have bI:=(uI h).1;have o:=e.2.1;rw[IH h c d,show((i:Int)+1)=((i+1:Nat):Int) by omega];refine ag (bk d) (ag (bk c) (ag (x:=(⟨p.aR,lY p.parts i k l⟩,true)) (ab.eq ?_) (ab.some rfl)));unfold ju;refine ag (nb O e) (ag (hG O O O) ?_);rw[c3,show(0:Int).toNat=0 from rfl,oC];refine ag (x:=p.parts.take i) (cY bQ) (ag (x:=p.parts.take i++[l,k]) (cY bQ) ?_);rw[be O];refine ag (hG O O O) ?_;rw[c3,c6,show((i:Int)+2).toNat=i+2 by omega];refine ag (x:=lY p.parts i k l) ?_ (ag (jR O (Nd bI c d).sm) ?_)
  ·rw[cY bQ,ih];rfl
  rw[II bI c d];exact b5 (ag (nb O (Nd bI c d)) (ab.some rfl))
theorem Og{p:Prog}(c:b2 p=true){x:cx}(i:gn p x): ∀{Y:List cx} {m:List Int},(∀y∈Y,gn p y)->(∀y∈Y,G0 p x y)->rQ p.aR m->mz p (iL p m x) Y=iL p (mz p m Y) x
 | [],m,_,_,_=>rfl
 |y::Y,m,d,e,h=>by show mz p (iL p (iL p m x) y) Y=iL p (mz p (iL p m y) Y) x;rw[e y eU m h];exact Og c i (λz a=>d z (ey _ a)) (λz a=>e z (ey _ a)) (M1 c h (d y eU))
theorem block{p:Prog}(a:b2 p=true): ∀{X Y:List cx} {m:List Int},(∀x∈X,gn p x)->(∀y∈Y,gn p y)->(∀x∈X,∀y∈Y,G0 p x y)->rQ p.aR m->mz p (mz p m X) Y=mz p (mz p m Y) X
 | [],Y,m,_,_,_,_=>rfl
 |x::X,Y,m,c,e,h,i=>by show mz p (mz p (iL p m x) X) Y=mz p (iL p (mz p m Y) x) X;rw[block a (λz d=>c z (ey _ d)) e (λz d=>h z (ey _ d)) (M1 a i (c x eU)),Og a (c x eU) e (h x eU) i]
def nR(a b:Loop):Bool:=pQ a.bf b.bf&&pQ a.aI b.aI
def pV(a b:List Loop):Bool:=kF nR a b
theorem Tr(d:5000<=n){a b:List Loop}(c:pZ a):sH n a b=some (pV a b):=by unfold sH Ca;refine ab.eq (ag (Fg (p:=nR) (f:=λk l=>uT n k l) (λx h y _=>?_) (by have:=c.1;omega) (by have:=c.1;omega)) (ab.some rfl));unfold uT nR;refine ab.eq (ab.aA (λz=>z=(pQ x.bf y.bf&&pQ x.aI y.aI)) (λj i=>ag (JB d (c.2 x h).1) (ab.cond (λe=>ag (JB d (c.2 x h).2) (i _ (by rw[e];rfl))) λe=>i _ (by rw[e];rfl))) λz m=>ab.some m)
theorem SA(m:5000<=n){a b:List Loop}(o:pZ a):DI n a b=some (pV a b):=by
 unfold DI pV;have cD:=o.1;refine ab.eq (eS (λh=>ab.some ?_) λh=>?_)
 ·cases c:kF nR a b with
  |false=>rfl
  |true=>exact bB (by rw[E3 c]) h
 refine ab.loop (λx:Int=> ∃i:Nat,x=i/\i<=a.length/\kF nR (a.drop i) (b.drop i)=kF nR a b) (λx=>a.length-x.toNat) ?_ n 0 ⟨0,rfl,O,rfl⟩ O;rintro k x ⟨i,rfl,G,c⟩ y;refine aQ (λA=>?_) λB=>ab.some ?_
 ·have p:i<a.length:=O
  have q:i<b.length:=O
  have d:=bs p;have l:=bs q;have r:=o.2 _ (bE d);rw[lg p,lg q] at c;simp only[kF] at c;refine ab.aA (λz=>z= !nR a[i] b[i]) (λj s=>?_) λz C=>?_
  ·refine ag (bk d) (ag (bk l) (ag (Jz m r.1) (ab.cond (λe=>s _ ?_) λe=>ag (Jz m r.2) (s _ ?_))))
   ·unfold nR;rw[sI e];rfl
   unfold nR;rw[qM e];rfl
  subst C;cases w:nR a[i] b[i] with
  |false=>rw[w] at c;exact bR (ab.some c)
  |true=>
   rw[w,fe] at c;refine b5 ?_;rw[be O];exact y _ ⟨i+1,O,O,c⟩ O
 have D:a.drop i=[]:=kJ O;have F:b.drop i=[]:=kJ O;rw[D,F] at c;exact c
def ir:List Int->List Int->Bool
 |a::as,b::c=>if a=b then ir as c else decide (a<b)
 | [],_::_=>true
 |_,[]=>false
theorem Mc{p:List Int}(B:p.length<n)(C:p.length<=1000)(D:q.length<=1000):yP n p q=some (ir p q):=by
 unfold yP;refine ab.eq (ab.loop (λx:Int=> ∃i:Nat,x=i/\i<=p.length/\i<=q.length/\ir (p.drop i) (q.drop i)=ir p q) (λx=>p.length-x.toNat) ?_ n 0 ⟨0,rfl,O,O,rfl⟩ O);rintro c x ⟨i,rfl,F,G,a⟩ o;refine ab.aA (λz=>z=decide (i<p.length/\i<q.length)) (λj m=>aQ (λh=>m _ ?_) λh=>m _ ?_) λz r=>?_
 ·rw[e8];simp only[decide_eq_true_eq];omega
 ·exact(bu O).symm
 subst r;refine aQ (λh=>?_) λh=>ab.some ?_
 ·have d:=bs h.1;have k:=bs h.2;rw[lg h.1,lg h.2] at a;simp only[ir] at a;refine ag (bk d) (ag (bk k) (eS (λl=>ab.some ?_) λs=>?_))
  ·rw[a6 l] at a;exact a
  rw[a1 s] at a;rw[be O];exact o _ ⟨i+1,O,O,O,a⟩ O
 rw[<-a];by_cases e:i<p.length
 ·have w:q.drop i=[]:=kJ O;rw[w,lg e];simp only[ir];exact bu O
 have y:p.drop i=[]:=kJ O;rw[y];by_cases A:i<q.length
 ·rw[lg A];simp only[ir];exact bA O
 rw[kJ (O:q.length<=i)];simp only[ir];exact bu O
theorem Vy(n:Nat)(x y:Int):B4 n x y=some (if x<y then-1 else if y<x then 1 else 0):=by
 unfold B4 Ci;simp only[Option.bind,decide_true,Bool.not_true,cond_false];by_cases h:x<y
 ·rw[bA h,a1 h];rfl
 rw[bu h,a6 h];by_cases a:y<x
 ·rw[bA a,a1 a];rfl
 rw[bu a,a6 a];rfl
theorem YF{p:List Int}(D:p.length<n)(F:p.length<=1000)(G:q.length<=1000):zy n p q=some (ir p q):=by
 unfold zy I6;refine ab.eq (cc (P:=λc:Int=>decide (c<0)=ir p q) ?_ λc y=>ab.some y);refine ab.loop (λx:Int=> ∃i:Nat,x=i/\i<=p.length/\i<=q.length/\ir (p.drop i) (q.drop i)=ir p q) (λx=>p.length-x.toNat) ?_ n 0 ⟨0,rfl,O,O,rfl⟩ O;rintro k x ⟨i,rfl,H,I,a⟩ z;refine aQ (λA=>?_) λB=>?_
 ·have e:i<p.length:=O
  have l:=bs e;refine ag (bk l) (aQ (λh=>ab.some ?_) λh=>?_)
  ·rw[<-a,kJ (O:q.length<=i),lg e];simp[ir]
  have s:i<q.length:=O
  have m:=bs s;rw[lg e,lg s] at a;simp only[ir] at a;refine ag (bk m) (ag (Vy n _ _) ?_);by_cases d:p[i]<q[i]
  ·rw[a1 d];refine eS (λ_=>ab.some ?_) λo=>bB o O;rw[a6 O] at a;rw[<-a,bA d];rfl
  rw[a6 d];by_cases w:q[i]<p[i]
  ·rw[a1 w];refine eS (λ_=>ab.some ?_) λo=>bB o O;rw[a6 O] at a;rw[<-a,bu d];rfl
  rw[a6 w];refine eS (λr=>bB rfl r) λ_=>?_;rw[a1 O] at a;rw[be O];exact z _ ⟨i+1,O,O,O,a⟩ O
 have C:p.drop i=[]:=kJ O;rw[C] at a;refine aQ (λh=>ab.some ?_) λh=>ab.some ?_
 ·rw[<-a,lg (O:i<q.length)];rfl
 rw[<-a,kJ (O:q.length<=i)];rfl
def kQ(p:Prog)(i many:Nat)(a:List Part):Prog:=⟨p.aR,p.parts.take i++a++p.parts.drop (i+many)⟩
theorem AE(a:c9 900 p)(k:ys.length<=4)(d: ∀y∈ys,fx 1000 y):c9 1000 (kQ p i many ys):=by
 have e:=a.2.1;refine⟨(a.mono (O:900<=1000)).1,?_,λx c=>?_⟩
 ·show(p.parts.take i++ys++p.parts.drop (i+many)).length<=1000;simp only[List.length_append,List.length_take,List.length_drop];omega
 have c:x∈p.parts.take i++ys++p.parts.drop (i+many):=c;simp only[List.mem_append] at c;rcases c with (h|h)|h
 ·exact(a.mono (O:900<=1000)).2.2 x (ga h)
 ·exact d x h
 exact(a.mono (O:900<=1000)).2.2 x (e7 h)
theorem Fb(e:7000<=n)(a:c9 900 p)(o:i+many<=p.parts.length)(k:ys.length<=4)(l: ∀y∈ys,fx 1000 y):ju n p (i:Int) (many:Int) ys=some (hE (kQ p i many ys)):=by
 have m:=a.2.1;have c:=a.mono (O:900<=1000);have d:=AE a (i:=i) (many:=many) k l;unfold ju hE;refine ab.eq (ag (nb O c) (ag (hG O O O) ?_));rw[c3,show(0:Int).toNat=0 from rfl,oC];refine ag (x:=p.parts.take i) (cY bQ) (ag (x:=p.parts.take i++ys) (cY bQ) ?_);rw[be O];refine ag (hG O O O) ?_;rw[c3,c6,show((i:Int)+(many:Int)).toNat=i+many by omega];refine ag (x:=(kQ p i many ys).parts) ?_ ?_;rotate_left;show ab (Option.bind (kp n (kQ p i many ys)) _) _;refine(ag (jR e d.sm) (ab.cond (λh=>ab.some ?_) λh=>?_))
 ·rw[a6 (by simpa using h)]
 ·rw[a1 (by simpa using h)];exact ag (nb O d) (ab.some rfl)
 rw[cY bQ];rfl
def mX(p:Prog)(c:Int)(d:fJ):Bool:=match (bz p.parts)[d.eC.toNat]?,(bz p.parts)[d.eE.toNat]? with
 |some a,some b=>decide (a.part=c)&&(decide (b.part=c+1)&&ir b.cK a.cK)
 |_,_=>false
def rN(a c:Part):Part:=⟨a.nest,a.body++c.body⟩
abbrev nN(p:Prog):List fJ:=fY p (bz p.parts) (bz p.parts).length
def GQ(p:Prog)(a:Int)(c d:Part):Bool:=pV c.nest d.nest&& !(nN p).any (mX p a)
def uk(p:Prog)(a:Int):Prog×Bool:=
 if b2 p=true/\ef p a=true then
  (match au p.parts a,au p.parts (a+1) with
  |some c,some d=>if GQ p a c d=true then hE (kQ p a.toNat 2 [rN c d]) else ea
  |_,_=>ea)
 else ea
theorem AM(c:b2 p=true){d:fJ}(i:d∈nN p): ∃(s t:Nat) (a b:cx),d.eC=s/\d.eE=t/\(bz p.parts)[s]? =some a/\(bz p.parts)[t]? =some b/\s<t/\a.cK.length<=4/\b.cK.length<=4:=by obtain⟨s,t,k,l,_,rfl⟩:=MM.1 i;have e:=bs (O:s<(bz p.parts).length);have h:=bs l;exact⟨s,t,_,_,rfl,rfl,e,h,k,P2 c (iF (bE e)),P2 c (iF (bE h))⟩
theorem zB(c:b2 p=true):(nN p).length<=14400:=by have d:=yV p (bz p.parts) (bz p.parts).length;have a:=(eA c).2.2.2.2;have e:(bz p.parts).length*(bz p.parts).length<=120*120:=nA a a;exact gw d e
theorem zG(m:7000<=n)(i:c9 1000 p)(a:Int):jZ n p a (-1)=some (if b2 p=true/\ef p a=true then(p,true) else ea):=by
 unfold jZ;refine ab.eq (ab.aA (λz=>z= !(b2 p&&ef p a)) (λj d=>?_) λz o=>?_)
 ·refine ag (r0 m i.sm) (ab.cond (λh=>d _ (by rw[sI h];rfl)) λh=>?_);have bI:=qM h;refine ag (qD n i.2.1 a) (ab.cond (λe=>d _ ?_) λe=>eS (λh=>(h rfl).elim) λ_=>d _ ?_)
  ·rw[bI,show ef p a=false from sI e];rfl
  rw[bI,show ef p a=true from qM e];rfl
 subst o;refine ab.cond (λh=>ab.some ?_) λh=>?_
 ·have:=sI h;rw[a6 λk=>by rw[k.1,k.2] at this;cases this];rfl
 have:=qM h;simp only[Bool.and_eq_true] at this;obtain⟨bI,l⟩:=this;rw[a1 ⟨bI,l⟩];have c:0<=a/\a<(p.parts.length:Int):=e6 l;obtain⟨x,q,_⟩:=gq c.1 c.2;exact ag (qN O bI) (ag q (ab.some rfl))
theorem Zm{s:List Part}{j:Nat}(c:i<j)(d:j<=s.length): ∃r,uM n s (i:Int) (j:Int)=some r/\r.2.take r.1=s.take i++s.drop j:=by
 refine⟨(eL s i j,jP s i j (⟨[],[]⟩:Part)),?_,?_⟩
 ·unfold uM;rw[bA (show(0:Int)<=(i:Int) by omega),bA (show(i:Int)<=(j:Int) by omega),bA (show(j:Int)<=(s.length:Int) by omega),bu (show¬(i:Int)=(j:Int) by omega)];rfl
 dsimp only;have a:(s.take (i:Int).toNat++s.drop (j:Int).toNat).length=eL s i j:=by
  unfold eL;simp only[List.length_append,List.length_take,List.length_drop];omega
 unfold jP;rw[pE (by rw[a];exact cO _),ji (l:=s.take (i:Int).toNat++s.drop (j:Int).toNat) (by rw[a];exact cO _),c3,c3]
theorem Mu(c:b2 p=true)(d:x∈p.parts)(e:P∈p.parts):fx 1000 (rN x P):=by
 obtain⟨_,_,a⟩:=kR c;obtain⟨aK,a2,a3⟩:=a x d;obtain⟨l,m,i⟩:=a P e;refine⟨aK.mono O,?_,λs k=>?_⟩
 ·show(x.body++P.body).length<=1000;rw[dD];omega
 rcases dZ.1 (show s∈x.body++P.body from k) with h|h
 ·exact(a3 s h).mono O
 exact(i s h).mono O
theorem ad6(cH:20000<=n)(H:c9 1000 p)(a': -1<=c/\c<=9):v6 n p c=some (uk p c):=by
 unfold v6 uk;refine ab.eq (ag (zG O H c) ?_);by_cases A:b2 p=true/\ef p c=true
 ·rw[a1 A,a1 A];obtain⟨o,S⟩:=A;have T:0<=c/\c<(p.parts.length:Int):=e6 S;obtain⟨i,rfl⟩: ∃i:Nat,c=i:=⟨c.toNat,O⟩
  have e:=bs (O:i<p.parts.length);have I:=bk e;generalize V:p.parts[i]=l at I e;have BQ:=(eA o).2.2.1;refine bR (ag I ?_);rw[be (n:=(i:Int)+1) O,be (n:=(i:Int)+2) O,I];by_cases B:i+1<p.parts.length
  ·have w:=bs B;generalize af3:p.parts[i+1]=m at w;have K:au p.parts ((i:Int)+1)=some m:=bk w;have m1:=bE e;have f:=bE w;rw[K];dsimp only;refine ab.aA (λz=>z= !pV l.nest m.nest) (λj q=>aQ (λh=>bB h O) λ_=>ag rfl (ag (Tr O (H.sm.2.2 l m1).1) (q _ rfl))) λz C=>?_;subst C;unfold GQ;cases hne:pV l.nest m.nest with
   |false=>exact bR (ab.some rfl)
   |true=>
    refine b5 (ag (yt O H.sm) ?_);rw[a1 o];refine bR (ag (EV O o) ?_);have L:=zB o;have Q: ∀d∈nN p,d∈nN p:=λ_ h=>h;show ab (bo _ n 0) _;rw[fe];generalize g:nN p=D at L Q;rw[show fY p (bz p.parts) (bz p.parts).length=D from g];refine ab.loop (λx:Int=> ∃k:Nat,x=k/\k<=D.length/\(D.take k).any (mX p (i:Int))=false) (λx=>D.length-x.toNat) ?_ n 0 ⟨0,rfl,O,rfl⟩ O;rintro R x ⟨k,rfl,hk,U⟩ b7;refine aQ (λhlt=>?_) λiD=>?_
    ·have cv:=bs (O:k<D.length);generalize Hp:D[k]=d at cv;obtain⟨s,t,a,b,u,v,E,M,o6,Ia,Ie⟩:=AM o (g▸bE cv);refine ag (bk cv) (ag (x:=a) (by rw[u];exact bk E) (ag (x:=b) (by rw[v];exact bk M) ?_));have F:mX p (i:Int) d=(decide (a.part=(i:Int))&&(decide (b.part=(i:Int)+1)&&ir b.cK a.cK)):=by
      unfold mX;rw[u,v,Int.toNat_natCast,Int.toNat_natCast,E,M]
     refine ab.aA (λz=>z=mX p (i:Int) d) (λj q=>?_) λz C=>?_
     ·rw[F] at q;refine aQ (λG=>aQ (λB=>ag (YF O O O) (q _ ?_)) λB=>q _ ?_) λG=>q _ ?_
      ·rw[bA G,bA B];rfl
      ·rw[bA G,bu B];rfl
      rw[bu G];rfl
     subst C;refine ab.cond (λh=>ab.some ?_) λh=>?_
     ·rw[a6]; · rfl
      have:D.any (mX p (i:Int))=true:=ij.2 ⟨d,bE cv,h⟩;rw[this];simp
     rw[be O];exact b7 _ ⟨k+1,O,O,by rw[gh cv,s6,U];simp[h]⟩ O
    rw[ji O] at U;rw[U,a1 (by rfl)];have di:=AE (i:=i) (many:=2) (ys:=[rN l m]) ((kR o).mono (O:4<=900)) aW λy N=>by rw[mK] at N;subst N;exact Mu o m1 f
    obtain⟨_,_,P⟩:=kR o;have cU:=(P l m1).2.1;have cu:=(P m f).2.1;obtain⟨r,W,X⟩:=Zm (n:=n) (s:=p.parts.set i (rN l m)) (i:=i+1) (j:=i+2) O (by rw[eV];omega);refine ag rfl (ag (x:=l.body++m.body) (cY O) (ag (x:=p.parts.set i (rN l m)) (dJ O _) (ag (x:=r) W ?_)));have Y:(⟨p.aR,r.2.take r.1⟩:Prog)=kQ p i 2 [rN l m]:=by
     unfold kQ;rw[X];congr 1;rw[List.take_set,pK O,ek,e,mH _ _ (by rw[cL];omega)]
     have:i-(p.parts.take i).length=0:=by rw[cL];omega
     rw[this];rfl
    rw[Y,c3];exact ag (qE O di) (ab.some rfl)
  have K:au p.parts ((i:Int)+1)=none:=wV O;rw[K];refine ab.aA (λz=>z=true) (λj q=>aQ (λ_=>q _ rfl) λh=>bB (show(p.parts.length:Int)<=(i:Int)+1 by omega) h) λz C=>?_;rw[C];exact bR (ab.some rfl)
 rw[a6 A,a6 A];exact b5 (ab.some rfl)
theorem afo(cH:20000<=n)(A:c9 1000 p)(a': -1<=c/\c<=9):Dg n p c=some (uk p c):=by
 unfold Dg uk;refine ab.eq (ag (kB O A) ?_);by_cases F:b2 p=true/\ef p c=true
 ·rw[a1 F];obtain⟨e,R⟩:=F;have M:0<=c/\c<(p.parts.length:Int):=e6 R;obtain⟨i,rfl⟩: ∃i:Nat,c=i:=⟨c.toNat,O⟩
  have m:=bs (O:i<p.parts.length);have U:=bk m;generalize N:p.parts[i]=o at U m;have H:=(eA e).2.2.1;rw[be (n:=(i:Int)+1) O,be (n:=(p.parts.length:Int)-1) O,U];by_cases q:i+1<p.parts.length
  ·have r:=bs q;generalize P:p.parts[i+1]=B at r;have I:au p.parts ((i:Int)+1)=some B:=bk r;have m1:=bE m;have W:=bE r;rw[I];dsimp only;refine ab.aA (λz=>z= !pV o.nest B.nest) (λj l=>ag (jR O A.sm) ?_) λz w=>?_
   ·rw[e];refine b5 (aQ (λh=>bB h O) λ_=>aQ (λh=>bB h O) λ_=>ag rfl (ag rfl (ag (SA O (A.sm.2.2 o m1).1) (l _ rfl))))
   subst w;unfold GQ;cases S:pV o.nest B.nest with
   |false=>exact bR (ab.some rfl)
   |true=>
    refine b5 (ag (uG O e) (ag (E6 O e) ?_));have K:=zB e;rw[fe];generalize X:nN p=D at K;rw[show fY p (bz p.parts) (bz p.parts).length=D from X];refine ab.loop (λx:Int=> ∃k:Nat,x=k/\k<=D.length/\(D.take k).any (mX p (i:Int))=false) (λx=>D.length-x.toNat) ?_ n 0 ⟨0,rfl,O,rfl⟩ O;rintro L x ⟨k,rfl,hk,Q⟩ T;refine aQ (λV=>?_) λiD=>?_
    ·have cv:=bs (O:k<D.length);generalize Hp:D[k]=d at cv;obtain⟨s,t,a,b,Y,f,g,u,o6,Ia,Ie⟩:=AM e (X▸bE cv);refine ag (bk cv) (ag (x:=a) (by rw[Y];exact bk g) (ag (x:=b) (by rw[f];exact bk u) ?_));have C:mX p (i:Int) d=(decide (a.part=(i:Int))&&(decide (b.part=(i:Int)+1)&&ir b.cK a.cK)):=by
      unfold mX;rw[Y,f,Int.toNat_natCast,Int.toNat_natCast,g,u]
     refine ab.aA (λz=>z=mX p (i:Int) d) (λj l=>?_) λz w=>?_
     ·rw[C] at l;refine aQ (λG=>aQ (λq=>ag (Mc O O O) (l _ ?_)) λq=>l _ ?_) λG=>l _ ?_
      ·rw[bA G,bA q];rfl
      ·rw[bA G,bu q];rfl
      rw[bu G];rfl
     subst w;refine ab.cond (λh=>ab.some ?_) λh=>?_
     ·rw[a6]; · rfl
      have:D.any (mX p (i:Int))=true:=ij.2 ⟨d,bE cv,h⟩;rw[this];simp
     rw[be O];exact T _ ⟨k+1,O,O,by rw[gh cv,s6,Q];simp[h]⟩ O
    rw[ji O] at Q;rw[Q,a1 (by rfl)];obtain⟨_,_,v⟩:=kR e;have cU:=(v o m1).2.1;have cu:=(v B W).2.1;refine ag rfl (ag (x:=o.body) (cY bQ) (ag rfl (ag (x:=o.body++B.body) (cY O) ?_)));have hw:=Fb (n:=n) O ((kR e).mono (O:4<=900)) (i:=i) (many:=2) O (ys:=[rN o B]) aW λy E=>by rw[mK] at E;subst E;exact Mu e m1 W
    rw[c3];exact ag hw (ab.some rfl)
  have I:au p.parts ((i:Int)+1)=none:=wV O;rw[I];refine ab.aA (λz=>z=true) (λj l=>ag (jR O A.sm) ?_) λz w=>?_
  ·rw[e];exact b5 (aQ (λh=>bB h O) λ_=>aQ (λ_=>l _ rfl) λh=>bB (show(p.parts.length:Int)-1<=(i:Int) by omega) h)
  rw[w];exact bR (ab.some rfl)
 rw[a6 F];refine ab.aA (λz=>z=true) (λj l=>ag (jR O A.sm) ?_) λz w=>by rw[w];exact bR (ab.some rfl)
 by_cases e:b2 p=true
 ·have R: ¬(0<=c/\c<(p.parts.length:Int)):=λh=>F ⟨e,bA h⟩;rw[e];have H:=A.2.1;rw[be (n:=(p.parts.length:Int)-1) O];exact b5 (aQ (λ_=>l _ rfl) λh=>aQ (λ_=>l _ rfl) λq=>bB (show(p.parts.length:Int)-1<=c by omega) q)
 rw[show b2 p=false by simpa using e];exact bR (l _ rfl)
def mV(p:Prog)(c k:Int)(d:fJ):Bool:=match (bz p.parts)[d.eC.toNat]?,(bz p.parts)[d.eE.toNat]? with
 |some a,some b=>decide (a.part=c)&&(decide (b.part=c)&&(decide (k<=a.stmt)&&decide (b.stmt<k)))
 |_,_=>false
def GA(p:Prog)(a k:Int)(P:Part):Bool:=decide (1<=k/\k<(P.body.length:Int))&& !(nN p).any (mV p a k)
def nJ(P:Part)(k:Nat):Part:=⟨P.nest,P.body.take k⟩
def rP(P:Part)(k:Nat):Part:=⟨P.nest,P.body.drop k⟩
def uh(p:Prog)(a k:Int):Prog×Bool:=
 if b2 p=true/\ef p a=true then
  (match au p.parts a with
  |some P=>if GA p a k P=true then hE (kQ p a.toNat 1 [nJ P k.toNat,rP P k.toNat]) else ea
  |none=>ea)
 else ea
theorem MD(d:b2 p=true)(e:P∈p.parts)(k:Nat): ∀y∈[nJ P k,rP P k],fx 1000 y:=by
 obtain⟨_,_,h⟩:=kR d;obtain⟨aK,a2,a3⟩:=h P e;intro y c;simp only[List.mem_cons,List.not_mem_nil,or_false] at c;rcases c with rfl|rfl
 ·refine⟨aK.mono O,?_,λs a=>(a3 s (ga a)).mono O⟩;show(P.body.take k).length<=1000;rw[cL];omega
 refine⟨aK.mono O,?_,λs a=>(a3 s (e7 a)).mono O⟩;show(P.body.drop k).length<=1000;rw[fq];omega
theorem NK{s:List Part}{v:List Part}(a:i<=s.length)(c:s.length+v.length<=1000000000):uK n s (i:Int) v=some (s.take i++v++s.drop i):=by unfold uK;rw[bA (show(0:Int)<=(i:Int) by omega),bA (show(i:Int)<=(s.length:Int) by omega),cond_true,cond_true,c3];exact cY (by simp only[List.length_append,List.length_take,List.length_drop];omega)
theorem ad5(cH:20000<=n)(W:c9 1000 p){k:Int}(a': -1<=c/\c<=9):Cf n p c k=some (uh p c k):=by
 unfold Cf uh;refine ab.eq (ag (zG O W c) ?_);by_cases o:b2 p=true/\ef p c=true
 ·rw[a1 o,a1 o];obtain⟨l,M⟩:=o;have N:0<=c/\c<(p.parts.length:Int):=e6 M;obtain⟨i,rfl⟩: ∃i:Nat,c=i:=⟨c.toNat,O⟩
  have e:=bs (O:i<p.parts.length);have y:=bk e;generalize S:p.parts[i]=P at y e;have T:=(eA l).2.2.1;have m1:=bE e;have r:=(eA l).2.2.2.1 P m1;obtain⟨A,B⟩:=hZ r;obtain⟨_,V,Pv,_⟩:=gk r;refine bR (ag y ?_);rw[be (n:=(i:Int)+1) O,be (n:=(P.body.length:Int)-1) O,y];dsimp only;refine ab.aA (λz=>z= !decide (1<=k/\k<(P.body.length:Int))) (λj X=>ag (d5 n k 1 _) (X _ ?_)) λz C=>?_
  ·congr 1;rw[e8];simp only[decide_eq_true_eq];omega
  subst C;unfold GA;cases F:decide (1<=k/\k<(P.body.length:Int)) with
  |false=>exact bR (ab.some rfl)
  |true=>
   have hk:=e6 F;obtain⟨t,rfl⟩: ∃t:Nat,k=t:=⟨k.toNat,O⟩
   refine b5 (ag (yt O W.sm) ?_);rw[a1 l];refine bR (ag (EV O l) ?_);have G:=zB l;show ab (bo _ n 0) _;rw[fe];generalize Y:nN p=D at G;rw[show fY p (bz p.parts) (bz p.parts).length=D from Y];refine ab.loop (λx:Int=> ∃j:Nat,x=j/\j<=D.length/\(D.take j).any (mV p (i:Int) (t:Int))=false) (λx=>D.length-x.toNat) ?_ n 0 ⟨0,rfl,O,rfl⟩ O;rintro H x ⟨j,rfl,X,I⟩ b7;refine aQ (λhlt=>?_) λiD=>?_
   ·have cv:=bs (O:j<D.length);generalize Hp:D[j]=d at cv;obtain⟨s,u,a,b,f,g,v,E,o6,Ia,Ie⟩:=AM l (Y▸bE cv);refine ag (bk cv) (ag (x:=a) (by rw[f];exact bk v) (ag (x:=b) (by rw[g];exact bk E) ?_));have w:mV p (i:Int) (t:Int) d=(decide (a.part=(i:Int))&&(decide (b.part=(i:Int))&&(decide ((t:Int)<=a.stmt)&&decide (b.stmt<(t:Int))))):=by
     unfold mV;rw[f,g,Int.toNat_natCast,Int.toNat_natCast,v,E]
    refine ab.aA (λz=>z=mV p (i:Int) (t:Int) d) (λq m=>?_) λz C=>?_
    ·rw[w] at m;refine aQ (λK=>aQ (λL=>aQ (λQ=>m _ ?_) λQ=>m _ ?_) λL=>m _ ?_) λK=>m _ ?_
     ·rw[bA K,bA L,bA Q];simp
     ·rw[bu Q];simp
     ·rw[bu L];simp
     rw[bu K];rfl
    subst C;refine ab.cond (λh=>ab.some ?_) λh=>?_
    ·rw[a6]; · rfl
     have:D.any (mV p (i:Int) (t:Int))=true:=ij.2 ⟨d,bE cv,h⟩;rw[this];simp
    rw[be O];exact b7 _ ⟨j+1,O,O,by rw[gh cv,s6,I];simp[h]⟩ O
   rw[ji O] at I;rw[I,a1 (by rfl)];have m:=AE (i:=i) (many:=1) (ys:=[nJ P t,rP P t]) ((kR l).mono (O:4<=900)) aW (MD l m1 t);refine ag (KS O A B) (ag (hG O O O) ?_);rw[c3,c3,c6];refine ag (x:=P.body.drop t) ?_ (ag (hG O O O) ?_)
   ·unfold Je
    have:(P.body.drop t).isEmpty=false:=by
     cases R:P.body.drop t with
     |nil=>
      have:=congrArg List.length R;rw[fq,List.length_nil] at this;omega
     |cons=>rfl
    rw[this,cond_false];rw[cY bQ];rfl
   rw[c3,show(0:Int).toNat=0 from rfl,oC];refine ag (x:=p.parts.set i (nJ P t)) (dJ O _) (ag (NK (i:=i+1) (by rw[eV];omega) (by rw[eV];simp;omega)) ?_);have U:(⟨p.aR,(p.parts.set i (nJ P t)).take (i+1)++[rP P t]++(p.parts.set i (nJ P t)).drop (i+1)⟩:Prog)=kQ p i 1 [nJ P t,rP P t]:=by
    unfold kQ;congr 1;rw[List.take_set,pK O,ek,e,mH _ _ (by rw[cL];omega)]
    have:i-(p.parts.take i).length=0:=by rw[cL];omega
    rw[this];simp
   show ab (Option.bind (lB n (⟨p.aR,(p.parts.set i (nJ P t)).take (i+1)++[rP P t]++(p.parts.set i (nJ P t)).drop (i+1)⟩:Prog)) _) _;rw[U];simp only[Int.toNat_natCast];exact ag (qE O m) (ab.some rfl)
 rw[a6 o,a6 o];exact b5 (ab.some rfl)
theorem afn(cH:20000<=n)(B:c9 1000 p){k:Int}(a': -1<=c/\c<=9):B3 n p c k=some (uh p c k):=by
 unfold B3 uh;refine ab.eq (ag (kB O B) ?_);by_cases A:b2 p=true/\ef p c=true
 ·rw[a1 A];obtain⟨e,Q⟩:=A;have g:0<=c/\c<(p.parts.length:Int):=e6 Q;obtain⟨i,rfl⟩: ∃i:Nat,c=i:=⟨c.toNat,O⟩
  have l:=bs (O:i<p.parts.length);have R:=bk l;generalize v:p.parts[i]=P at R l;have E:=(eA e).2.2.1;have m1:=bE l;have C:=(eA e).2.2.2.1 P m1;obtain⟨_,M,N,_⟩:=gk C;rw[R];dsimp only;refine ab.aA (λz=>z= !decide (1<=k/\k<(P.body.length:Int))) (λj m=>ag (jR O B.sm) ?_) λz o=>?_
  ·rw[e];refine b5 (aQ (λh=>bB h O) λ_=>aQ (λh=>bB h O) λ_=>aQ (λh=>m _ ?_) λh=>ag rfl (m _ ?_))
   ·rw[bu O];rfl
   rw[e8];simp only[Bool.not_eq_true',decide_eq_true_eq,decide_eq_false_iff_not];omega
  subst o;unfold GA;cases F:decide (1<=k/\k<(P.body.length:Int)) with
  |false=>exact bR (ab.some rfl)
  |true=>
   have hk:=e6 F;obtain⟨t,rfl⟩: ∃t:Nat,k=t:=⟨k.toNat,O⟩
   refine b5 (ag (uG O e) (ag (E6 O e) ?_));have G:=zB e;rw[fe];generalize U:nN p=D at G;rw[show fY p (bz p.parts) (bz p.parts).length=D from U];refine ab.loop (λx:Int=> ∃j:Nat,x=j/\j<=D.length/\(D.take j).any (mV p (i:Int) (t:Int))=false) (λx=>D.length-x.toNat) ?_ n 0 ⟨0,rfl,O,rfl⟩ O;rintro H x ⟨j,rfl,m,I⟩ S;refine aQ (λT=>?_) λV=>?_
   ·have cv:=bs (O:j<D.length);generalize Hp:D[j]=d at cv;obtain⟨s,u,a,b,W,X,Y,f,o6,Ia,Ie⟩:=AM e (U▸bE cv);refine ag (bk cv) (ag (x:=a) (by rw[W];exact bk Y) (ag (x:=b) (by rw[X];exact bk f) ?_));have r:mV p (i:Int) (t:Int) d=(decide (a.part=(i:Int))&&(decide (b.part=(i:Int))&&(decide ((t:Int)<=a.stmt)&&decide (b.stmt<(t:Int))))):=by
     unfold mV;rw[W,X,Int.toNat_natCast,Int.toNat_natCast,Y,f]
    refine ab.aA (λz=>z=mV p (i:Int) (t:Int) d) (λq w=>?_) λz o=>?_
    ·rw[r] at w;refine aQ (λK=>aQ (λy=>aQ (λL=>w _ ?_) λL=>w _ ?_) λy=>w _ ?_) λK=>w _ ?_
     ·rw[bA K,bA y,bA L];simp
     ·rw[bu L];simp
     ·rw[bu y];simp
     rw[bu K];rfl
    subst o;refine ab.cond (λh=>ab.some ?_) λh=>?_
    ·rw[a6]; · rfl
     have:D.any (mV p (i:Int) (t:Int))=true:=ij.2 ⟨d,bE cv,h⟩;rw[this];simp
    rw[be O];exact S _ ⟨j+1,O,O,by rw[gh cv,s6,I];simp[h]⟩ O
   rw[ji O] at I;rw[I,a1 (by rfl)];refine ag rfl (ag (hG O O O) (ag (hG O O O) ?_));rw[c3,c3,c6,show(0:Int).toNat=0 from rfl,oC,c3];have hw:=Fb (n:=n) O ((kR e).mono (O:4<=900)) (i:=i) (many:=1) O (ys:=[nJ P t,rP P t]) aW (MD e m1 t);exact ag hw (ab.some rfl)
 rw[a6 A];refine ab.aA (λz=>z=true) (λj m=>ag (jR O B.sm) ?_) λz o=>by rw[o];exact bR (ab.some rfl)
 by_cases e:b2 p=true
 ·have Q: ¬(0<=c/\c<(p.parts.length:Int)):=λh=>A ⟨e,bA h⟩;rw[e];exact b5 (aQ (λ_=>m _ rfl) λh=>aQ (λ_=>m _ rfl) λy=>bB (show(p.parts.length:Int)<=c by omega) y)
 rw[show b2 p=false by simpa using e];exact bR (m _ rfl)
def jN(k:Nat)(x:ay):ay:=⟨(x.aT.take k++0::x.aT.drop k).take 4,x.const⟩
def fV(c:Int):ay:=⟨[0,0,0,0],c⟩
def mG(k:Nat)(s c:Int):ay:=⟨[0,0,0,0].set k s,c⟩
theorem NM(k:Nat): ∀x,cR x=true->dp 4 (jN k x):=λx a=>by unfold dp jN;rw[cL];omega
theorem Wu(l:5000<=n)(m:k<3): ∀x,cR x=true->uO n x (k:Int)=some (jN k x):=λx h=>by obtain⟨i,_,_⟩:=fM h;obtain⟨a,b,c,d,e⟩:=ma i;unfold uO;rw[zq n x h];obtain⟨cs,j2⟩:=x;dsimp only at e;subst e;rcases(O:k=0\/k=1\/k=2) with rfl|rfl|rfl<;>rfl
theorem aa7(m:Nat)(a b c d e:Int)(B:ay)(h:k<3):jv (m+6) ⟨[a,b,c,d],e⟩ 2 (k:Int) B=some (jN k ⟨[a,b,c,d],e⟩):=by rcases(O:k=0\/k=1\/k=2) with rfl|rfl|rfl<;>rfl
theorem XB(h:k<3)(B:ay): ∀n,5000<=n-> ∀x,cR x=true->jv n x 2 (k:Int) B=some (jN k x):=λn o x i=>by
 obtain⟨m,rfl⟩: ∃m,n=m+6:=⟨n-6,O⟩
 obtain⟨l,_,_⟩:=fM i;obtain⟨a,b,c,d,e⟩:=ma l;obtain⟨cs,j2⟩:=x;dsimp only at e;subst e;exact aa7 m a b c d j2 B h
def jE(l:List ay):Bool:=l.all λa=>decide (eI a.aT=0)
def eK(l:Loop):Bool:=decide (l.bf.length=1)&&(decide (l.aI.length=1)&&(jE l.bf&&jE l.aI))
def de(l:List ay):Int:=(l.headD ⟨[],0⟩).const
theorem KH(c:5000<=n){l:List ay}(i:l.length<=2)(d: ∀x∈l,cR x=true):yS n l=some (jE l):=by
 unfold yS;rw[xO (p:=λa=>decide (0<(eI a.aT:Int))) (λx e=>by
  unfold Dk;rw[DA c (show x.aT.length<=1000 by have:=(fM (d x e)).1;omega)];rfl) O O]
 show some (!l.any _)=_;congr 1;unfold jE;rw[List.not_any_eq_all_not];congr 1;funext a;by_cases h:eI a.aT=0
 ·simp[h]
 have:0<(eI a.aT:Int):=O
 simp[h];omega
theorem Fh(e:5000<=n)(h:kl l):uU n l=some (if eK l=true then(de l.bf,de l.aI,true) else(0,0,false)):=by
 obtain⟨⟨i,k⟩,m,o⟩:=h;unfold uU;refine ab.eq (ab.aA (λz=>z= !eK l) (λj a=>?_) λz p=>?_)
 ·refine eS (λh=>a _ ?_) λh=>eS (λq=>a _ ?_) λq=>ag (KH e i k) (ab.cond (λc=>a _ ?_) λc=>ag (KH e m o) (a _ ?_))
  ·unfold eK;rw[bu (show¬l.bf.length=1 by omega)];rfl
  ·unfold eK;rw[bu (show¬l.aI.length=1 by omega),Bool.false_and,jl];rfl
  ·unfold eK;rw[show jE l.bf=false by simpa using c];simp
  unfold eK;rw[show jE l.bf=true by simpa using c,bA (O:l.bf.length=1),bA (O:l.aI.length=1)];rfl
 subst p;cases d:eK l with
 |false=>exact bR (ab.some rfl)
 |true=>
  refine b5 ?_;unfold eK at d;simp only[Bool.and_eq_true,decide_eq_true_eq] at d;obtain⟨r,s,_⟩:=d;obtain⟨x,w⟩:=vp.1 r;obtain⟨y,A⟩:=vp.1 s;rw[w,A];exact ag (x:=x) rfl (ag (x:=y) rfl (ab.some rfl))
theorem ZH(w:5000<=n)(h:kl l):Ag n l=some (jE l.bf&&jE l.aI):=by
 obtain⟨⟨C,y⟩,D,A⟩:=h;have s: ∀x,cR x=true->oc n x=some (eI x.aT:Int):=λx c=>yn w (show x.aT.length<=1000 by have:=(fM c).1;omega);have k: ∀(l:List ay) (i:Nat) (x:ay),l[i]? =some x->eI x.aT=0->jE (l.take i)=true->jE (l.take (i+1))=true:=λl i x c m d=>by
  unfold jE at d⊢;rw[ek,c,List.all_append,d];simp[m]
 have p: ∀(l:List ay) (i:Nat) (x:ay),l[i]? =some x-> ¬eI x.aT=0->jE l=false:=λl i x c m=>by
  unfold jE;rw[jk];exact⟨x,bE c,by simp[m]⟩
 unfold Ag;refine ab.eq (ab.loop (λz:Int=> ∃i:Nat,z=i/\i<=l.bf.length/\jE (l.bf.take i)=true) (λz=>l.bf.length-z.toNat) ?_ n _ ⟨0,rfl,O,rfl⟩ O);rintro o z ⟨i,rfl,B,d⟩ q;refine aQ (λa=>?_) λr=>?_
 ·have a:i<l.bf.length:=O
  have c:=bs a;refine ag (bk c) (ag (s _ (y _ (fz a))) (aQ (λm=>ab.some ?_) λm=>?_))
  ·rw[p l.bf i _ c O];rfl
  rw[be O];exact q _ ⟨i+1,O,O,k _ _ _ c O d⟩ O
 have e:i=l.bf.length:=O
 subst e;rw[c6] at d;rw[d,fe];refine ab.loop (λz:Int=> ∃i:Nat,z=i/\i<=l.aI.length/\jE (l.aI.take i)=true) (λz=>l.aI.length-z.toNat) ?_ n _ ⟨0,rfl,O,rfl⟩ O;rintro o z ⟨i,rfl,B,d⟩ q;refine aQ (λa=>?_) λr=>ab.some ?_
 ·have a:i<l.aI.length:=O
  have c:=bs a;refine ag (bk c) (ag (s _ (A _ (fz a))) (aQ (λm=>ab.some ?_) λm=>?_))
  ·exact(p l.aI i _ c O).symm
  rw[be O];exact q _ ⟨i+1,O,O,k _ _ _ c O d⟩ O
 have e:i=l.aI.length:=O
 subst e;rw[c6] at d;exact d.symm
theorem EG(d:5000<=n)(h:kl l):vi n l=some (if eK l=true then(de l.bf,de l.aI,true) else(0,0,false)):=by
 unfold vi;refine ab.eq (ab.aA (λz=>z= !eK l) (λj a=>?_) λz e=>?_)
 ·refine eS (λi=>a _ ?_) λi=>eS (λk=>a _ ?_) λk=>ag (ZH d h) (a _ ?_)
  ·unfold eK;rw[bu (show¬l.bf.length=1 by omega)];rfl
  ·unfold eK;rw[bu (show¬l.aI.length=1 by omega),Bool.false_and,jl];rfl
  unfold eK;rw[bA (O:l.bf.length=1),bA (O:l.aI.length=1)];rfl
 subst e;cases c:eK l with
 |false=>exact bR (ab.some rfl)
 |true=>
  refine b5 ?_;unfold eK at c;simp only[Bool.and_eq_true,decide_eq_true_eq] at c;obtain⟨m,o,_⟩:=c;obtain⟨x,p⟩:=vp.1 m;obtain⟨y,q⟩:=vp.1 o;rw[p,q];exact ag (x:=x) rfl (ag (x:=y) rfl (ab.some rfl))
def p9(a c s:Int):Int:=Int.tdiv (max 0 (c-a)+s-1) s
def wJ(k:Nat)(s:Int)(P:Part)(l:Loop):Part:=
 ⟨P.nest.take k++(⟨[fV 0],[fV (p9 (de l.bf) (de l.aI) s)]⟩:Loop)::(⟨[fV (de l.bf),mG k s (de l.bf)],[fV (de l.aI),mG k s (de l.bf+s)]⟩:Loop)::(P.nest.drop (k+1)).map (d8 (jN k)),P.body.map (iq (jN k))⟩
def q0(p:Prog)(a c s:Int):Prog×Bool:=
 match au p.parts a with
 |some P=>match au P.nest c with
  |some l=>if cT p a c=true/\P.nest.length<4/\(1<=s/\s<=6)/\eK l=true then hE ⟨p.aR,p.parts.set a.toNat (wJ c.toNat s P l)⟩ else ea
  |none=>ea
 |none=>ea
theorem E1{b:Int}(h:cT p a b≠true):q0 p a b s=ea:=by
 unfold q0;split
 ·split
  ·rw[a6 λc=>h c.1]
  rfl
 rfl
theorem Lv(a:p.parts[i]? =some P)(c:P.nest[k]? =some l)(s:Int):
  q0 p (i:Int) (k:Int) s=if cT p (i:Int) (k:Int)=true/\P.nest.length<4/\(1<=s/\s<=6)/\eK l=true then hE ⟨p.aR,p.parts.set i (wJ k s P l)⟩ else ea:=by unfold q0;rw[bk a];dsimp only;rw[bk c];rfl
theorem Fi(h:kl l)(k:eK l=true): ∃a b,l=⟨[a],[b]⟩/\a=fV (de l.bf)/\b=fV (de l.aI)/\cJ 99 (de l.bf)/\cJ 99 (de l.aI):=by
 obtain⟨⟨o,n⟩,p,q⟩:=h;unfold eK at k;simp only[Bool.and_eq_true,decide_eq_true_eq] at k;obtain⟨r,s,w,A⟩:=k;obtain⟨bf,H⟩:=l;dsimp only at*;obtain⟨x,B⟩:=vp.1 r;obtain⟨y,C⟩:=vp.1 s;subst B;subst C;have m: ∀z:ay,cR z=true->jE [z]=true->z=fV z.const:=λz D k=>by
  obtain⟨F,_,_⟩:=fM D;obtain⟨a,b,c,d,e⟩:=ma F;obtain⟨cs,j2⟩:=z;dsimp only at e;subst e;unfold jE at k;simp only[List.all_cons,List.all_nil,Bool.and_true,decide_eq_true_eq] at k;have G:=yh (l:=[a,b,c,d]) (i:=0) rfl O;have o:=yh (l:=[a,b,c,d]) (i:=1) rfl O;have n:=yh (l:=[a,b,c,d]) (i:=2) rfl O;have p:=yh (l:=[a,b,c,d]) (i:=3) rfl O;rw[G,o,n,p];rfl
 exact⟨x,y,rfl,m x (n x aW) w,m y (q y aW) A,(fM (n x aW)).2.1,(fM (q y aW)).2.1⟩
theorem OL{x:Int}(d:cJ 99 c)(h:cJ 99 x)(i:1<=s/\s<=6):0<=p9 c x s/\p9 c x s<=198:=by
 unfold cJ at d h;unfold p9;rw[Int.tdiv_eq_ediv_of_nonneg O];refine⟨Int.ediv_nonneg O O,?_⟩;refine Int.le_trans (Int.ediv_le_ediv (a:=max 0 (x-c)+s-1) (b:=198*s) O ?_) (by rw[Int.mul_ediv_cancel _ O];omega)
 have:0<=(198-max 0 (x-c))*(s-1):=mM O O;have e:(198-max 0 (x-c))*(s-1)=198*s-198-max 0 (x-c)*(s-1):=by
  rw[Int.sub_mul,Int.mul_sub];omega
 have k:max 0 (x-c)*(s-1)≥0:=mM O O;rcases(O:s=1\/s=2\/s=3\/s=4\/s=5\/s=6) with rfl|rfl|rfl|rfl|rfl|rfl<;>omega
theorem Mq(i:ep r P=true)(w:P.nest.length<4)(x:k<P.nest.length)(s:Int):fx 4 (wJ k s P l):=by
 obtain⟨A,n⟩:=hZ i;obtain⟨_,o,p,_⟩:=gk i;refine⟨⟨by simp only[wJ,List.length_append,List.length_cons,List.length_map,List.length_take,List.length_drop];omega,λy e=>?_⟩,by simp only[wJ,List.length_map];exact o.2,λs q=>?_⟩
 ·have h: ∀c,dp 4 (fV c):=λc=>by unfold dp fV;simp
  have m: ∀s c,dp 4 (mG k s c):=λs c=>by unfold dp mG;simp
  rcases dZ.1 e with e|e
  ·exact((tG i).1.2 y (ga e))
  rcases dP.1 e with rfl|e
  ·exact⟨⟨aW,λa d=>by simp at d;subst d;exact h _⟩,aW,λa d=>by simp at d;subst d;exact h _⟩
  rcases dP.1 e with rfl|e
  ·exact⟨⟨aW,λa d=>by simp at d;rcases d with rfl|rfl;exact h _;exact m _ _⟩,aW,λa d=>by simp at d;rcases d with rfl|rfl;exact h _;exact m _ _⟩
  obtain⟨z,h,rfl⟩:=eM.1 e;exact wC (NM k) (n z (e7 h))
 obtain⟨z,h,rfl⟩:=eM.1 q;exact A7 (NM k) (p z h)
theorem LB(n:Nat)(a:k<4)(s:Int):nh n (k:Int) s=some (mG k s 0):=by rcases(O:k=0\/k=1\/k=2\/k=3) with rfl|rfl|rfl|rfl<;>rfl
theorem zD(n:Nat)(c:Int):pd n c=some (fV c):=rfl
theorem N7{b:Int}(c:cJ 99 a)(d:cJ 99 b)(e:1<=s/\s<=6):wr (Int.tdiv (wr ((wr ((max 0 (wr (b-a)))+s))-1)) s)=p9 a b s:=by obtain⟨h,i⟩:=OL c d e;unfold cJ at c d;rw[be (n:=b-a) O,be (n:=max 0 (b-a)+s) O,be (n:=max 0 (b-a)+s-1) O];exact be (by unfold p9 at h i;omega)
theorem aa0{l:List Loop}(a:k<=l.length)(c:l.length<=1000)(v:Loop):uL n l (k:Int) [v]=some (l.take k++[v]++l.drop k):=by unfold uL;rw[bA (show(0:Int)<=(k:Int) by omega),bA (show(k:Int)<=(l.length:Int) by omega)];rw[c3];exact cY bQ
theorem aea(G:7000<=n)(H:c9 1000 p)(c d s:Int):Dn n p c d s=some (q0 p c d s):=by
 unfold Dn;by_cases m:d= -1
 ·subst m;rw[E1 (by rw[qP O];simp)];refine ab.eq (ag (zG G H c) ?_);by_cases I:b2 p=true/\ef p c=true
  ·rw[a1 I];have aI:=I.2;unfold ef at aI;simp only[decide_eq_true_eq] at aI;obtain⟨x,f,_⟩:=gq aI.1 aI.2;exact bR (ag f (ab.aA (λz=>z=true) (λj D=>aQ (λ_=>D _ rfl) λh=>bB (show(-1:Int)<0 by omega) h) λz K=>by rw[K];exact bR (ab.some rfl)))
  rw[a6 I];exact b5 (ab.some rfl)
 refine ab.eq (ag (wj G H c d m) ?_);by_cases q:cT p c d=true
 ·rw[a1 q];obtain⟨bI,i,k,P,l,rfl,rfl,W,r,aI,L,o,X⟩:=j4 q;obtain⟨g,Y⟩:=hZ o;obtain⟨_,t,u,_⟩:=gk o;have w:=Y l (bE r);rw[Lv W r];refine bR (ag (bk W) (ab.aA (λz=>z= !(decide (P.nest.length<4)&&decide (1<=s/\s<=6))) (λj D=>?_) λz K=>?_))
  ·refine aQ (λh=>bB h O) λ_=>aQ (λh=>D _ ?_) λh=>ag (d5 n s 1 6) (D _ ?_)
   ·rw[bu (show¬P.nest.length<4 by omega)];rfl
   rw[bA (O:P.nest.length<4)];rfl
  subst K;by_cases e:P.nest.length<4
  ·by_cases A:1<=s/\s<=6
   ·rw[bA e,bA A];refine b5 (ag (bk r) (ag (Fh O w) ?_));by_cases B:eK l=true
    ·rw[a1 B,a1 ⟨q,e,A,B⟩];obtain⟨a,b,_,_,_,v,E⟩:=Fi w B;have Q:=xU (n:=n) O (nest:=P.nest) (body:=P.body) (s:=k) O g (λy M=>Y y (e7 M)) t.2 u (F:=λN=>uO n N (k:Int)) (Wu O O);have U:(P.nest.take k++(P.nest.drop k).map (d8 (jN k)))[k]? =some (d8 (jN k) l):=by
      rw[jW r,gX (by rw[cL];omega),cL,vx O,kd];rfl
     refine bR (ag Q (ag (dJ Z _) (ag (x:=()) (by unfold j8;rw[a6 O]) (ag (LB n X s) (ag (LB n X s) (ag (zD n _) (ag (zD n _) (ag (bk U) (ag (dJ bQ _) (ag (zD n 0) (ag (zD n _) (ag (aa0 bQ bQ _) (ag (dJ bQ _) ?_)))))))))))));dsimp only;unfold cJ at v E;rw[c3,c3,List.set_set,be (n:=de l.bf+s) O,N7 ⟨O,O⟩ ⟨O,O⟩ A];have T:P.nest.drop k=l::P.nest.drop (k+1):=jW r;have C:(P.nest.take k).length=k:=by rw[cL];omega
     have V: ∀R S:Loop,(((P.nest.take k++(P.nest.drop k).map (d8 (jN k))).set k R).take k++[S]++((P.nest.take k++(P.nest.drop k).map (d8 (jN k))).set k R).drop k)=P.nest.take k++S::R::(P.nest.drop (k+1)).map (d8 (jN k)):=λR S=>by
      rw[T,List.map_cons,mH _ _ O,C,kd,vv,pE O,ji O,C8 O,List.drop_of_length_le O];simp
     rw[V];exact ag (qE G (wS H i (Mq o e L s))) (ab.some rfl)
    rw[a6 B,a6 λh=>B h.2.2.2];exact b5 (ab.some rfl)
   rw[a6 λh=>A h.2.2.1,bu A,jl];exact bR (ab.some rfl)
  rw[a6 λh=>e h.2.1,bu e];exact bR (ab.some rfl)
 rw[a6 q,E1 q];exact b5 (ab.some rfl)
theorem abB(a:k<4)(s c:Int):nT (gR k) s (fV c) 1=mG k s c:=by rcases(O:k=0\/k=1\/k=2\/k=3) with rfl|rfl|rfl|rfl<;>simp[nT,gR,fV,mG]
theorem abg(a:k<4)(s c e:Int):nT (mG k s c) 1 (fV e) 1=mG k s (c+e):=by rcases(O:k=0\/k=1\/k=2\/k=3) with rfl|rfl|rfl|rfl<;>simp[nT,fV,mG]
theorem OM(h:cJ 1000 c):fg 1000 (fV c):=⟨rfl,h,λx a=>by simp[fV] at a;subst a;exact⟨O,O⟩⟩
theorem abC(d:cJ 1000 s)(h:cJ 1000 c):fg 1000 (mG k s c):=by refine⟨by simp[mG],h,ps (λc a=>?_) d⟩;simp at a;subst a;exact⟨O,O⟩
theorem aft(D:7000<=n)(B:c9 1000 p)(c d s:Int):C5 n p c d s=some (q0 p c d s):=by
 unfold C5;refine ab.eq (ag (kB O B) ?_);by_cases r:cT p c d=true
 ·obtain⟨u,i,k,P,l,rfl,rfl,F,G,W,H,o,C⟩:=j4 r;obtain⟨X,I⟩:=hZ o;obtain⟨_,Y,f,_⟩:=gk o;have w:=I l (bE G);rw[Lv F G];refine ab.aA (λz=>z= !(decide (P.nest.length<4)&&decide (1<=s/\s<=6))) (λj m=>?_) λz y=>?_
  ·refine ag (x:=true) (by rw[mB D B _ _,r]) ?_;refine b5 (ag (bk F) (aQ (λh=>m _ ?_) λh=>aQ (λg=>m _ ?_) λg=>m _ ?_))
   ·rw[bu (show¬P.nest.length<4 by omega)];rfl
   ·rw[bu (show¬(1<=s/\s<=6) by omega),jl];rfl
   rw[bA (O:P.nest.length<4),fe];by_cases K:(6:Int)<s
   ·rw[bA K,bu (show¬(1<=s/\s<=6) by omega)];rfl
   rw[bu K,bA (show(1<=s/\s<=6) by omega)];rfl
  subst y;by_cases e:P.nest.length<4
  ·by_cases q:1<=s/\s<=6
   ·rw[bA e,bA q];refine b5 (ag (bk F) (ag (bk G) (ag (EG O w) ?_)));by_cases A:eK l=true
    ·rw[a1 A,a1 ⟨r,e,q,A⟩];obtain⟨a,b,_,_,_,L,Q⟩:=Fi w A;obtain⟨v,E⟩:=OL L Q q;unfold cJ at L Q;refine b5 (ab.aA (λz=>z=p9 (de l.bf) (de l.aI) s) (λj m=>aQ (λh=>ag (x:=()) (by unfold j8;rw[a6 O]) (m _ ?_)) λh=>m _ ?_) λz y=>?_)
     ·dsimp only at h⊢;rw[<-N7 ⟨O,O⟩ ⟨O,O⟩ q,be (n:=de l.aI-de l.bf) O,show max 0 (de l.aI-de l.bf)=de l.aI-de l.bf by omega]
     ·dsimp only at h⊢;unfold p9;rw[show max 0 (de l.aI-de l.bf)=0 by omega,Int.tdiv_eq_ediv_of_nonneg O];exact(Int.ediv_eq_zero_of_lt O O).symm
     subst y;have U:(P.nest.take k).length=k:=by rw[cL];omega
     refine ag (DO O O X I Y.2 f (XB O _)) (ag (zN n C) (ag (gZ n _) (ag (sX O ((th C).mono O) (OM ⟨Z,Z⟩) ⟨O,O⟩ ⟨O,O⟩) ?_)));dsimp only;rw[abB C];refine ag (gZ n _) (ag (gZ n _) (ag (gZ n _) (ag (sX O (abC ⟨O,O⟩ ⟨O,O⟩) (OM ⟨O,O⟩) ⟨O,O⟩ ⟨O,O⟩) ?_)));rw[abg C];refine ag (hG O O bQ) (ag (cY bQ) (ag (show m9 n=some (fV 0) from rfl) (ag (gZ n _) (ag (cY bQ) ?_))));rw[be O];refine ag (hG O bQ aW) (ag (cY bQ) ?_);have t: ∀R S:Loop,([]++((P.nest.take (k+1)++(P.nest.drop (k+1)).map (d8 (jN k))).take (k:Int).toNat).drop (0:Int).toNat++[S,R]++((P.nest.take (k+1)++(P.nest.drop (k+1)).map (d8 (jN k))).take ((P.nest.take (k+1)++(P.nest.drop (k+1)).map (d8 (jN k))).length:Int).toNat).drop ((k:Int)+1).toNat)=P.nest.take k++S::R::(P.nest.drop (k+1)).map (d8 (jN k)):=λR S=>by
      have M:(P.nest.take (k+1)).length=k+1:=by rw[cL];omega
      rw[c3,c3,show((k:Int)+1).toNat=k+1 by omega,show(0:Int).toNat=0 from rfl,oC,c6,pE O,List.take_take,vx O,C8 O,List.drop_of_length_le O];simp
     rw[t];exact ag (wo D B W ((Mq o e H s).mono O)) (ab.some rfl)
    rw[a6 A,a6 λh=>A h.2.2.2];exact bR (ab.some rfl)
   rw[a6 λh=>q h.2.2.1,bu q,jl];exact bR (ab.some rfl)
  rw[a6 λh=>e h.2.1,bu e];exact bR (ab.some rfl)
 rw[E1 r];refine ab.aA (λz=>z=true) (λj m=>ag (mB D B _ _) ?_) λz y=>by rw[y];exact bR (ab.some rfl)
 rw[show cT p c d=false by simpa using r];exact bR (m _ rfl)
def kE(P:Part)(a b:Int):Part:=⟨(⟨[fV a],[fV b]⟩:Loop)::P.nest.drop 1,P.body⟩
def qZ(p:Prog)(a c:Int):Prog×Bool:=
 match au p.parts a with
 |some P=>match au P.nest 0 with
  |some l=>if cT p a 0=true/\eK l=true/\de l.bf<=c/\c<=de l.aI then hE (kQ p a.toNat 1 [kE P (de l.bf) c,kE P c (de l.aI)]) else ea
  |none=>ea
 |none=>ea
theorem E2(h:cT p a 0≠true):qZ p a c=ea:=by
 unfold qZ;split
 ·split
  ·rw[a6 λd=>h d.1]
  rfl
 rfl
theorem AH{k:Type}{l:List k}{x:k}(h:l[0]? =some x):au l 0=some x:=bk h
theorem Lx(a:p.parts[i]? =some P)(d:P.nest[0]? =some l)(c:Int):
  qZ p (i:Int) c=if cT p (i:Int) 0=true/\eK l=true/\de l.bf<=c/\c<=de l.aI then hE (kQ p i 1 [kE P (de l.bf) c,kE P c (de l.aI)]) else ea:=by unfold qZ;rw[bk a];dsimp only;rw[AH d];rfl
theorem Oz(k:ep r P=true)(a b:Int):fx 4 (kE P a b):=by
 obtain⟨h,l,m⟩:=tG k;have i: ∀c,dp 4 (fV c):=λc=>by unfold dp fV;simp
 have:=h.1;refine⟨⟨by simp only[kE,List.length_cons,List.length_drop];omega,λy e=>?_⟩,l,m⟩;rcases dP.1 e with rfl|e
 ·exact⟨⟨aW,λa d=>by simp at d;subst d;exact i _⟩,aW,λa d=>by simp at d;subst d;exact i _⟩
 exact h.2 y (e7 e)
theorem Lw(e:ep r P=true)(a b c d:Int): ∀y∈[kE P a b,kE P c d],fx 1000 y:=by
 intro y h;simp only[List.mem_cons,List.not_mem_nil,or_false] at h;rcases h with rfl|rfl
 ·exact(Oz e a b).mono O
 exact(Oz e c d).mono O
theorem ZE(a:b2 p=true)(c:p.parts[i]? =some P):cT p (i:Int) 0=decide (0<P.nest.length):=by unfold cT;rw[a,bk c,fe];rw[e8];simp only[decide_eq_true_eq];omega
theorem XT(a:i<p.parts.length)(A B:Part):(⟨p.aR,(p.parts.set i A).take (i+1)++[B]++(p.parts.set i A).drop (i+1)⟩:Prog)=kQ p i 1 [A,B]:=by
 unfold kQ;congr 1;rw[List.take_set,pK O,ek,bs a,mH _ _ (by rw[cL];omega)]
 have:i-(p.parts.take i).length=0:=by rw[cL];omega
 rw[this];simp
theorem ad'(g:20000<=n)(D:c9 1000 p)(d c:Int):Dq n p d c=some (qZ p d c):=by
 unfold Dq;refine ab.eq (ag (zG O D d) ?_);by_cases y:b2 p=true/\ef p d=true
 ·rw[a1 y];obtain⟨m,B⟩:=y;have F:0<=d/\d<(p.parts.length:Int):=e6 B;obtain⟨i,rfl⟩: ∃i:Nat,d=i:=⟨d.toNat,O⟩
  have q:=bs (O:i<p.parts.length);generalize G:p.parts[i]=P at q;have I:=(eA m).2.2.1;have e:=(eA m).2.2.2.1 P (bE q);obtain⟨K,A⟩:=hZ e;have fF:=ZE m q;refine bR (ag (bk q) (aQ (λz=>ab.some ?_) λz=>?_))
  ·rw[E2 (by rw[fF,bu O];simp)];rfl
  have z:0<P.nest.length:=O
  rw[bA z] at fF;have o:=bs z;generalize P.nest[0]=l at o;have r:=A l (bE o);rw[Lx q o];refine ag (AH o) (ag (Fh O r) ?_);by_cases s:eK l=true
  ·rw[a1 s];refine bR (ag (d5 n c _ _) ?_);by_cases w:de l.bf<=c/\c<=de l.aI
   ·rw[a1 ⟨fF,s,w.1,w.2⟩];dsimp only;rw[bA w];obtain⟨a,b,Q,U,W,j,t⟩:=Fi r s;have X:=AE (i:=i) (many:=1) (ys:=[kE P (de l.bf) c,kE P c (de l.aI)]) ((kR m).mono (O:4<=900)) aW (Lw e _ _ _ _);generalize de l.bf=L at*;generalize de l.aI=H at*;subst U;subst W;subst Q;have Y:P.nest=(⟨[fV L],[fV H]⟩:Loop)::P.nest.drop 1:=by
     have:=jW o
     rwa [oC] at this
    have C: ∀R:Loop,P.nest.set (0:Int).toNat R=R::P.nest.drop 1:=λR=>by
     show P.nest.set 0 R=_;rw[Y];rfl
    refine bR (ag (KR O e) (ag (x:=fV H) rfl (ag (x:=[fV c]) rfl (ag (dJ O _) (ag (dJ O _) (ag (AH o) (ag (x:=fV L) rfl (ag (x:=[fV c]) rfl (ag (dJ O _) ?_)))))))));rw[C,C,be O,c3];refine ag (NK (i:=i+1) (by rw[eV];omega) (by rw[eV];simp;omega)) ?_;show ab (Option.bind (lB n (⟨p.aR,(p.parts.set i (kE P L c)).take (i+1)++[kE P c H]++(p.parts.set i (kE P L c)).drop (i+1)⟩:Prog)) _) _;rw[XT O];exact ag (qE O X) (ab.some rfl)
   rw[a6 λh=>w ⟨h.2.2.1,h.2.2.2⟩];dsimp only;rw[bu w];exact b5 (ab.some rfl)
  rw[a6 s,a6 λh=>s h.2.1];exact b5 (ab.some rfl)
 rw[a6 y,E2 λf=>y ?_]
 ·exact b5 (ab.some rfl)
 obtain⟨m,i,k,P,l,rfl,_,u,_,B,_⟩:=j4 f;exact⟨m,bA O⟩
theorem afs(G:20000<=n)(A:c9 1000 p)(a c:Int):Dc n p a c=some (qZ p a c):=by
 unfold Dc;refine ab.eq (ag (kB O A) (ag (mB O A a 0) ?_));cases q:cT p a 0 with
 |false=>
  rw[E2 (by rw[q];simp)];exact bR (ab.some rfl)
 |true=>
  obtain⟨C,i,k,P,l,rfl,D,B,r,H,I,d,K⟩:=j4 q;obtain rfl:k=0:=O
  obtain⟨F,s⟩:=hZ d;have w:=s l (bE r);rw[Lx B r];refine b5 (ag (bk B) (ag (AH r) (ag (EG O w) ?_)));by_cases m:eK l=true
  ·rw[a1 m];dsimp only;refine ab.aA (λz=>z= !decide (de l.bf<=c/\c<=de l.aI)) (λj o=>b5 (aQ (λh=>o _ ?_) λh=>o _ ?_)) λz x=>?_
   ·rw[bu O];rfl
   ·rw[e8];simp only[Bool.not_eq_true',decide_eq_true_eq,decide_eq_false_iff_not];omega
   subst x;by_cases e:de l.bf<=c/\c<=de l.aI
   ·rw[a1 ⟨q,m,e.1,e.2⟩,bA e];refine b5 (ag (gZ n _) (ag (gZ n _) (ag (hG O O O) (ag (cY bQ) (ag (gZ n _) (ag (gZ n _) (ag (hG O O O) (ag (cY bQ) ?_))))))));rw[c3,c6];have y:=Fb (n:=n) O ((kR C).mono (O:4<=900)) (i:=i) (many:=1) O (ys:=[kE P (de l.bf) c,kE P c (de l.aI)]) aW (Lw d _ _ _ _);exact ag y (ab.some rfl)
   rw[a6 λh=>e ⟨h.2.2.1,h.2.2.2⟩,bu e];exact bR (ab.some rfl)
  rw[a6 m,a6 λh=>m h.2.1];exact ab.aA (λz=>z=true) (λj o=>bR (o _ rfl)) λz x=>by rw[x];exact bR (ab.some rfl)
end
section
def lf(s:Stmt):Stmt:=⟨s.write,fN 5 s.value⟩
def j5(x:Part):Part:=⟨x.nest,x.body.map lf⟩
def Bh(p:Prog):Prog:=⟨p.aR,p.parts.map j5⟩
variable {n:Nat}{s:Stmt}{d e:Int}{p:Prog}{r:List cg}
theorem UD(c:7000<=n)(a:er s d=true):vL n s=some (lf s):=by
 obtain⟨n,rfl⟩: ∃j,n=j+1:=⟨n-1,O⟩
 unfold vL;rw[Qc O a];refine ab.eq (ag rfl (ag (H0 5 n s.value O (kA a).2.1) (ab.some rfl)))
def p3(p:Prog):Prog×Bool:=if b2 p=true then(Bh p,true) else ea
theorem Ra(r:7000<=n)(w:c9 1000 p):xW n p=some (p3 p):=by
 unfold xW p3;refine ab.eq (ag (r0 r w.sm) (ab.cond (λh=>ab.some ?_) λh=>?_))
 ·rw[a6 (by simpa using h)];rfl
 have i:b2 p=true:=by simpa using h
 rw[a1 i];obtain⟨I,L,Q,y,_⟩:=eA i;refine ag (qN O i) ?_;refine yC (l:=p.parts) (n:=n) (F:=λd k=>bo (λa ((c,e):(List Stmt)×Int)=>
    bif decide (e<(d.body.length:Int)) then(
     Option.bind (au c e) λz=>
     Option.bind (vL n z) λA=>
     Option.bind (b' c e A) λB=>
     a (B,wr (e+1))
    ) else(
     Option.bind (jY d.body c) λR=>
     k (⟨d.nest,c⟩:Part)
    )
   ) n (d.body,0)) (W:=λ_ o=>o) (m:=λ_=>(p.parts.length:Int)) (g:=j5) (s:=0) (K:=λC=>some ((⟨p.aR,C⟩:Prog),true)) (λ_ _ _ h=>h) (λ_ _=>rfl) O (λx D k q=>?_) O O (ab.some ?_)
 ·obtain⟨_,U,G,_⟩:=gk (y x D);refine yC (l:=x.body) (n:=n) (F:=λx k=>Option.bind (vL n x) k) (W:=λ_ o=>o) (m:=λ_=>(x.body.length:Int)) (g:=lf) (s:=0) (K:=λc=>Option.bind (jY x.body c) λ_=>k (⟨x.nest,c⟩:Part)) (λ_ _ _ h=>h) (λ_ _=>rfl) O (λs H k q=>ag (UD r (G s H)) q) O O ?_;refine ag (oA aW) ?_
  have:(⟨x.nest,x.body.take 0++(x.body.drop 0).map lf⟩:Part)=j5 x:=by simp[j5]
  rw[this];exact q
 simp[Bh]
theorem Te(h:7000<=n)(i:d<=4)(a:er s d=true)(e:er s 4=true):DJ n s=some (lf s,true):=by
 obtain⟨n,rfl⟩: ∃j,n=j+1:=⟨n-1,O⟩
 have c:iw 4 s:=O3 a;unfold DJ;refine ab.eq (ag (IK O (c.mono (O:4<=1000)).sm 4) ?_);rw[e];refine b5 (ag (yz O ((c.mono (O:4<=1000)).1).sm) (ag (Qm 5 n s.value O (kA a).2.1) (ab.some rfl)))
theorem MS{a:ay}(h:eR a d=true)(c:d<=e):eR a e=true:=by unfold eR at h⊢;rw[oF,decide_eq_true_eq] at h;rw[h.1,bA O];rfl
theorem Oj{a:bZ}(h:fR a d=true)(c:d<=e):fR a e=true:=by unfold fR at h⊢;rw[oF,fy] at h;rw[h.2,Bool.and_true];exact fy.2 λx i=>MS (h.1 x i) c
theorem aaP{x:Expr}(h:eh x d=true)(a:d<=e):eh x e=true:=by
 unfold eh at h⊢;split at h
 ·rename_i c;rw[a1 c];simp only[Bool.and_eq_true] at h⊢;exact⟨h.1,h.2.1,MS h.2.2 a⟩
 rename_i c;rw[a6 c];split at h
 ·rename_i i;rw[a1 i];simp only[Bool.and_eq_true] at h⊢;exact⟨h.1,h.2.1,Oj h.2.2 a⟩
 rename_i i;rw[a6 i];exact h
theorem Lk{d e:Int}(a:d<=e): ∀{L:Nat} {x:Expr},dC L x d=true->dC L x e=true
 |0,_,h=>by cases h
 |L+1,x,h=>by obtain⟨i,l,m⟩:=g' h;exact IG i (aaP l a) λk c=>Lk a (m k c)
theorem ZO(h:er s d=true):er s 4=true:=by unfold er at h⊢;simp only[Bool.and_eq_true,decide_eq_true_eq] at h⊢;exact⟨O,Oj h.2.1 h.1.2,Lk h.1.2 h.2.2.1,h.2.2.2⟩
theorem ZQ(h:er s d=true):d<=4:=by unfold er at h;simp only[Bool.and_eq_true,decide_eq_true_eq] at h;exact h.1.2
theorem R1(I:7000<=n)(r:c9 1000 p):CB n p=some (p3 p):=by
 unfold CB p3;refine ab.eq (ag (kB O r) (ag (jR I r.sm) (ab.cond (λh=>ab.some ?_) λh=>?_)))
 ·rw[a6 (by simpa using h)];rfl
 have K:b2 p=true:=by simpa using h
 rw[a1 K];obtain⟨f,g,t,U,_⟩:=eA K;refine ag (nb O r) ?_;refine ab.loop (λz:List Part×Int=> ∃i:Nat,z.2=i/\i<=p.parts.length/\z.1=(p.parts.take i).map j5++p.parts.drop i) (λz=>p.parts.length-z.2.toNat) ?_ n _ ⟨0,rfl,O,aW⟩ Z;rintro w ⟨x,z⟩ ⟨i,L,u,e⟩ W;dsimp only at L e⊢;subst L;have a:((p.parts.take i).map j5).length=i:=by rw[c5,cL];omega
 have A:x.length=p.parts.length:=by rw[e,dD,a,fq];omega
 rw[A];refine aQ (λX=>?_) λY=>ab.some ?_
 ·obtain⟨P,m⟩: ∃P,p.parts[i]? =some P:=⟨_,bs (O:i<p.parts.length)⟩
  have B:x[i]? =some P:=by
   rw[e,gX O,a,kd,fT];exact m
  obtain⟨_,v,b,_⟩:=gk (U P (bE m));refine ab.loop (λz:List Part×Int=> ∃j:Nat,z.2=j/\j<=P.body.length/\z.1=x.set i ⟨P.nest,(P.body.take j).map lf++P.body.drop j⟩) (λz=>P.body.length-z.2.toNat) ?_ n _ ⟨0,rfl,O,by
   dsimp only;rw[List.take_zero,List.map_nil,s4,oC];exact(afw B).symm⟩ Z
  rintro o ⟨y,E⟩ ⟨j,k,M,l⟩ C;dsimp only at k l⊢;subst k;have D:y[i]? =some ⟨P.nest,(P.body.take j).map lf++P.body.drop j⟩:=by rw[l,hr O]
  have c:((P.body.take j).map lf).length=j:=by rw[c5,cL];omega
  have F:((P.body.take j).map lf++P.body.drop j).length=P.body.length:=by rw[dD,c,fq];omega
  refine ag (bk D) ?_;dsimp only;rw[F];refine aQ (λQ=>?_) λR=>?_
  ·obtain⟨s,q⟩: ∃s,P.body[j]? =some s:=⟨_,bs (O:j<P.body.length)⟩
   have G:((P.body.take j).map lf++P.body.drop j)[j]? =some s:=by
    rw[gX O,c,kd,fT];exact q
   have d:=b s (bE q);refine ag (bk G) (ag (Te I (ZQ d) d (ZO d)) (ag (dJ O _) (ag (dJ (by rw[l,eV];omega) _) ?_)));rw[be O];refine C _ ⟨j+1,Z,O,?_⟩ Z;dsimp only;rw[l,c3,c3,List.set_set,mH _ _ O,c,kd,jW q,vv,ek,q];simp
  have H:j=P.body.length:=O
  rw[be O];refine W _ ⟨i+1,Z,O,?_⟩ Z;dsimp only;rw[l,H,c6,nz,kK,e,mH _ _ O,a,kd,jW m,vv,ek,m];simp[j5]
 have:i=p.parts.length:=O
 rw[e,this,c6,nz,kK];rfl
theorem ZF(h:er s d=true):er (lf s) d=true:=by obtain⟨c,a,_⟩:=kA h;unfold er at h⊢;simp only[Bool.and_eq_true,decide_eq_true_eq] at h⊢;exact⟨h.1,c,qk a,by have:=Pe a;show dA 5 (fN 5 s.value)<=12;omega⟩
theorem UH(c:er s d=true){q:List Int}(h:gF r s q=true):gF r (lf s) q=true:=by unfold gF at h⊢;rw[oF,fy] at h;rw[show(lf s).write=s.write from rfl,h.1,fe];exact fy.2 λa e=>h.2 a (Pf (kA c).2.1 a e)
theorem KO(x:Part):jb (j5 x)=jb x:=rfl
theorem WR{x:Part}(h:ep r x=true):ep r (j5 x)=true:=by
 obtain⟨e,i,d,k⟩:=gk h;unfold ep nO;rw[show(j5 x).nest=x.nest from rfl,e,KO];have l:(j5 x).body=x.body.map lf:=rfl;rw[l,c5,bA i];simp only[Option.isSome_some,Bool.true_and,Bool.and_eq_true,List.all_eq_true];refine⟨λs c=>?_,λs c q m=>?_⟩
 ·obtain⟨t,a,rfl⟩:=eM.1 c;exact ZF (d t a)
 obtain⟨t,a,rfl⟩:=eM.1 c
 have:=k t a q m;exact⟨UH (d t a) this.1,this.2⟩
theorem ZG(h:b2 p=true):b2 (Bh p)=true:=by
 unfold b2 ka at h⊢;simp only[Bool.and_eq_true,decide_eq_true_eq,List.all_eq_true] at h⊢;obtain⟨⟨a,c,d⟩,e⟩:=h;refine⟨⟨a,by simpa[Bh] using c,λx i=>?_⟩,?_⟩
 ·obtain⟨y,k,rfl⟩:=eM.1 i;exact WR (d y k)
 show((p.parts.map j5).map fD).sum<=120;rw[List.map_map,show p.parts.map (fD ∘ j5)=p.parts.map fD from List.map_congr_left (λx _=>by
  show fD (j5 x)=fD x;unfold fD;rw[KO,show(j5 x).body.length=x.body.length by simp[j5]])]
 exact e
end
def oQ(p:Prog)(a:Int):Bool:=(List.range (bz p.parts).length).all (λi=>match (bz p.parts)[i]? with
 |some x=> !((j' p (bz p.parts)).getD i false&&decide (x.part=a))
 |none=>true)
variable {p:Prog}{n:Nat}{a:Int}
theorem zC{part:Int}:oQ p part=true↔ ∀(i:Nat) x,(bz p.parts)[i]? =some x->(j' p (bz p.parts)).getD i false=true->x.part≠part:=by
 unfold oQ;rw[fy];constructor
 ·intro h i x a c e
  have:=h i (s8.2 (bS.1 a).1);rw[a] at this;simp only[c,e,decide_true,Bool.and_self,Bool.not_true] at this;cases this
 intro h i d;cases a:(bz p.parts)[i]? with
 |none=>rfl
 |some x=>
  dsimp only;cases c:(j' p (bz p.parts)).getD i false with
  |false=>rfl
  |true=>rw[bu (h i x a c)];rfl
theorem L5(p:Prog)(l:List cx):(j' p l).length=l.length:=sL p l l.length
theorem Gj(k:b2 p=true)(i:Nat):b2 ⟨p.aR,p.parts.take i++p.parts.drop (i+1)⟩=true:=by
 have c: ∀x∈p.parts.take i++p.parts.drop (i+1),x∈p.parts:=λx d=>by
  rcases dZ.1 d with h|h
  ·exact ga h
  exact e7 h
 have e:=(eA k).2.2.2.1;have n:=(BW p.parts)
 have o: ∀l:List Part,(∀x∈l,x∈p.parts)->0<=(l.map fD).sum:=λl q=>by
  induction l with
  |nil=>simp
  |cons a l r=>
   simp only[List.map_cons,List.sum_cons]
   have:=(yW (e a (q a eU))).1
   have:=r λx d=>q x (ey _ d);omega
 unfold b2 ka at k⊢;simp only[Bool.and_eq_true,decide_eq_true_eq,List.all_eq_true] at k⊢;obtain⟨⟨aK,a2,a3⟩,a4⟩:=k;refine⟨⟨aK,by simp only[List.length_append,List.length_take,List.length_drop];omega,λx d=>a3 x (c x d)⟩,?_⟩;have s:(p.parts.map fD).sum=((p.parts.take i).map fD).sum+((p.parts.drop i).map fD).sum:=by
  conv=>lhs;rw[<-vr i p.parts]
  rw[fU,yG]
 have w:((p.parts.drop (i+1)).map fD).sum<=((p.parts.drop i).map fD).sum:=by
  cases m:p.parts.drop i with
  |nil=>
   have:p.parts.drop (i+1)=[]:=by rw[<-List.drop_drop,m];rfl
   rw[this];simp
  |cons a l=>
   have:p.parts.drop (i+1)=l:=by rw[<-List.drop_drop,m];rfl
   rw[this];simp only[List.map_cons,List.sum_cons]
   have:=(yW (e a (e7 (i:=i) (by rw[m];exact eU)))).1;omega
 simp only[List.map_append,List.sum_append];omega
theorem NT(a:b2 p=true)(i:Nat):c9 1000 ⟨p.aR,p.parts.take i++p.parts.drop (i+1)⟩:=(kR (Gj a i)).mono O
def tO(p:Prog)(a:Int):Prog×Bool:=if(b2 p&&(ef p a&&oQ p a))=true then(⟨p.aR,p.parts.take a.toNat++p.parts.drop (a.toNat+1)⟩,true) else ea
theorem Xv(H:7100<=n)(I:c9 1000 p)(Y: -1<=a/\a<=9):y1 n p a=some (tO p a):=by
 unfold y1 tO;refine ab.eq (ag (yt H I.sm) ?_);by_cases d:b2 p=true
 ·rw[a1 d,d];have Q:=(eA d).2.2.2.2;refine bR (ab.aA (λz=>z= !ef p a) (λj k=>b5 (ag (qD n I.2.1 a) (k _ rfl))) λz q=>?_);subst q;cases w:ef p a with
  |false=>exact bR (ab.some rfl)
  |true=>
   have A:0<=a/\a<(p.parts.length:Int):=e6 w;refine b5 (ag (x:=j' p (bz p.parts)) (Xr H d) ?_);have B:=L5 p (bz p.parts);rw[B];refine ab.loop (λz:Int=> ∃i:Nat,z=i/\i<=(bz p.parts).length/\ ∀(j:Nat) x,j<i->(bz p.parts)[j]? =some x->(j' p (bz p.parts)).getD j false=true->x.part≠a) (λz=>(bz p.parts).length-z.toNat) ?_ n _ ⟨0,rfl,O,λj x h=>O⟩ O;rintro C z ⟨i,rfl,b,r⟩ R;refine aQ (λU=>?_) λW=>?_
   ·obtain⟨x,D⟩: ∃x,(bz p.parts)[i]? =some x:=⟨_,bs (O:i<(bz p.parts).length)⟩
    have F:au (j' p (bz p.parts)) (i:Int)=some ((j' p (bz p.parts)).getD i false):=by
     have c:i<(j' p (bz p.parts)).length:=O
     rw[bk (bs c),ew,bs c];rfl
    have m:au (fZ p).list (i:Int)=some x:=bk D;refine ag F (ab.aA (λz=>z=((j' p (bz p.parts)).getD i false&&decide (x.part=a))) (λj k=>ab.cond (λh=>ag m (k _ (by rw[h];rfl))) λh=>k _ (by rw[h];rfl)) λz q=>?_);subst q;refine ab.cond (λh=>ab.some ?_) λh=>?_
    ·rw[oF,decide_eq_true_eq] at h
     have:oQ p a=false:=by
      cases X:oQ p a with
      |false=>rfl
      |true=>exact bB h.2 (zC.1 X i x D h.1)
     rw[this];rfl
    rw[be O];refine R _ ⟨i+1,O,O,λj y k G s=>?_⟩ O;by_cases e:j=i
    ·subst e;rw[D] at G;cases G;rw[s,fe] at h;exact of_decide_eq_false h
    exact r j y O G s
   have o:oQ p a=true:=zC.2 λj x K s=>r j x (by have:=(bS.1 K).1;omega) K s;rw[o];refine ag (qN O d) (ag (x:=(eL p.parts a (a+1),jP p.parts a (a+1) (⟨[],[]⟩:Part))) ?_ (ab.some ?_))
   ·unfold uM;rw[be O,bA A.1,bA (O:a<=a+1),bA (O:a+1<=(p.parts.length:Int)),bu (show¬a=a+1 by omega)];rfl
   show(⟨p.aR,(jP p.parts a (a+1) (⟨[],[]⟩:Part)).take (eL p.parts a (a+1))⟩,true)=((⟨p.aR,p.parts.take a.toNat++p.parts.drop (a.toNat+1)⟩:Prog),true)
   have L:(p.parts.take a.toNat++p.parts.drop (a+1).toNat).length=eL p.parts a (a+1):=by
    unfold eL;simp only[List.length_append,List.length_take,List.length_drop];omega
   unfold jP;rw[pE (by rw[L];exact cO _),ji (l:=p.parts.take a.toNat++p.parts.drop (a+1).toNat) (by rw[L];exact cO _),show(a+1).toNat=a.toNat+1 by omega]
 rw[a6 d,show b2 p=false by simpa using d];refine b5 (ab.aA (λz=>z=true) (λj k=>bR (k _ rfl)) λz q=>?_);rw[q];exact bR (ab.some rfl)
theorem WB(Q:7100<=n)(o:c9 1000 p)(u: -1<=a/\a<=9):DK n p a=some (tO p a):=by
 unfold DK tO;refine ab.eq (ag (kB O o) (ab.aA (λz=>z= !(b2 p&&ef p a)) (λj q=>?_) λz R=>?_))
 ·refine ag (jR O o.sm) (ab.cond (λh=>q _ ?_) λh=>?_)
  ·rw[sI h];rfl
  have bI:=qM h;refine aQ (λr=>q _ ?_) λr=>q _ ?_
  ·rw[bI,show ef p a=false from bu O];rfl
  by_cases K:(p.parts.length:Int)<=a
  ·rw[bI,bA K,show ef p a=false from bu O];rfl
  rw[bI,bu K,show ef p a=true from bA O];rfl
 subst R;by_cases bI:b2 p=true
 ·rw[bI];have U:=(eA bI).2.2.2.2;cases B:ef p a with
  |false=>exact bR (ab.some rfl)
  |true=>
   have W:0<=a/\a<(p.parts.length:Int):=e6 B;refine b5 (ag (Rv Q o.sm) (ag (uG O bI) ?_));rw[a1 bI];have X:=L5 p (bz p.parts);have Y:=Ko (j' p (bz p.parts));have s: ∀c∈pr (j' p (bz p.parts)),∃(i:Nat) (x:cx),c=i/\(bz p.parts)[i]? =some x/\(j' p (bz p.parts)).getD i false=true:=λc C=>by
    obtain⟨v,r⟩:=D5.1 C;have w:c.toNat<(bz p.parts).length:=by
     by_cases h:c.toNat<(bz p.parts).length
     ·exact h
     rw[ew,q8 O] at r;cases r
    exact⟨c.toNat,_,O,bs w,r⟩
   generalize b:pr (j' p (bz p.parts))=L at*;refine ab.loop (λz:Int=> ∃i:Nat,z=i/\i<=L.length/\ ∀c∈L.take i,∀x,(bz p.parts)[c.toNat]? =some x->x.part≠a) (λz=>L.length-z.toNat) ?_ n _ ⟨0,rfl,O,λc C=>by simp at C⟩ O;rintro D z ⟨i,rfl,E,e⟩ f;refine aQ (λw=>?_) λg=>?_
   ·obtain⟨c,F⟩: ∃c,L[i]? =some c:=⟨_,bs (O:i<L.length)⟩
    obtain⟨k,x,rfl,A,G⟩:=s c (bE F);refine ag (bk F) (ag (bk A) (aQ (λh=>ab.some ?_) λh=>?_))
    ·have:oQ p a=false:=by
      cases m:oQ p a with
      |false=>rfl
      |true=>exact bB h (zC.1 m k x A G)
     rw[this];rfl
    rw[be O];refine f _ ⟨i+1,O,O,λd m y H=>?_⟩ O;rw[gh F,dZ,mK] at m;rcases m with m|rfl
    ·exact e d m y H
    rw[c3,A] at H;cases H;exact h
   have I:i=L.length:=O
   rw[I,c6] at e;have l:oQ p a=true:=zC.2 (λj x A G=>by
    have q:((j:Nat):Int)∈L:=by rw[<-b];exact D5.2 ⟨O,by rw[c3];exact G⟩
    exact e _ q x (by rw[c3];exact A))
   rw[l];obtain⟨i,rfl⟩: ∃i:Nat,a=i:=⟨a.toNat,O⟩
   refine ag (x:=(⟨p.aR,p.parts.take i++p.parts.drop (i+1)⟩,true)) (ab.eq ?_) (ab.some rfl);have t:=o.2.1;unfold ju;refine ag (nb O o) (ag (hG O O O) ?_);rw[c3,show(0:Int).toNat=0 from rfl,oC];refine ag (x:=p.parts.take i) (cY bQ) (ag (x:=p.parts.take i) (by rw[cY bQ,kK]) ?_);rw[be O];refine ag (hG O O O) ?_;rw[c3,c6,show((i:Int)+1).toNat=i+1 by omega];refine ag (x:=p.parts.take i++p.parts.drop (i+1)) (cY bQ) (ag (jR O (NT bI i).sm) ?_);rw[Gj bI i];exact b5 (ag (nb O (NT bI i)) (ab.some rfl))
 rw[show b2 p=false by simpa using bI];exact bR (ab.some rfl)
end Go.Lift
