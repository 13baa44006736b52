/- Tools. -/
import Derived.Test.YtfegpkfpnpjgeaaGreatBRun1
set_option maxRecDepth 100000
set_option linter.unusedVariables false
namespace Go.Lift
open Go
section
theorem GC{a:Type}{n:Int}(h:0<=n/\n<=1000000000)(x:a):mk n x=some (List.replicate n.toNat x):=by unfold mk;rw[a1 h]
variable {a s d v c y:Int}{n i k L many:Nat}{p:Prog}{x P:Part}{R:Type}{l:Loop}{F:aw->Option aw}{Q:R->Prop}{f:aw->aw}{e:Expr}{r:List cI}{nest:List Loop}{b:aw}{q:List Int}{ys:List Part}
theorem Zr(a:bT p=true):0<=gH p.aR/\gH p.aR<=144:=by
 obtain⟨d,c,_⟩:=ei a
 have:=aa2 c;omega
theorem QJ(c:bT p=true){x:cb}(e:gn p x):x.cK.length<=4:=by
 obtain⟨i,k,P,s,d,h,l,m,n,o,q,a,r⟩:=u2 c e
 have:=a.1;have:=a.2.1;omega
theorem wJ{a β:Type}{l:List a}{F:a->(β->Option R)->Option R}{g:a->β}{K:List β->Option R}(h: ∀x∈l,∀k:β->Option R,aa (k (g x)) Q->aa (F x k) Q)
  {s:Nat} (B:s<=l.length) {pre:List β} (C:pre.length<=1000) (G:l.length<=1000) (H:5000<=n) (m:aa (K (pre++(l.drop s).map g)) Q):
  aa (bd (λc ((x,i):List β×Int)=>bif decide (i<(l.length:Int)) then(Option.bind (ar l i) λy=>F y λz=>Option.bind (app x [z]) λw=>c (w,wr (i+1))) else K x) n (pre,(s:Int))) Q:=by
 refine aa.loop (λz:List β×Int=> ∃i:Nat,z.2=i/\s<=i/\i<=l.length/\z.1=pre++((l.drop s).take (i-s)).map g) (λz=>l.length-z.2.toNat) ?_ n _ ⟨s,rfl,O,O,aP⟩ Z;rintro c ⟨x,z⟩ ⟨i,e,o,L,d⟩ p;dsimp only at e d⊢;subst e;refine aN (λq=>?_) λr=>?_
 ·have bI:=bo (O:i<l.length);have A:x.length<=2000:=by rw[d,cV,dn,cE,fz];omega
  refine ab (be bI) (h _ (bE bI) _ (ab (cB bN) ?_));rw[bb O];refine p _ ⟨i+1,Z,O,O,?_⟩ Z;dsimp only;rw[show i+1-s=(i-s)+1 by omega,eg,gy,show s+(i-s)=i by omega,bI,d,ho,fy];rfl
 have:i=l.length:=O
 subst this;rw[d,hS (by rw[fz];omega)];exact m
theorem oK{h a:Type}{l:List h}{f:h->Option a}{g:h->a}{K:List a->Option R}(d: ∀x∈l,f x=some (g x))(e:l.length<=1000)(m:5000<=n)(o:aa (K (l.map g)) Q):
  aa (bd (λc ((x,i):List a×Int)=>bif decide (i<(l.length:Int)) then(Option.bind (ar l i) λy=>Option.bind (f y) λz=>Option.bind (app x [z]) λw=>c (w,wr (i+1))) else K x) n ([],0)) Q:=
 wJ (F:=λy k=>Option.bind (f y) k) (g:=g) (s:=0) (pre:=[]) (λx p k q=>ab (d x p) q) O aP e m (by simpa using o)
theorem y1{a:Type}{l:List a}{F:a->(a->Option R)->Option R}{W:List a->Option R->Option R}{m:List a->Int}{g:a->a}{K:List a->Option R}
  (B: ∀y o,y.length=l.length->aa o Q->aa (W y o) Q) (C: ∀y:List a,y.length=l.length->m y=(l.length:Int))
  {s:Nat} (j:s<=l.length) (G: ∀x∈l,∀k:a->Option R,aa (k (g x)) Q->aa (F x k) Q) (t:l.length<=1000) (u:5000<=n) (H:aa (K (l.take s++(l.drop s).map g)) Q):
  aa (bd (λc ((y,i):List a×Int)=>W y (bif decide (i<m y) then(Option.bind (ar y i) λx=>F x λz=>Option.bind (b6 y i z) λw=>c (w,wr (i+1))) else K y)) n (l,(s:Int))) Q:=by
 refine aa.loop (λz:List a×Int=> ∃i:Nat,z.2=i/\s<=i/\i<=l.length/\z.1=l.take s++((l.drop s).take (i-s)).map g++l.drop i) (λz=>l.length-z.2.toNat) ?_ n _ ⟨s,rfl,O,O,aP⟩ Z;rintro c ⟨x,z⟩ ⟨i,A,L,v,p⟩ X;dsimp only at A p⊢;subst A;have d:(l.take s++((l.drop s).take (i-s)).map g).length=i:=by rw[cV,dn,cE,cE,fz];omega
 have h:x.length=l.length:=by rw[p,cV,d,fz];omega
 refine B _ _ h ?_;rw[C _ h];refine aN (λb=>?_) λf=>?_
 ·obtain⟨e,q⟩: ∃e,l[i]? =some e:=⟨_,bo (O:i<l.length)⟩
  have r:x[i]? =some e:=by
   grind
  refine ab (be r) (G _ (bE q) _ (ab (dD O _) ?_));rw[bb O];refine X _ ⟨i+1,Z,O,O,?_⟩ Z;dsimp only;rw[p,m7,oS _ _ O,d,nM,k5 q,y4,show i+1-s=(i-s)+1 by omega,eg,gy,show s+(i-s)=i by omega,q];simp
 have:i=l.length:=O
 subst this;rw[p,hS (l:=l.drop s) (by rw[fz];omega),pZ,kP];exact H
def p6(f:aw->aw)(a:bX):bX:=⟨a.array,a.bx.map f⟩
def qh(f:aw->aw):Nat->Expr->Expr
 |0,e=>e
 |L+1,e=>⟨e.kind,e.num,if e.kind=2 then f e.index else⟨[],0⟩,if e.kind=3 then p6 f e.read else⟨[],[]⟩,e.bm.map (qh f L)⟩
def iC(f:aw->aw)(s:Stmt):Stmt:=⟨p6 f s.write,qh f 5 s.value⟩
def eb(f:aw->aw)(l:Loop):Loop:=⟨l.lo.map f,l.aE.map f⟩
theorem p4(h:ek e d=true)(a:e.kind=2):cO e.index=true/\jN e.read=true:=by
 unfold ek eU at h
 grind
theorem rK(h:ek e d=true)(a:e.kind=3):fR e.read d=true/\hf e.index=true:=by
 unfold ek at h
 grind
theorem xc(h:ek e d=true)(a: ¬e.kind=2)(c: ¬e.kind=3):hf e.index=true/\jN e.read=true:=by
 unfold ek at h
 grind
theorem tk{a:aw}(h:hf a=true):a=⟨[],0⟩:=by
 obtain⟨c,k⟩:=a;simp only[hf,Bool.and_eq_true,decide_eq_true_eq] at h
 grind
theorem tl{a:bX}(h:jN a=true):a=⟨[],[]⟩:=by
 obtain⟨c,k⟩:=a;simp only[jN,Bool.and_eq_true,decide_eq_true_eq] at h
 grind
theorem J9(c:5000<=n){a:bX}(e:fR a d=true)(h: ∀x,cO x=true->F x=some (f x)):sT n a F=some (p6 f a):=by obtain⟨m,o,i⟩:=mZ e;refine aa.eq ?_;unfold sT;exact oK (K:=λk=>some (⟨a.array,k⟩:bX)) (λx l=>h x (i x l)) O c (aa.some rfl)
theorem KC{d:Int}{F:aw->Option aw}{f:aw->aw}(i: ∀x,cO x=true->F x=some (f x)): ∀(L n:Nat) (e:Expr),5000+L<=n->dw L e d=true->lR (n+1) e F=some (qh f L e)
 |0,_,_,_,h=>by cases h
 |L+1,n,e,G,h=>by
  obtain⟨H,l,p⟩:=ha h;obtain⟨n,rfl⟩: ∃j,n=j+1:=⟨n-1,O⟩
  have q:e.bm.length<=2:=by have:=pF e.kind;omega
  unfold lR;refine aa.eq (aa.ay (λz=>(⟨z.1,z.2.1⟩:aw)=(if e.kind=2 then f e.index else⟨[],0⟩)/\(⟨z.2.2.1,z.2.2.2⟩:bX)=(if e.kind=3 then p6 f e.read else⟨[],[]⟩)) (λj k=>?_) λz r=>?_)
  ·refine aN (λa=>?_) λa=>aN (λc=>?_) λc=>?_
   ·exact ab (i _ (p4 l a).1) (k _ ⟨by rw[a1 a],by rw[aZ O]⟩)
   ·exact ab (J9 O (rK l c).1 i) (k _ ⟨by rw[aZ a],by rw[a1 c]⟩)
   exact k _ ⟨by rw[aZ a],by rw[aZ c]⟩
  obtain⟨s,w,y,A⟩:=z;obtain⟨m,o⟩:=r;dsimp only at m o⊢;refine oK (K:=λB=>some (⟨e.kind,e.num,(⟨s,w⟩:aw),(⟨y,A⟩:bX),B⟩:Expr)) (λx C=>KC i L n x O (p x C)) O O (aa.some ?_);rw[m,o];rfl
theorem Kq(i:6000<=n){s:Stmt}(c:er s d=true)(a: ∀x,cO x=true->F x=some (f x)):pB n s F=some (iC f s):=by
 obtain⟨e,h,_⟩:=kD c;obtain⟨n,rfl⟩: ∃j,n=j+1:=⟨n-1,O⟩
 unfold pB;rw[J9 O e a,KC a 5 n s.value O h];rfl
theorem GD{a:Type}{f:a->a}: ∀{l:List a},(∀x∈l,f x=x)->l.map f=l
 | [],_=>rfl
 |x::l,h=>by rw[List.map_cons,h x eM,GD λy c=>h y (ew _ c)]
theorem Mp{a:bX}(c:fR a d=true)(e: ∀x,cO x=true->f x=x):p6 f a=a:=by obtain⟨k,l,h⟩:=mZ c;unfold p6;rw[GD λx i=>e x (h x i)]
theorem NH{d:Int}{f:aw->aw}(l: ∀x,cO x=true->f x=x): ∀{L:Nat} {e:Expr},dw L e d=true->qh f L e=e
 |0,_,_=>rfl
 |L+1,e,h=>by
  obtain⟨o,i,m⟩:=ha h;obtain⟨kind,num,index,read,n⟩:=e;unfold qh;dsimp only at o i m⊢;rw[GD λx p=>NH l (m x p)];by_cases c:kind=2
  ·have a:=p4 i c;dsimp only at a;rw[a1 c,aZ O,l _ a.1,tl a.2]
  by_cases k:kind=3
  ·have a:=rK i k;dsimp only at a;rw[aZ c,a1 k,Mp a.1 l,tk a.2]
  have a:=xc i c k;dsimp only at a;rw[aZ c,aZ k,tk a.1,tl a.2]
theorem aaN(a: ∀x,cO x=true->f x=x){s:Stmt}(c:er s d=true):iC f s=s:=by obtain⟨e,h,_⟩:=kD c;unfold iC;rw[Mp e a,NH a h]
def kn(l:Loop):Prop:=(l.lo.length<=2/\ ∀x∈l.lo,cO x=true)/\l.aE.length<=2/\ ∀x∈l.aE,cO x=true
theorem abR{o:List Loop}(h:Fit o): ∀l∈o,kn l:=λl a=>by
 obtain⟨i,c⟩:=kf.1 a
 have:=h.2 i l c;exact⟨(p3 this.1).2,(p3 this.2).2⟩
theorem ih(h:ej r x=true):x.nest.length<=4/\ ∀l∈x.nest,kn l:=by have:=(sc (gk h).1).1;exact⟨this.1,abR this⟩
theorem Pl{a:aw}(h:cO a=true):dq 4 a:=by have:=(fF h).1;unfold dq;omega
theorem Bw{l:List aw}(e:l.length<=2)(c: ∀x∈l,cO x=true):eQ 4 l:=⟨O,λa d=>Pl (c a d)⟩
theorem Pk{d:Int}: ∀{L:Nat} {e:Expr},dw L e d=true->iG 4 L e
 |0,_,h=>by cases h
 |L+1,e,h=>by
  obtain⟨m,a,n⟩:=ha h
  have:=pF e.kind;refine⟨O,?_,?_,λk m=>Pk (n k m)⟩
  ·by_cases c:e.kind=2
   ·exact Pl (p4 a c).1
   by_cases i:e.kind=3
   ·rw[tk (rK a i).2];unfold dq;simp
   rw[tk (xc a c i).1];unfold dq;simp
  by_cases i:e.kind=3
  ·have:=mZ (rK a i).1;exact Bw this.2.1 this.2.2
  by_cases c:e.kind=2
  ·rw[tl (p4 a c).2];exact⟨aP,λx l=>by cases l⟩
  rw[tl (xc a c i).2];exact⟨aP,λx l=>by cases l⟩
theorem PM{s:Stmt}(a:er s d=true):iX 4 s:=by
 obtain⟨c,e,_⟩:=kD a
 have:=mZ c;exact⟨Bw this.2.1 this.2.2,Pk e⟩
theorem tU(h:ej r x=true):fB 4 x:=by obtain⟨d,a⟩:=ih h;obtain⟨_,e,i,_⟩:=gk h;exact⟨⟨d,λl c=>⟨Bw (a l c).1.1 (a l c).1.2,Bw (a l c).2.1 (a l c).2.2⟩⟩,e.2,λs k=>PM (i s k)⟩
theorem Pj{l:List cI}(a:l.length<=4)(c:kC l):rE 4 l:=⟨a,λx d=>by have:=c x d;simp only[ka,Bool.and_eq_true,decide_eq_true_eq] at this;omega⟩
theorem lB(h:bT p=true):db 4 p:=by obtain⟨a,c,d,e,_⟩:=ei h;exact⟨Pj a c,d,λx i=>tU (e x i)⟩
theorem Bj{B:Nat}{l:List aw}(h:l.length<=B)(c: ∀x∈l,dq B (f x)):eQ B (l.map f):=⟨by rw[dn];exact h,λa d=>by obtain⟨x,e,rfl⟩:=ey.1 d;exact c x e⟩
theorem O2{d:Int}{f:aw->aw}(c: ∀x,cO x=true->dq 4 (f x)): ∀{L:Nat} {e:Expr},dw L e d=true->iG 4 L (qh f L e)
 |0,_,h=>by cases h
 |L+1,e,h=>by
  obtain⟨m,n,o⟩:=ha h
  have:=pF e.kind;unfold qh iG;refine⟨by dsimp only;rw[dn];omega,?_,?_,λk m=>?_⟩
  ·dsimp only;by_cases i:e.kind=2
   ·rw[a1 i];exact c _ (p4 n i).1
   rw[aZ i];unfold dq;simp
  ·dsimp only;by_cases l:e.kind=3
   ·rw[a1 l]
    have:=mZ (rK n l).1;exact Bj O λx a=>c x (this.2.2 x a)
   rw[aZ l];exact⟨aP,λx a=>by cases a⟩
  obtain⟨x,a,rfl⟩:=ey.1 m;exact O2 c (o x a)
theorem Bv(a: ∀x,cO x=true->dq 4 (f x)){s:Stmt}(c:er s d=true):iX 4 (iC f s):=by
 obtain⟨e,h,_⟩:=kD c
 have:=mZ e;exact⟨Bj O λx i=>a x (this.2.2 x i),O2 a h⟩
theorem wY(c: ∀x,cO x=true->dq 4 (f x))(h:kn l):eQ 4 (eb f l).lo/\eQ 4 (eb f l).aE:=
 ⟨Bj (by have:=h.1.1;omega) λx a=>c x (h.1.2 x a),Bj (by have:=h.2.1;omega) λx a=>c x (h.2.2 x a)⟩
theorem Mh(n:Nat){a:aw}(h:a.aQ.length<=1000):lC n a=some a:=by unfold lC jL;rw[a1 O];rfl
theorem zS(n:Nat): ∀x,cO x=true->lC n x=some x:=λx a=>Mh n (by have:=(fF a).1;omega)
theorem Lj(a:5000<=n){l:List aw}(h:l.length<=2)(c: ∀x∈l,cO x=true):qF n l=some l:=by unfold qF;refine aa.eq (oK (g:=λx=>x) (K:=λd=>some d) (λx e=>zS n x (c x e)) O a (aa.some ?_));simp
theorem Li(d:5000<=n)(p:nest.length<=4)(a: ∀l∈nest,kn l):s4 n nest=some nest:=by unfold s4;refine aa.eq ?_;refine wJ (β:=Loop) (l:=nest) (n:=n) (F:=λe k=>Option.bind (qF n e.lo) λh=>Option.bind (qF n e.aE) λi=>k (⟨h,i⟩:Loop)) (g:=λx=>x) (s:=0) (pre:=[]) (K:=λm=>some m) ?_ O aP O d (aa.some aP);exact λx c k o=>ab (Lj d (a x c).1.1 (a x c).1.2) (ab (Lj d (a x c).2.1 (a x c).2.2) o)
theorem QX(c:6000<=n){s:Stmt}(a:er s d=true):zd n s=some s:=by unfold zd;rw[Kq c a (F:=λe=>lC n e) (f:=λx=>x) (zS n),aaN (λ_ _=>rfl) a];rfl
theorem Lh(a:6000<=n)(h:ej r x=true):qY n x=some x:=by obtain⟨c,d⟩:=ih h;obtain⟨_,l,e,_⟩:=gk h;unfold qY;refine aa.eq (ab (Li O c d) (oK (g:=λx=>x) (K:=λi=>some (⟨x.nest,i⟩:Part)) (λs k=>QX a (e s k)) O O (aa.some ?_)));simp
theorem sY(q:6000<=n)(h:bT p=true):pe n p=some p:=by
 obtain⟨r,w,C,y,_⟩:=ei h;unfold pe;refine aa.eq (wJ (F:=λo k=>Option.bind (jL o.b2) λz=>k (⟨o.name,z⟩:cI)) (g:=λx=>x) (s:=0) (pre:=[]) (K:=λA=>bd (λa ((c,d):(List Part)×Int)=>
    bif decide (d<(p.parts.length:Int)) then(
     Option.bind (ar p.parts d) λe=>
     Option.bind (qY n e) λi=>
     Option.bind (app c [i]) λl=>
     a (l,wr (d+1))
    ) else(
     some (⟨A,c⟩:Prog)
    )
   ) n ([],0)) (λx m k B=>ab (x:=x.b2) ?_ B) O aP O O ?_)
 ·have:=(Pj r w).2 x m;unfold jL
  grind
 refine oK (g:=λx=>x) (K:=λc=>some (⟨_,c⟩:Prog)) (λx m=>Lh q (y x m)) O O (aa.some ?_);simp
theorem oO{a b:List R}(h:b.length=a.length):j7 a b=some ():=by unfold j7;rw[a1 h]
theorem JJ(p:5000<=n)(w:kn l)(q: ∀x,cO x=true->F x=some (f x)):sO n l F=some (eb f l):=by
 obtain⟨⟨aI,a2⟩,B,A⟩:=w;unfold sO;refine aa.eq (aa.loop (λz:Loop×Int=>(z.2=0/\z.1=l)\/(z.2=1/\z.1=⟨l.lo.map f,l.aE⟩)\/(z.2=2/\z.1=eb f l)) (λz=>3-z.2.toNat) ?_ n _ (.inl ⟨rfl,rfl⟩) Z);rintro a ⟨x,i⟩ r c;dsimp only at r c⊢;rcases r with ⟨rfl,rfl⟩|⟨rfl,rfl⟩|⟨rfl,rfl⟩
 ·refine ab (oO rfl) (ab (oO rfl) (aN (λ_=>aN (λ_=>?_) λh=>(h rfl).elim) λh=>bz h O));refine y1 (F:=λx k=>Option.bind (F x) k) (W:=λ_ o=>o) (m:=λ_=>(x.lo.length:Int)) (g:=f) (s:=0) (K:=λy=>a ((⟨y,x.aE⟩:Loop),wr (0+1))) (λ_ _ _ h=>h) (λ_ _=>rfl) O (λx d k e=>ab (q x (a2 x d)) e) O p ?_;rw[bb O];exact c _ (.inr (.inl ⟨Z,aP⟩)) Z
 ·refine ab (oO aP) (ab (oO rfl) (aN (λ_=>aN (λh=>bz h O) λ_=>aN (λ_=>?_) λh=>(h rfl).elim) λh=>bz h O));refine y1 (F:=λx k=>Option.bind (F x) k) (W:=λ_ o=>o) (m:=λ_=>(l.aE.length:Int)) (g:=f) (s:=0) (K:=λy=>a ((⟨l.lo.map f,y⟩:Loop),wr (1+1))) (λ_ _ _ h=>h) (λ_ _=>rfl) O (λx d k e=>ab (q x (A x d)) e) O p ?_;rw[bb O];exact c _ (.inr (.inr ⟨Z,by simp[eb]⟩)) Z
 refine ab (oO (by simp[eb])) (ab (oO (by simp[eb])) (aN (λh=>bz h O) λ_=>aa.some rfl))
def qc(k:Nat)(g f:aw->aw)(x:Part)(l:Loop):Part:=⟨x.nest.take k++eb g l::(x.nest.drop (k+1)).map (eb f),x.body.map (iC f)⟩
theorem yq(Q:6000<=n){body:List Stmt}{s:Nat}(S:s<=nest.length)(T:nest.length<=4)(R: ∀l∈nest.drop s,kn l)(U:body.length<=4)(X: ∀s∈body,er s d=true)(H: ∀x,cO x=true->F x=some (f x)):
  pf n ⟨nest,body⟩ (s:Int) F=some ⟨nest.take s++(nest.drop s).map (eb f),body.map (iC f)⟩:=by
 have A: ∀(a:List Loop),aa (bd (λc ((y,j):(List Stmt)×Int)=>
    Option.bind (j7 body y) λV=>
    bif decide (j<(body.length:Int)) then(
     Option.bind (ar y j) λb=>
     Option.bind (pB n b F) λt=>
     Option.bind (b6 y j t) λu=>
     c (u,wr (j+1))
    ) else(
     some (⟨a,y⟩:Part)
    )
   ) n (body,0)) (λr=>r=⟨a,body.map (iC f)⟩):=λa=>
  y1 (F:=λx k=>Option.bind (pB n x F) k) (W:=λy o=>Option.bind (j7 body y) λ_=>o) (m:=λ_=>(body.length:Int)) (g:=iC f) (s:=0) (K:=λy=>some (⟨a,y⟩:Part)) (λy o h v=>ab (oO h) v) (λ_ _=>rfl) O (λx p k D=>ab (Kq Q (X x p) H) D) O O (aa.some aP)
 unfold pf;refine aa.eq ?_
 -- the loops ahead stay: only those behind are changed
 refine aa.loop (λz:List Loop×Int=> ∃i:Nat,z.2=i/\s<=i/\i<=nest.length/\z.1=nest.take s++((nest.drop s).take (i-s)).map (eb f)++nest.drop i) (λz=>nest.length-z.2.toNat) ?_ n _ ⟨s,rfl,O,O,aP⟩ Z;rintro B ⟨x,z⟩ ⟨i,L,E,Y,p⟩ I;dsimp only at L p⊢;subst L;have q:(nest.take s++((nest.drop s).take (i-s)).map (eb f)).length=i:=by rw[cV,dn,cE,cE,fz];omega
 have C:x.length=nest.length:=by rw[p,cV,q,fz];omega
 refine ab (oO C) (aN (λM=>?_) λN=>?_)
 ·obtain⟨e,w⟩: ∃e,nest[i]? =some e:=⟨_,bo (O:i<nest.length)⟩
  have G:x[i]? =some e:=by
   rw[p,jt O,q,nM,gy];exact w
  have P:e∈nest.drop s:=kf.2 ⟨i-s,by rw[gy,show s+(i-s)=i by omega];exact w⟩;refine ab (be G) (ab (JJ O (R _ P) H) (ab (dD O _) ?_));rw[bb O];refine I _ ⟨i+1,Z,O,O,?_⟩ Z;dsimp only;rw[p,m7,oS _ _ O,q,nM,k5 w,y4,show i+1-s=(i-s)+1 by omega,eg,gy,show s+(i-s)=i by omega,w];simp
 have:i=nest.length:=O
 subst this;rw[p,hS (l:=nest.drop s) (by rw[fz];omega),pZ,kP];exact A _
theorem Gd(c:5000<=n){l:List aw}(k:l.length<=2)(d: ∀x∈l,cO x=true)(e: ∀x,cO x=true->jF n x a v b=some (f x)):v8 n l a v b=some (l.map f):=by unfold v8;exact aa.eq (oK (K:=λh=>some h) (λx i=>e x (d x i)) O c (aa.some rfl))
theorem XH(d:5000<=n)(c:kn l)(e: ∀x,cO x=true->jF n x a v b=some (f x)):wz n l a v b=some (eb f l):=by unfold wz;rw[Gd d c.1.1 c.1.2 e,Gd d c.2.1 c.2.2 e];rfl
theorem K4(e:5000<=n){a:bX}(h:fR a d=true)(i: ∀x,cO x=true->jF n x c v b=some (f x)):vt n a c v b=some (p6 f a):=by have:=mZ h;unfold vt;rw[Gd e this.2.1 this.2.2 i];rfl
theorem L6{d a v:Int}{b:aw}{f:aw->aw}(l: ∀n,5000<=n-> ∀x,cO x=true->jF n x a v b=some (f x)): ∀(L n:Nat) (e:Expr),5000+L<=n->dw L e d=true->ra (n+1) e a v b=some (qh f L e)
 |0,_,_,_,h=>by cases h
 |L+1,n,e,G,h=>by
  obtain⟨H,m,q⟩:=ha h;obtain⟨n,rfl⟩: ∃j,n=j+1:=⟨n-1,O⟩
  have r:e.bm.length<=2:=by have:=pF e.kind;omega
  unfold ra;refine aa.eq (aa.ay (λz=>(⟨z.1,z.2⟩:aw)=(if e.kind=2 then f e.index else⟨[],0⟩)) (λj c=>?_) λz o=>aa.ay (λy=>(⟨y.1,y.2⟩:bX)=(if e.kind=3 then p6 f e.read else⟨[],[]⟩)) (λj c=>?_) λy p=>?_)
  ·exact aN (λi=>ab (l _ O _ (p4 m i).1) (c _ (by rw[a1 i]))) λi=>c _ (by rw[aZ i])
  ·exact aN (λk=>ab (K4 O (rK m k).1 (l _ O)) (c _ (by rw[a1 k]))) λk=>c _ (by rw[aZ k])
  obtain⟨s,w⟩:=z;obtain⟨A,B⟩:=y;dsimp only at o p⊢;refine oK (K:=λC=>some (⟨e.kind,e.num,(⟨s,w⟩:aw),(⟨A,B⟩:bX),C⟩:Expr)) (λx F=>L6 l L n x O (q x F)) O O (aa.some ?_);rw[o,p];rfl
theorem XJ(w:6000<=n){l:List Stmt}(e:l.length<=4)(c: ∀s∈l,er s d=true)(h: ∀n,5000<=n-> ∀x,cO x=true->jF n x a v b=some (f x)):AP n l a v b=some (l.map (iC f)):=by
 obtain⟨n,rfl⟩: ∃j,n=j+1:=⟨n-1,O⟩
 unfold AP;refine aa.eq ?_;refine wJ (β:=Stmt) (l:=l) (n:=n+1) (F:=λi k=>Option.bind (vt (n+1) i.write a v b) λm=>Option.bind (ra (n+1) i.value a v b) λo=>k (⟨m,o⟩:Stmt)) (g:=iC f) (s:=0) (pre:=[]) (K:=λp=>some p) (λx q k r=>?_) O aP O O (aa.some aP);obtain⟨e,c,_⟩:=kD (c x q);exact ab (K4 O e (h _ O)) (ab (L6 h 5 n x.value O c) r)
theorem zl(c:6000<=n){s:Nat}(r:s+1<=x.nest.length)(w:x.nest.length<=4)(e: ∀l∈x.nest,kn l)(h:x.body.length<=4)(i: ∀s∈x.body,er s d=true){way:Int}(a: ∀n,5000<=n-> ∀x,cO x=true->jF n x way v b=some (f x)):
  s0 n x (s:Int) way v b=some ⟨x.nest.take (s+1)++(x.nest.drop (s+1)).map (eb f),x.body.map (iC f)⟩:=by unfold s0;rw[bb O];refine aa.eq (ab (gE O O O) ?_);rw[show((s:Int)+1).toNat=s+1 by omega,show(0:Int).toNat=0 from rfl,mU];refine ab (x:=x.nest.take (s+1)) (cB bN) (ab (XJ c h i a) ?_);exact wJ (F:=λm k=>Option.bind (wz n m way v b) k) (g:=eb f) (s:=s+1) (pre:=x.nest.take (s+1)) (K:=λo=>some (⟨o,x.body.map (iC f)⟩:Part)) (λl p k q=>ab (XH O (e l p) (a _ O)) q) O bN O O (aa.some rfl)
theorem Mk(n:Nat){a:aw}(h:dq 1000 a):yj n a=some a:=by unfold yj;rw[nn _ h];rfl
theorem EM(a:5000<=n){l:List aw}(h:eQ 1000 l):uH n l=some l:=by unfold uH;exact aa.eq (q4 (K:=λc=>some c) (λx d=>Mk n (h.2 x d)) h.1 a (aa.some rfl))
theorem Ml(c:5000<=n){a:bX}(h:eQ 1000 a.bx):yk n a=some a:=by unfold yk;rw[EM c h];rfl
theorem Ll: ∀(L n:Nat) (e:Expr),5000+L<=n->iG 1000 L e->pK (n+1) e=some e
 |0,_,_,_,h=>h.elim
 |L+1,n,e,m,h=>by
  obtain⟨a,c,d,i⟩:=h;obtain⟨n,rfl⟩: ∃j,n=j+1:=⟨n-1,O⟩
  unfold pK Jc;rw[Mk _ c,Ml O d];refine aa.eq (ab rfl (ab rfl (ab (x:=e.bm) ?_ (aa.some (by cases e;rfl)))));exact aa.eq (q4 (f:=pK (n+1)) (K:=λk=>some k) (λx l=>Ll L n x O (i x l)) a O (aa.some rfl))
theorem Wf(a:6000<=n){s:Stmt}(h:iX 1000 s):Dd n s=some s:=by
 obtain⟨n,rfl⟩: ∃j,n=j+1:=⟨n-1,O⟩
 unfold Dd;rw[Ml O h.1,Ll 5 n s.value O h.2];rfl
theorem Wg(e:6000<=n)(h:fB 1000 x):De n x=some x:=by
 obtain⟨⟨i,d⟩,k,m⟩:=h;have o:Cx n x.nest=some x.nest:=by
  unfold Cx;refine aa.eq (q4 (K:=λc=>some c) (λl a=>?_) i O (aa.some rfl));unfold JW;rw[EM O (d l a).1,EM O (d l a).2];rfl
 have p:Cv n x.body=some x.body:=by
  unfold Cv;exact aa.eq (q4 (K:=λc=>some c) (λl a=>Wf e (m l a)) k O (aa.some rfl))
 unfold De;rw[o,p];rfl
theorem k8(d:6000<=n)(h:db 1000 p):kr n p=some p:=by
 obtain⟨⟨e,i⟩,k,m⟩:=h;have o:Cs n p.aR=some p.aR:=by
  unfold Cs;refine aa.eq (q4 (K:=λa=>some a) (λl c=>?_) e O (aa.some rfl));unfold JH;rw[nn _ (i l c)];rfl
 have q:Cw n p.parts=some p.parts:=by
  unfold Cw;exact aa.eq (q4 (K:=λa=>some a) (λl c=>Wg d (m l c)) k O (aa.some rfl))
 unfold kr;rw[o,q];rfl
def cS(p:Prog)(c a:Int):Bool:=bT p&&match ar p.parts c with
 |some x=>decide (0<=a/\a<(x.nest.length:Int))
 |none=>false
theorem xn{a:Type}{l:List a}{i:Int}(h: ¬(0<=i/\i<(l.length:Int))):ar l i=none:=by
 cases c:ar l i with
 |none=>rfl
 |some x=>
  obtain⟨d,e⟩:=mG c
  have:=(bU.1 e).1;exact bz ⟨d,O⟩ h
theorem ack{a:Type}{l:List a}{i:Int}{x:a}(h:ar l i=some x): ∃k:Nat,i=k/\k<l.length/\l[k]? =some x:=by
 obtain⟨c,d⟩:=mG h
 grind
theorem qN(n:Nat)(h:p.parts.length<=1000)(a:Int):kV n p a=some (decide (0<=a/\a<(p.parts.length:Int))):=by
 unfold kV;rw[d7,bb O]
 grind
theorem wO(r:7000<=n)(l:db 1000 p)(a c:Int)(s:c≠ -1):j8 n p a c=some (if cS p a c=true then(p,true) else(⟨[],[]⟩,false)):=by
 unfold j8;refine aa.eq (aa.ay (λz=>z= !cS p a c) (λj i=>?_) λz m=>?_)
 ·refine ab (sf r l.sm) (aa.cond (λh=>?_) λh=>?_)
  ·refine i _ ?_;unfold cS
   grind
  have q:bT p=true:=by simpa using h
  refine ab (qN n l.2.1 a) ?_;by_cases e:0<=a/\a<(p.parts.length:Int)
  ·obtain⟨x,k,o⟩:=gu e.1 e.2;rw[bF e];refine b3 (eV (λ_=>ab (x:=cS p a c) ?_ (i _ rfl)) λh=>bz h s);unfold Jg;refine aa.eq (aa.ay (λz=>z=cS p a c) (λj i=>?_) λz m=>aa.some m);rw[qN n l.2.1 a,bF e];refine ab rfl (b1 (ab k ?_))
   have:=(l.2.2 x (bE o)).1.1;rw[bb O,d7];refine ab rfl (i _ ?_);unfold cS
   grind
  rw[bD e];refine b1 (i _ ?_);unfold cS;rw[xn e,kg];rfl
 subst m;by_cases d:cS p a c=true
 ·rw[d];have q:bT p=true:=by unfold cS at d;rw[oW] at d;exact d.1
  obtain⟨x,k⟩: ∃x,ar p.parts a=some x:=by
   cases k:ar p.parts a with
   |some x=>exact⟨x,rfl⟩
   |none=>unfold cS at d;rw[k,kg] at d;cases d
  exact b3 (ab (sY O q) (ab k (aa.some rfl)))
 rw[show cS p a c=false by simpa using d];exact b1 (aa.some rfl)
def hM(q:Prog):Prog×Bool:=if bT q=true then(q,true) else(⟨[],[]⟩,false)
theorem qQ(c:7000<=n)(d:db 1000 p):lH n p=some (hM p):=by
 unfold lH hM;refine aa.eq (ab (sf c d.sm) (aa.cond (λh=>aa.some ?_) λh=>?_))
 ·rw[aZ (by simpa using h)]
 have a:bT p=true:=by simpa using h
 rw[a1 a];exact ab (sY O a) (aa.some rfl)
theorem mM(k:7000<=n)(l:db 1000 p)(a c:Int):nD n p a c=some (cS p a c):=by
 unfold nD;refine aa.eq (aa.ay (λz=>z=cS p a c) (λj d=>?_) λz m=>aa.some m);refine ab (jB k l.sm) (aa.cond (λe=>?_) λe=>d _ (by unfold cS;rw[e];rfl));refine aN (λh=>aN (λi=>?_) λi=>?_) λh=>?_
 ·obtain⟨x,o,q⟩:=gu h i;refine aN (λr=>ab o (d _ ?_)) λr=>d _ ?_
  ·unfold cS
   grind
  unfold cS
  grind
 ·exact d _ (by unfold cS;rw[xn O,kg])
 exact d _ (by unfold cS;rw[xn O,kg])
theorem wV(e:7000<=n)(a:db 1000 p)(k:i<p.parts.length){y:Part}(l:fB 1000 y):jE n p (i:Int) 1 [y]=some (hM ⟨p.aR,p.parts.set i y⟩):=by
 have c:=a.2.1;have d:db 1000 ⟨p.aR,p.parts.set i y⟩:=⟨a.1,by dsimp only;rw[eR];exact c,pI a.2.2 l⟩
 unfold jE hM;refine aa.eq (ab (oo O a) (ab (gE O O O) ?_));rw[m7,show(0:Int).toNat=0 from rfl,mU];refine ab (x:=p.parts.take i) (cB bN) (ab (x:=p.parts.take i++[y]) (cB bN) ?_);rw[bb O];refine ab (gE O O O) ?_;rw[m7,dz,show((i:Int)+1).toNat=i+1 by omega];refine ab (x:=p.parts.set i y) ?_ (ab (jB e d.sm) (aa.cond (λh=>aa.some ?_) λh=>?_))
 ·rw[cB bN,List.set_eq_take_append_cons_drop,a1 k,fy];rfl
 ·rw[aZ (by simpa using h)]
 rw[a1 (by simpa using h)];exact ab (oo O d) (aa.some rfl)
def eP(a:aw)(k:Int)(b:aw):aw:=⟨List.zipWith (λx y=>x+k*y) a.aQ b.aQ,a.const+k*b.const⟩
def gS(k:Nat):aw:=⟨[0,0,0,0].set k 1,0⟩
def g'(k:Nat)(b x:aw):aw:=eP x (-(x.aQ.getD k 0)) b
def e8(m:Int)(a:aw):Prop:=a.aQ.length=4/\cF m a.const/\ ∀c∈a.aQ,cF m c
theorem e8.mono{m b:Int}{a:aw}(h:e8 m a)(e:m<=b):e8 b a:=⟨h.1,⟨by have:=h.2.1.1;omega,by have:=h.2.1.2;omega⟩,λc d=>⟨by have:=(h.2.2 c d).1;omega,by have:=(h.2.2 c d).2;omega⟩⟩
theorem mj{l:List Int}(h:l.length=4): ∃a b c d,l=[a,b,c,d]:=by
 match l,h with
 | [a,b,c,d],_=>exact⟨a,b,c,d,rfl⟩
theorem nJ{a:aw}(h:cO a=true):e8 99 a:=by obtain⟨i,k,d⟩:=fF h;exact⟨i,k,λc e=>⟨by have:=(d c e).1;omega,by have:=(d c e).2;omega⟩⟩
theorem tD(a:k<4):e8 6 (gS k):=by rcases(O:k=0\/k=1\/k=2\/k=3) with rfl|rfl|rfl|rfl<;>(unfold e8 cF gS;simp)
theorem kl{k b:Int}(a:cF 1000 k)(c:cF 1000 b):cF 1000000 (k*b):=BH O O a c
theorem y6{x:Int}(c:cF 1000 a)(d:cF 1000000 x):wr (a+wr x)=a+x:=by unfold cF at c d;rw[bb (n:=x) O,bb O]
theorem abP(m:Nat)(a c d e ac k h i l n o:Int):r0 (m+6) ⟨[a,c,d,e],ac⟩ k ⟨[h,i,l,n],o⟩=
  some ⟨[wr (a+wr (k*h)),wr (c+wr (k*i)),wr (d+wr (k*l)),wr (e+wr (k*n))],wr (ac+wr (k*o))⟩:=J
theorem An(y:5000<=n){a:aw}(p:e8 1000 a)(q:e8 1000 b){k:Int}(c:cF 1000 k):r0 n a k b=some (eP a k b):=by
 obtain⟨m,rfl⟩: ∃m,n=m+6:=⟨n-6,O⟩
 obtain⟨ac,a⟩:=a;obtain⟨z,b⟩:=b;obtain⟨h,i,d⟩:=p;obtain⟨l,o,e⟩:=q;dsimp only at h i d l o e;obtain⟨a0,aI,a2,a3,rfl⟩:=mj h;obtain⟨r,s,w,x,rfl⟩:=mj l;rw[abP,y6 (d a0 aP) (kl c (e r aP)),y6 (d aI aP) (kl c (e s aP)),y6 (d a2 aP) (kl c (e w aP)),y6 (d a3 aP) (kl c (e x aP)),y6 i (kl c o)];rfl
def od(a:aw)(x:Int)(b:aw)(y:Int):aw:=⟨List.zipWith (λp q=>x*p+y*q) a.aQ b.aQ,x*a.const+y*b.const⟩
theorem acb(m:Nat)(a c d e ac x h i k l n y:Int):ic (m+6) ⟨[a,c,d,e],ac⟩ x ⟨[h,i,k,l],n⟩ y=
  some ⟨[wr (wr (x*a)+wr (y*h)),wr (wr (x*c)+wr (y*i)),wr (wr (x*d)+wr (y*k)),wr (wr (x*e)+wr (y*l))],wr (wr (x*ac)+wr (y*n))⟩:=J
theorem y7{x:Int}(c:cF 1000000 a)(d:cF 1000000 x):wr (wr a+wr x)=a+x:=by unfold cF at c d;rw[bb (n:=x) O,bb (n:=a) O,bb O]
theorem th(A:5000<=n){a:aw}(p:e8 1000 a)(q:e8 1000 b){x:Int}(c:cF 1000 x)(d:cF 1000 y):ic n a x b y=some (od a x b y):=by
 obtain⟨m,rfl⟩: ∃m,n=m+6:=⟨n-6,O⟩
 obtain⟨ac,a⟩:=a;obtain⟨B,b⟩:=b;obtain⟨i,k,e⟩:=p;obtain⟨l,o,h⟩:=q;dsimp only at i k e l o h;obtain⟨a0,aI,a2,a3,rfl⟩:=mj i;obtain⟨r,s,w,z,rfl⟩:=mj l;rw[acb,y7 (kl c (e a0 aP)) (kl d (h r aP)),y7 (kl c (e aI aP)) (kl d (h s aP)),y7 (kl c (e a2 aP)) (kl d (h w aP)),y7 (kl c (e a3 aP)) (kl d (h z aP)),y7 (kl c k) (kl d o)];rfl
theorem Gx(a b:aw)(k:Int):od a 1 b k=eP a k b:=by unfold od eP;simp only[Int.one_mul]
theorem O3(a b:aw)(k:Int)(c:a.aQ.length=4)(d:b.aQ.length=4):(eP a k b).aQ.length=4:=by unfold eP;rw[y3];omega
def uv(a:aw)(k:Nat)(b:aw):aw:=eP ⟨a.aQ.set k 0,a.const⟩ (a.aQ.getD k 0) b
theorem NZ{a:aw}(h:e8 1000 a)(k:Nat):e8 1000 ⟨a.aQ.set k 0,a.const⟩:=⟨by dsimp only;rw[eR];exact h.1,h.2.1,pI h.2.2 ⟨O,O⟩⟩
theorem Ot{a:aw}(h:e8 1000 a)(d:k<4):a.aQ[k]? =some (a.aQ.getD k 0)/\cF 1000 (a.aQ.getD k 0):=by
 have c:k<a.aQ.length:=by rw[h.1];exact d
 have e:=bo c;have i:a.aQ.getD k 0=a.aQ[k]:=by rw[eL,e];rfl
 rw[i];exact⟨e,h.2.2 _ (fJ c)⟩
theorem EP(e:5000<=n){a:aw}(c:e8 1000 a)(h:e8 1000 b)(d:k<4):tK n a (k:Int) b=some (uv a k b):=by
 obtain⟨i,l⟩:=Ot c d;have m:k<a.aQ.length:=by rw[c.1];exact d
 unfold tK;rw[Mh n (by have:=c.1;omega)];refine aa.eq (ab rfl (ab (be i) (ab (dD O _) (ab (An e (NZ c k) h l) (aa.some rfl)))))
theorem Ls(h:5000<=n){a:aw}(c:e8 1000 a)(i:e8 1000 b)(d:k<4):zI n a (k:Int) b=some (uv a k b):=by
 obtain⟨e,l⟩:=Ot c d;have m:k<a.aQ.length:=by rw[c.1];exact d
 unfold zI;rw[nn _ (by have:=c.1;omega)];refine aa.eq (ab rfl (ab (be e) (ab (dD O _) (ab (be e) (ab (th h (NZ c k) i ⟨O,O⟩ l) (aa.some ?_))))));rw[Gx];rfl
theorem Am(n:Nat)(a:k<4):nu n (k:Int) 1=some (gS k):=by rcases(O:k=0\/k=1\/k=2\/k=3) with rfl|rfl|rfl|rfl<;>rfl
theorem AM(n:Nat)(a:k<4):lS n (k:Int)=some (gS k):=by rcases(O:k=0\/k=1\/k=2\/k=3) with rfl|rfl|rfl|rfl<;>rfl
def nI(k:Nat)(b:aw):aw:=eP (gS k) (-1) b
theorem GI{a:aw}(d:a.aQ.length=4)(e:b.aQ.length=4)(h:k<4)(c:b.aQ.getD k 0=0):uv a k (nI k b)=g' k b a:=by
 obtain⟨a,ac⟩:=a;obtain⟨b,i⟩:=b;dsimp only at d e c;obtain⟨a0,aI,a2,a3,rfl⟩:=mj d;obtain⟨l,m,n,o,rfl⟩:=mj e;rcases(O:k=0\/k=1\/k=2\/k=3) with rfl|rfl|rfl|rfl<;>
  (simp only[List.getD_cons_zero,List.getD_cons_succ] at c;subst c;simp[uv,nI,g',eP,gS,Int.mul_neg,Int.neg_mul])
def ef:Prog×Bool:=(⟨[],[]⟩,false)
def vj(p:Prog)(a c:Int)(g f:aw->aw):Prog×Bool:=
 match ar p.parts a with
 |some P=>match ar P.nest c with
  |some l=>hM ⟨p.aR,p.parts.set a.toNat (qc c.toNat g f P l)⟩
  |none=>ef
 |none=>ef
theorem m9{b:Int}(h:cS p a b=true):bT p=true/\ ∃(i k:Nat) (P:Part) (l:Loop),a=i/\b=k/\p.parts[i]? =some P/\P.nest[k]? =some l/\i<p.parts.length/\k<P.nest.length/\ej p.aR P=true/\k<4:=by
 unfold cS at h;rw[oW] at h;obtain⟨m,h⟩:=h;refine⟨m,?_⟩;cases d:ar p.parts a with
 |none=>rw[d] at h;cases h
 |some P=>
  rw[d] at h;obtain⟨i,rfl,o,n⟩:=ack d;obtain⟨q,r⟩:=eX h;obtain⟨l,s,e⟩:=gu q r;have c:=(ei m).2.2.2.1 P (bE n)
  have:=(ih c).1;exact⟨i,b.toNat,P,l,rfl,O,n,e,o,O,c,O⟩
theorem Bb(c:ej r P=true)(e:P.nest[k]? =some l){g:aw->aw}(m: ∀x,cO x=true->dq 4 (g x))(h: ∀x,cO x=true->dq 4 (f x)):fB 4 (qc k g f P l):=by
 obtain⟨q,i⟩:=ih c;obtain⟨_,n,o,_⟩:=gk c;have w:=(bU.1 e).1;refine⟨⟨by simp only[qc,List.length_append,List.length_cons,List.length_map,List.length_take,List.length_drop];omega,λy a=>?_⟩,by simp only[qc,List.length_map];exact n.2,λs p=>?_⟩
 ·rcases eh.1 a with a|a
  ·exact((tU c).1.2 y (gb a))
  rcases dL.1 a with rfl|a
  ·exact wY m (i l (bE e))
  obtain⟨z,d,rfl⟩:=ey.1 a;exact wY h (i z (e6 d))
 obtain⟨z,d,rfl⟩:=ey.1 p;exact Bv h (o z d)
theorem xm(a:db 1000 p)(i:Nat){y:Part}(c:fB 4 y):db 1000 ⟨p.aR,p.parts.set i y⟩:=⟨a.1,by dsimp only;rw[eR];exact a.2.1,pI a.2.2 (c.mono O)⟩
theorem wZ{k:Int}(a:b.aQ.length=4): ∀x,cO x=true->dq 4 (eP x k b):=λx c=>by have:=O3 x b k (fF c).1 a;unfold dq;omega
theorem BK(a:b.aQ.length=4): ∀x,cO x=true->dq 4 (g' k b x):=λx c=>wZ a x c
theorem GG(s:k<4)(h:e8 6 b):e8 1000 (nI k b):=by
 obtain⟨b,w⟩:=b;obtain⟨d,e,a⟩:=h;dsimp only at d e a;obtain⟨i,l,m,n,rfl⟩:=mj d;have o:=a i aP;have p:=a l aP;have q:=a m aP;have r:=a n aP;unfold cF at e o p q r;rcases(O:k=0\/k=1\/k=2\/k=3) with rfl|rfl|rfl|rfl<;>
  (refine⟨rfl,?_,λc x=>?_⟩<;>unfold cF<;>simp[nI,gS,eP] at* <;>omega)
theorem aaO(a:k<4)(c:e8 6 b)(e:b.aQ.getD k 0=0): ∀n,5000<=n-> ∀x,cO x=true->jF n x 1 (k:Int) (nI k b)=some (g' k b x):=λn h x d=>by unfold jF;rw[Ls h ((nJ d).mono O) (GG a c) a,GI (nJ d).1 c.1 a e];rfl
theorem take_set{a:Type}{l r:List a}{x y:a}(h:l[k]? =some x):(l.take (k+1)++r).set k y=l.take k++y::r:=by have c:=(bU.1 h).1;rw[eg,h,fy,oS _ _ bN,cE,tr O,nM];rfl
theorem N9(C:6000<=n)(z:ej r P=true)(m:P.nest[k]? =some l)(o:k<4)(p:e8 6 b)(F:b.aQ.getD k 0=0):
  wy n P (k:Int) b=some (qc k (λx=>eP x 1 b) (g' k b) P l):=by
 obtain⟨G,A⟩:=ih z;obtain⟨_,H,L,_⟩:=gk z;have Q:=(bU.1 m).1;have c:=A l (bE m);have B: ∀x,cO x=true->ic n x 1 b 1=some (eP x 1 b):=λx e=>by
  rw[th O ((nJ e).mono O) (p.mono O) ⟨O,O⟩ ⟨O,O⟩,Gx]
 unfold wy;simp only[be m,Option.bind_some];refine aa.eq (ab (AM n o) (ab (th O ((tD o).mono O) (p.mono O) ⟨O,O⟩ ⟨O,O⟩) ?_));rw[Gx];refine ab (zl C O G A H.2 L (aaO o p F)) ?_;refine oK (n:=n) (l:=l.lo) (f:=λx=>ic n x 1 b 1) (K:=λR=>bd (λa ((d,h):(List aw)×Int)=>
    bif decide (h<(l.aE.length:Int)) then(
     Option.bind (ar l.aE h) λq=>
     Option.bind (ic n q 1 b 1) λs=>
     Option.bind (app d [s]) λw=>
     a (w,wr (h+1))
    ) else(
     Option.bind (ar (P.nest.take (k+1)++(P.nest.drop (k+1)).map (eb (g' k b))) (k:Int)) λy=>
     Option.bind (b6 (P.nest.take (k+1)++(P.nest.drop (k+1)).map (eb (g' k b))) (k:Int) (⟨R,d⟩:Loop)) λi=>
     some (⟨i,P.body.map (iC (g' k b))⟩:Part)
    )
   ) n ([],0)) (λx e=>B x (c.1.2 x e)) (by have:=c.1.1;omega) O ?_
 refine oK (n:=n) (l:=l.aE) (f:=λx=>ic n x 1 b 1) (g:=λx=>eP x 1 b) (K:=λd=>Option.bind (ar (P.nest.take (k+1)++(P.nest.drop (k+1)).map (eb (g' k b))) (k:Int)) λy=>Option.bind (b6 (P.nest.take (k+1)++(P.nest.drop (k+1)).map (eb (g' k b))) (k:Int) (⟨l.lo.map λx=>eP x 1 b,d⟩:Loop)) λi=>some (⟨i,P.body.map (iC (g' k b))⟩:Part)) (λx e=>B x (c.2.2 x e)) (by have:=c.2.1;omega) O ?_;have e:(P.nest.take (k+1)++(P.nest.drop (k+1)).map (eb (g' k b)))[k]? =some l:=by
  grind
 refine ab (be e) (ab (dD bN _) (aa.some ?_));rw[m7,take_set m];rfl
def jP(s:Int):aw:=⟨[0,0,0,0],s⟩
theorem BG(h: -6<=s/\s<=6):e8 6 (jP s):=by unfold jP e8 cF;simp;omega
theorem PA(s:Int)(a:k<4):(jP s).aQ.getD k 0=0:=by rcases(O:k=0\/k=1\/k=2\/k=3) with rfl|rfl|rfl|rfl<;>rfl
def vD(p:Prog)(d a c:Int):Prog×Bool:=
 if cS p d a=true/\(-6<=c/\c<=6) then vj p d a (λx=>eP x 1 (jP c)) (g' a.toNat (jP c)) else ef
theorem L8(n:Nat)(s:Int):wM n s=some (decide (-6<=s/\s<=6)):=by unfold wM;rw[d7];rfl
theorem q1{b:Int}(h:a<0):cS p b a=false:=by
 cases c:cS p b a with
 |false=>rfl
 |true=>obtain⟨_,i,k,P,l,_,d,_⟩:=m9 c;omega
theorem zU(a:p.parts[i]? =some P)(c:P.nest[k]? =some l)(g f:aw->aw):vj p (i:Int) (k:Int) g f=hM ⟨p.aR,p.parts.set i (qc k g f P l)⟩:=by unfold vj;rw[be a];dsimp only;rw[be c];rfl
theorem agT(r:7000<=n)(o:db 1000 p)(a c d:Int):DG n p a c d=some (vD p a c d):=by
 unfold DG vD;refine aa.eq (ab (k8 O o) (aa.ay (λz=>z= !(cS p a c&&decide (-6<=d/\d<=6))) (λj s=>?_) λz y=>?_))
 ·refine ab (mM r o a c) (aa.cond (λh=>s _ ?_) λh=>ab (yI n d 6 O) (s _ ?_))
  ·rw[show cS p a c=false by simpa using h];rfl
  rw[show cS p a c=true by simpa using h];rfl
 subst y;by_cases e:cS p a c=true/\(-6<=d/\d<=6)
 ·rw[a1 e,e.1,bF e.2];refine b3 ?_;obtain⟨G,i,k,P,l,rfl,rfl,w,q,A,B,m,x⟩:=m9 e.1;refine ab (be w) (ab (d4 n d) (ab (N9 O m q x (BG e.2) (PA _ x)) (ab (wV r o A ((Bb m q (wZ (BG e.2).1) (BK (BG e.2).1)).mono O)) (aa.some ?_))));rw[zU w q];rfl
 rw[aZ e,show(cS p a c&&decide (-6<=d/\d<=6))=false by
  cases C:cS p a c with
  |false=>rfl
  |true=>exact bD λF=>e ⟨C,F⟩]
 exact b1 (aa.some rfl)
theorem XU(c:5000<=n)(h: -6<=s/\s<=6): ∀x,cO x=true->yr n x s=some (eP x 1 (jP s)):=λx a=>by unfold yr;have d:pA n 1=some ⟨[0,0,0,0],1⟩:=rfl;rw[d];refine aa.eq (ab rfl (ab (An c ((nJ a).mono O) (b:=⟨[0,0,0,0],1⟩) (by unfold e8 cF;simp) ⟨O,O⟩) (aa.some ?_)));unfold eP jP;obtain⟨a0,aI,a2,a3,e⟩:=mj (fF a).1;rw[e];simp
theorem XT(d:5000<=n)(a:k<4)(h: -6<=s/\s<=6): ∀x,cO x=true->vb n x (k:Int) (⟨(gS k).aQ,wr (0-s)⟩:aw)=some (g' k (jP s) x):=λx c=>by
 have e:(⟨(gS k).aQ,wr (0-s)⟩:aw)=nI k (jP s):=by
  rw[bb O];rcases(O:k=0\/k=1\/k=2\/k=3) with rfl|rfl|rfl|rfl<;>(unfold gS nI jP eP gS;simp)
 unfold vb;rw[e,EP d ((nJ c).mono O) (GG a (BG h)) a,GI (nJ c).1 rfl a (PA _ a)];rfl
theorem Ae(i:7000<=n)(e:db 1000 p)(a:Int):aa (j8 n p a (-1)) (λr=>r.2=false->r=ef):=by
 unfold j8;refine aa.ay (λz=>z=false->bT p=true/\(0<=a/\a<(p.parts.length:Int))) (λj c=>?_) λz k=>?_
 ·refine ab (sf i e.sm) (aa.cond (λh=>c _ λh=>by cases h) λh=>?_);refine ab (qN n e.2.1 a) (aa.cond (λh=>c _ λh=>by cases h) λd=>eV (λh=>(h rfl).elim) λ_=>c _ λ_=>⟨by simpa using h,by simpa using d⟩)
 refine aa.cond (λ_=>aa.some λ_=>rfl) λh=>?_;obtain⟨l,m,d⟩:=k h;obtain⟨x,o,q⟩:=gu m d;exact ab (sY O l) (ab o (aa.some λh=>by cases h))
theorem afu(w:7000<=n)(A:db 1000 p)(c d a:Int):DS n p c d a=some (vD p c d a):=by
 unfold DS vD;by_cases e:d= -1
 ·subst e;rw[aZ λh=>by rw[q1 O] at h;cases h.1];refine aa.eq (cr (Ae w A c) λt R=>aa.cond (λ_=>aa.ay (λz=>z=true) (λj B=>aN (λ_=>B _ rfl) λh=>bz (show(-1:Int)<0 by omega) h) λz C=>by rw[C];exact b1 (aa.some rfl)) λ_=>aa.some rfl)
 refine aa.eq (ab (wO w A c d e) ?_);by_cases m:cS p c d=true
 ·rw[a1 m];refine b1 (aa.ay (λz=>z= !decide (-6<=a/\a<=6)) (λj B=>?_) λz C=>?_)
  ·refine aN (λh=>?_) λ_=>ab (L8 n a) (B _ rfl);rw[q1 h] at m;cases m
  subst C;by_cases q: -6<=a/\a<=6
  ·rw[a1 ⟨m,q⟩,bF q];refine b3 ?_;obtain⟨u,i,k,P,l,rfl,rfl,H,r,v,W,o,K⟩:=m9 m;obtain⟨R,L⟩:=ih o;obtain⟨_,X,b,_⟩:=gk o;refine ab (be H) (ab (be r) (ab (JJ O (L l (bE r)) (XU O q)) (ab (dD O _) (ab (dD Z _) (ab (Am n K) ?_)))));rw[bb (n:=(k:Int)+1) O];have G:=yq (n:=n) O (nest:=P.nest.set k (eb (λx=>eP x 1 (jP a)) l)) (body:=P.body) (s:=k+1) bN bN (λy Q=>by
    rw[pX O] at Q;exact L y (e6 Q)) X.2 b (F:=λf=>vb n f (k:Int) (⟨(gS k).aQ,wr (0-a)⟩:aw)) (XT O K q)
   rw[m7,m7];refine ab G (ab (dD bN _) ?_);rw[m7,List.set_set];have g:(⟨(P.nest.set k (eb (λx=>eP x 1 (jP a)) l)).take (k+1)++((P.nest.set k (eb (λx=>eP x 1 (jP a)) l)).drop (k+1)).map (eb (g' k (jP a))),P.body.map (iC (g' k (jP a)))⟩:Part)=qc k (λx=>eP x 1 (jP a)) (g' k (jP a)) P l:=by
    rw[pX O,eg,jr O,List.take_set_of_le (cJ k),fy];rfl
   rw[g];refine ab (qQ w (xm A i (Bb o r (wZ rfl) (BK rfl)))) (aa.some ?_);rw[zU H r]
  rw[aZ λh=>q h.2,bD q];exact b1 (aa.some rfl)
 rw[aZ m,aZ λh=>m h.1];exact b3 (aa.some rfl)
theorem agZ{a:Type}{l:List a}{x:a}(h:l[i]? =some x):l.set i x=l:=by
 refine List.ext_getElem? (λj=>?_)
 grind
theorem agv:db 1000 ef.1:=⟨⟨by simp[ef],λx a=>by cases a⟩,by simp[ef],λx a=>by cases a⟩
def fm(k:Nat)(s:Int):aw:=⟨[0,0,0,0].set k s,0⟩
theorem rS(k:Nat)(h: -6<=s/\s<=6):e8 6 (fm k s):=by refine⟨by simp[fm],⟨by simp[fm],by simp[fm]⟩,pI (λc a=>?_) ⟨h.1,h.2⟩⟩;simp at a;subst a;exact⟨O,O⟩
theorem PE(s:Int)(a:k+1<4):(fm k s).aQ.getD (k+1) 0=0:=by rcases(O:k=0\/k=1\/k=2) with rfl|rfl|rfl<;>rfl
def vE(p:Prog)(c a s:Int):Prog×Bool:=
 if cS p c a=true/\cS p c (a+1)=true/\(-6<=s/\s<=6) then vj p c (a+1) (λx=>eP x 1 (fm a.toNat s)) (g' (a.toNat+1) (fm a.toNat s)) else ef
theorem abW(a:k<4)(s:Int):od (gS k) s ⟨[0,0,0,0],0⟩ 0=fm k s:=by rcases(O:k=0\/k=1\/k=2\/k=3) with rfl|rfl|rfl|rfl<;>simp[od,gS,fm]
theorem ab0(d:k<4)(s:Int){a:aw}(c:a.aQ.length=4):eP a s (gS k)=eP a 1 (fm k s):=by obtain⟨a0,aI,a2,a3,e⟩:=mj c;rcases(O:k=0\/k=1\/k=2\/k=3) with rfl|rfl|rfl|rfl<;>simp[eP,gS,fm,e]
theorem acs(a:k+1<4)(s:Int):eP (gS (k+1)) (-s) (gS k)=nI (k+1) (fm k s):=by rcases(O:k=0\/k=1\/k=2) with rfl|rfl|rfl<;>simp[nI,eP,gS,fm]
theorem agU(r:7000<=n)(o:db 1000 p)(a c s:Int):D7 n p a c s=some (vE p a c s):=by
 unfold D7 vE;refine aa.eq (ab (k8 O o) (aa.ay (λz=>z= !(cS p a c&&(cS p a (c+1)&&decide (-6<=s/\s<=6)))) (λj w=>?_) λz F=>?_))
 ·refine ab (mM r o a c) (aa.cond (λh=>w _ ?_) λh=>?_)
  ·rw[show cS p a c=false by simpa using h];rfl
  have m:cS p a c=true:=by simpa using h
  obtain⟨G,i,k,P,l,rfl,rfl,y,q,C,A,e,B⟩:=m9 m;rw[bb O];refine ab (mM r o _ _) (aa.cond (λh=>w _ ?_) λh=>ab (yI n s 6 O) (w _ ?_))
  ·rw[m,show cS p (i:Int) ((k:Int)+1)=false by simpa using h];rfl
  rw[m,show cS p (i:Int) ((k:Int)+1)=true by simpa using h];rfl
 subst F;by_cases d:cS p a c=true/\cS p a (c+1)=true/\(-6<=s/\s<=6)
 ·rw[a1 d,d.1,d.2.1,bF d.2.2];refine b3 ?_;obtain⟨G,i,eI,P,l,rfl,H,y,q,C,A,e,B⟩:=m9 d.2.1;obtain⟨_,R,k,W,X,K,rfl,_⟩:=m9 d.1;obtain rfl:eI=k+1:=O
  refine ab (AM n O) (ab (x:=⟨[0,0,0,0],0⟩) rfl (ab (th O ((tD O).mono O) (by unfold e8 cF;simp) ⟨O,O⟩ ⟨O,O⟩) ?_));rw[abW O,bb O];refine ab (be y) (ab (N9 O e q B (rS k d.2.2) (PE s B)) (ab (wV r o C ((Bb e q (wZ (rS k d.2.2).1) (BK (rS k d.2.2).1)).mono O)) (aa.some ?_)));show hM _=_;rw[show((k:Int)+1)=((k+1:Nat):Int) by omega,zU y q];rfl
 rw[aZ d,show(cS p a c&&(cS p a (c+1)&&decide (-6<=s/\s<=6)))=false by
  cases m:cS p a c with
  |false=>rfl
  |true=>cases L:cS p a (c+1) with
   |false=>rfl
   |true=>exact bD λQ=>d ⟨m,L,Q⟩]
 exact b1 (aa.some rfl)
theorem YY(d:5000<=n)(a:k<4)(e: -6<=s/\s<=6): ∀x,cO x=true->yB n x s (k:Int)=some (eP x 1 (fm k s)):=λx c=>by unfold yB;rw[Am n a];refine aa.eq (ab rfl (ab (An d ((nJ c).mono O) ((tD a).mono O) ⟨O,O⟩) (aa.some (ab0 a s (fF c).1))))
theorem Zx(e:5000<=n)(a:k+1<4)(c: -6<=s/\s<=6): ∀x,cO x=true->ve n x (k:Int) (nI (k+1) (fm k s))=some (g' (k+1) (fm k s) x):=λx d=>by unfold ve;rw[bb O,show((k:Int)+1)=((k+1:Nat):Int) by omega,EP e ((nJ d).mono O) (GG a (rS k c)) a,GI (nJ d).1 (rS k c).1 a (PE s a)];rfl
theorem afv(C:7000<=n)(G:db 1000 p)(a c s:Int):zo n p a c s=some (vE p a c s):=by
 unfold zo vE;by_cases e:c= -1
 ·subst e;rw[aZ λh=>by rw[q1 O] at h;cases h.1];refine aa.eq (cr (Ae C G a) λD W=>aa.cond (λ_=>aa.ay (λz=>z=true) (λj w=>aN (λ_=>w _ rfl) λh=>bz (show(-1:Int)<0 by omega) h) λz H=>by rw[H];exact b1 (aa.some rfl)) λ_=>aa.some rfl)
 refine aa.eq (ab (wO C G a c e) ?_);by_cases q:cS p a c=true
 ·rw[a1 q];obtain⟨X,i,k,P,E,rfl,rfl,A,b,I,f,o,K⟩:=m9 q;obtain⟨W,Q⟩:=ih o;obtain⟨_,g,t,_⟩:=gk o;have r:cS p (i:Int) ((k:Int)+1)=decide (k+1<P.nest.length):=by
   unfold cS;rw[X,be A];exact decide_eq_decide.2 O
  refine b1 (aa.ay (λz=>z= !(decide (k+1<P.nest.length)&&decide (-6<=s/\s<=6))) (λj w=>?_) λz H=>?_)
  ·refine aN (λh=>bz h O) λ_=>ab (be A) ?_;rw[bb O];refine aN (λh=>w _ ?_) λh=>ab (L8 n s) (w _ ?_)
   ·rw[bD (show¬k+1<P.nest.length by omega)];rfl
   rw[bF (O:k+1<P.nest.length)];rfl
  subst H;by_cases d:k+1<P.nest.length
  ·by_cases m: -6<=s/\s<=6
   ·rw[a1 ⟨q,by rw[r,bF d],m⟩,bF m,bF d];refine b3 ?_;obtain⟨l,B⟩: ∃l,P.nest[k+1]? =some l:=⟨_,bo d⟩
    rw[bb (n:=(k:Int)+1) O,bb (n:=(k:Int)+2) O,bb (n:=0-s) O,show((k:Int)+1)=((k+1:Nat):Int) by omega,show((k:Int)+2)=((k+1+1:Nat):Int) by omega,show 0-s= -s by omega];refine ab (be A) (ab (be B) (ab (JJ O (Q l (bE B)) (YY O K m)) (ab (dD O _) (ab (dD Z _) (ab (Am n O) (ab (Am n K) (ab (An O ((tD O).mono O) ((tD K).mono O) ⟨O,O⟩) ?_)))))));rw[acs O];have L:=yq (n:=n) O (nest:=P.nest.set (k+1) (eb (λx=>eP x 1 (fm k s)) l)) (body:=P.body) (s:=k+1+1) bN bN (λy R=>by
     rw[pX O] at R;exact Q y (e6 R)) g.2 t (F:=λu=>ve n u (k:Int) (nI (k+1) (fm k s))) (Zx O O m)
    rw[m7,m7];refine ab L (ab (dD bN _) ?_);rw[m7,List.set_set];have v:(⟨(P.nest.set (k+1) (eb (λx=>eP x 1 (fm k s)) l)).take (k+1+1)++((P.nest.set (k+1) (eb (λx=>eP x 1 (fm k s)) l)).drop (k+1+1)).map (eb (g' (k+1) (fm k s))),P.body.map (iC (g' (k+1) (fm k s)))⟩:Part)=qc (k+1) (λx=>eP x 1 (fm k s)) (g' (k+1) (fm k s)) P l:=by
     rw[pX O,eg,jr O,List.take_set_of_le (cJ _),fy];rfl
    rw[v];refine ab (qQ C (xm G i (Bb o B (wZ (rS k m).1) (BK (rS k m).1)))) (aa.some ?_);rw[zU A B];rfl
   rw[aZ λh=>m h.2.2,bD m,kg];exact b1 (aa.some rfl)
  rw[aZ (λh=>by rw[r,bD d] at h;cases h.2.1),bD d];exact b1 (aa.some rfl)
 rw[aZ q,aZ λh=>q h.1];exact b3 (aa.some rfl)
def low(k:Nat)(b:aw):Prop:= ∀j,k<=j->b.aQ.getD j 0=0
def kT(n:Int):Expr:=⟨1,n,⟨[],0⟩,⟨[],[]⟩,[]⟩
def gG(e:Expr)(n:Int):Bool:=decide (e.kind=1)&&decide (e.num=n)
def gX(k x y:Int):Int:=if k=5 then x-y else if k=6 then x*y else x+y
def iS(e:Expr):Expr:=
 if e.kind=2/\d6 e.index.aQ=0/\0<=e.index.const then kT e.index.const
 else match e.bm with
  | [a,b]=>
   if a.kind=1/\b.kind=1 then(if 0<=gX e.kind a.num b.num/\gX e.kind a.num b.num<=99 then kT (gX e.kind a.num b.num) else e)
   else if(¬e.kind=6/\gG b 0=true)\/(e.kind=6/\gG b 1=true) then a
   else if(e.kind=4/\gG a 0=true)\/(e.kind=6/\gG a 1=true) then b
   else if e.kind=6/\(gG a 0=true\/gG b 0=true) then kT 0
   else e
  |_=>e
def ll(e:Expr)(a:List Expr):Expr:=⟨e.kind,e.num,e.index,e.read,a⟩
def fH:Nat->Expr->Expr
 |0,e=>e
 |L+1,e=>iS (ll e (e.bm.map (fH L)))
theorem Nf{d:Int}: ∀{L:Nat} {e:Expr},dw L e d=true->dw (L+1) e d=true
 |0,_,h=>by cases h
 |L+1,e,h=>by obtain⟨c,i,l⟩:=ha h;show(decide (fj e.kind=e.bm.length)&&(ek e d&&e.bm.all λk=>dw (L+1) k d))=true;rw[bF c,i,fK,fK];exact fZ.2 λk a=>Nf (l k a)
theorem Jt(a:fj e.kind=e.bm.length)(c:ek e d=true)(h: ∀k∈e.bm,dw L k d=true):dw (L+1) e d=true:=by
 show(decide (fj e.kind=e.bm.length)&&(ek e d&&e.bm.all λk=>dw L k d))=true
 grind
theorem OR{d:Int}: ∀{L:Nat} {e:Expr},dw L e d=true->du (L+1) e=du L e
 |0,_,h=>by cases h
 |L+1,e,h=>by obtain⟨i,l,c⟩:=ha h;show 1+(e.bm.map (du (L+1))).sum=1+(e.bm.map (du L)).sum;rw[show e.bm.map (du (L+1))=e.bm.map (du L) from List.map_congr_left λk a=>OR (c k a)]
theorem MX{d:Int}: ∀{L:Nat} {e:Expr},dw L e d=true->dU (L+1) e=dU L e
 |0,_,h=>by cases h
 |L+1,e,h=>by obtain⟨i,l,c⟩:=ha h;show(if e.kind=3 then [e.read] else [])++e.bm.flatMap (dU (L+1))=(if e.kind=3 then [e.read] else [])++e.bm.flatMap (dU L);rw[List.flatMap_def,List.flatMap_def,show e.bm.map (dU (L+1))=e.bm.map (dU L) from List.map_congr_left λk a=>MX (c k a)]
theorem Ge(l:ek e d=true):iS e=e\/(∃n,iS e=kT n/\0<=n/\n<=99)\/ ∃k∈e.bm,iS e=k:=by
 obtain⟨kind,num,index,read,i⟩:=e;unfold iS;dsimp only;split
 ·rename_i h
  have:=(fF (p4 l h.1).1).2.1;exact .inr (.inl ⟨_,rfl,h.2.2,this.2⟩)
 match i with
 | []=>exact .inl rfl
 | [a]=>exact .inl rfl
 | [a,b]=>
  dsimp only;split
  ·split
   ·rename_i h;exact .inr (.inl ⟨_,rfl,h⟩)
   exact .inl rfl
  split
  ·exact .inr (.inr ⟨a,aP,rfl⟩)
  split
  ·exact .inr (.inr ⟨b,aP,rfl⟩)
  split
  ·exact .inr (.inl ⟨0,rfl,O,O⟩)
  exact .inl rfl
 |a::b::c::r=>exact .inl rfl
theorem XE(L:Nat){n:Int}(h:0<=n/\n<=99)(d:Int):dw (L+1) (kT n) d=true:=by
 refine Jt (by simp[kT,fj]) ?_ λk a=>by cases a
 unfold ek kT hf jN;simp;omega
theorem Fa(h:ek e d=true)(a:List Expr):ek (ll e a) d=true:=h
theorem qy{d:Int}: ∀{L:Nat} {e:Expr},dw L e d=true->dw L (fH L e) d=true
 |0,_,h=>by cases h
 |L+1,e,h=>by
  obtain⟨o,l,m⟩:=ha h;have p:dw (L+1) (ll e (e.bm.map (fH L))) d=true:=Jt (by simp only[ll,List.length_map];exact o) l (λk a=>by
   obtain⟨y,i,rfl⟩:=ey.1 a;exact qy (m y i))
  show dw (L+1) (iS (ll e (e.bm.map (fH L)))) d=true;rcases Ge (Fa l (e.bm.map (fH L))) with c|⟨n,c,q⟩|⟨k,a,c⟩
  ·rw[c];exact p
  ·rw[c];exact XE L q d
  rw[c];obtain⟨y,i,rfl⟩:=ey.1 a;exact Nf (qy (m y i))
theorem NX{R:Type}(f:R->Int)(c: ∀x,0<=f x): ∀{l:List R} {x:R},x∈l->f x<=(l.map f).sum
 |y::l,x,h=>by
  have d: ∀l:List R,0<=(l.map f).sum:=λl=>by
   induction l with
   |nil=>simp
   |cons a l e=>simp only[List.map_cons,List.sum_cons];have:=c a;omega
  simp only[List.map_cons,List.sum_cons];rcases dL.1 h with rfl|h
  ·have:=d l;omega
  have:=NX f c h;have:=c y;omega
theorem Nb{a:Type}(f g:a->Int): ∀{l:List a},(∀x∈l,f x<=g x)->(l.map f).sum<=(l.map g).sum
 | [],_=>fT _
 |x::l,h=>by
  simp only[List.map_cons,List.sum_cons]
  have:=h x eM
  have:=Nb f g λy c=>h y (ew _ c);omega
theorem PY{d:Int}: ∀{L:Nat} {e:Expr},dw L e d=true->du L (fH L e)<=du L e
 |0,_,h=>by cases h
 |L+1,e,h=>by
  obtain⟨q,o,i⟩:=ha h;have m:du (L+1) (ll e (e.bm.map (fH L)))<=du (L+1) e:=by
   show 1+((e.bm.map (fH L)).map (du L)).sum<=1+(e.bm.map (du L)).sum;rw[List.map_map]
   have:=Nb (du L ∘ fH L) (du L) (l:=e.bm) λk a=>PY (i k a);omega
  show du (L+1) (iS (ll e (e.bm.map (fH L))))<=du (L+1) e;rcases Ge (Fa o (e.bm.map (fH L))) with c|⟨n,c,r⟩|⟨k,a,c⟩
  ·rw[c];exact m
  ·rw[c];exact rs (L+1) e
  rw[c];refine Int.le_trans ?_ m;obtain⟨y,p,rfl⟩:=ey.1 a;rw[OR (qy (i y p))];have s:du L (fH L y)<=((e.bm.map (fH L)).map (du L)).sum:=NX (du L) (λx=>by have:=rs L x;omega) a;show _<=1+((e.bm.map (fH L)).map (du L)).sum;omega
theorem PZ{d:Int}: ∀{L:Nat} {e:Expr},dw L e d=true-> ∀a∈dU L (fH L e),a∈dU L e
 |0,_,h=>by cases h
 |L+1,e,h=>by
  obtain⟨w,s,p⟩:=ha h;have q: ∀a∈dU (L+1) (ll e (e.bm.map (fH L))),a∈dU (L+1) e:=λa c=>by
   have c:a∈(if e.kind=3 then [e.read] else [])++(e.bm.map (fH L)).flatMap (dU L):=c;show a∈(if e.kind=3 then [e.read] else [])++e.bm.flatMap (dU L);rcases eh.1 c with c|c
   ·exact oT _ c
   refine oR _ ?_;obtain⟨y,m,o⟩:=tq.1 c;obtain⟨z,r,rfl⟩:=ey.1 m;exact tq.2 ⟨z,r,PZ (p z r) a o⟩
  intro a c;have c:a∈dU (L+1) (iS (ll e (e.bm.map (fH L)))):=c;rcases Ge (Fa s (e.bm.map (fH L))) with i|⟨n,i,x⟩|⟨k,l,i⟩
  ·rw[i] at c;exact q a c
  ·rw[i] at c;simp[dU,kT] at c
  rw[i] at c;obtain⟨y,m,rfl⟩:=ey.1 l;rw[MX (qy (p y m))] at c;refine q a ?_;show a∈(if e.kind=3 then [e.read] else [])++(e.bm.map (fH L)).flatMap (dU L);exact oR _ (tq.2 ⟨_,l,c⟩)
theorem XV(h:dw L e d=true): ∃K,L=K+1:=by
 cases L with
 |zero=>cases h
 |succ K=>exact⟨K,rfl⟩
theorem Xg(n:Nat)(e:Expr)(k:Int):iK n e k=some (gG e k):=by unfold iK gG;cases decide (e.kind=1)<;>rfl
theorem Wn(n:Nat)(e:Expr)(k:Int):pJ n e k=some (gG e k):=by unfold pJ gG;cases decide (e.kind=1)<;>rfl
def BZ(a:Expr):Prop:=a.kind=1->0<=a.num/\a.num<=99
theorem G7(h:dw L e d=true):BZ e:=λc=>by obtain⟨K,rfl⟩:=XV h;obtain⟨_,a,_⟩:=ha h;unfold ek at a;rw[aZ O,aZ O,a1 c] at a;simp only[Bool.and_eq_true,decide_eq_true_eq] at a;exact a.1
theorem Pv{b:Int}(d:0<=a/\a<=99)(c:0<=b/\b<=99):0<=a*b/\a*b<=9801:=by
 refine⟨oQ d.1 c.1,?_⟩
 have:=rl d.2 c.2 c.1 (by omega:(0:Int)<=99);omega
theorem abO(n:Nat)(R:c=4\/c=5\/c=6){a b:Expr}(W:BZ a)(X:BZ b):
  ay (fun(s:Bool)=>
      bif s then(
       ay (fun(q:Int)=>
        Option.bind (e9 n q 0 99) λd=>
        bif d then(
         Option.bind (nY n q) λe=>
         some e
        ) else(
         some (⟨c,0,(⟨[],0⟩:aw),(⟨[],[]⟩:bX),[a,b]⟩:Expr)
        )
       ) (λl=>
        bif decide (c=5) then(
         l (wr (a.num-b.num))
        ) else(
         bif decide (c=6) then(
          l (wr (a.num*b.num))
         ) else(
          l (wr (a.num+b.num))
         )
        )
       )
      ) else(
       ay (fun(w:Bool)=>
        bif w then(
         some a
        ) else(
         ay (fun(x:Bool)=>
          bif x then(
           some b
          ) else(
           ay (fun(y:Bool)=>
            bif y then(
             Option.bind (nY n 0) λA=>
             some A
            ) else(
             some (⟨c,0,(⟨[],0⟩:aw),(⟨[],[]⟩:bX),[a,b]⟩:Expr)
            )
           ) (λm=>
            bif decide (c=6) then(
             Option.bind (iK n a 0) λB=>
             bif B then(
              m true
             ) else(
              Option.bind (iK n b 0) λC=>
              m C
             )
            ) else(
             m false
            )
           )
          )
         ) (λi=>
          bif decide (c=4) then(
           Option.bind (iK n a 0) λF=>
           bif F then(
            i true
           ) else(
            bif decide (c=6) then(
             Option.bind (iK n a 1) λG=>
             i G
            ) else(
             i false
            )
           )
          ) else(
           bif decide (c=6) then(
            Option.bind (iK n a 1) λH=>
            i H
           ) else(
            i false
           )
          )
         )
        )
       ) (λk=>
        bif !(decide (c=6)) then(
         Option.bind (iK n b 0) λK=>
         bif K then(
          k true
         ) else(
          bif decide (c=6) then(
           Option.bind (iK n b 1) λL=>
           k L
          ) else(
           k false
          )
         )
        ) else(
         bif decide (c=6) then(
          Option.bind (iK n b 1) λQ=>
          k Q
         ) else(
          k false
         )
        )
       )
      )
     ) (λr=>
      bif decide (a.kind=1) then(
       r (decide (b.kind=1))
      ) else(
       r false
      )
     )=some (iS ⟨c,0,⟨[],0⟩,⟨[],[]⟩,[a,b]⟩):=by
 have g: ¬(c=2/\d6 ([]:List Int)=0/\(0:Int)<=0):=λh=>O
 unfold iS;dsimp only;rw[aZ g];simp only[Xg,Option.bind_some,ay];by_cases o:a.kind=1/\b.kind=1
 ·have j:=W o.1;have t:=X o.2;have I:=Pv j t;rw[a1 o,bF o.1,bF o.2];simp only[cond_true];have u:(bif decide (c=5) then(Option.bind (e9 n (wr (a.num-b.num)) 0 99) λd=>bif d then(Option.bind (nY n (wr (a.num-b.num))) λe=>some e) else(some (⟨c,0,⟨[],0⟩,⟨[],[]⟩,[a,b]⟩:Expr)))
    else bif decide (c=6) then(Option.bind (e9 n (wr (a.num*b.num)) 0 99) λd=>bif d then(Option.bind (nY n (wr (a.num*b.num))) λe=>some e) else(some (⟨c,0,⟨[],0⟩,⟨[],[]⟩,[a,b]⟩:Expr)))
    else(Option.bind (e9 n (wr (a.num+b.num)) 0 99) λd=>bif d then(Option.bind (nY n (wr (a.num+b.num))) λe=>some e) else(some (⟨c,0,⟨[],0⟩,⟨[],[]⟩,[a,b]⟩:Expr))))
    =Option.bind (e9 n (gX c a.num b.num) 0 99) λd=>bif d then(Option.bind (nY n (gX c a.num b.num)) λe=>some e) else(some (⟨c,0,⟨[],0⟩,⟨[],[]⟩,[a,b]⟩:Expr)):=by
   rw[bb (n:=a.num-b.num) O,bb (n:=a.num*b.num) O,bb (n:=a.num+b.num) O];unfold gX;rcases R with rfl|rfl|rfl<;>rfl
  refine u.trans ?_;rw[d7,Option.bind_some];by_cases p:0<=gX c a.num b.num/\gX c a.num b.num<=99
  ·rw[a1 p,bF p];rfl
  rw[aZ p,bD p];rfl
 rw[aZ o];have M:(bif decide (a.kind=1) then decide (b.kind=1) else false)=false:=by
  cases v:decide (a.kind=1) with
  |false=>rfl
  |true=>
   have: ¬b.kind=1:=λh=>o ⟨eX v,h⟩;rw[bD this];rfl
 have p: ∀{f:Bool->Option Expr},(bif decide (a.kind=1) then f (decide (b.kind=1)) else f false)=f false:=fun {f}=>by
  grind
 refine(p (f:=λz=>bif z then _ else _)).trans ?_;generalize gG a 0=a0;generalize gG a 1=aI;generalize gG b 0=D;generalize gG b 1=E;rcases R with rfl|rfl|rfl<;>cases a0<;>cases aI<;>cases D<;>cases E<;>rfl
theorem YD(n:Nat)(k:Int):rO n k=some (decide (4<=k/\k<=6)):=by unfold rO;rw[d7];rfl
theorem F'(h:fj e.kind=e.bm.length):((e.kind=1\/e.kind=2\/e.kind=3)/\e.bm=[])\/((e.kind=4\/e.kind=5\/e.kind=6)/\ ∃a b,e.bm=[a,b]):=by
 unfold fj at h;split at h
 ·rename_i d;exact .inl ⟨d,l1 O⟩
 split at h
 ·rename_i d;refine .inr ⟨d,?_⟩
  match i:e.bm,h with
  | [a,b],_=>exact⟨a,b,rfl⟩
  | [],h=>simp at h
  | [a],h=>simp at h
  |a::b::c::r,h=>simp at h;omega
 omega
theorem ace(a:ek e d=true)(h:e.kind=4\/e.kind=5\/e.kind=6):e.num=0/\e.index=⟨[],0⟩/\e.read=⟨[],[]⟩:=by have c:=xc a O O;unfold ek at a;rw[aZ O,aZ O,aZ O] at a;simp only[Bool.and_eq_true,decide_eq_true_eq] at a;exact⟨a.1,tk c.1,tl c.2⟩
theorem Br(a:ek e d=true):jy e.index/\kp e.read.bx:=by
 by_cases h:e.kind=2
 ·have:=p4 a h;refine⟨by have:=(fF this.1).1;unfold jy;omega,?_⟩;rw[tl this.2];exact⟨aP,λx c=>by cases c⟩
 by_cases i:e.kind=3
 ·have:=rK a i;have k:=mZ this.1;refine⟨?_,OB k.2.1 k.2.2⟩;rw[tk this.2];unfold jy;simp
 have:=xc a h i;refine⟨?_,?_⟩
 ·rw[tk this.1];unfold jy;simp
 rw[tl this.2];exact⟨aP,λx c=>by cases c⟩
def mN(e:Expr):Bool:=decide (e.kind=2)&&(decide (d6 e.index.aQ=0)&&decide (0<=e.index.const))
theorem LG(e:Expr):mN e=true↔e.kind=2/\d6 e.index.aQ=0/\0<=e.index.const:=by unfold mN;simp
theorem Lm(h:mN e=true):iS e=kT e.index.const:=by unfold iS;rw[a1 ((LG e).1 h)]
theorem Mm(h:mN e=false)(a:e.bm=[]):iS e=e:=by unfold iS;rw[aZ (λc=>by rw[(LG e).2 c] at h;cases h),a]
theorem IG{d:Int}: ∀(L n:Nat) (e:Expr),6000+L<=n->dw L e d=true->qI (n+1) e=some (fH L e)
 |0,_,_,_,h=>by cases h
 |L+1,n,e,R,h=>by
  obtain⟨r,s,w⟩:=ha h;obtain⟨n,rfl⟩: ∃j,n=j+1:=⟨n-1,O⟩
  unfold qI;refine aa.eq (aa.ay (λz=>z=mN e) (λj m=>?_) λz B=>?_)
  ·refine aN (λo=>ab (zm O (Br s).1) (aN (λC=>m _ ?_) λC=>m _ ?_)) λo=>m _ ?_
   ·unfold mN;rw[bF o,bF (O:d6 e.index.aQ=0)];rfl
   ·unfold mN;rw[bD (show¬d6 e.index.aQ=0 by omega),Bool.false_and,kg]
   unfold mN;rw[bD o];rfl
  subst B;have p:fH (L+1) e=iS (ll e (e.bm.map (fH L))):=rfl;refine aa.cond (λq=>?_) λq=>?_
  ·refine ab (x:=kT e.index.const) rfl (aa.some ?_);rw[p];exact(Lm (e:=ll e (e.bm.map (fH L))) q).symm
  refine ab (YD _ _) (eV (λl=>aa.some ?_) λl=>?_)
  ·rcases F' r with ⟨_,k⟩|⟨i,_⟩
   ·rw[p,k]
    have:ll e []=e:=by cases e;cases k;rfl
    show e=iS (ll e []);rw[this];exact(Mm q k).symm
   exact bz O l
  rcases F' r with ⟨i,_⟩|⟨i,a,b,c⟩
  ·omega
  have y:=w a (by rw[c];simp);have A:=w b (by rw[c];simp);have F:ar e.bm 0=some a:=by rw[c];rfl
  have G:ar e.bm 1=some b:=by rw[c];rfl
  refine ab F (ab (IG L n a O y) (ab G (ab (IG L n b O A) (aa.of (abO (n+1) i (G7 (qy y)) (G7 (qy A))) ?_))));obtain⟨H,K,Q⟩:=ace s i;rw[p,c];unfold ll;rw[H,K,Q];rfl
theorem YZ(n:Nat)(o:e.kind=4\/e.kind=5\/e.kind=6){x:Int}(l:0<=x/\x<=99)(m:0<=y/\y<=99):Av n e x y=some (if 0<=gX e.kind x y/\gX e.kind x y<=99 then kT (gX e.kind x y) else e):=by
 have p:=Pv l m;unfold Av;refine aa.eq (aa.ay (λz=>z=gX e.kind x y) (λj a=>?_) λz d=>?_)
 ·rw[bb (n:=x+y) O,bb (n:=x-y) O,bb (n:=x*y) O];refine aN (λh=>a _ ?_) λh=>aN (λi=>a _ ?_) λi=>a _ ?_
  ·unfold gX;rw[aZ O,aZ O]
  ·unfold gX;rw[a1 i]
  unfold gX;rw[aZ i,a1 O]
 subst d;refine aa.ay (λz=>z= !decide (0<=gX e.kind x y/\gX e.kind x y<=99)) (λj a=>aN (λh=>a _ ?_) λh=>a _ ?_) λz d=>?_
 ·rw[bD O];rfl
 ·by_cases k:(99:Int)<gX e.kind x y
  ·rw[bF k,bD O];rfl
  rw[bD k,bF O];rfl
 subst d;by_cases c:0<=gX e.kind x y/\gX e.kind x y<=99
 ·rw[bF c,a1 c];exact b3 (ab rfl (aa.some rfl))
 rw[bD c,aZ c];exact b1 (aa.some rfl)
theorem XW(Q:5000<=n)(A:jy e.index)(B:fj e.kind=e.bm.length)(w: ∀k∈e.bm,BZ k):za n e=some (iS e):=by
 unfold za;refine aa.eq (aa.ay (λz=>z=mN e) (λj l=>?_) λz q=>?_)
 ·refine aN (λC=>ab (yT O A) (aN (λF=>l _ ?_) λF=>l _ ?_)) λC=>l _ ?_
  ·unfold mN
   grind
  ·unfold mN
   grind
  unfold mN
  grind
 subst q;refine aa.cond (λr=>ab (x:=kT e.index.const) rfl (aa.some (Lm r).symm)) λr=>?_;rcases F' B with ⟨_,o⟩|⟨d,a,b,c⟩
 ·refine aN (λ_=>aa.some (Mm r o).symm) λh=>bz (by rw[o];rfl) h
 have G:=w a (by rw[c];simp);have H:=w b (by rw[c];simp);refine aN (λh=>by rw[c] at h;simp at h) λ_=>ab (show ar e.bm 0=some a by rw[c];rfl) (ab (show ar e.bm 1=some b by rw[c];rfl) ?_);have i:iS e=(if a.kind=1/\b.kind=1 then(if 0<=gX e.kind a.num b.num/\gX e.kind a.num b.num<=99 then kT (gX e.kind a.num b.num) else e)
   else if(¬e.kind=6/\gG b 0=true)\/(e.kind=6/\gG b 1=true) then a
   else if(e.kind=4/\gG a 0=true)\/(e.kind=6/\gG a 1=true) then b
   else if e.kind=6/\(gG a 0=true\/gG b 0=true) then kT 0
   else e):=by
  unfold iS;rw[aZ (λh=>O),c]
 rw[i];refine aa.ay (λz=>z=decide (a.kind=1/\b.kind=1)) (λj l=>aN (λh=>l _ ?_) λh=>l _ ?_) λz q=>?_
 ·by_cases p:b.kind=1
  ·rw[bF p,bF ⟨h,p⟩]
  rw[bD p,bD λs=>p s.2]
 ·rw[bD λs=>h s.1]
 subst q;by_cases m:a.kind=1/\b.kind=1
 ·rw[bF m,a1 m];exact b1 (ab (YZ n d (G m.1) (H m.2)) (aa.some rfl))
 rw[bD m,aZ m];refine b3 ?_;simp only[Wn,Option.bind_some,ay];generalize gG a 0=a0;generalize gG a 1=aI;generalize gG b 0=K;generalize gG b 1=L;obtain⟨kind,num,index,read,y⟩:=e;dsimp only at d⊢;rcases d with rfl|rfl|rfl<;>cases a0<;>cases aI<;>cases K<;>cases L<;>exact aa.some rfl
theorem Q8{d:Int}: ∀(L n:Nat) (e:Expr),6000+L<=n->dw L e d=true->q5 (n+1) e=some (fH L e)
 |0,_,_,_,h=>by cases h
 |L+1,n,e,s,h=>by
  obtain⟨m,a,l⟩:=ha h;obtain⟨n,rfl⟩: ∃j,n=j+1:=⟨n-1,O⟩
  have o:e.bm.length<=2:=by have:=pF e.kind;omega
  unfold q5;refine aa.eq (ab (zt _ (Br a).1) (ab (yZ O (Br a).2) ?_));refine oK (f:=q5 (n+1)) (g:=fH L) (K:=λp=>Option.bind (za (n+1) (⟨e.kind,e.num,e.index,e.read,p⟩:Expr)) λc=>some c) (λx q=>Q8 L n x O (l x q)) O O ?_;refine ab (XW O (Br a).1 (by simpa using m) λk i=>?_) (aa.some rfl);obtain⟨y,r,rfl⟩:=ey.1 i;exact G7 (qy (l y r))
def jJ(l:List cb)(p:Prog)(a:Int)(c:Nat):Prop:= ∃x∈l,x.part=a/\c5 p x=c
def kB(l:List cb)(p:Prog)(a:Int)(c:Nat):Prop:= ∃x∈l,x.part=a/\(c:Int)∈rc p x
theorem wK{l:List cb}{c:Nat}{x:cb}:jJ (l++[x]) p a c↔jJ l p a c\/(x.part=a/\c5 p x=c):=by
 unfold jJ
 grind
theorem wL{l:List cb}{c:Nat}{x:cb}:kB (l++[x]) p a c↔kB l p a c\/(x.part=a/\(c:Int)∈rc p x):=by
 unfold kB
 grind
def hD(T:Nat)(f:List Bool)(S:Nat->Prop):Prop:=f.length=T/\ ∀c,c<T->(f.getD c false=true↔S c)
theorem F4(T:Nat):hD T (List.replicate T false) (λ_=>False):=⟨Dz,λc a=>by rw[eL,tt];split<;>simp⟩
theorem Gm{T:Nat}{f:List Bool}{S:Nat->Prop}(h:hD T f S){d:Nat}(a:d<T):hD T (f.set d true) (λc=>S c\/c=d):=⟨by rw[eR];exact h.1,λc i=>by
 by_cases e:d=c
 ·subst e;rw[eL,jr (by rw[h.1];exact a)];simp
 rw[eL,lg e,<-eL,h.2 c i];constructor
 ·exact .inl
 rintro(h|h)
 ·exact h
 exact bz h.symm e⟩
theorem lU{T:Nat}{f:List Bool}{S X:Nat->Prop}(h:hD T f S)(d: ∀c,c<T->(S c↔X c)):hD T f X:=⟨h.1,λc a=>(h.2 c a).trans (d c a)⟩
theorem rP{T:Nat}{f:List Bool}{S:Nat->Prop}(h:hD T f S){c:Nat}(d:c<T):ar f (c:Int)=some (f.getD c false):=by
 have a:c<f.length:=by rw[h.1];exact d
 rw[be (bo a),eL,bo a];rfl
theorem MC(A:5000<=n){T:Nat}{cs:List Int}(B:cs.length<=1000)(m: ∀c∈cs,0<=c/\c<(T:Int)){K:List Bool->Option R}{f:List Bool}{S:Nat->Prop}(o:hD T f S)(p: ∀g,hD T g (λc=>S c\/(c:Int)∈cs)->aa (K g) Q):
  aa (bd (λa (z:(List Bool)×Int)=>bif decide (z.2<(cs.length:Int)) then(Option.bind (ar cs z.2) λx=>Option.bind (ar z.1 x) λ_=>Option.bind (b6 z.1 x true) λy=>a (y,wr (z.2+1))) else(K z.1)) n (f,0)) Q:=by
 refine aa.loop (λz:List Bool×Int=> ∃i:Nat,z.2=i/\i<=cs.length/\hD T z.1 λc=>S c\/(c:Int)∈cs.take i) (λz=>cs.length-z.2.toNat) ?_ n _ ⟨0,rfl,O,lU o λc _=>aP⟩ Z;rintro a ⟨x,z⟩ ⟨i,l,C,h⟩ q;dsimp only at l h⊢;subst l;refine aN (λr=>?_) λs=>?_
 ·obtain⟨c,k⟩: ∃c,cs[i]? =some c:=⟨_,bo (O:i<cs.length)⟩
  have aY:=m c (bE k);have w:=h.1;refine ab (be k) (ab (xo aY.1 O) (ab (FP aY.1 O true) ?_));rw[bb O];refine q _ ⟨i+1,Z,O,lU (Gm h (d:=c.toNat) O) λe F=>?_⟩ Z;rw[gi k,eh,nN]
  grind
 have e:i=cs.length:=O
 refine p x (lU h λc _=>?_)
 grind
theorem xf(a:bT p=true):((iv p:Nat):Int)=gH p.aR/\iv p<=144:=by
 have:=Zr a
 grind
theorem LJ(Y:7100<=n)(w:bT p=true)(a:Int):aa (ya n (fx p) a) (λr=>hD (iv p) r.1 (kB (bn p.parts) p a)/\hD (iv p) r.2 (jJ (bn p.parts) p a)):=by
 obtain⟨Q,R,_,_,X⟩:=ei w;have fc:=xf w;unfold ya;refine ab (LX (p:=p) O Q R) (ab (GC ⟨O,O⟩ false) (ab (LX (p:=p) O Q R) (ab (GC ⟨O,O⟩ false) ?_)));show aa (bd _ n (List.replicate (iv p) false,List.replicate (iv p) false,0)) _;refine aa.loop (λz:List Bool×List Bool×Int=> ∃i:Nat,z.2.2=i/\i<=(bn p.parts).length/\hD (iv p) z.1 (kB ((bn p.parts).take i) p a)/\hD (iv p) z.2.1 (jJ ((bn p.parts).take i) p a)) (λz=>(bn p.parts).length-z.2.2.toNat) ?_ n _ ⟨0,rfl,O,lU (F4 _) (λc _=>by simp[kB]),lU (F4 _) λc _=>by simp[jJ]⟩ Z;rintro A ⟨x,y,z⟩ ⟨i,m,aE,B,o⟩ b;dsimp only at m B o⊢;subst m;have l:(fx p).list=bn p.parts:=rfl;rw[l];refine aN (λt=>?_) λv=>aa.some ?_
 ·obtain⟨u,k⟩: ∃u,(bn p.parts)[i]? =some u:=⟨_,bo (O:i<(bn p.parts).length)⟩
  have D:=hd (bE k);obtain⟨fp,E,aiT,_⟩:=nz w D;have C:(fx p).reads[i]? =some (rc p u):=jI k;have F:(fx p).da[i]? =some (c5 p u:Int):=jI (f:=λx=>(c5 p x:Int)) k;refine aa.ay (λz:List Bool×List Bool×Int×Int×List Int=>hD (iv p) z.1 (kB ((bn p.parts).take (i+1)) p a)/\hD (iv p) z.2.1 (jJ ((bn p.parts).take (i+1)) p a)) (λj W=>?_) λz m=>?_
  ·refine ab (be k) (eV (λq=>W _ ⟨lU B λc _=>?_,lU o λc _=>?_⟩) λhe=>ab (be C) ?_)
   ·rw[gi k,wL];exact⟨.inl,λh=>h.elim id λh=>bz h.1 q⟩
   ·rw[gi k,wK];exact⟨.inl,λh=>h.elim id λh=>bz h.1 q⟩
   refine MC (T:=iv p) O (cs:=rc p u) O (λc I=>by have:=E c I;omega) (K:=λG=>Option.bind (ar (fx p).da (i:Int)) λs=>Option.bind (ar y s) λM=>Option.bind (b6 y s true) λH=>j (G,H,u.part,u.stmt,u.cK)) B λg L=>?_;refine ab (be F) (ab (rP o O) (ab (FP O (by rw[o.1];omega) true) (W _ ⟨lU L λc _=>?_,?_⟩)))
   ·rw[gi k,wL]
    grind
   refine lU (Gm o (d:=c5 p u) O) λc _=>?_;rw[gi k,wK]
   grind
  obtain⟨N,P,S,U,V⟩:=z;dsimp only at m⊢;rw[bb O];exact b _ ⟨i+1,Z,O,m.1,m.2⟩ Z
 have e:i=(bn p.parts).length:=O
 grind
theorem D6(L:7100<=n)(o:bT p=true)(a:Int)(w:Bool):aa (sU n p a w) (λr=>r.length<=144/\ ∀c:Int,c∈r↔0<=c/\c.toNat<iv p/\(if w=true then jJ (bn p.parts) p a c.toNat else kB (bn p.parts) p a c.toNat)):=by
 obtain⟨Q,R,_,_,W⟩:=ei o;have M:=xf o;unfold sU;refine ab (Lr O Q R) (ab (GC ⟨O,O⟩ false) (ab (u3 O o) (ab (zE L o) ?_)));show aa (bd _ n (List.replicate (iv p) false,0)) _;refine aa.loop (λz:List Bool×Int=> ∃i:Nat,z.2=i/\i<=(bn p.parts).length/\hD (iv p) z.1 λc=>if w=true then jJ ((bn p.parts).take i) p a c else kB ((bn p.parts).take i) p a c) (λz=>(bn p.parts).length-z.2.toNat) ?_ n _ ⟨0,rfl,O,lU (F4 _) λc _=>by simp[kB,jJ]⟩ Z;rintro y ⟨x,z⟩ ⟨i,s,N,l⟩ X;dsimp only at s l⊢;subst s;refine aN (λk=>?_) λb=>?_
 ·obtain⟨u,m⟩: ∃u,(bn p.parts)[i]? =some u:=⟨_,bo (O:i<(bn p.parts).length)⟩
  have t:=hd (bE m);obtain⟨P,v,S,_⟩:=nz o t;have q:(kd p)[i]? =some (⟨rc p u,(c5 p u:Int)⟩:ki):=jI (f:=λx=>(⟨rc p x,(c5 p x:Int)⟩:ki)) m;refine aa.ay (λz:List Bool=>hD (iv p) z λc=>if w=true then jJ ((bn p.parts).take (i+1)) p a c else kB ((bn p.parts).take (i+1)) p a c) (λj A=>?_) λz s=>?_
  ·refine ab (be m) (eV (λD=>A _ (lU l λc _=>?_)) λH=>?_)
   ·rw[gi m,wK,wL]
    grind
   cases w with
   |true=>
    refine b1 (ab (be q) (ab (rP l O) (ab (FP (by(try dsimp only);omega) (by rw[l.1];(try dsimp only);omega) true) (A _ ?_))));refine lU (Gm l (d:=c5 p u) O) λc _=>?_;rw[gi m,wK,wL];exact or_congr Iff.rfl ⟨λh=>⟨H,h.symm⟩,λh=>h.2.symm⟩
   |false=>
    refine b3 ?_;simp only[be q,Option.bind_some];refine MC (T:=iv p) O (cs:=rc p u) O (λc E=>by have:=v c E;omega) (K:=λB=>j B) l λg C=>A _ (lU C λc _=>?_);rw[gi m,wK,wL];exact or_congr Iff.rfl ⟨λh=>⟨H,h⟩,λh=>h.2⟩
  rw[bb O];exact X _ ⟨i+1,Z,O,s⟩ Z
 have e:i=(bn p.parts).length:=O
 rw[e,dz] at l;have I:=l.1;refine ab (Kt O O) (aa.some ⟨by have:=K5 x;omega,λc=>?_⟩);rw[Ew];constructor
 ·rintro⟨F,G⟩;have k:c.toNat<iv p:=by
   grind
  exact⟨F,k,(l.2 _ k).1 G⟩
 rintro⟨F,k,G⟩;exact⟨F,(l.2 _ k).2 G⟩
theorem Gi(r:5000<=n){a b:List Int}(s:a.length<=1000)(m:b.length<=1000):vK n a b=some (a.any λc=>decide (c∈b)):=by
 refine aa.eq ?_;unfold vK;refine aa.loop (λz:Int=> ∃i:Nat,z=i/\i<=a.length/\(a.take i).any (λc=>decide (c∈b))=false) (λz=>a.length-z.toNat) ?_ n 0 ⟨0,rfl,O,aP⟩ O;rintro d z ⟨i,rfl,w,k⟩ o;refine aN (λp=>?_) λq=>aa.some ?_
 ·obtain⟨c,l⟩: ∃c,a[i]? =some c:=⟨_,bo (O:i<a.length)⟩
  refine ab (be l) (ab (FV O m c) (aa.cond (λh=>aa.some ?_) λh=>?_))
  ·exact(iU.2 ⟨c,bE l,h⟩).symm
  rw[bb O];refine o _ ⟨i+1,O,O,?_⟩ O;rw[gi l,ts,k]
  grind
 have e:i=a.length:=O
 grind
def BT(p:Prog)(a b:Int):Prop:= ∀x∈bn p.parts,∀y∈bn p.parts,x.part=a->y.part=b-> ¬Py p x y
noncomputable def r'(p:Prog)(a b:Int):Bool:= @decide (BT p a b) (Classical.propDecidable _)
theorem IH{b:Int}:r' p a b=true↔BT p a b:=by unfold r';exact @decide_eq_true_iff _ (Classical.propDecidable _)
theorem LU(n:bT p=true){b:Int}:BT p a b↔ ∀c,c<iv p-> ¬(jJ (bn p.parts) p a c/\(kB (bn p.parts) p b c\/jJ (bn p.parts) p b c))/\ ¬(jJ (bn p.parts) p b c/\kB (bn p.parts) p a c):=by
 have o:=xf n;constructor
 ·intro h c _;refine⟨?_,?_⟩
  ·rintro⟨⟨x,l,e,m⟩,⟨y,k,d,i⟩|⟨y,k,d,i⟩⟩
   ·exact h x l y k e d (.inl (by rw[m];exact i))
   exact h x l y k e d (.inr (.inr (by rw[m,i])))
  rintro⟨⟨y,k,d,i⟩,⟨x,l,e,m⟩⟩;exact h x l y k e d (.inr (.inl (by rw[i];exact m)))
 intro h x l y k e d bG;have q:=(nz n (hd l)).1;have r:=(nz n (hd k)).1;rcases bG with bG|bG|bG
 ·exact(h (c5 p x) O).1 ⟨⟨x,l,e,rfl⟩,.inl ⟨y,k,d,bG⟩⟩
 ·exact(h (c5 p y) O).2 ⟨⟨y,k,d,rfl⟩,⟨x,l,e,bG⟩⟩
 exact(h (c5 p x) O).1 ⟨⟨x,l,e,rfl⟩,.inr ⟨y,k,d,bG.symm⟩⟩
def ee(p:Prog)(a:Int):Bool:=decide (0<=a/\a<(p.parts.length:Int))
noncomputable def j5(p:Prog)(a b:Int):Bool:=bT p&&(ee p a&&(ee p b&&(!decide (a=b)&&r' p a b)))
theorem sX{b:Bool}(h:(!b)=true):b=false:=by cases b with
 |false=>rfl
 |true=>cases h
theorem qW{b:Bool}(h:(!b)=false):b=true:=by cases b with
 |false=>cases h
 |true=>rfl
theorem Xh(cy:5000<=n){T:Nat}(kx:T<=1000){G I M H:List Bool}{s o p k:Nat->Prop}(B:hD T G s)(K:hD T I o)(L:hD T M p)(x:hD T H k){v:Bool}(N:v=true↔ ∀c,c<T-> ¬(o c/\(p c\/k c))/\ ¬(k c/\s c)):
  aa (bd (λl (e:Int)=>
     bif decide (e<(G.length:Int)) then(
      ay (fun(Q:Bool)=>
       bif Q then(
        some false
       ) else(
        l (wr (e+1))
       )
      ) (λm=>
       Option.bind (ar I e) λR=>
       bif R then(
        Option.bind (ar M e) λW=>
        bif W then(
         m true
        ) else(
         Option.bind (ar H e) λX=>
         bif X then(
          m true
         ) else(
          m false
         )
        )
       ) else(
        Option.bind (ar H e) λb=>
        bif b then(
         Option.bind (ar G e) λf=>
         m f
        ) else(
         m false
        )
       )
      )
     ) else(
      some true
     )
    ) n 0) (λr=>r=v):=by
 have y: ∀c,c<T->((o c/\(p c\/k c))\/(k c/\s c))->v=false:=λc g h=>by
  cases t:v with
  |false=>rfl
  |true=>
   have:=N.1 t c g;rcases h with h|h
   ·exact bz h this.1
   exact bz h this.2
 have u:=B.1;refine aa.loop (λz:Int=> ∃i:Nat,z=i/\i<=T/\ ∀c,c<i-> ¬(o c/\(p c\/k c))/\ ¬(k c/\s c)) (λz=>T-z.toNat) ?_ n 0 ⟨0,rfl,O,λc h=>O⟩ O;rintro D z ⟨i,rfl,aE,E⟩ S;rw[u];refine aN (λU=>?_) λV=>aa.some ?_
 ·have a:i<T:=O
  refine aa.ay (λz=>(z=true->(o i/\(p i\/k i))\/(k i/\s i))/\(z=false-> ¬(o i/\(p i\/k i))/\ ¬(k i/\s i))) (λj A=>?_) λz Y=>aa.cond (λh=>aa.some (y i a (Y.1 h)).symm) λh=>?_
  ·refine ab (rP K a) (aa.cond (λC=>?_) λC=>?_)
   ·have w:=(K.2 i a).1 C;refine ab (rP L a) (aa.cond (λF=>A _ ⟨λ_=> .inl ⟨w,.inl ((L.2 i a).1 F)⟩,λh=>(by cases h)⟩) λF=>ab (rP x a) (aa.cond (λd=>A _ ⟨λ_=> .inl ⟨w,.inr ((x.2 i a).1 d)⟩,λh=>(by cases h)⟩) λd=>A _ ⟨λh=>(by cases h),λ_=>?_⟩));have aiN: ¬p i:=λh=>by rw[(L.2 i a).2 h] at F;cases F
    have ahY: ¬k i:=λh=>by rw[(x.2 i a).2 h] at d;cases d
    grind
   have P: ¬o i:=λh=>by rw[(K.2 i a).2 h] at C;cases C
   refine ab (rP x a) (aa.cond (λd=>ab (rP B a) (A _ ⟨λh=> .inr ⟨(x.2 i a).1 d,(B.2 i a).1 h⟩,λh=>⟨λq=>P q.1,λq=>by rw[(B.2 i a).2 q.2] at h;cases h⟩⟩)) λd=>A _ ⟨λh=>(by cases h),λ_=>⟨λq=>P q.1,λq=>by rw[(x.2 i a).2 q.1] at d;cases d⟩⟩)
  rw[bb O];refine S _ ⟨i+1,O,O,λc g=>?_⟩ O
  grind
 exact(N.2 λc g=>E c O).symm
theorem ZU(i:7100<=n)(m:ja p)(a b:Int):Cp n p a b=some (j5 p a b):=by
 unfold Cp;refine aa.eq (ab (vy i m) ?_);by_cases c:bT p=true
 ·rw[a1 c];have C:=xf c;have d:=m.2.1;refine b1 (aa.ay (λz=>z= !(ee p a&&(ee p b&& !decide (a=b)))) (λj e=>b3 (ab (qN n d a) (aa.cond (λh=>e _ ?_) λh=>ab (qN n d b) (aa.cond (λk=>e _ ?_) λk=>e _ ?_)))) λz l=>?_)
  ·have:ee p a=false:=sX h
   grind
  ·have o:ee p a=true:=qW h;have q:ee p b=false:=sX k
   grind
  ·have o:ee p a=true:=qW h;have q:ee p b=true:=qW k
   grind
  subst l;unfold j5;rw[c];cases o:ee p a with
  |false=>exact b1 (aa.some rfl)
  |true=>
   cases q:ee p b with
   |false=>exact b1 (aa.some rfl)
   |true=>
    cases F:decide (a=b) with
    |true=>exact b1 (aa.some rfl)
    |false=>
     refine b3 (cr (LJ i c a) λr ⟨w,x⟩=>cr (LJ i c b) λs ⟨y,A⟩=>?_);exact(Xh O (T:=iv p) O w x y A (v:=r' p a b) (by rw[IH,LU c])).mono λr B=>B
 rw[aZ c];refine b3 (aa.ay (λz=>z=true) (λj e=>b1 (e _ rfl)) λz l=>?_);rw[l];refine b1 (aa.some ?_);unfold j5
 grind
theorem Y1(B:7100<=n)(g:ja p)(a b:Int):Cn n p a b=some (j5 p a b):=by
 unfold Cn;refine aa.eq (aa.ay (λz=>z= !(bT p&&(ee p a&&(ee p b&& !decide (a=b))))) (λj i=>?_) λz G=>?_)
 ·refine ab (jB O g) (aa.cond (λh=>i _ ?_) λh=>?_)
  ·rw[show bT p=false by simpa using h];rfl
  have l:bT p=true:=by simpa using h
  rw[l] at i;refine aN (λR=>i _ ?_) λR=>aN (λt=>i _ ?_) λt=>aN (λW=>i _ ?_) λW=>aN (λu=>i _ ?_) λu=>i _ ?_
  ·rw[show ee p a=false from bD O];rfl
  ·rw[show ee p b=false from bD O];simp
  ·rw[show ee p a=false from bD O];rfl
  ·rw[show ee p b=false from bD O];simp
  rw[show ee p a=true from bF O,show ee p b=true from bF O];simp
 subst G;unfold j5;by_cases l:bT p=true
 ·rw[l];have E:=xf l;cases R:ee p a with
  |false=>exact b1 (aa.some rfl)
  |true=>
   cases W:ee p b with
   |false=>exact b1 (aa.some rfl)
   |true=>
    cases I:decide (a=b) with
    |true=>exact b1 (aa.some rfl)
    |false=>
     have m:=IH.trans (LU l (a:=a) (b:=b));have k: ∀c,c<iv p->((jJ (bn p.parts) p a c/\(kB (bn p.parts) p b c\/jJ (bn p.parts) p b c))\/(jJ (bn p.parts) p b c/\kB (bn p.parts) p a c))->r' p a b=false:=λc o h=>by
      cases H:r' p a b with
      |false=>rfl
      |true=>
       have:=m.1 H c o;rcases h with h|h
       ·exact bz h this.1
       exact bz h this.2
     refine b3 (cr (D6 B l a true) λq ⟨M,C⟩=>cr (D6 B l b true) λr ⟨N,F⟩=>aa.ay (λz=>z=r' p a b) (λj i=>?_) λz G=>aa.some G);refine ab (Gi O O O) (aa.cond (λh=>?_) λh=>i _ ?_)
     ·have v: ∀c,c∈q->c∈r->False:=λc e d=>by
       have:q.any (λc=>decide (c∈r))=true:=iU.2 ⟨c,e,bF d⟩;rw[this] at h;cases h
      refine cr (D6 B l b false) λK ⟨P,X⟩=>ab (Gi O O O) (aa.cond (λh=>?_) λh=>i _ ?_)
      ·have D: ∀c,c∈q->c∈K->False:=λc e d=>by
        have:q.any (λc=>decide (c∈K))=true:=iU.2 ⟨c,e,bF d⟩;rw[this] at h;cases h
       refine cr (D6 B l a false) λs ⟨l10,w⟩=>ab (Gi O O O) (i _ ?_);cases L:r.any (λc=>decide (c∈s)) with
       |true=>
        obtain⟨c,e,d⟩:=iU.1 L;obtain⟨f,x,y⟩:=(F c).1 e;obtain⟨_,_,A⟩:=(w c).1 (eX d);exact(k c.toNat x (.inr ⟨y,A⟩)).symm
       |false=>
        refine(m.2 λc o=>⟨?_,?_⟩).symm
        ·rintro⟨e,d|d⟩
         ·exact D (c:Int) ((C _).2 ⟨O,o,e⟩) ((X _).2 ⟨O,o,d⟩)
         exact v (c:Int) ((C _).2 ⟨O,o,e⟩) ((F _).2 ⟨O,o,d⟩)
        rintro⟨e,d⟩
        have:r.any (λc=>decide (c∈s))=true:=iU.2 ⟨(c:Int),(F _).2 ⟨O,o,e⟩,bF ((w _).2 ⟨O,o,d⟩)⟩;rw[this] at L;cases L
      have Q:q.any (λc=>decide (c∈K))=true:=by simpa using h
      obtain⟨c,e,d⟩:=iU.1 Q;obtain⟨f,x,y⟩:=(C c).1 e;obtain⟨_,_,A⟩:=(X c).1 (eX d);exact(k c.toNat x (.inl ⟨y,.inl A⟩)).symm
     have Q:q.any (λc=>decide (c∈r))=true:=by simpa using h
     obtain⟨c,e,d⟩:=iU.1 Q;obtain⟨f,x,y⟩:=(C c).1 e;obtain⟨_,_,A⟩:=(F c).1 (eX d);exact(k c.toNat x (.inl ⟨y,.inr A⟩)).symm
 rw[show bT p=false by simpa using l];exact b1 (aa.some rfl)
def l7{R:Type}(l:List R)(i:Nat)(a b:R):List R:=l.take i++b::a::l.drop (i+2)
theorem GF{l:List R}{a b:R}(c:l[i]? =some a)(d:l[i+1]? =some b):l=l.take i++a::b::l.drop (i+2):=by have e:l.drop i=a::l.drop (i+1):=k5 c;have h:l.drop (i+1)=b::l.drop (i+2):=k5 d;rw[<-h,<-e,rp]
noncomputable def rf(p:Prog)(a:Int):Prog×Bool:=
 if j5 p a (a+1)=true then
  (match ar p.parts a,ar p.parts (a+1) with
  |some c,some d=>(⟨p.aR,l7 p.parts a.toNat c d⟩,true)
  |_,_=>ef)
 else ef
theorem u1{b:Int}(h:j5 p a b=true):bT p=true/\(0<=a/\a<(p.parts.length:Int))/\(0<=b/\b<(p.parts.length:Int))/\BT p a b:=by unfold j5 at h;simp only[Bool.and_eq_true] at h;exact⟨h.1,eX h.2.1,eX h.2.2.1,IH.1 h.2.2.2.2⟩
theorem II(h:j5 p a (a+1)=true): ∃(i:Nat) (c d:Part),a=i/\p.parts[i]? =some c/\p.parts[i+1]? =some d/\i+1<p.parts.length:=by
 obtain⟨e,k,l,_⟩:=u1 h;obtain⟨i,rfl⟩: ∃i:Nat,a=i:=⟨a.toNat,O⟩
 exact⟨i,_,_,rfl,bo O,bo O,O⟩
theorem Ju(h:j5 p (i:Int) ((i:Int)+1)=true)(a:p.parts[i]? =some x)(c:p.parts[i+1]? =some P):rf p (i:Int)=(⟨p.aR,l7 p.parts i x P⟩,true):=by unfold rf;rw[a1 h,be a,show((i:Int)+1)=((i+1:Nat):Int) by omega,be c];rfl
theorem XQ{l:List R}{a b:R}(c:l[i]? =some a)(d:l[i+1]? =some b){x:R}:x∈l7 l i a b↔x∈l:=by
 conv=>rhs;rw[GF c d]
 unfold l7
 grind
theorem XR{l:List R}{a b:R}(h:i+1<l.length):(l7 l i a b).length=l.length:=by
 unfold l7
 grind
theorem XP{l:List R}{a b:R}(e:l[i]? =some a)(c:l[i+1]? =some b):(l.set i b).set (i+1) a=l7 l i a b:=by
 have aE:=(bU.1 c).1;have d:(l.take i).length=i:=by rw[cE];omega
 conv=>lhs;rw[GF e c]
 rw[oS _ _ O,d,nM,y4,oS _ _ O,d,show i+1-i=1 by omega];rfl
theorem Jv(a:bT p=true){s:Part}(d:p.parts[i]? =some P)(c:p.parts[i+1]? =some s):bT ⟨p.aR,l7 p.parts i P s⟩=true:=by
 have aE:=(bU.1 c).1;unfold bT jq at a⊢;simp only[Bool.and_eq_true,decide_eq_true_eq,List.all_eq_true] at a⊢;obtain⟨⟨aI,a2,a3⟩,a4⟩:=a;refine⟨⟨aI,by rw[XR aE];exact a2,λx h=>a3 x ((XQ d c).1 h)⟩,?_⟩;have e:=GF d c
 have:(p.parts.map fs).sum=((l7 p.parts i P s).map fs).sum:=by
  conv=>lhs;rw[e]
  unfold l7
  grind
 grind
theorem NT(a:bT p=true)(c:p.parts[i]? =some x)(d:p.parts[i+1]? =some P):db 1000 ⟨p.aR,l7 p.parts i x P⟩:=(lB (Jv a c d)).mono O
theorem afy(m:7100<=n)(o:db 1000 p)(s: -1<=a/\a<=9):Du n p a=some (rf p a):=by
 unfold Du;rw[bb (n:=a+1) O];refine aa.eq (aa.ay (λz=>z= !j5 p a (a+1)) (λj e=>?_) λz q=>?_)
 ·refine aN (λh=>e _ ?_) λh=>aN (λd=>e _ ?_) λd=>ab (ZU m o.sm a (a+1)) (e _ rfl)
  ·cases c:j5 p a (a+1) with
   |false=>rfl
   |true=>have:=u1 c;omega
  cases c:j5 p a (a+1) with
  |false=>rfl
  |true=>have:=u1 c;omega
 subst q;cases c:j5 p a (a+1) with
 |false=>
  refine b1 (aa.some ?_);unfold rf;rw[aZ (by rw[c];simp)];rfl
 |true=>
  refine b3 ?_;obtain⟨i,w,l,rfl,k,d,x⟩:=II c;rw[Ju c k d,show((i:Int)+1)=((i+1:Nat):Int) by omega];refine ab (sY O (u1 c).1) (ab (be d) (ab (be k) (ab (dD O _) ?_)));rw[m7];have r:(p.parts.set i l)[i+1]? =some l:=by rw[lg O];exact d
  refine ab (be r) (ab (dD (by rw[eR];omega) _) (aa.some ?_));rw[m7,XP k d]
theorem agX(m:7100<=n)(e:db 1000 p)(q: -1<=a/\a<=9):DC n p a=some (rf p a):=by
 unfold DC;rw[bb (n:=a+1) O];refine aa.eq (ab (k8 O e) (ab (Y1 m e.sm a (a+1)) ?_));cases h:j5 p a (a+1) with
 |false=>
  refine b1 (aa.some ?_);unfold rf;rw[aZ (by rw[h];simp)];rfl
 |true=>
  refine b3 ?_;obtain⟨i,k,l,rfl,c,d,r⟩:=II h;have bL:=(u1 h).1;have o:=e.2.1;rw[Ju h c d,show((i:Int)+1)=((i+1:Nat):Int) by omega];refine ab (be d) (ab (be c) (ab (x:=(⟨p.aR,l7 p.parts i k l⟩,true)) (aa.eq ?_) (aa.some rfl)));unfold jE;refine ab (oo O e) (ab (gE O O O) ?_);rw[m7,show(0:Int).toNat=0 from rfl,mU];refine ab (x:=p.parts.take i) (cB bN) (ab (x:=p.parts.take i++[l,k]) (cB bN) ?_);rw[bb O];refine ab (gE O O O) ?_;rw[m7,dz,show((i:Int)+2).toNat=i+2 by omega];refine ab (x:=l7 p.parts i k l) ?_ (ab (jB O (NT bL c d).sm) ?_)
  ·rw[cB bN,fy];rfl
  rw[Jv bL c d];exact b3 (ab (oo O (NT bL c d)) (aa.some rfl))
theorem O1{p:Prog}(c:bT p=true){x:cb}(i:gn p x): ∀{A:List cb} {m:List Int},(∀y∈A,gn p y)->(∀y∈A,HE p x y)->r5 p.aR m->mL p (jw p m x) A=jw p (mL p m A) x
 | [],m,_,_,_=>rfl
 |y::A,m,d,e,h=>by show mL p (jw p (jw p m x) y) A=jw p (mL p (jw p m y) A) x;rw[e y eM m h];exact O1 c i (λz a=>d z (ew _ a)) (λz a=>e z (ew _ a)) (N2 c h (d y eM))
theorem block{p:Prog}(a:bT p=true): ∀{X A:List cb} {m:List Int},(∀x∈X,gn p x)->(∀y∈A,gn p y)->(∀x∈X,∀y∈A,HE p x y)->r5 p.aR m->mL p (mL p m X) A=mL p (mL p m A) X
 | [],A,m,_,_,_,_=>rfl
 |x::X,A,m,c,e,h,i=>by show mL p (mL p (jw p m x) X) A=mL p (jw p (mL p m A) x) X;rw[block a (λz d=>c z (ew _ d)) e (λz d=>h z (ew _ d)) (N2 a i (c x eM)),O1 a (c x eM) e (h x eM) i]
def ob(a b:Loop):Bool:=p1 a.lo b.lo&&p1 a.aE b.aE
def p5(a b:List Loop):Bool:=kJ ob a b
theorem T3(d:5000<=n){a b:List Loop}(c:p' a):zp n a b=some (p5 a b):=by unfold zp Jf;refine aa.eq (ab (FQ (p:=ob) (f:=λk l=>yC n k l) (λx h y _=>?_) (by have:=c.1;omega) (by have:=c.1;omega)) (aa.some rfl));unfold yC ob;refine aa.eq (aa.ay (λz=>z=(p1 x.lo y.lo&&p1 x.aE y.aE)) (λj i=>ab (Kf d (c.2 x h).1) (aa.cond (λe=>ab (Kf d (c.2 x h).2) (i _ (by rw[e];rfl))) λe=>i _ (by rw[e];rfl))) λz m=>aa.some m)
theorem TM(m:5000<=n){a b:List Loop}(o:p' a):D8 n a b=some (p5 a b):=by
 unfold D8 p5;have b8:=o.1;refine aa.eq (eV (λh=>aa.some ?_) λh=>?_)
 ·cases c:kJ ob a b with
  |false=>rfl
  |true=>exact bz (by rw[Fe c]) h
 refine aa.loop (λx:Int=> ∃i:Nat,x=i/\i<=a.length/\kJ ob (a.drop i) (b.drop i)=kJ ob a b) (λx=>a.length-x.toNat) ?_ n 0 ⟨0,rfl,O,rfl⟩ O;rintro k x ⟨i,rfl,H,c⟩ y;refine aN (λA=>?_) λB=>aa.some ?_
 ·have p:i<a.length:=O
  have q:i<b.length:=O
  have d:=bo p;have l:=bo q;have r:=o.2 _ (bE d);rw[kN p,kN q] at c;simp only[kJ] at c;refine aa.ay (λz=>z= !ob a[i] b[i]) (λj s=>?_) λz C=>?_
  ·refine ab (be d) (ab (be l) (ab (Kd m r.1) (aa.cond (λe=>s _ ?_) λe=>ab (Kd m r.2) (s _ ?_))))
   ·unfold ob;rw[sX e];rfl
   unfold ob;rw[qW e];rfl
  subst C;cases w:ob a[i] b[i] with
  |false=>rw[w] at c;exact b1 (aa.some c)
  |true=>
   rw[w,fK] at c;refine b3 ?_;rw[bb O];exact y _ ⟨i+1,O,O,c⟩ O
 have F:a.drop i=[]:=kO O;have G:b.drop i=[]:=kO O;rw[F,G] at c;exact c
def iD:List Int->List Int->Bool
 |a::as,b::c=>if a=b then iD as c else decide (a<b)
 | [],_::_=>true
 |_,[]=>false
theorem MS{p:List Int}(B:p.length<n)(C:p.length<=1000)(F:q.length<=1000):zb n p q=some (iD p q):=by
 unfold zb;refine aa.eq (aa.loop (λx:Int=> ∃i:Nat,x=i/\i<=p.length/\i<=q.length/\iD (p.drop i) (q.drop i)=iD p q) (λx=>p.length-x.toNat) ?_ n 0 ⟨0,rfl,O,O,rfl⟩ O);rintro c x ⟨i,rfl,G,H,a⟩ o;refine aa.ay (λz=>z=decide (i<p.length/\i<q.length)) (λj m=>aN (λh=>m _ ?_) λh=>m _ ?_) λz r=>?_
 ·rw[gL];simp only[decide_eq_true_eq];omega
 ·exact(bD O).symm
 subst r;refine aN (λh=>?_) λh=>aa.some ?_
 ·have d:=bo h.1;have k:=bo h.2;rw[kN h.1,kN h.2] at a;simp only[iD] at a;refine ab (be d) (ab (be k) (eV (λl=>aa.some ?_) λs=>?_))
  ·rw[aZ l] at a;exact a
  rw[a1 s] at a;rw[bb O];exact o _ ⟨i+1,O,O,O,a⟩ O
 rw[<-a];by_cases e:i<p.length
 ·have w:q.drop i=[]:=kO O;rw[w,kN e];simp only[iD]
  grind
 have y:p.drop i=[]:=kO O;rw[y];by_cases A:i<q.length
 ·rw[kN A];simp only[iD]
  grind
 rw[kO (O:q.length<=i)];simp only[iD]
 grind
theorem W3(n:Nat)(x y:Int):Cr n x y=some (if x<y then-1 else if y<x then 1 else 0):=by
 unfold Cr CH
 grind
theorem ZW{p:List Int}(F:p.length<n)(G:p.length<=1000)(H:q.length<=1000):z1 n p q=some (iD p q):=by
 unfold z1 JK;refine aa.eq (cr (P:=λc:Int=>decide (c<0)=iD p q) ?_ λc y=>aa.some y);refine aa.loop (λx:Int=> ∃i:Nat,x=i/\i<=p.length/\i<=q.length/\iD (p.drop i) (q.drop i)=iD p q) (λx=>p.length-x.toNat) ?_ n 0 ⟨0,rfl,O,O,rfl⟩ O;rintro d x ⟨i,rfl,K,L,a⟩ z;refine aN (λA=>?_) λB=>?_
 ·have e:i<p.length:=O
  have k:=bo e;refine ab (be k) (aN (λh=>aa.some ?_) λh=>?_)
  ·rw[<-a,kO (O:q.length<=i),kN e];simp[iD]
  have r:i<q.length:=O
  have l:=bo r;rw[kN e,kN r] at a;simp only[iD] at a;refine ab (be l) (ab (W3 n _ _) ?_);by_cases s:p[i]<q[i]
  ·rw[a1 s];refine eV (λ_=>aa.some ?_) (λm=>bz m O)
   grind
  rw[aZ s];by_cases w:q[i]<p[i]
  ·rw[a1 w];refine eV (λ_=>aa.some ?_) (λm=>bz m O)
   grind
  rw[aZ w];refine eV (λo=>bz rfl o) λ_=>?_;rw[a1 O] at a;rw[bb O];exact z _ ⟨i+1,O,O,O,a⟩ O
 have C:p.drop i=[]:=kO O;rw[C] at a;refine aN (λh=>aa.some ?_) λh=>aa.some ?_
 ·rw[<-a,kN (O:i<q.length)];rfl
 rw[<-a,kO (O:q.length<=i)];rfl
def kS(p:Prog)(i many:Nat)(a:List Part):Prog:=⟨p.aR,p.parts.take i++a++p.parts.drop (i+many)⟩
theorem A'(a:db 900 p)(k:ys.length<=4)(d: ∀y∈ys,fB 1000 y):db 1000 (kS p i many ys):=by
 have e:=a.2.1;refine⟨(a.mono (O:900<=1000)).1,?_,λx c=>?_⟩
 ·show(p.parts.take i++ys++p.parts.drop (i+many)).length<=1000
  grind
 have c:x∈p.parts.take i++ys++p.parts.drop (i+many):=c;simp only[List.mem_append] at c;rcases c with (h|h)|h
 ·exact(a.mono (O:900<=1000)).2.2 x (gb h)
 ·exact d x h
 exact(a.mono (O:900<=1000)).2.2 x (e6 h)
theorem FD(e:7000<=n)(a:db 900 p)(o:i+many<=p.parts.length)(k:ys.length<=4)(l: ∀y∈ys,fB 1000 y):jE n p (i:Int) (many:Int) ys=some (hM (kS p i many ys)):=by
 have m:=a.2.1;have c:=a.mono (O:900<=1000);have d:=A' a (i:=i) (many:=many) k l;unfold jE hM;refine aa.eq (ab (oo O c) (ab (gE O O O) ?_));rw[m7,show(0:Int).toNat=0 from rfl,mU];refine ab (x:=p.parts.take i) (cB bN) (ab (x:=p.parts.take i++ys) (cB bN) ?_);rw[bb O];refine ab (gE O O O) ?_;rw[m7,dz,show((i:Int)+(many:Int)).toNat=i+many by omega];refine ab (x:=(kS p i many ys).parts) ?_ ?_;rotate_left;show aa (Option.bind (jc n (kS p i many ys)) _) _;refine(ab (jB e d.sm) (aa.cond (λh=>aa.some ?_) λh=>?_))
 ·rw[aZ (by simpa using h)]
 ·rw[a1 (by simpa using h)];exact ab (oo O d) (aa.some rfl)
 rw[cB bN];rfl
def nj(p:Prog)(c:Int)(d:fC):Bool:=match (bn p.parts)[d.eC.toNat]?,(bn p.parts)[d.eF.toNat]? with
 |some a,some b=>decide (a.part=c)&&(decide (b.part=c+1)&&iD b.cK a.cK)
 |_,_=>false
def r1(a c:Part):Part:=⟨a.nest,a.body++c.body⟩
abbrev nZ(p:Prog):List fC:=fY p (bn p.parts) (bn p.parts).length
def Hm(p:Prog)(a:Int)(c d:Part):Bool:=p5 c.nest d.nest&& !(nZ p).any (nj p a)
def uI(p:Prog)(a:Int):Prog×Bool:=
 if bT p=true/\ee p a=true then
  (match ar p.parts a,ar p.parts (a+1) with
  |some c,some d=>if Hm p a c d=true then hM (kS p a.toNat 2 [r1 c d]) else ef
  |_,_=>ef)
 else ef
theorem Bg(c:bT p=true){d:fC}(i:d∈nZ p): ∃(s t:Nat) (a b:cb),d.eC=s/\d.eF=t/\(bn p.parts)[s]? =some a/\(bn p.parts)[t]? =some b/\s<t/\a.cK.length<=4/\b.cK.length<=4:=by obtain⟨s,t,k,l,_,rfl⟩:=M1.1 i;have e:=bo (O:s<(bn p.parts).length);have h:=bo l;exact⟨s,t,_,_,rfl,rfl,e,h,k,QJ c (hd (bE e)),QJ c (hd (bE h))⟩
theorem z'(c:bT p=true):(nZ p).length<=14400:=by
 have d:=zh p (bn p.parts) (bn p.parts).length;have a:=(ei c).2.2.2.2;have e:(bn p.parts).length*(bn p.parts).length<=120*120:=nP a a
 grind
theorem Af(m:7000<=n)(i:db 1000 p)(a:Int):j8 n p a (-1)=some (if bT p=true/\ee p a=true then(p,true) else ef):=by
 unfold j8;refine aa.eq (aa.ay (λz=>z= !(bT p&&ee p a)) (λj d=>?_) λz o=>?_)
 ·refine ab (sf m i.sm) (aa.cond (λh=>d _ (by rw[sX h];rfl)) λh=>?_);have bL:=qW h;refine ab (qN n i.2.1 a) (aa.cond (λe=>d _ ?_) λe=>eV (λh=>(h rfl).elim) λ_=>d _ ?_)
  ·rw[bL,show ee p a=false from sX e];rfl
  rw[bL,show ee p a=true from qW e];rfl
 subst o;refine aa.cond (λh=>aa.some ?_) λh=>?_
 ·have:=sX h;rw[aZ λk=>by rw[k.1,k.2] at this;cases this];rfl
 have:=qW h;simp only[Bool.and_eq_true] at this;obtain⟨bL,l⟩:=this;rw[a1 ⟨bL,l⟩];have c:0<=a/\a<(p.parts.length:Int):=eX l;obtain⟨x,q,_⟩:=gu c.1 c.2;exact ab (sY O bL) (ab q (aa.some rfl))
theorem aaD{s:List Part}{j:Nat}(a:i<j)(c:j<=s.length): ∃r,u9 n s (i:Int) (j:Int)=some r/\r.2.take r.1=s.take i++s.drop j:=by
 refine⟨(eK s i j,jZ s i j (⟨[],[]⟩:Part)),?_,?_⟩
 ·unfold u9
  grind
 dsimp only;have d:(s.take (i:Int).toNat++s.drop (j:Int).toNat).length=eK s i j:=by
  unfold eK
  grind
 unfold jZ
 grind
theorem Nr(c:bT p=true)(d:x∈p.parts)(e:P∈p.parts):fB 1000 (r1 x P):=by
 obtain⟨_,_,a⟩:=lB c;obtain⟨aI,a2,a3⟩:=a x d;obtain⟨l,m,i⟩:=a P e;refine⟨aI.mono O,?_,λs k=>?_⟩
 ·show(x.body++P.body).length<=1000
  grind
 rcases eh.1 (show s∈x.body++P.body from k) with h|h
 ·exact(a3 s h).mono O
 exact(i s h).mono O
theorem afs(cy:20000<=n)(K:db 1000 p)(aY: -1<=c/\c<=9):DW n p c=some (uI p c):=by
 unfold DW uI;refine aa.eq (ab (Af O K c) ?_);by_cases B:bT p=true/\ee p c=true
 ·rw[a1 B,a1 B];obtain⟨o,U⟩:=B;have V:0<=c/\c<(p.parts.length:Int):=eX U;obtain⟨i,rfl⟩: ∃i:Nat,c=i:=⟨c.toNat,O⟩
  have e:=bo (O:i<p.parts.length);have L:=be e;generalize Y:p.parts[i]=l at L e;have Cg:=(ei o).2.2.1;refine b1 (ab L ?_);rw[bb (n:=(i:Int)+1) O,bb (n:=(i:Int)+2) O,L];by_cases C:i+1<p.parts.length
  ·have w:=bo C;generalize aht:p.parts[i+1]=m at w;have Q:ar p.parts ((i:Int)+1)=some m:=be w;have m1:=bE e;have D:=bE w;rw[Q];dsimp only;refine aa.ay (λz=>z= !p5 l.nest m.nest) (λj q=>aN (λh=>bz h O) λ_=>ab rfl (ab (T3 O (K.sm.2.2 l m1).1) (q _ rfl))) λz F=>?_;subst F;unfold Hm;cases hne:p5 l.nest m.nest with
   |false=>exact b1 (aa.some rfl)
   |true=>
    refine b3 (ab (vy O K.sm) ?_);rw[a1 o];refine b1 (ab (Fq O o) ?_);have R:=z' o;have W: ∀d∈nZ p,d∈nZ p:=λ_ h=>h;show aa (bd _ n 0) _;rw[fK];generalize E:nZ p=A at R W;rw[show fY p (bn p.parts) (bn p.parts).length=A from E];refine aa.loop (λx:Int=> ∃k:Nat,x=k/\k<=A.length/\(A.take k).any (nj p (i:Int))=false) (λx=>A.length-x.toNat) ?_ n 0 ⟨0,rfl,O,rfl⟩ O;rintro X x ⟨k,rfl,hk,f⟩ bR;refine aN (λhlt=>?_) λji=>?_
    ·have cu:=bo (O:k<A.length);generalize H':A[k]=d at cu;obtain⟨s,t,a,b,I,M,N,P,ps,IZ,I5⟩:=Bg o (E▸bE cu);refine ab (be cu) (ab (x:=a) (by rw[I];exact be N) (ab (x:=b) (by rw[M];exact be P) ?_));have G:nj p (i:Int) d=(decide (a.part=(i:Int))&&(decide (b.part=(i:Int)+1)&&iD b.cK a.cK)):=by
      unfold nj;rw[I,M,Int.toNat_natCast,Int.toNat_natCast,N,P]
     refine aa.ay (λz=>z=nj p (i:Int) d) (λj q=>?_) λz F=>?_
     ·rw[G] at q;refine aN (λH=>aN (λC=>ab (ZW O O O) (q _ ?_)) λC=>q _ ?_) λH=>q _ ?_
      ·rw[bF H,bF C];rfl
      ·rw[bF H,bD C];rfl
      rw[bD H];rfl
     subst F;refine aa.cond (λh=>aa.some ?_) λh=>?_
     ·rw[aZ]; · rfl
      have:A.any (nj p (i:Int))=true:=iU.2 ⟨d,bE cu,h⟩;rw[this];simp
     rw[bb O];exact bR _ ⟨k+1,O,O,by rw[gi cu,ts,f];simp[h]⟩ O
    rw[hS O] at f;rw[f,a1 (by rfl)];have hq:=A' (i:=i) (many:=2) (ys:=[r1 l m]) ((lB o).mono (O:4<=900)) aP λy S=>by rw[nN] at S;subst S;exact Nr o m1 D
    obtain⟨_,_,T⟩:=lB o;have cQ:=(T l m1).2.1;have cd:=(T m D).2.1;obtain⟨r,g,u⟩:=aaD (n:=n) (s:=p.parts.set i (r1 l m)) (i:=i+1) (j:=i+2) O (by rw[eR];omega);refine ab rfl (ab (x:=l.body++m.body) (cB O) (ab (x:=p.parts.set i (r1 l m)) (dD O _) (ab (x:=r) g ?_)));have v:(⟨p.aR,r.2.take r.1⟩:Prog)=kS p i 2 [r1 l m]:=by
     unfold kS;rw[u];congr 1;rw[List.take_set,pX O,eg,e,oS _ _ (by rw[cE];omega)]
     have:i-(p.parts.take i).length=0:=by rw[cE];omega
     rw[this];rfl
    rw[v,m7];exact ab (qQ O hq) (aa.some rfl)
  have Q:ar p.parts ((i:Int)+1)=none:=xn O;rw[Q];refine aa.ay (λz=>z=true) (λj q=>aN (λ_=>q _ rfl) λh=>bz (show(p.parts.length:Int)<=(i:Int)+1 by omega) h) λz F=>?_;rw[F];exact b1 (aa.some rfl)
 rw[aZ B,aZ B];exact b3 (aa.some rfl)
theorem agR(cy:20000<=n)(w:db 1000 p)(aY: -1<=c/\c<=9):DJ n p c=some (uI p c):=by
 unfold DJ uI;refine aa.eq (ab (k8 O w) ?_);by_cases G:bT p=true/\ee p c=true
 ·rw[a1 G];obtain⟨e,X⟩:=G;have P:0<=c/\c<(p.parts.length:Int):=eX X;obtain⟨i,rfl⟩: ∃i:Nat,c=i:=⟨c.toNat,O⟩
  have m:=bo (O:i<p.parts.length);have f:=be m;generalize S:p.parts[i]=o at f m;have K:=(ei e).2.2.1;rw[bb (n:=(i:Int)+1) O,bb (n:=(p.parts.length:Int)-1) O,f];by_cases C:i+1<p.parts.length
  ·have q:=bo C;generalize T:p.parts[i+1]=B at q;have L:ar p.parts ((i:Int)+1)=some B:=be q;have m1:=bE m;have g:=bE q;rw[L];dsimp only;refine aa.ay (λz=>z= !p5 o.nest B.nest) (λj l=>ab (jB O w.sm) ?_) λz r=>?_
   ·rw[e];refine b3 (aN (λh=>bz h O) λ_=>aN (λh=>bz h O) λ_=>ab rfl (ab rfl (ab (TM O (w.sm.2.2 o m1).1) (l _ rfl))))
   subst r;unfold Hm;cases U:p5 o.nest B.nest with
   |false=>exact b1 (aa.some rfl)
   |true=>
    refine b3 (ab (u3 O e) (ab (Fg O e) ?_));have Q:=z' e;rw[fK];generalize u:nZ p=A at Q;rw[show fY p (bn p.parts) (bn p.parts).length=A from u];refine aa.loop (λx:Int=> ∃k:Nat,x=k/\k<=A.length/\(A.take k).any (nj p (i:Int))=false) (λx=>A.length-x.toNat) ?_ n 0 ⟨0,rfl,O,rfl⟩ O;rintro R x ⟨k,rfl,hk,W⟩ V;refine aN (λY=>?_) λji=>?_
    ·have cu:=bo (O:k<A.length);generalize H':A[k]=d at cu;obtain⟨s,t,a,b,v,D,E,I,ps,IZ,I5⟩:=Bg e (u▸bE cu);refine ab (be cu) (ab (x:=a) (by rw[v];exact be E) (ab (x:=b) (by rw[D];exact be I) ?_));have F:nj p (i:Int) d=(decide (a.part=(i:Int))&&(decide (b.part=(i:Int)+1)&&iD b.cK a.cK)):=by
      unfold nj;rw[v,D,Int.toNat_natCast,Int.toNat_natCast,E,I]
     refine aa.ay (λz=>z=nj p (i:Int) d) (λj l=>?_) λz r=>?_
     ·rw[F] at l;refine aN (λH=>aN (λC=>ab (MS O O O) (l _ ?_)) λC=>l _ ?_) λH=>l _ ?_
      ·rw[bF H,bF C];rfl
      ·rw[bF H,bD C];rfl
      rw[bD H];rfl
     subst r;refine aa.cond (λh=>aa.some ?_) λh=>?_
     ·rw[aZ]; · rfl
      have:A.any (nj p (i:Int))=true:=iU.2 ⟨d,bE cu,h⟩;rw[this];simp
     rw[bb O];exact V _ ⟨k+1,O,O,by rw[gi cu,ts,W];simp[h]⟩ O
    rw[hS O] at W;rw[W,a1 (by rfl)];obtain⟨_,_,M⟩:=lB e;have cQ:=(M o m1).2.1;have cd:=(M B g).2.1;refine ab rfl (ab (x:=o.body) (cB bN) (ab rfl (ab (x:=o.body++B.body) (cB O) ?_)));have hw:=FD (n:=n) O ((lB e).mono (O:4<=900)) (i:=i) (many:=2) O (ys:=[r1 o B]) aP λy N=>by rw[nN] at N;subst N;exact Nr e m1 g
    rw[m7];exact ab hw (aa.some rfl)
  have L:ar p.parts ((i:Int)+1)=none:=xn O;rw[L];refine aa.ay (λz=>z=true) (λj l=>ab (jB O w.sm) ?_) λz r=>?_
  ·rw[e]
   grind
  rw[r];exact b1 (aa.some rfl)
 rw[aZ G];refine aa.ay (λz=>z=true) (λj l=>ab (jB O w.sm) ?_) λz r=>by rw[r];exact b1 (aa.some rfl)
 by_cases e:bT p=true
 ·have X: ¬(0<=c/\c<(p.parts.length:Int)):=λh=>G ⟨e,bF h⟩;rw[e];have K:=w.2.1;rw[bb (n:=(p.parts.length:Int)-1) O]
  grind
 rw[show bT p=false by simpa using e]
 grind
def nk(p:Prog)(c k:Int)(d:fC):Bool:=match (bn p.parts)[d.eC.toNat]?,(bn p.parts)[d.eF.toNat]? with
 |some a,some b=>decide (a.part=c)&&(decide (b.part=c)&&(decide (k<=a.stmt)&&decide (b.stmt<k)))
 |_,_=>false
def G'(p:Prog)(a k:Int)(P:Part):Bool:=decide (1<=k/\k<(P.body.length:Int))&& !(nZ p).any (nk p a k)
def nV(P:Part)(k:Nat):Part:=⟨P.nest,P.body.take k⟩
def rV(P:Part)(k:Nat):Part:=⟨P.nest,P.body.drop k⟩
def uF(p:Prog)(a k:Int):Prog×Bool:=
 if bT p=true/\ee p a=true then
  (match ar p.parts a with
  |some P=>if G' p a k P=true then hM (kS p a.toNat 1 [nV P k.toNat,rV P k.toNat]) else ef
  |none=>ef)
 else ef
theorem Nz(d:bT p=true)(e:P∈p.parts)(k:Nat): ∀y∈[nV P k,rV P k],fB 1000 y:=by
 obtain⟨_,_,h⟩:=lB d;obtain⟨aI,a2,a3⟩:=h P e;intro y c;simp only[List.mem_cons,List.not_mem_nil,or_false] at c;rcases c with rfl|rfl
 ·refine⟨aI.mono O,?_,λs a=>(a3 s (gb a)).mono O⟩;show(P.body.take k).length<=1000
  grind
 refine⟨aI.mono O,?_,λs a=>(a3 s (e6 a)).mono O⟩;show(P.body.drop k).length<=1000
 grind
theorem NM{s:List Part}{v:List Part}(a:i<=s.length)(c:s.length+v.length<=1000000000):u6 n s (i:Int) v=some (s.take i++v++s.drop i):=by unfold u6;rw[bF (show(0:Int)<=(i:Int) by omega),bF (show(i:Int)<=(s.length:Int) by omega),cond_true,cond_true,m7];exact cB (by simp only[List.length_append,List.length_take,List.length_drop];omega)
theorem afr(cy:20000<=n)(g:db 1000 p){k:Int}(aY: -1<=c/\c<=9):CF n p c k=some (uF p c k):=by
 unfold CF uF;refine aa.eq (ab (Af O g c) ?_);by_cases o:bT p=true/\ee p c=true
 ·rw[a1 o,a1 o];obtain⟨l,S⟩:=o;have T:0<=c/\c<(p.parts.length:Int):=eX S;obtain⟨i,rfl⟩: ∃i:Nat,c=i:=⟨c.toNat,O⟩
  have e:=bo (O:i<p.parts.length);have y:=be e;generalize U:p.parts[i]=P at y e;have V:=(ei l).2.2.1;have m1:=bE e;have r:=(ei l).2.2.2.1 P m1;obtain⟨B,C⟩:=ih r;obtain⟨_,Y,Qd,_⟩:=gk r;refine b1 (ab y ?_);rw[bb (n:=(i:Int)+1) O,bb (n:=(P.body.length:Int)-1) O,y];dsimp only;refine aa.ay (λz=>z= !decide (1<=k/\k<(P.body.length:Int))) (λj v=>ab (d7 n k 1 _) (v _ ?_)) λz F=>?_
  ·congr 1
   grind
  subst F;unfold G';cases G:decide (1<=k/\k<(P.body.length:Int)) with
  |false=>exact b1 (aa.some rfl)
  |true=>
   have hk:=eX G;obtain⟨t,rfl⟩: ∃t:Nat,k=t:=⟨k.toNat,O⟩
   refine b3 (ab (vy O g.sm) ?_);rw[a1 l];refine b1 (ab (Fq O l) ?_);have H:=z' l;show aa (bd _ n 0) _;rw[fK];generalize D:nZ p=A at H;rw[show fY p (bn p.parts) (bn p.parts).length=A from D];refine aa.loop (λx:Int=> ∃j:Nat,x=j/\j<=A.length/\(A.take j).any (nk p (i:Int) (t:Int))=false) (λx=>A.length-x.toNat) ?_ n 0 ⟨0,rfl,O,rfl⟩ O;rintro K x ⟨j,rfl,v,L⟩ bR;refine aN (λhlt=>?_) λji=>?_
   ·have cu:=bo (O:j<A.length);generalize H':A[j]=d at cu;obtain⟨s,u,a,b,E,I,M,N,ps,IZ,I5⟩:=Bg l (D▸bE cu);refine ab (be cu) (ab (x:=a) (by rw[E];exact be M) (ab (x:=b) (by rw[I];exact be N) ?_));have w:nk p (i:Int) (t:Int) d=(decide (a.part=(i:Int))&&(decide (b.part=(i:Int))&&(decide ((t:Int)<=a.stmt)&&decide (b.stmt<(t:Int))))):=by
     unfold nk;rw[E,I,Int.toNat_natCast,Int.toNat_natCast,M,N]
    refine aa.ay (λz=>z=nk p (i:Int) (t:Int) d) (λq m=>?_) λz F=>?_
    ·rw[w] at m;refine aN (λQ=>aN (λR=>aN (λW=>m _ ?_) λW=>m _ ?_) λR=>m _ ?_) λQ=>m _ ?_
     ·rw[bF Q,bF R,bF W];simp
     ·rw[bD W];simp
     ·rw[bD R];simp
     rw[bD Q];rfl
    subst F;refine aa.cond (λh=>aa.some ?_) λh=>?_
    ·rw[aZ]; · rfl
     have:A.any (nk p (i:Int) (t:Int))=true:=iU.2 ⟨d,bE cu,h⟩;rw[this];simp
    rw[bb O];exact bR _ ⟨j+1,O,O,by rw[gi cu,ts,L];simp[h]⟩ O
   rw[hS O] at L;rw[L,a1 (by rfl)];have m:=A' (i:=i) (many:=1) (ys:=[nV P t,rV P t]) ((lB l).mono (O:4<=900)) aP (Nz l m1 t);refine ab (Li O B C) (ab (gE O O O) ?_);rw[m7,m7,dz];refine ab (x:=P.body.drop t) ?_ (ab (gE O O O) ?_)
   ·unfold Ed
    have:(P.body.drop t).isEmpty=false:=by
     cases X:P.body.drop t with
     |nil=>
      have:=congrArg List.length X;rw[fz,List.length_nil] at this;omega
     |cons=>rfl
    rw[this,cond_false];rw[cB bN];rfl
   rw[m7,show(0:Int).toNat=0 from rfl,mU];refine ab (x:=p.parts.set i (nV P t)) (dD O _) (ab (NM (i:=i+1) (by rw[eR];omega) (by rw[eR];simp;omega)) ?_);have f:(⟨p.aR,(p.parts.set i (nV P t)).take (i+1)++[rV P t]++(p.parts.set i (nV P t)).drop (i+1)⟩:Prog)=kS p i 1 [nV P t,rV P t]:=by
    unfold kS;congr 1;rw[List.take_set,pX O,eg,e,oS _ _ (by rw[cE];omega)]
    have:i-(p.parts.take i).length=0:=by rw[cE];omega
    rw[this];simp
   show aa (Option.bind (lH n (⟨p.aR,(p.parts.set i (nV P t)).take (i+1)++[rV P t]++(p.parts.set i (nV P t)).drop (i+1)⟩:Prog)) _) _;rw[f];simp only[Int.toNat_natCast];exact ab (qQ O m) (aa.some rfl)
 rw[aZ o,aZ o];exact b3 (aa.some rfl)
theorem agQ(cy:20000<=n)(y:db 1000 p){k:Int}(aY: -1<=c/\c<=9):Cz n p c k=some (uF p c k):=by
 unfold Cz uF;refine aa.eq (ab (k8 O y) ?_);by_cases w:bT p=true/\ee p c=true
 ·rw[a1 w];obtain⟨e,R⟩:=w;have I:0<=c/\c<(p.parts.length:Int):=eX R;obtain⟨i,rfl⟩: ∃i:Nat,c=i:=⟨c.toNat,O⟩
  have l:=bo (O:i<p.parts.length);have W:=be l;generalize M:p.parts[i]=P at W l;have N:=(ei e).2.2.1;have m1:=bE l;have B:=(ei e).2.2.2.1 P m1;obtain⟨_,S,T,_⟩:=gk B;rw[W];dsimp only;refine aa.ay (λz=>z= !decide (1<=k/\k<(P.body.length:Int))) (λj X=>ab (jB O y.sm) ?_) λz m=>?_
  ·rw[e]
   grind
  subst m;unfold G';cases C:decide (1<=k/\k<(P.body.length:Int)) with
  |false=>exact b1 (aa.some rfl)
  |true=>
   have hk:=eX C;obtain⟨t,rfl⟩: ∃t:Nat,k=t:=⟨k.toNat,O⟩
   refine b3 (ab (u3 O e) (ab (Fg O e) ?_));have F:=z' e;rw[fK];generalize f:nZ p=A at F;rw[show fY p (bn p.parts) (bn p.parts).length=A from f];refine aa.loop (λx:Int=> ∃j:Nat,x=j/\j<=A.length/\(A.take j).any (nk p (i:Int) (t:Int))=false) (λx=>A.length-x.toNat) ?_ n 0 ⟨0,rfl,O,rfl⟩ O;rintro G x ⟨j,rfl,X,H⟩ U;refine aN (λV=>?_) λY=>?_
   ·have cu:=bo (O:j<A.length);generalize H':A[j]=d at cu;obtain⟨s,u,a,b,g,v,D,E,ps,IZ,I5⟩:=Bg e (f▸bE cu);refine ab (be cu) (ab (x:=a) (by rw[g];exact be D) (ab (x:=b) (by rw[v];exact be E) ?_));have o:nk p (i:Int) (t:Int) d=(decide (a.part=(i:Int))&&(decide (b.part=(i:Int))&&(decide ((t:Int)<=a.stmt)&&decide (b.stmt<(t:Int))))):=by
     unfold nk;rw[g,v,Int.toNat_natCast,Int.toNat_natCast,D,E]
    refine aa.ay (λz=>z=nk p (i:Int) (t:Int) d) (λq r=>?_) λz m=>?_
    ·rw[o] at r;refine aN (λK=>aN (λL=>aN (λQ=>r _ ?_) λQ=>r _ ?_) λL=>r _ ?_) λK=>r _ ?_
     ·rw[bF K,bF L,bF Q];simp
     ·rw[bD Q];simp
     ·rw[bD L];simp
     rw[bD K];rfl
    subst m;refine aa.cond (λh=>aa.some ?_) λh=>?_
    ·rw[aZ]; · rfl
     have:A.any (nk p (i:Int) (t:Int))=true:=iU.2 ⟨d,bE cu,h⟩;rw[this];simp
    rw[bb O];exact U _ ⟨j+1,O,O,by rw[gi cu,ts,H];simp[h]⟩ O
   rw[hS O] at H;rw[H,a1 (by rfl)];refine ab rfl (ab (gE O O O) (ab (gE O O O) ?_));rw[m7,m7,dz,show(0:Int).toNat=0 from rfl,mU,m7];have hw:=FD (n:=n) O ((lB e).mono (O:4<=900)) (i:=i) (many:=1) O (ys:=[nV P t,rV P t]) aP (Nz e m1 t);exact ab hw (aa.some rfl)
 rw[aZ w];refine aa.ay (λz=>z=true) (λj X=>ab (jB O y.sm) ?_) λz m=>by rw[m];exact b1 (aa.some rfl)
 by_cases e:bT p=true
 ·have R: ¬(0<=c/\c<(p.parts.length:Int)):=λh=>w ⟨e,bF h⟩
  grind
 rw[show bT p=false by simpa using e]
 grind
def jX(k:Nat)(x:aw):aw:=⟨(x.aQ.take k++0::x.aQ.drop k).take 4,x.const⟩
def fU(c:Int):aw:=⟨[0,0,0,0],c⟩
def mR(k:Nat)(s c:Int):aw:=⟨[0,0,0,0].set k s,c⟩
theorem NO(k:Nat): ∀x,cO x=true->dq 4 (jX k x):=λx a=>by unfold dq jX;rw[cE];omega
theorem XS(l:5000<=n)(m:k<3): ∀x,cO x=true->va n x (k:Int)=some (jX k x):=λx h=>by obtain⟨i,_,_⟩:=fF h;obtain⟨a,b,c,d,e⟩:=mj i;unfold va;rw[zS n x h];obtain⟨cs,j9⟩:=x;dsimp only at e;subst e;rcases(O:k=0\/k=1\/k=2) with rfl|rfl|rfl<;>rfl
theorem acw(m:Nat)(a b c d e:Int)(B:aw)(h:k<3):jF (m+6) ⟨[a,b,c,d],e⟩ 2 (k:Int) B=some (jX k ⟨[a,b,c,d],e⟩):=by rcases(O:k=0\/k=1\/k=2) with rfl|rfl|rfl<;>rfl
theorem YT(h:k<3)(B:aw): ∀n,5000<=n-> ∀x,cO x=true->jF n x 2 (k:Int) B=some (jX k x):=λn o x i=>by
 obtain⟨m,rfl⟩: ∃m,n=m+6:=⟨n-6,O⟩
 obtain⟨l,_,_⟩:=fF i;obtain⟨a,b,c,d,e⟩:=mj l;obtain⟨cs,j9⟩:=x;dsimp only at e;subst e;exact acw m a b c d j9 B h
def jO(l:List aw):Bool:=l.all λa=>decide (d6 a.aQ=0)
def eJ(l:Loop):Bool:=decide (l.lo.length=1)&&(decide (l.aE.length=1)&&(jO l.lo&&jO l.aE))
def c'(l:List aw):Int:=(l.headD ⟨[],0⟩).const
theorem Le(c:5000<=n){l:List aw}(h:l.length<=2)(d: ∀x∈l,cO x=true):ze n l=some (jO l):=by
 unfold ze;rw[yh (p:=λa=>decide (0<(d6 a.aQ:Int))) (λx e=>by
  unfold Dt;rw[zm c (show x.aQ.length<=1000 by have:=(fF (d x e)).1;omega)];rfl) O O]
 show some (!l.any _)=_;congr 1;unfold jO
 grind
theorem F5(e:5000<=n)(h:kn l):vf n l=some (if eJ l=true then(c' l.lo,c' l.aE,true) else(0,0,false)):=by
 obtain⟨⟨i,k⟩,m,o⟩:=h;unfold vf;refine aa.eq (aa.ay (λz=>z= !eJ l) (λj a=>?_) λz p=>?_)
 ·refine eV (λh=>a _ ?_) λh=>eV (λq=>a _ ?_) λq=>ab (Le e i k) (aa.cond (λc=>a _ ?_) λc=>ab (Le e m o) (a _ ?_))
  ·unfold eJ;rw[bD (show¬l.lo.length=1 by omega)];rfl
  ·unfold eJ;rw[bD (show¬l.aE.length=1 by omega),Bool.false_and,kg];rfl
  ·unfold eJ;rw[show jO l.lo=false by simpa using c];simp
  unfold eJ;rw[show jO l.lo=true by simpa using c,bF (O:l.lo.length=1),bF (O:l.aE.length=1)];rfl
 subst p;cases d:eJ l with
 |false=>exact b1 (aa.some rfl)
 |true=>
  refine b3 ?_;unfold eJ at d;simp only[Bool.and_eq_true,decide_eq_true_eq] at d;obtain⟨r,s,_⟩:=d;obtain⟨x,w⟩:=vP.1 r;obtain⟨y,A⟩:=vP.1 s;rw[w,A];exact ab (x:=x) rfl (ab (x:=y) rfl (aa.some rfl))
theorem aaY(w:5000<=n)(h:kn l):Ar n l=some (jO l.lo&&jO l.aE):=by
 obtain⟨⟨C,y⟩,F,A⟩:=h;have s: ∀x,cO x=true->oz n x=some (d6 x.aQ:Int):=λx c=>yT w (show x.aQ.length<=1000 by have:=(fF c).1;omega);have d: ∀(l:List aw) (i:Nat) (x:aw),l[i]? =some x->d6 x.aQ=0->jO (l.take i)=true->jO (l.take (i+1))=true:=λl i x c o k=>by
  unfold jO at k⊢;rw[eg,c,List.all_append,k];simp[o]
 have p: ∀(l:List aw) (i:Nat) (x:aw),l[i]? =some x-> ¬d6 x.aQ=0->jO l=false:=λl i x c o=>by
  unfold jO
  grind
 unfold Ar;refine aa.eq (aa.loop (λz:Int=> ∃i:Nat,z=i/\i<=l.lo.length/\jO (l.lo.take i)=true) (λz=>l.lo.length-z.toNat) ?_ n _ ⟨0,rfl,O,rfl⟩ O);rintro m z ⟨i,rfl,B,k⟩ q;refine aN (λa=>?_) λr=>?_
 ·have a:i<l.lo.length:=O
  have c:=bo a;refine ab (be c) (ab (s _ (y _ (fJ a))) (aN (λo=>aa.some ?_) λo=>?_))
  ·rw[p l.lo i _ c O];rfl
  rw[bb O];exact q _ ⟨i+1,O,O,d _ _ _ c O k⟩ O
 have e:i=l.lo.length:=O
 subst e;rw[dz] at k;rw[k,fK];refine aa.loop (λz:Int=> ∃i:Nat,z=i/\i<=l.aE.length/\jO (l.aE.take i)=true) (λz=>l.aE.length-z.toNat) ?_ n _ ⟨0,rfl,O,rfl⟩ O;rintro m z ⟨i,rfl,B,k⟩ q;refine aN (λa=>?_) λr=>aa.some ?_
 ·have a:i<l.aE.length:=O
  have c:=bo a;refine ab (be c) (ab (s _ (A _ (fJ a))) (aN (λo=>aa.some ?_) λo=>?_))
  ·exact(p l.aE i _ c O).symm
  rw[bb O];exact q _ ⟨i+1,O,O,d _ _ _ c O k⟩ O
 have e:i=l.aE.length:=O
 grind
theorem Fx(d:5000<=n)(h:kn l):vH n l=some (if eJ l=true then(c' l.lo,c' l.aE,true) else(0,0,false)):=by
 unfold vH;refine aa.eq (aa.ay (λz=>z= !eJ l) (λj a=>?_) λz e=>?_)
 ·refine eV (λi=>a _ ?_) λi=>eV (λk=>a _ ?_) λk=>ab (aaY d h) (a _ ?_)
  ·unfold eJ;rw[bD (show¬l.lo.length=1 by omega)];rfl
  ·unfold eJ;rw[bD (show¬l.aE.length=1 by omega),Bool.false_and,kg];rfl
  unfold eJ;rw[bF (O:l.lo.length=1),bF (O:l.aE.length=1)];rfl
 subst e;cases c:eJ l with
 |false=>exact b1 (aa.some rfl)
 |true=>
  refine b3 ?_;unfold eJ at c;simp only[Bool.and_eq_true,decide_eq_true_eq] at c;obtain⟨m,o,_⟩:=c;obtain⟨x,p⟩:=vP.1 m;obtain⟨y,q⟩:=vP.1 o;rw[p,q];exact ab (x:=x) rfl (ab (x:=y) rfl (aa.some rfl))
def qk(a c s:Int):Int:=Int.tdiv (max 0 (c-a)+s-1) s
def xh(k:Nat)(s:Int)(P:Part)(l:Loop):Part:=
 ⟨P.nest.take k++(⟨[fU 0],[fU (qk (c' l.lo) (c' l.aE) s)]⟩:Loop)::(⟨[fU (c' l.lo),mR k s (c' l.lo)],[fU (c' l.aE),mR k s (c' l.lo+s)]⟩:Loop)::(P.nest.drop (k+1)).map (eb (jX k)),P.body.map (iC (jX k))⟩
def re(p:Prog)(a c s:Int):Prog×Bool:=
 match ar p.parts a with
 |some P=>match ar P.nest c with
  |some l=>if cS p a c=true/\P.nest.length<4/\(1<=s/\s<=6)/\eJ l=true then hM ⟨p.aR,p.parts.set a.toNat (xh c.toNat s P l)⟩ else ef
  |none=>ef
 |none=>ef
theorem Fb{b:Int}(h:cS p a b≠true):re p a b s=ef:=by
 unfold re
 grind
theorem Ms(a:p.parts[i]? =some P)(c:P.nest[k]? =some l)(s:Int):
  re p (i:Int) (k:Int) s=if cS p (i:Int) (k:Int)=true/\P.nest.length<4/\(1<=s/\s<=6)/\eJ l=true then hM ⟨p.aR,p.parts.set i (xh k s P l)⟩ else ef:=by unfold re;rw[be a];dsimp only;rw[be c];rfl
theorem F6(h:kn l)(k:eJ l=true): ∃a b,l=⟨[a],[b]⟩/\a=fU (c' l.lo)/\b=fU (c' l.aE)/\cF 99 (c' l.lo)/\cF 99 (c' l.aE):=by
 obtain⟨⟨o,n⟩,p,q⟩:=h;unfold eJ at k;simp only[Bool.and_eq_true,decide_eq_true_eq] at k;obtain⟨r,s,w,A⟩:=k;obtain⟨lo,K⟩:=l;dsimp only at*;obtain⟨x,B⟩:=vP.1 r;obtain⟨y,C⟩:=vP.1 s;subst B;subst C;have m: ∀z:aw,cO z=true->jO [z]=true->z=fU z.const:=λz F k=>by
  obtain⟨G,_,_⟩:=fF F;obtain⟨a,b,c,d,e⟩:=mj G;obtain⟨cs,j9⟩:=z;dsimp only at e;subst e;unfold jO at k;simp only[List.all_cons,List.all_nil,Bool.and_true,decide_eq_true_eq] at k;have H:=yL (l:=[a,b,c,d]) (i:=0) rfl O;have o:=yL (l:=[a,b,c,d]) (i:=1) rfl O;have n:=yL (l:=[a,b,c,d]) (i:=2) rfl O;have p:=yL (l:=[a,b,c,d]) (i:=3) rfl O;rw[H,o,n,p];rfl
 exact⟨x,y,rfl,m x (n x aP) w,m y (q y aP) A,(fF (n x aP)).2.1,(fF (q y aP)).2.1⟩
theorem Pg{x:Int}(d:cF 99 c)(e:cF 99 x)(h:1<=s/\s<=6):0<=qk c x s/\qk c x s<=198:=by
 unfold cF at d e;unfold qk;rw[Int.tdiv_eq_ediv_of_nonneg O];refine⟨Int.ediv_nonneg O O,?_⟩;refine Int.le_trans (Int.ediv_le_ediv (a:=max 0 (x-c)+s-1) (b:=198*s) O ?_) (by rw[Int.mul_ediv_cancel _ O];omega)
 grind
theorem Nc(i:ej r P=true)(w:P.nest.length<4)(x:k<P.nest.length)(s:Int):fB 4 (xh k s P l):=by
 obtain⟨A,n⟩:=ih i;obtain⟨_,o,p,_⟩:=gk i;refine⟨⟨by simp only[xh,List.length_append,List.length_cons,List.length_map,List.length_take,List.length_drop];omega,λy e=>?_⟩,by simp only[xh,List.length_map];exact o.2,λs q=>?_⟩
 ·have h: ∀c,dq 4 (fU c):=λc=>by unfold dq fU;simp
  have m: ∀s c,dq 4 (mR k s c):=λs c=>by unfold dq mR;simp
  rcases eh.1 e with e|e
  ·exact((tU i).1.2 y (gb e))
  rcases dL.1 e with rfl|e
  ·exact⟨⟨aP,λa d=>by simp at d;subst d;exact h _⟩,aP,λa d=>by simp at d;subst d;exact h _⟩
  rcases dL.1 e with rfl|e
  ·exact⟨⟨aP,λa d=>by simp at d;rcases d with rfl|rfl;exact h _;exact m _ _⟩,aP,λa d=>by simp at d;rcases d with rfl|rfl;exact h _;exact m _ _⟩
  obtain⟨z,h,rfl⟩:=ey.1 e;exact wY (NO k) (n z (e6 h))
 obtain⟨z,h,rfl⟩:=ey.1 q;exact Bv (NO k) (p z h)
theorem Mx(n:Nat)(a:k<4)(s:Int):nu n (k:Int) s=some (mR k s 0):=by rcases(O:k=0\/k=1\/k=2\/k=3) with rfl|rfl|rfl|rfl<;>rfl
theorem Ab(n:Nat)(c:Int):pA n c=some (fU c):=rfl
theorem OQ{b:Int}(c:cF 99 a)(d:cF 99 b)(e:1<=s/\s<=6):wr (Int.tdiv (wr ((wr ((max 0 (wr (b-a)))+s))-1)) s)=qk a b s:=by obtain⟨h,i⟩:=Pg c d e;unfold cF at c d;rw[bb (n:=b-a) O,bb (n:=max 0 (b-a)+s) O,bb (n:=max 0 (b-a)+s-1) O];exact bb (by unfold qk at h i;omega)
theorem abN{l:List Loop}(a:k<=l.length)(c:l.length<=1000)(v:Loop):u7 n l (k:Int) [v]=some (l.take k++[v]++l.drop k):=by unfold u7;rw[bF (show(0:Int)<=(k:Int) by omega),bF (show(k:Int)<=(l.length:Int) by omega)];rw[m7];exact cB bN
theorem afx(G:7000<=n)(H:db 1000 p)(c d s:Int):DP n p c d s=some (re p c d s):=by
 unfold DP;by_cases m:d= -1
 ·subst m;rw[Fb (by rw[q1 O];simp)];refine aa.eq (ab (Af G H c) ?_);by_cases K:bT p=true/\ee p c=true
  ·rw[a1 K];have aE:=K.2;unfold ee at aE;simp only[decide_eq_true_eq] at aE;obtain⟨x,v,_⟩:=gu aE.1 aE.2;exact b1 (ab v (aa.ay (λz=>z=true) (λj B=>aN (λ_=>B _ rfl) λh=>bz (show(-1:Int)<0 by omega) h) λz L=>by rw[L];exact b1 (aa.some rfl)))
  rw[aZ K];exact b3 (aa.some rfl)
 refine aa.eq (ab (wO G H c d m) ?_);by_cases q:cS p c d=true
 ·rw[a1 q];obtain⟨Y,i,k,P,l,rfl,rfl,f,C,aE,Q,o,g⟩:=m9 q;obtain⟨D,t⟩:=ih o;obtain⟨_,E,I,_⟩:=gk o;have r:=t l (bE C);rw[Ms f C];refine b1 (ab (be f) (aa.ay (λz=>z= !(decide (P.nest.length<4)&&decide (1<=s/\s<=6))) (λj B=>?_) λz L=>?_))
  ·refine aN (λh=>bz h O) λ_=>aN (λh=>B _ ?_) λh=>ab (d7 n s 1 6) (B _ ?_)
   ·rw[bD (show¬P.nest.length<4 by omega)];rfl
   rw[bF (O:P.nest.length<4)];rfl
  subst L;by_cases e:P.nest.length<4
  ·by_cases w:1<=s/\s<=6
   ·rw[bF e,bF w];refine b3 (ab (be C) (ab (F5 O r) ?_));by_cases A:eJ l=true
    ·rw[a1 A,a1 ⟨q,e,w,A⟩];obtain⟨a,b,_,_,_,M,N⟩:=F6 r A;have W:=yq (n:=n) O (nest:=P.nest) (body:=P.body) (s:=k) O D (λy T=>t y (e6 T)) E.2 I (F:=λU=>va n U (k:Int)) (XS O O);have X:(P.nest.take k++(P.nest.drop k).map (eb (jX k)))[k]? =some (eb (jX k) l):=by
      grind
     refine b1 (ab W (ab (dD Z _) (ab (x:=()) (by unfold kb;rw[aZ O]) (ab (Mx n g s) (ab (Mx n g s) (ab (Ab n _) (ab (Ab n _) (ab (be X) (ab (dD bN _) (ab (Ab n 0) (ab (Ab n _) (ab (abN bN bN _) (ab (dD bN _) ?_)))))))))))));dsimp only;unfold cF at M N;rw[m7,m7,List.set_set,bb (n:=c' l.lo+s) O,OQ ⟨O,O⟩ ⟨O,O⟩ w];have cu:P.nest.drop k=l::P.nest.drop (k+1):=k5 C;have u:(P.nest.take k).length=k:=by rw[cE];omega
     have V: ∀R S:Loop,(((P.nest.take k++(P.nest.drop k).map (eb (jX k))).set k R).take k++[S]++((P.nest.take k++(P.nest.drop k).map (eb (jX k))).set k R).drop k)=P.nest.take k++S::R::(P.nest.drop (k+1)).map (eb (jX k)):=λR S=>by
      grind
     rw[V];exact ab (qQ G (xm H i (Nc o e Q s))) (aa.some rfl)
    rw[aZ A,aZ λh=>A h.2.2.2];exact b3 (aa.some rfl)
   rw[aZ λh=>w h.2.2.1,bD w,kg];exact b1 (aa.some rfl)
  rw[aZ λh=>e h.2.1,bD e];exact b1 (aa.some rfl)
 rw[aZ q,Fb q];exact b3 (aa.some rfl)
theorem ac4(a:k<4)(s c:Int):od (gS k) s (fU c) 1=mR k s c:=by rcases(O:k=0\/k=1\/k=2\/k=3) with rfl|rfl|rfl|rfl<;>simp[od,gS,fU,mR]
theorem acn(a:k<4)(s c e:Int):od (mR k s c) 1 (fU e) 1=mR k s (c+e):=by rcases(O:k=0\/k=1\/k=2\/k=3) with rfl|rfl|rfl|rfl<;>simp[od,fU,mR]
theorem PF(h:cF 1000 c):e8 1000 (fU c):=⟨rfl,h,λx a=>by simp[fU] at a;subst a;exact⟨O,O⟩⟩
theorem ac5(d:cF 1000 s)(h:cF 1000 c):e8 1000 (mR k s c):=by refine⟨by simp[mR],h,pI (λc a=>?_) d⟩;simp at a;subst a;exact⟨O,O⟩
theorem agW(F:7000<=n)(A:db 1000 p)(c d s:Int):DD n p c d s=some (re p c d s):=by
 unfold DD;refine aa.eq (ab (k8 O A) ?_);by_cases B:cS p c d=true
 ·obtain⟨E,i,k,P,l,rfl,rfl,G,H,f,K,m,C⟩:=m9 B;obtain⟨g,L⟩:=ih m;obtain⟨_,t,u,_⟩:=gk m;have r:=L l (bE H);rw[Ms G H];refine aa.ay (λz=>z= !(decide (P.nest.length<4)&&decide (1<=s/\s<=6))) (λj o=>?_) λz w=>?_
  ·refine ab (x:=true) (by rw[mM F A _ _,B]) ?_;refine b3 (ab (be G) (aN (λh=>o _ ?_) λh=>aN (λv=>o _ ?_) λv=>o _ ?_))
   ·rw[bD (show¬P.nest.length<4 by omega)];rfl
   ·rw[bD (show¬(1<=s/\s<=6) by omega),kg];rfl
   rw[bF (O:P.nest.length<4),fK]
   grind
  subst w;by_cases e:P.nest.length<4
  ·by_cases q:1<=s/\s<=6
   ·rw[bF e,bF q];refine b3 (ab (be G) (ab (be H) (ab (Fx O r) ?_)));by_cases y:eJ l=true
    ·rw[a1 y,a1 ⟨B,e,q,y⟩];obtain⟨a,b,_,_,_,Q,W⟩:=F6 r y;obtain⟨I,M⟩:=Pg Q W q;unfold cF at Q W;refine b3 (aa.ay (λz=>z=qk (c' l.lo) (c' l.aE) s) (λj o=>aN (λh=>ab (x:=()) (by unfold kb;rw[aZ O]) (o _ ?_)) λh=>o _ ?_) λz w=>?_)
     ·dsimp only at h⊢;rw[<-OQ ⟨O,O⟩ ⟨O,O⟩ q,bb (n:=c' l.aE-c' l.lo) O,show max 0 (c' l.aE-c' l.lo)=c' l.aE-c' l.lo by omega]
     ·dsimp only at h⊢;unfold qk;rw[show max 0 (c' l.aE-c' l.lo)=0 by omega,Int.tdiv_eq_ediv_of_nonneg O];exact(Int.ediv_eq_zero_of_lt O O).symm
     subst w;have X:(P.nest.take k).length=k:=by rw[cE];omega
     refine ab (zl O O g L t.2 u (YT O _)) (ab (AM n C) (ab (d4 n _) (ab (th O ((tD C).mono O) (PF ⟨Z,Z⟩) ⟨O,O⟩ ⟨O,O⟩) ?_)));dsimp only;rw[ac4 C];refine ab (d4 n _) (ab (d4 n _) (ab (d4 n _) (ab (th O (ac5 ⟨O,O⟩ ⟨O,O⟩) (PF ⟨O,O⟩) ⟨O,O⟩ ⟨O,O⟩) ?_)));rw[acn C];refine ab (gE O O bN) (ab (cB bN) (ab (show oE n=some (fU 0) from rfl) (ab (d4 n _) (ab (cB bN) ?_))));rw[bb O];refine ab (gE O bN aP) (ab (cB bN) ?_);have D: ∀R S:Loop,([]++((P.nest.take (k+1)++(P.nest.drop (k+1)).map (eb (jX k))).take (k:Int).toNat).drop (0:Int).toNat++[S,R]++((P.nest.take (k+1)++(P.nest.drop (k+1)).map (eb (jX k))).take ((P.nest.take (k+1)++(P.nest.drop (k+1)).map (eb (jX k))).length:Int).toNat).drop ((k:Int)+1).toNat)=P.nest.take k++S::R::(P.nest.drop (k+1)).map (eb (jX k)):=λR S=>by
      have N:(P.nest.take (k+1)).length=k+1:=by rw[cE];omega
      rw[m7,m7,show((k:Int)+1).toNat=k+1 by omega,show(0:Int).toNat=0 from rfl,mU,dz,pT O,List.take_take,tr O,JF O,Dx O];simp
     rw[D];exact ab (wV F A f ((Nc m e K s).mono O)) (aa.some rfl)
    rw[aZ y,aZ λh=>y h.2.2.2];exact b1 (aa.some rfl)
   rw[aZ λh=>q h.2.2.1,bD q,kg];exact b1 (aa.some rfl)
  rw[aZ λh=>e h.2.1,bD e];exact b1 (aa.some rfl)
 rw[Fb B];refine aa.ay (λz=>z=true) (λj o=>ab (mM F A _ _) ?_) (λz w=>by rw[w];exact b1 (aa.some rfl))
 grind
def kI(P:Part)(a b:Int):Part:=⟨(⟨[fU a],[fU b]⟩:Loop)::P.nest.drop 1,P.body⟩
def rb(p:Prog)(a c:Int):Prog×Bool:=
 match ar p.parts a with
 |some P=>match ar P.nest 0 with
  |some l=>if cS p a 0=true/\eJ l=true/\c' l.lo<=c/\c<=c' l.aE then hM (kS p a.toNat 1 [kI P (c' l.lo) c,kI P c (c' l.aE)]) else ef
  |none=>ef
 |none=>ef
theorem Fc(h:cS p a 0≠true):rb p a c=ef:=by
 unfold rb;split
 ·split
  ·rw[aZ λd=>h d.1]
  rfl
 rfl
theorem Bc{a:Type}{l:List a}{x:a}(h:l[0]? =some x):ar l 0=some x:=be h
theorem Mu(a:p.parts[i]? =some P)(d:P.nest[0]? =some l)(c:Int):
  rb p (i:Int) c=if cS p (i:Int) 0=true/\eJ l=true/\c' l.lo<=c/\c<=c' l.aE then hM (kS p i 1 [kI P (c' l.lo) c,kI P c (c' l.aE)]) else ef:=by unfold rb;rw[be a];dsimp only;rw[Bc d];rfl
theorem Pr(k:ej r P=true)(a b:Int):fB 4 (kI P a b):=by
 obtain⟨h,l,m⟩:=tU k;have i: ∀c,dq 4 (fU c):=λc=>by unfold dq fU;simp
 have:=h.1;refine⟨⟨by simp only[kI,List.length_cons,List.length_drop];omega,λy e=>?_⟩,l,m⟩;rcases dL.1 e with rfl|e
 ·exact⟨⟨aP,λa d=>by simp at d;subst d;exact i _⟩,aP,λa d=>by simp at d;subst d;exact i _⟩
 exact h.2 y (e6 e)
theorem Mt(e:ej r P=true)(a b c d:Int): ∀y∈[kI P a b,kI P c d],fB 1000 y:=by
 intro y h;simp only[List.mem_cons,List.not_mem_nil,or_false] at h;rcases h with rfl|rfl
 ·exact(Pr e a b).mono O
 exact(Pr e c d).mono O
theorem aaV(a:bT p=true)(c:p.parts[i]? =some P):cS p (i:Int) 0=decide (0<P.nest.length):=by unfold cS;rw[a,be c,fK];rw[gL];simp only[decide_eq_true_eq];omega
theorem Y'(a:i<p.parts.length)(A B:Part):(⟨p.aR,(p.parts.set i A).take (i+1)++[B]++(p.parts.set i A).drop (i+1)⟩:Prog)=kS p i 1 [A,B]:=by
 unfold kS;congr 1;rw[List.take_set,pX O,eg,bo a,oS _ _ (by rw[cE];omega)]
 have:i-(p.parts.take i).length=0:=by rw[cE];omega
 rw[this];simp
theorem afw(v:20000<=n)(F:db 1000 p)(d c:Int):DR n p d c=some (rb p d c):=by
 unfold DR;refine aa.eq (ab (Af O F d) ?_);by_cases y:bT p=true/\ee p d=true
 ·rw[a1 y];obtain⟨m,B⟩:=y;have G:0<=d/\d<(p.parts.length:Int):=eX B;obtain⟨i,rfl⟩: ∃i:Nat,d=i:=⟨d.toNat,O⟩
  have q:=bo (O:i<p.parts.length);generalize K:p.parts[i]=P at q;have Q:=(ei m).2.2.1;have e:=(ei m).2.2.2.1 P (bE q);obtain⟨W,A⟩:=ih e;have dm:=aaV m q;refine b1 (ab (be q) (aN (λz=>aa.some ?_) λz=>?_))
  ·rw[Fc (by rw[dm,bD O];simp)];rfl
  have z:0<P.nest.length:=O
  rw[bF z] at dm;have o:=bo z;generalize P.nest[0]=l at o;have r:=A l (bE o);rw[Mu q o];refine ab (Bc o) (ab (F5 O r) ?_);by_cases s:eJ l=true
  ·rw[a1 s];refine b1 (ab (d7 n c _ _) ?_);by_cases w:c' l.lo<=c/\c<=c' l.aE
   ·rw[a1 ⟨dm,s,w.1,w.2⟩];dsimp only;rw[bF w];obtain⟨a,b,X,f,g,D,E⟩:=F6 r s;have j:=A' (i:=i) (many:=1) (ys:=[kI P (c' l.lo) c,kI P c (c' l.aE)]) ((lB m).mono (O:4<=900)) aP (Mt e _ _ _ _);generalize c' l.lo=L at*;generalize c' l.aE=H at*;subst f;subst g;subst X;have t:P.nest=(⟨[fU L],[fU H]⟩:Loop)::P.nest.drop 1:=by
     have:=k5 o
     rwa [mU] at this
    have C: ∀R:Loop,P.nest.set (0:Int).toNat R=R::P.nest.drop 1:=λR=>by
     show P.nest.set 0 R=_;rw[t];rfl
    refine b1 (ab (Lh O e) (ab (x:=fU H) rfl (ab (x:=[fU c]) rfl (ab (dD O _) (ab (dD O _) (ab (Bc o) (ab (x:=fU L) rfl (ab (x:=[fU c]) rfl (ab (dD O _) ?_)))))))));rw[C,C,bb O,m7];refine ab (NM (i:=i+1) (by rw[eR];omega) (by rw[eR];simp;omega)) ?_;show aa (Option.bind (lH n (⟨p.aR,(p.parts.set i (kI P L c)).take (i+1)++[kI P c H]++(p.parts.set i (kI P L c)).drop (i+1)⟩:Prog)) _) _;rw[Y' O];exact ab (qQ O j) (aa.some rfl)
   rw[aZ λh=>w ⟨h.2.2.1,h.2.2.2⟩];dsimp only;rw[bD w];exact b3 (aa.some rfl)
  rw[aZ s,aZ λh=>s h.2.1];exact b3 (aa.some rfl)
 rw[aZ y,Fc λu=>y ?_]
 ·exact b3 (aa.some rfl)
 obtain⟨m,i,k,P,l,rfl,_,I,_,B,_⟩:=m9 u;exact⟨m,bF O⟩
theorem agV(H:20000<=n)(A:db 1000 p)(a c:Int):DE n p a c=some (rb p a c):=by
 unfold DE;refine aa.eq (ab (k8 O A) (ab (mM O A a 0) ?_));cases q:cS p a 0 with
 |false=>
  rw[Fc (by rw[q];simp)];exact b1 (aa.some rfl)
 |true=>
  obtain⟨C,i,k,P,l,rfl,F,B,r,K,L,d,Q⟩:=m9 q;obtain rfl:k=0:=O
  obtain⟨G,s⟩:=ih d;have w:=s l (bE r);rw[Mu B r];refine b3 (ab (be B) (ab (Bc r) (ab (Fx O w) ?_)));by_cases m:eJ l=true
  ·rw[a1 m];dsimp only;refine aa.ay (λz=>z= !decide (c' l.lo<=c/\c<=c' l.aE)) (λj o=>b3 (aN (λh=>o _ ?_) λh=>o _ ?_)) λz x=>?_
   ·rw[bD O];rfl
   ·rw[gL];simp only[Bool.not_eq_true',decide_eq_true_eq,decide_eq_false_iff_not];omega
   subst x;by_cases e:c' l.lo<=c/\c<=c' l.aE
   ·rw[a1 ⟨q,m,e.1,e.2⟩,bF e];refine b3 (ab (d4 n _) (ab (d4 n _) (ab (gE O O O) (ab (cB bN) (ab (d4 n _) (ab (d4 n _) (ab (gE O O O) (ab (cB bN) ?_))))))));rw[m7,dz];have y:=FD (n:=n) O ((lB C).mono (O:4<=900)) (i:=i) (many:=1) O (ys:=[kI P (c' l.lo) c,kI P c (c' l.aE)]) aP (Mt d _ _ _ _);exact ab y (aa.some rfl)
   rw[aZ λh=>e ⟨h.2.2.1,h.2.2.2⟩,bD e];exact b1 (aa.some rfl)
  rw[aZ m,aZ λh=>m h.2.1];exact aa.ay (λz=>z=true) (λj o=>b1 (o _ rfl)) λz x=>by rw[x];exact b1 (aa.some rfl)
def oa(c:Int)(a:List Int):Int:=if c∈a then(a.idxOf c:Int) else-1
def rG(c:Int)(a:List Int):List Int:=c::a.filter λx=> !decide (x=c)
def mK:List Int->List Int->List Int
 |_,[]=>[]
 |st,c::t=>oa c st::mK (rG c st) t
theorem Ky{d:List Int}(h:d.Nodup):(rG c d).Nodup:=by unfold rG;rw[List.nodup_cons];exact⟨λa=>by simp at a,h.filter _⟩
theorem L1{c:Int}: ∀{l:List Int},l.Nodup->l.length<=(l.filter λx=> !decide (x=c)).length+1
 | [],_=>aP
 |x::l,h=>by
  rw[List.nodup_cons] at h;by_cases a:x=c
  ·subst a;rw[List.filter_cons_of_neg aP,List.filter_eq_self.2 λy d=>by simp;intro e;subst e;exact h.1 d];simp
  rw[List.filter_cons_of_pos (by simp[a])]
  have:=L1 (c:=c) h.2;simp only[List.length_cons];omega
theorem KD{c:Int}: ∀{l:List Int},l.Nodup->l.erase c=l.filter (λx=> !decide (x=c))
 | [],_=>rfl
 |x::l,h=>by
  rw[List.nodup_cons] at h;by_cases a:x=c
  ·subst a;rw[List.erase_cons_head,List.filter_cons_of_neg aP,List.filter_eq_self.2 λy d=>by simp;intro e;subst e;exact h.1 d]
  rw[List.erase_cons_tail (by simpa using a),List.filter_cons_of_pos (by simp[a]),KD h.2]
theorem Wh{size:Nat}{d:List Int}(h:d.Nodup):nF size c (d.take size).reverse=((rG c d).take size).reverse:=by
 have k:(d.take size).Nodup:=h.sublist (List.take_sublist _ _);have m:(d.take size).reverse.Nodup:=List.pairwise_reverse.2 (k.imp λh=>lk h);unfold nF;rw[KD m,List.filter_reverse];have o:((d.take size).filter λx=> !decide (x=c)).reverse++[c]=(c::(d.take size).filter λx=> !decide (x=c)).reverse:=aP
 simp only[o];have q:((d.take size).filter λx=> !decide (x=c)).length<=size:=f' (tu _ _) (by rw[cE];omega);have p:(if size<(c::(d.take size).filter λx=> !decide (x=c)).reverse.length then(c::(d.take size).filter λx=> !decide (x=c)).reverse.drop 1 else(c::(d.take size).filter λx=> !decide (x=c)).reverse)=((c::(d.take size).filter λx=> !decide (x=c)).take size).reverse:=by
  split
  ·rename_i e;rw[List.length_reverse,ri] at e;rw[List.drop_reverse,ri,show((d.take size).filter λx=> !decide (x=c)).length+1-1=size by omega]
  rename_i e;rw[List.length_reverse] at e;rw[hS (l:=c::(d.take size).filter λx=> !decide (x=c)) O]
 rw[p];congr 1;unfold rG;cases size with
 |zero=>rfl
 |succ n=>
  rw[List.take_succ_cons,List.take_succ_cons];congr 1;have i:d.filter (λx=> !decide (x=c))=(d.take (n+1)).filter (λx=> !decide (x=c))++(d.drop (n+1)).filter (λx=> !decide (x=c)):=by
   rw[<-pY,rp]
  rw[i];by_cases a:n+1<=d.length
  ·have:=L1 (c:=c) k;rw[cE,tr a] at this;rw[pT O]
  rw[Dx O];simp
theorem Kv{c:Int}{i:Nat}: ∀{st:List Int},c∈st.take i↔c∈st/\st.idxOf c<i
 | []=>aP
 |x::st=>by
  cases i with
  |zero=>simp
  |succ n=>
   rw[List.take_succ_cons,dL,dL,Kv (st:=st)];by_cases a:x=c
   ·subst a;simp
   rw[List.idxOf_cons,show(x==c)=false by simpa using a,cond_false];have d: ¬c=x:=λe=>a e.symm;simp[d]
theorem M3{size:Nat}: ∀{t st:List Int},st.Nodup->fG size (st.take size).reverse t=(mK st t).countP (λd=>decide (d<0\/(size:Int)<=d))
 | [],_,_=>rfl
 |c::t,st,h=>by
  rw[fG,mK,List.countP_cons,Wh h,M3 (Ky h),Nat.add_comm];congr 1;have i:(c∈(st.take size).reverse)↔(c∈st/\st.idxOf c<size):=by rw[List.mem_reverse];exact Kv
  by_cases a:c∈st
  ·unfold oa;rw[a1 a];by_cases k:st.idxOf c<size
   ·rw[a1 (i.2 ⟨a,k⟩),aZ bN]
   rw[aZ λe=>k (i.1 e).2,a1 bN]
  unfold oa;rw[aZ a,aZ λe=>a (i.1 e).1,a1 aP]
theorem XG(size:Nat)(t:List Int):fG size [] t=(mK [] t).countP (λd=>decide (d<0\/(size:Int)<=d)):=by have:=M3 (size:=size) (t:=t) (st:=[]) List.nodup_nil;simpa using this
theorem TK{d:List Int}(h: ¬c∈d):oa c (d++[c])=(d.length:Int):=by unfold oa;rw[a1 aP,List.idxOf_append,aZ h,List.idxOf_cons_self];omega
theorem UJ{d:List Int}(h:y≠c):oa c (d++[y])=oa c d:=by
 unfold oa;by_cases a:c∈d
 ·rw[a1 a,a1 (by simp[a]),List.idxOf_append,a1 a]
 rw[aZ a,aZ (by simp[a];exact λe=>h e.symm)]
theorem Wk(c:Int)(a:List Int):(rG c a).length<=a.length+1:=by
 unfold rG
 have:=tu (λx=> !decide (x=c)) a;simp only[List.length_cons];omega
theorem Wp(N:20000<=n){d:List Int}(P:d.length<=600):aa (Cy n d) (λr=>r=mK [] d):=by
 unfold Cy;refine aN (λh=>O) λ_=>?_;refine aa.loop (λx:List Int×List Int×Int=> ∃k:Nat,x.2.2=k/\k<=d.length/\x.2.1.Nodup/\x.2.1.length<=k/\x.1.length=k/\x.1++mK x.2.1 (d.drop k)=mK [] d) (λx=>d.length-x.2.2.toNat) ?_ n _ ⟨0,rfl,O,List.nodup_nil,cJ _,rfl,rfl⟩ Z;rintro H ⟨o,st,S⟩ ⟨k,q,T,p,f,ny,s⟩ g;dsimp only at q p f ny s⊢;subst q;refine aN (λe=>?_) λt=>aa.some ?_;rotate_left
 ·rw[Dx O,mK,kP] at s;exact s
 have e:k<d.length:=O
 have w:=bo e;generalize d[k]=c at w;refine aa.loop (λx:List Int×Int×Int=> ∃j:Nat,x.2.2=j/\j<=st.length/\x.1=(st.take j).filter (λy=> !decide (y=c))/\x.2.1=oa c (st.take j)) (λx=>st.length-x.2.2.toNat) ?_ n _ ⟨0,rfl,O,rfl,rfl⟩ Z;rintro G ⟨r,u,U⟩ ⟨j,A,K,a,i⟩ L;dsimp only at A a i⊢;subst A;refine aN (λl=>?_) λX=>?_
 ·have l:j<st.length:=O
  have Q:=bo l;generalize V:st[j]=y at Q;have B:st.take (j+1)=st.take j++[y]:=by rw[eg,Q];rfl
  have C:(st.take j++[y]).Nodup:=by rw[<-B];exact p.sublist (List.take_sublist _ _)
  have v:r.length<=600:=by
   rw[a];exact f' (tu _ _) (by rw[cE];omega)
  refine aa.ay (λz:List Int×Int=>z.1=(st.take (j+1)).filter (λy=> !decide (y=c))/\z.2=oa c (st.take (j+1))) (λD m=>?_) λz b=>?_
  ·refine ab (be Q) (ab (be w) (aN (λR=>?_) λF=>?_))
   ·subst R;refine m _ ⟨?_,?_⟩
    ·rw[B,pY,<-a];simp
    rw[B];have W: ¬y∈st.take j:=λE=>by
     have:=(List.nodup_append.1 C).2.2 y E y aP;exact this rfl
    rw[TK W,cE,tr K]
   refine ab (cB (by simp only[List.length_cons,List.length_nil];omega)) (m _ ⟨?_,?_⟩)
   ·rw[B,pY,<-a];simp[F]
   rw[B,UJ F];exact i
  rw[bb O];exact L _ ⟨j+1,Z,O,b.1,b.2⟩ Z
 have K:j=st.length:=O
 subst K;rw[dz] at a i;subst a;subst i;have I:=tu (λy=> !decide (y=c)) st;refine ab (cB (by simp only[List.length_cons,List.length_nil];omega)) (ab (be w) (ab (cB (by simp only[List.length_cons,List.length_nil];omega)) ?_));rw[bb O];have M:d.drop k=c::d.drop (k+1):=by
  rw[kN e];congr 1;rw[bo e] at w;exact Option.some.inj w
 rw[M,mK] at s;refine g _ ⟨k+1,Z,O,Ky p,f' (Wk c st) O,by dsimp only;rw[cV];simp only[List.length_cons,List.length_nil];omega,?_⟩ Z;dsimp only;rw[fy];exact s
theorem Lp: ∀(t st:List Int),(mK st t).length=t.length
 | [],_=>rfl
 |c::t,st=>by rw[mK,ri,ri,Lp t]
theorem Y4(H:20000<=n){e:List Int}(y:e.length<=600)(K:0<=a)(L:a<=40):sS n e a=some (fG a.toNat [] e:Int):=by
 refine aa.eq ?_;unfold sS;have h:vL n e a=some true:=by
  unfold vL;simp only[ay];rw[bF (show(e.length:Int)<=600 by omega),bF K,bF L];rfl
 refine ab h ?_;refine cr (Wp H y) ?_;rintro _ rfl;have i:=Lp e [];rw[XG];generalize j:mK [] e=A at i⊢;refine aa.loop (λx:Int×Int=> ∃k:Nat,x.2=k/\k<=A.length/\x.1=((A.take k).countP (λd=>decide (d<0\/(a.toNat:Int)<=d)):Nat)) (λx=>A.length-x.2.toNat) ?_ n _ ⟨0,rfl,O,rfl⟩ Z;rintro B ⟨m,t⟩ ⟨k,o,u,w⟩ Q;dsimp only at o w⊢;subst o;refine aN (λq=>?_) λR=>aa.some ?_;rotate_left
 ·rw[w,hS O]
 have q:k<A.length:=O
 have C:=bo q;generalize A[k]=d at C;have W:A.take (k+1)=A.take k++[d]:=by rw[eg,C];rfl
 have F:=List.countP_le_length (p:=λd=>decide (d<0\/(a.toNat:Int)<=d)) (l:=A.take k);rw[cE] at F;refine aa.ay (λz:Int=>z=((A.take (k+1)).countP (λd=>decide (d<0\/(a.toNat:Int)<=d)):Nat)) (λv c=>?_) λz X=>?_
 ·refine aa.ay (λb:Bool=>b=decide (d<0\/(a.toNat:Int)<=d)) (λD r=>?_) λb f=>?_
  ·refine ab (be C) (aN (λs=>r _ ?_) λG=>r _ ?_)
   ·rw[bF (Or.inl s)]
   rw[decide_eq_decide];omega
  subst f;rw[W,List.countP_append,List.countP_singleton] at c;refine aa.cond (λy=>c _ ?_) λg=>c _ ?_
  ·rw[bb O,w,a1 y];omega
  rw[w,aZ (by rw[g];exact Bool.false_ne_true)];omega
 rw[bb O];exact Q _ ⟨k+1,Z,O,X⟩ Z
theorem Y3{d:List Int}(h: ¬(d.length<=600/\0<=c/\c<=40)):sS n d c=some (-1):=by
 have e:vL n d c=some false:=by
  unfold vL;simp only[ay];by_cases a:(d.length:Int)<=600
  ·by_cases b:0<=c
   ·rw[bF a,bF b,bD (show¬c<=40 by omega)];rfl
   rw[bF a,bD b];rfl
  rw[bD a];rfl
 unfold sS;rw[e];rfl
def nl(p:Prog)(x:cb):List Int:=rc p x++[(c5 p x:Int)]
def kU(p:Prog):List Int:=(bn p.parts).flatMap (nl p)
theorem NF{l:List cb}{f:cb->List Int}{x:cb}(h:l[k]? =some x):(l.take (k+1)).flatMap f=(l.take k).flatMap f++f x:=by rw[eg,h,mT];simp
theorem OA{f:cb->List Int}: ∀{l:List cb},(∀x∈l,(f x).length<=13)->(l.flatMap f).length<=13*l.length
 | [],_=>aP
 |x::l,h=>by have c:=h x eM;have d:=OA (l:=l) λy a=>h y (ew _ a);rw[y5,cV,ri];omega
theorem aav(a:bT p=true){x:cb}(c:x∈bn p.parts):(nl p x).length<=13:=by have:=(nz a (hd c)).2.2.1;unfold nl;rw[cV,mS];omega
theorem aaF(n:Nat)(s:List Int):zk n s=some s:=by unfold zk;rw[gE O O O];simp
theorem YI(K:20000<=n)(w:ja p)(d:bT p=true):ym n p=some ((kU p).take 600):=by
 have y:=(ei d).2.2.2.2;refine aa.eq ?_;unfold ym;refine ab (vy O w) ?_;rw[a1 d];simp only[Option.isSome_some,Option.getD_some,cond_true,Bool.not_true,cond_false];have m:(fx p).list=bn p.parts:=rfl;have o:(fx p).reads=(bn p.parts).map (rc p):=rfl;have q:(fx p).da=(bn p.parts).map (λx=>(c5 p x:Int)):=rfl;simp only[m,o,q];refine aa.loop (λz:List Int×Int=> ∃k:Nat,z.2=k/\k<=(bn p.parts).length/\z.1=((bn p.parts).take k).flatMap (nl p)) (λz=>(bn p.parts).length-z.2.toNat) ?_ n _ ⟨0,rfl,O,rfl⟩ Z;rintro r ⟨a,z⟩ ⟨k,s,L,c⟩ A;dsimp only at s c⊢;subst s;have B:a.length<=1560:=by
  rw[c]
  have:=OA (f:=nl p) (l:=(bn p.parts).take k) λx C=>aav d (gb C);rw[cE] at this;omega
 refine aN (λF=>?_) λG=>?_
 ·obtain⟨x,i⟩: ∃x,(bn p.parts)[k]? =some x:=⟨_,bo (O:k<(bn p.parts).length)⟩
  have H:=(nz d (hd (bE i))).2.2.1;refine ab (be (jI i)) (ab (cB O) (ab (be (jI i)) (ab (cB (by rw[cV,mS];omega)) ?_)));rw[bb O];refine A _ ⟨k+1,Z,O,?_⟩ Z;dsimp only;rw[NF i,<-c,fy];rfl
 have e:k=(bn p.parts).length:=O
 subst e;rw[dz] at c;refine ab (gE O O O) (ab (aaF n _) (aa.some ?_));rw[c,show(0:Int).toNat=0 from rfl,mU];show(kU p).take _=_;have Q:a.length=(kU p).length:=by rw[c];rfl
 by_cases h:(kU p).length<=600
 ·rw[hS h,hS];show(kU p).length<=(min ((kU p).length:Int) 600).toNat;omega
 congr 1;show(min ((kU p).length:Int) 600).toNat=600;omega
theorem X3(K:20000<=n)(s:jc n p=some true)(i:bT p=true):yl n p=some ((kU p).take 600):=by
 have w:=(ei i).2.2.2.2;refine aa.eq ?_;unfold yl;refine ab s ?_;rw[Bool.not_true,cond_false];refine ab (zE O i) ?_;have y:(kd p).length=(bn p.parts).length:=by unfold kd;rw[dn]
 refine aa.loop (λz:List Int×Int=> ∃k:Nat,z.2=k/\k<=(bn p.parts).length/\z.1=((bn p.parts).take k).flatMap (nl p)/\z.1.length<=600) (λz=>(bn p.parts).length-z.2.toNat) ?_ n _ ⟨0,rfl,O,rfl,aP⟩ Z;rintro l ⟨a,z⟩ ⟨k,q,L,h,c⟩ A;dsimp only at q h c⊢;subst q;refine aN (λB=>?_) λC=>aa.some ?_
 ·obtain⟨x,m⟩: ∃x,(bn p.parts)[k]? =some x:=⟨_,bo (O:k<(bn p.parts).length)⟩
  have F:=(nz i (hd (bE m))).2.2.1;have G:(kd p)[k]? =some (⟨rc p x,(c5 p x:Int)⟩:ki):=jI m;refine ab (be G) (ab (cB Z) (ab (cB (by rw[cV,mS];dsimp only;omega)) ?_));dsimp only;have d:a++rc p x++[(c5 p x:Int)]=((bn p.parts).take (k+1)).flatMap (nl p):=by
   rw[NF m,<-h,fy];rfl
  rw[d];have Q:(((bn p.parts).take (k+1)).flatMap (nl p)).length<=1000:=by
   rw[<-d,cV,cV,mS];omega
  refine aN (λr=>?_) λH=>?_
  ·refine ab (gE O O O) (ab (cB (by rw[fz,cE];simp only[List.length_nil];omega)) (aa.some ?_));rw[rk,show(0:Int).toNat=0 from rfl,mU,show(600:Int).toNat=600 from rfl];have o:kU p=((bn p.parts).take (k+1)).flatMap (nl p)++((bn p.parts).drop (k+1)).flatMap (nl p):=by
    unfold kU;rw[<-mT,rp]
   rw[o,pT O]
  rw[bb O];exact A _ ⟨k+1,Z,O,rfl,Z⟩ Z
 have e:k=(bn p.parts).length:=O
 subst e;rw[dz] at h;subst h;rw[show(kU p)=(bn p.parts).flatMap (nl p) from rfl,hS c]
def fo(p:Prog)(a:Int):Int:=if bT p=true then(if 0<=a/\a<=40 then(fG a.toNat [] ((kU p).take 600):Int) else-1) else-1
theorem yK(i:20000<=n)(d:ja p)(a:Int):qt n p a=some (fo p a):=by
 unfold qt fo;rw[sf O d];by_cases c:bT p=true
 ·rw[a1 c,c];show Option.bind (ym n p) _=_;rw[YI i d c];show Option.bind (vi _ a) _=_;have k:((kU p).take 600).length<=600:=by rw[cE];omega
  unfold vi;by_cases h:0<=a/\a<=40
  ·rw[a1 ⟨k,h⟩,a1 h];rfl
  rw[aZ λe=>h e.2,aZ h];rfl
 rw[aZ c,Bool.eq_false_iff.2 c];rfl
theorem KZ(d:20000<=n)(k:ja p)(a:Int):ye n p a=some (fo p a):=by
 unfold ye fo;have i:=jB (n:=n) O k;rw[i];by_cases c:bT p=true
 ·rw[a1 c,c];show Option.bind (yl n p) _=_;rw[X3 d (by rw[i,c]) c];show Option.bind (sS n _ a) _=_;have l:((kU p).take 600).length<=600:=by rw[cE];omega
  by_cases h:0<=a/\a<=40
  ·rw[Y4 d l h.1 h.2,a1 h];rfl
  rw[Y3 λe=>h e.2,aZ h];rfl
 rw[aZ c,Bool.eq_false_iff.2 c];rfl
theorem WY(a:List UInt8):aa (Cl N a) (λx=>db 1000 x.1):=by
 have i:N=100000:=rfl;unfold Cl;refine cr (abh a) λr e=>cr (Wi e O) λx c=>cr (aaK O c.2 O c.1) λy d=>?_;have h:aa (zL N y.2) (λ_=>True):=by
  unfold zL;exact cr (OM d.2 O aP) λz _=>aa.some trivial
 exact cr h λz _=>aa.some (d.1.mono (O:30<=1000))
end
section
def ln(s:Stmt):Stmt:=⟨s.write,fH 5 s.value⟩
def j'(x:Part):Part:=⟨x.nest,x.body.map ln⟩
def BJ(p:Prog):Prog:=⟨p.aR,p.parts.map j'⟩
variable {n:Nat}{s:Stmt}{d e:Int}{p:Prog}{r:List cI}
theorem V8(c:7000<=n)(a:er s d=true):wi n s=some (ln s):=by
 obtain⟨n,rfl⟩: ∃j,n=j+1:=⟨n-1,O⟩
 unfold wi;rw[QX O a];refine aa.eq (ab rfl (ab (IG 5 n s.value O (kD a).2.1) (aa.some rfl)))
def ui(p:Prog):Prog×Bool:=if bT p=true then(BJ p,true) else ef
theorem SQ(q:7000<=n)(w:db 1000 p):CX n p=some (ui p):=by
 unfold CX ui;refine aa.eq (ab (sf q w.sm) (aa.cond (λh=>aa.some ?_) λh=>?_))
 ·rw[aZ (by simpa using h)];rfl
 have i:bT p=true:=by simpa using h
 rw[a1 i];obtain⟨Q,R,X,y,_⟩:=ei i;refine ab (sY O i) ?_;refine y1 (l:=p.parts) (n:=n) (F:=λd k=>bd (λa ((c,e):(List Stmt)×Int)=>
    bif decide (e<(d.body.length:Int)) then(
     Option.bind (ar c e) λz=>
     Option.bind (wi n z) λA=>
     Option.bind (b6 c e A) λB=>
     a (B,wr (e+1))
    ) else(
     Option.bind (j7 d.body c) λb=>
     k (⟨d.nest,c⟩:Part)
    )
   ) n (d.body,0)) (W:=λ_ o=>o) (m:=λ_=>(p.parts.length:Int)) (g:=j') (s:=0) (K:=λC=>some ((⟨p.aR,C⟩:Prog),true)) (λ_ _ _ h=>h) (λ_ _=>rfl) O (λx G k r=>?_) O O (aa.some ?_)
 ·obtain⟨_,f,H,_⟩:=gk (y x G);refine y1 (l:=x.body) (n:=n) (F:=λx k=>Option.bind (wi n x) k) (W:=λ_ o=>o) (m:=λ_=>(x.body.length:Int)) (g:=ln) (s:=0) (K:=λc=>Option.bind (j7 x.body c) λ_=>k (⟨x.nest,c⟩:Part)) (λ_ _ _ h=>h) (λ_ _=>rfl) O (λs L k r=>ab (V8 q (H s L)) r) O O ?_;refine ab (oO aP) ?_
  have:(⟨x.nest,x.body.take 0++(x.body.drop 0).map ln⟩:Part)=j' x:=by simp[j']
  grind
 simp[BJ]
theorem TN(h:7000<=n)(i:d<=4)(a:er s d=true)(e:er s 4=true):D9 n s=some (ln s,true):=by
 obtain⟨n,rfl⟩: ∃j,n=j+1:=⟨n-1,O⟩
 have c:iX 4 s:=PM a;unfold D9;refine aa.eq (ab (Jy O (c.mono (O:4<=1000)).sm 4) ?_);rw[e];refine b3 (ab (yZ O ((c.mono (O:4<=1000)).1).sm) (ab (Q8 5 n s.value O (kD a).2.1) (aa.some rfl)))
theorem Ng{a:aw}(h:eU a d=true)(c:d<=e):eU a e=true:=by
 unfold eU at h⊢
 grind
theorem O4{a:bX}(h:fR a d=true)(c:d<=e):fR a e=true:=by unfold fR at h⊢;rw[oW,fZ] at h;rw[h.2,Bool.and_true];exact fZ.2 λx i=>Ng (h.1 x i) c
theorem acd{x:Expr}(h:ek x d=true)(a:d<=e):ek x e=true:=by
 unfold ek at h⊢;split at h
 ·rename_i c;rw[a1 c];simp only[Bool.and_eq_true] at h⊢;exact⟨h.1,h.2.1,Ng h.2.2 a⟩
 rename_i c;rw[aZ c];split at h
 ·rename_i i;rw[a1 i];simp only[Bool.and_eq_true] at h⊢;exact⟨h.1,h.2.1,O4 h.2.2 a⟩
 rename_i i
 grind
theorem Mv{d e:Int}(a:d<=e): ∀{L:Nat} {x:Expr},dw L x d=true->dw L x e=true
 |0,_,h=>by cases h
 |L+1,x,h=>by obtain⟨i,l,m⟩:=ha h;exact Jt i (acd l a) λk c=>Mv a (m k c)
theorem aa3(h:er s d=true):er s 4=true:=by unfold er at h⊢;simp only[Bool.and_eq_true,decide_eq_true_eq] at h⊢;exact⟨O,O4 h.2.1 h.1.2,Mv h.1.2 h.2.2.1,h.2.2.2⟩
theorem aa5(h:er s d=true):d<=4:=by
 unfold er at h
 grind
theorem SD(L:7000<=n)(r:db 1000 p):C2 n p=some (ui p):=by
 unfold C2 ui;refine aa.eq (ab (k8 O r) (ab (jB L r.sm) (aa.cond (λh=>aa.some ?_) λh=>?_)))
 ·rw[aZ (by simpa using h)];rfl
 have Q:bT p=true:=by simpa using h
 rw[a1 Q];obtain⟨v,D,E,b,_⟩:=ei Q;refine ab (oo O r) ?_;refine aa.loop (λz:List Part×Int=> ∃i:Nat,z.2=i/\i<=p.parts.length/\z.1=(p.parts.take i).map j'++p.parts.drop i) (λz=>p.parts.length-z.2.toNat) ?_ n _ ⟨0,rfl,O,aP⟩ Z;rintro w ⟨x,z⟩ ⟨i,R,I,e⟩ f;dsimp only at R e⊢;subst R;have a:((p.parts.take i).map j').length=i:=by rw[dn,cE];omega
 have A:x.length=p.parts.length:=by rw[e,cV,a,fz];omega
 rw[A];refine aN (λg=>?_) λt=>aa.some ?_
 ·obtain⟨P,m⟩: ∃P,p.parts[i]? =some P:=⟨_,bo (O:i<p.parts.length)⟩
  have B:x[i]? =some P:=by
   rw[e,jt O,a,nM,gy];exact m
  obtain⟨_,M,u,_⟩:=gk (b P (bE m));refine aa.loop (λz:List Part×Int=> ∃j:Nat,z.2=j/\j<=P.body.length/\z.1=x.set i ⟨P.nest,(P.body.take j).map ln++P.body.drop j⟩) (λz=>P.body.length-z.2.toNat) ?_ n _ ⟨0,rfl,O,by
   dsimp only;rw[List.take_zero,List.map_nil,rk,mU];exact(agZ B).symm⟩ Z
  rintro o ⟨y,N⟩ ⟨j,k,S,l⟩ C;dsimp only at k l⊢;subst k;have F:y[i]? =some ⟨P.nest,(P.body.take j).map ln++P.body.drop j⟩:=by rw[l,jr O]
  have c:((P.body.take j).map ln).length=j:=by rw[dn,cE];omega
  have G:((P.body.take j).map ln++P.body.drop j).length=P.body.length:=by rw[cV,c,fz];omega
  refine ab (be F) ?_;dsimp only;rw[G];refine aN (λW=>?_) λX=>?_
  ·obtain⟨s,q⟩: ∃s,P.body[j]? =some s:=⟨_,bo (O:j<P.body.length)⟩
   have H:((P.body.take j).map ln++P.body.drop j)[j]? =some s:=by
    rw[jt O,c,nM,gy];exact q
   have d:=u s (bE q);refine ab (be H) (ab (TN L (aa5 d) d (aa3 d)) (ab (dD O _) (ab (dD (by rw[l,eR];omega) _) ?_)));rw[bb O];refine C _ ⟨j+1,Z,O,?_⟩ Z;dsimp only;rw[l,m7,m7,List.set_set,oS _ _ O,c,nM,k5 q,y4,eg,q];simp
  have K:j=P.body.length:=O
  rw[bb O];refine f _ ⟨i+1,Z,O,?_⟩ Z;dsimp only;rw[l,K,dz,pZ,kP,e,oS _ _ O,a,nM,k5 m,y4,eg,m];simp[j']
 have:i=p.parts.length:=O
 rw[e,this,dz,pZ,kP];rfl
theorem aaW(h:er s d=true):er (ln s) d=true:=by obtain⟨c,a,_⟩:=kD h;unfold er at h⊢;simp only[Bool.and_eq_true,decide_eq_true_eq] at h⊢;exact⟨h.1,c,qy a,by have:=PY a;show du 5 (fH 5 s.value)<=12;omega⟩
theorem Wb(c:er s d=true){q:List Int}(h:gC r s q=true):gC r (ln s) q=true:=by unfold gC at h⊢;rw[oW,fZ] at h;rw[show(ln s).write=s.write from rfl,h.1,fK];exact fZ.2 λa e=>h.2 a (PZ (kD c).2.1 a e)
theorem LZ(x:Part):jj (j' x)=jj x:=rfl
theorem YK{x:Part}(h:ej r x=true):ej r (j' x)=true:=by
 obtain⟨e,i,d,k⟩:=gk h;unfold ej n';rw[show(j' x).nest=x.nest from rfl,e,LZ];have l:(j' x).body=x.body.map ln:=rfl;rw[l,dn,bF i];simp only[Option.isSome_some,Bool.true_and,Bool.and_eq_true,List.all_eq_true];refine⟨λs c=>?_,λs c q m=>?_⟩
 ·obtain⟨t,a,rfl⟩:=ey.1 c;exact aaW (d t a)
 obtain⟨t,a,rfl⟩:=ey.1 c
 have:=k t a q m;exact⟨Wb (d t a) this.1,this.2⟩
theorem aaX(h:bT p=true):bT (BJ p)=true:=by
 unfold bT jq at h⊢;simp only[Bool.and_eq_true,decide_eq_true_eq,List.all_eq_true] at h⊢;obtain⟨⟨a,c,d⟩,e⟩:=h;refine⟨⟨a,by simpa[BJ] using c,λx i=>?_⟩,?_⟩
 ·obtain⟨y,k,rfl⟩:=ey.1 i;exact YK (d y k)
 show((p.parts.map j').map fs).sum<=120;rw[List.map_map,show p.parts.map (fs ∘ j')=p.parts.map fs from List.map_congr_left (λx _=>by
  show fs (j' x)=fs x;unfold fs;rw[LZ,show(j' x).body.length=x.body.length by simp[j']])]
 exact e
end
def o9(p:Prog)(a:Int):Bool:=(List.range (bn p.parts).length).all (λi=>match (bn p.parts)[i]? with
 |some x=> !((kL p (bn p.parts)).getD i false&&decide (x.part=a))
 |none=>true)
variable {p:Prog}{n:Nat}{a:Int}
theorem Aa{part:Int}:o9 p part=true↔ ∀(i:Nat) x,(bn p.parts)[i]? =some x->(kL p (bn p.parts)).getD i false=true->x.part≠part:=by
 unfold o9
 grind
theorem L4(p:Prog)(l:List cb):(kL p l).length=l.length:=s3 p l l.length
theorem GQ(e:bT p=true)(i:Nat):bT ⟨p.aR,p.parts.take i++p.parts.drop (i+1)⟩=true:=by
 have c: ∀x∈p.parts.take i++p.parts.drop (i+1),x∈p.parts:=λx h=>by
  grind
 have d:=(ei e).2.2.2.1;have m:=(Ck p.parts)
 have n: ∀l:List Part,(∀x∈l,x∈p.parts)->0<=(l.map fs).sum:=λl o=>by
  induction l with
  |nil=>simp
  |cons a l q=>
   simp only[List.map_cons,List.sum_cons]
   have:=(zi (d a (o a eM))).1
   have:=q λx h=>o x (ew _ h);omega
 unfold bT jq at e⊢;simp only[Bool.and_eq_true,decide_eq_true_eq,List.all_eq_true] at e⊢;obtain⟨⟨aI,a2,a3⟩,a4⟩:=e;refine⟨⟨aI,by simp only[List.length_append,List.length_take,List.length_drop];omega,λx h=>a3 x (c x h)⟩,?_⟩;have r:(p.parts.map fs).sum=((p.parts.take i).map fs).sum+((p.parts.drop i).map fs).sum:=by
  conv=>lhs;rw[<-rp i p.parts]
  grind
 have s:((p.parts.drop (i+1)).map fs).sum<=((p.parts.drop i).map fs).sum:=by
  cases k:p.parts.drop i with
  |nil=>
   have:p.parts.drop (i+1)=[]:=by rw[<-List.drop_drop,k];rfl
   rw[this];simp
  |cons a l=>
   have:p.parts.drop (i+1)=l:=by rw[<-List.drop_drop,k];rfl
   rw[this];simp only[List.map_cons,List.sum_cons]
   have:=(zi (d a (e6 (i:=i) (by rw[k];exact eM)))).1;omega
 grind
theorem Om(a:bT p=true)(i:Nat):db 1000 ⟨p.aR,p.parts.take i++p.parts.drop (i+1)⟩:=(lB (GQ a i)).mono O
def um(p:Prog)(a:Int):Prog×Bool:=if(bT p&&(ee p a&&o9 p a))=true then(⟨p.aR,p.parts.take a.toNat++p.parts.drop (a.toNat+1)⟩,true) else ef
theorem YG(K:7100<=n)(L:db 1000 p)(t: -1<=a/\a<=9):zq n p a=some (um p a):=by
 unfold zq um;refine aa.eq (ab (vy K L.sm) ?_);by_cases d:bT p=true
 ·rw[a1 d,d];have W:=(ei d).2.2.2.2;refine b1 (aa.ay (λz=>z= !ee p a) (λj k=>b3 (ab (qN n L.2.1 a) (k _ rfl))) λz q=>?_);subst q;cases w:ee p a with
  |false=>exact b1 (aa.some rfl)
  |true=>
   have A:0<=a/\a<(p.parts.length:Int):=eX w;refine b3 (ab (x:=kL p (bn p.parts)) (YC K d) ?_);have B:=L4 p (bn p.parts);rw[B];refine aa.loop (λz:Int=> ∃i:Nat,z=i/\i<=(bn p.parts).length/\ ∀(j:Nat) x,j<i->(bn p.parts)[j]? =some x->(kL p (bn p.parts)).getD j false=true->x.part≠a) (λz=>(bn p.parts).length-z.toNat) ?_ n _ ⟨0,rfl,O,λj x h=>O⟩ O;rintro C z ⟨i,rfl,u,r⟩ X;refine aN (λb=>?_) λf=>?_
   ·obtain⟨x,F⟩: ∃x,(bn p.parts)[i]? =some x:=⟨_,bo (O:i<(bn p.parts).length)⟩
    have G:ar (kL p (bn p.parts)) (i:Int)=some ((kL p (bn p.parts)).getD i false):=by
     have c:i<(kL p (bn p.parts)).length:=O
     rw[be (bo c),eL,bo c];rfl
    have m:ar (fx p).list (i:Int)=some x:=be F;refine ab G (aa.ay (λz=>z=((kL p (bn p.parts)).getD i false&&decide (x.part=a))) (λj k=>aa.cond (λh=>ab m (k _ (by rw[h];rfl))) λh=>k _ (by rw[h];rfl)) λz q=>?_);subst q;refine aa.cond (λh=>aa.some ?_) λh=>?_
    ·rw[oW,decide_eq_true_eq] at h
     have:o9 p a=false:=by
      cases g:o9 p a with
      |false=>rfl
      |true=>exact bz h.2 (Aa.1 g i x F h.1)
     rw[this];rfl
    rw[bb O];refine X _ ⟨i+1,O,O,λj y k H s=>?_⟩ O;by_cases e:j=i
    ·subst e;rw[F] at H;cases H;rw[s,fK] at h;exact of_decide_eq_false h
    exact r j y O H s
   have o:o9 p a=true:=Aa.2 λj x Q s=>r j x (by have:=(bU.1 Q).1;omega) Q s;rw[o];refine ab (sY O d) (ab (x:=(eK p.parts a (a+1),jZ p.parts a (a+1) (⟨[],[]⟩:Part))) ?_ (aa.some ?_))
   ·unfold u9;rw[bb O,bF A.1,bF (O:a<=a+1),bF (O:a+1<=(p.parts.length:Int)),bD (show¬a=a+1 by omega)];rfl
   show(⟨p.aR,(jZ p.parts a (a+1) (⟨[],[]⟩:Part)).take (eK p.parts a (a+1))⟩,true)=((⟨p.aR,p.parts.take a.toNat++p.parts.drop (a.toNat+1)⟩:Prog),true)
   have R:(p.parts.take a.toNat++p.parts.drop (a+1).toNat).length=eK p.parts a (a+1):=by
    unfold eK;simp only[List.length_append,List.length_take,List.length_drop];omega
   unfold jZ;rw[pT (by rw[R];exact cJ _),hS (l:=p.parts.take a.toNat++p.parts.drop (a+1).toNat) (by rw[R];exact cJ _),show(a+1).toNat=a.toNat+1 by omega]
 rw[aZ d,show bT p=false by simpa using d];refine b3 (aa.ay (λz=>z=true) (λj k=>b1 (k _ rfl)) λz q=>?_);rw[q];exact b1 (aa.some rfl)
theorem X0(W:7100<=n)(o:db 1000 p)(I: -1<=a/\a<=9):D' n p a=some (um p a):=by
 unfold D' um;refine aa.eq (ab (k8 O o) (aa.ay (λz=>z= !(bT p&&ee p a)) (λj q=>?_) λz X=>?_))
 ·refine ab (jB O o.sm) (aa.cond (λh=>q _ ?_) λh=>?_)
  ·rw[sX h];rfl
  have bL:=qW h;refine aN (λr=>q _ ?_) λr=>q _ ?_
  ·rw[bL,show ee p a=false from bD O];rfl
  by_cases R:(p.parts.length:Int)<=a
  ·rw[bL,bF R,show ee p a=false from bD O];rfl
  rw[bL,bD R,show ee p a=true from bF O];rfl
 subst X;by_cases bL:bT p=true
 ·rw[bL];have b:=(ei bL).2.2.2.2;cases B:ee p a with
  |false=>exact b1 (aa.some rfl)
  |true=>
   have f:0<=a/\a<(p.parts.length:Int):=eX B;refine b3 (ab (Sn W o.sm) (ab (u3 O bL) ?_));rw[a1 bL];have g:=L4 p (bn p.parts);have t:=K5 (kL p (bn p.parts));have s: ∀c∈pP (kL p (bn p.parts)),∃(i:Nat) (x:cb),c=i/\(bn p.parts)[i]? =some x/\(kL p (bn p.parts)).getD i false=true:=λc C=>by
    obtain⟨M,r⟩:=Ew.1 C;have w:c.toNat<(bn p.parts).length:=by
     by_cases h:c.toNat<(bn p.parts).length
     ·exact h
     rw[eL,Dy O] at r;cases r
    exact⟨c.toNat,_,O,bo w,r⟩
   generalize u:pP (kL p (bn p.parts))=L at*;refine aa.loop (λz:Int=> ∃i:Nat,z=i/\i<=L.length/\ ∀c∈L.take i,∀x,(bn p.parts)[c.toNat]? =some x->x.part≠a) (λz=>L.length-z.toNat) ?_ n _ ⟨0,rfl,O,λc C=>by simp at C⟩ O;rintro F z ⟨i,rfl,N,e⟩ v;refine aN (λw=>?_) λD=>?_
   ·obtain⟨c,G⟩: ∃c,L[i]? =some c:=⟨_,bo (O:i<L.length)⟩
    obtain⟨k,x,rfl,A,H⟩:=s c (bE G);refine ab (be G) (ab (be A) (aN (λh=>aa.some ?_) λh=>?_))
    ·have:o9 p a=false:=by
      cases m:o9 p a with
      |false=>rfl
      |true=>exact bz h (Aa.1 m k x A H)
     rw[this];rfl
    rw[bb O];refine v _ ⟨i+1,O,O,λd m y K=>?_⟩ O;rw[gi G,eh,nN] at m;rcases m with m|rfl
    ·exact e d m y K
    rw[m7,A] at K;cases K;exact h
   have Q:i=L.length:=O
   rw[Q,dz] at e;have l:o9 p a=true:=Aa.2 (λj x A H=>by
    have q:((j:Nat):Int)∈L:=by rw[<-u];exact Ew.2 ⟨O,by rw[m7];exact H⟩
    exact e _ q x (by rw[m7];exact A))
   rw[l];obtain⟨i,rfl⟩: ∃i:Nat,a=i:=⟨a.toNat,O⟩
   refine ab (x:=(⟨p.aR,p.parts.take i++p.parts.drop (i+1)⟩,true)) (aa.eq ?_) (aa.some rfl);have E:=o.2.1;unfold jE;refine ab (oo O o) (ab (gE O O O) ?_);rw[m7,show(0:Int).toNat=0 from rfl,mU];refine ab (x:=p.parts.take i) (cB bN) (ab (x:=p.parts.take i) (by rw[cB bN,kP]) ?_);rw[bb O];refine ab (gE O O O) ?_;rw[m7,dz,show((i:Int)+1).toNat=i+1 by omega];refine ab (x:=p.parts.take i++p.parts.drop (i+1)) (cB bN) (ab (jB O (Om bL i).sm) ?_);rw[GQ bL i];exact b3 (ab (oo O (Om bL i)) (aa.some rfl))
 rw[show bT p=false by simpa using bL];exact b1 (aa.some rfl)
end Go.Lift
