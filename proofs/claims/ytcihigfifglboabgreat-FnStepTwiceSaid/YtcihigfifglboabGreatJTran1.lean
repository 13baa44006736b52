/- Tools. -/
import Derived.Test.YtcihigfifglboabGreatJRun1
set_option maxRecDepth 100000
set_option linter.unusedVariables false
namespace Go.Lift
open Go
section
theorem Gm{k:Type}{n:Int}(h:0<=n/\n<=1000000000)(x:k):mk n x=some (List.replicate n.toNat x):=by unfold mk;rw[a1 h]
variable {k n i L many:Nat}{p:Prog}{x y P:Part}{h R:Type}{l:Loop}{F:ay->Option ay}{K:List h->Option R}{Q:R->Prop}{s d a v c:Int}{f:ay->ay}{e:Expr}{o nest:List Loop}{r:List ch}{b:ay}{q:List Int}{ys:List Part}
theorem XV(a:b6 p=true):0<=gd p.aR/\gd p.aR<=144:=by
 obtain⟨d,c,_⟩:=eC a
 have:=ZY c;omega
theorem Qa(c:b6 p=true){x:cx}(e:gw p x):x.cM.length<=4:=by
 obtain⟨i,k,P,s,d,h,l,m,n,o,q,a,r⟩:=uP c e
 have:=a.1;have:=a.2.1;omega
theorem wq{β:Type}{l:List h}{F:h->(β->Option R)->Option R}{g:h->β}{K:List β->Option R}(e: ∀x∈l,∀k:β->Option R,ab (k (g x)) Q->ab (F x k) Q)
  {s:Nat} (B:s<=l.length) {pre:List β} (C:pre.length<=1000) (D:l.length<=1000) (G:5000<=n) (m:ab (K (pre++(l.drop s).map g)) Q):
  ab (bp (λa ((x,i):List β×Int)=>bif decide (i<(l.length:Int)) then(Option.bind (au l i) λy=>F y λz=>Option.bind (app x [z]) λw=>a (w,wr (i+1))) else K x) n (pre,(s:Int))) Q:=by
 refine ab.loop (λz:List β×Int=> ∃i:Nat,z.2=i/\s<=i/\i<=l.length/\z.1=pre++((l.drop s).take (i-s)).map g) (λz=>l.length-z.2.toNat) ?_ n _ ⟨s,rfl,O,O,aV⟩ Z;rintro a ⟨x,z⟩ ⟨i,d,o,H,c⟩ p;dsimp only at d c⊢;subst d;refine aP (λq=>?_) λr=>?_
 ·have bM:=br (O:i<l.length);have A:x.length<=2000:=by rw[c,dE,c5,cG,fs];omega
  refine ag (bk bM) (e _ (bE bM) _ (ag (cY bQ) ?_));rw[be O];refine p _ ⟨i+1,Z,O,O,?_⟩ Z;dsimp only;rw[show i+1-s=(i-s)+1 by omega,en,fZ,show s+(i-s)=i by omega,bM,c,f',iy];rfl
 have:i=l.length:=O
 subst this;rw[c,hU (by rw[fs];omega)];exact m
theorem oG{H:Type}{l:List H}{f:H->Option h}{g:H->h}(c: ∀x∈l,f x=some (g x))(d:l.length<=1000)(e:5000<=n)(m:ab (K (l.map g)) Q):
  ab (bp (λa ((x,i):List h×Int)=>bif decide (i<(l.length:Int)) then(Option.bind (au l i) λy=>Option.bind (f y) λz=>Option.bind (app x [z]) λw=>a (w,wr (i+1))) else K x) n ([],0)) Q:=
 wq (F:=λy k=>Option.bind (f y) k) (g:=g) (s:=0) (pre:=[]) (λx o k p=>ag (c x o) p) O aV d e (by simpa using m)
theorem yH{l:List h}{F:h->(h->Option R)->Option R}{W:List h->Option R->Option R}{m:List h->Int}{g:h->h}
  (B: ∀y o,y.length=l.length->ab o Q->ab (W y o) Q) (C: ∀y:List h,y.length=l.length->m y=(l.length:Int))
  {s:Nat} (X:s<=l.length) (D: ∀x∈l,∀k:h->Option R,ab (k (g x)) Q->ab (F x k) Q) (Y:l.length<=1000) (b:5000<=n) (G:ab (K (l.take s++(l.drop s).map g)) Q):
  ab (bp (λa ((y,i):List h×Int)=>W y (bif decide (i<m y) then(Option.bind (au y i) λx=>F x λz=>Option.bind (b' y i z) λw=>a (w,wr (i+1))) else K y)) n (l,(s:Int))) Q:=by
 refine ab.loop (λz:List h×Int=> ∃i:Nat,z.2=i/\s<=i/\i<=l.length/\z.1=l.take s++((l.drop s).take (i-s)).map g++l.drop i) (λz=>l.length-z.2.toNat) ?_ n _ ⟨s,rfl,O,O,aV⟩ Z;rintro a ⟨x,z⟩ ⟨i,A,H,f,d⟩ I;dsimp only at A d⊢;subst A;have c:(l.take s++((l.drop s).take (i-s)).map g).length=i:=by rw[dE,c5,cG,cG,fs];omega
 have p:x.length=l.length:=by rw[d,dE,c,fs];omega
 refine B _ _ p ?_;rw[C _ p];refine aP (λL=>?_) λU=>?_
 ·obtain⟨e,q⟩: ∃e,l[i]? =some e:=⟨_,br (O:i<l.length)⟩
  have r:x[i]? =some e:=by
   rw[d,gF O,c,jS,fZ];exact q
  refine ag (bk r) (D _ (bE q) _ (ag (dK O _) ?_));rw[be O];refine I _ ⟨i+1,Z,O,O,?_⟩ Z;dsimp only;rw[d,c3,mR _ _ O,c,jS,j6 q,vC,show i+1-s=(i-s)+1 by omega,en,fZ,show s+(i-s)=i by omega,q];simp
 have:i=l.length:=O
 subst this;rw[d,hU (l:=l.drop s) (by rw[fs];omega),nI,kS];exact G
def l1(f:ay->ay)(a:bZ):bZ:=⟨a.array,a.bC.map f⟩
def jz(f:ay->ay):Nat->Expr->Expr
 |0,e=>e
 |L+1,e=>⟨e.kind,e.num,if e.kind=2 then f e.index else⟨[],0⟩,if e.kind=3 then l1 f e.read else⟨[],[]⟩,e.bm.map (jz f L)⟩
def fc(f:ay->ay)(s:Stmt):Stmt:=⟨l1 f s.write,jz f 5 s.value⟩
def de(f:ay->ay)(l:Loop):Loop:=⟨l.bf.map f,l.aH.map f⟩
theorem H1(h:ej e d=true)(a:e.kind=2):cP e.index=true/\jO e.read=true:=by unfold ej eU at h;rw[a1 a] at h;simp only[Bool.and_eq_true] at h;exact⟨h.2.2.1,h.2.1⟩
theorem rz(h:ej e d=true)(a:e.kind=3):fX e.read d=true/\hv e.index=true:=by unfold ej at h;rw[aY O,a1 a] at h;simp only[Bool.and_eq_true] at h;exact⟨h.2.2,h.2.1⟩
theorem wZ(h:ej e d=true)(a: ¬e.kind=2)(c: ¬e.kind=3):hv e.index=true/\jO e.read=true:=by unfold ej at h;rw[aY a,aY c] at h;split at h<;>simp only[Bool.and_eq_true] at h<;>exact⟨h.2.1,h.2.2⟩
theorem s3{a:ay}(h:hv a=true):a=⟨[],0⟩:=by obtain⟨c,k⟩:=a;simp only[hv,Bool.and_eq_true,decide_eq_true_eq] at h;obtain⟨d,rfl⟩:=h;rw[kQ d]
theorem s4{a:bZ}(h:jO a=true):a=⟨[],[]⟩:=by obtain⟨c,k⟩:=a;simp only[jO,Bool.and_eq_true,decide_eq_true_eq] at h;obtain⟨rfl,d⟩:=h;rw[kQ d]
theorem JA(c:5000<=n){a:bZ}(e:fX a d=true)(h: ∀x,cP x=true->F x=some (f x)):sE n a F=some (l1 f a):=by obtain⟨m,o,i⟩:=mY e;refine ab.eq ?_;unfold sE;exact oG (K:=λk=>some (⟨a.array,k⟩:bZ)) (λx l=>h x (i x l)) O c (ab.some rfl)
theorem J3{d:Int}{F:ay->Option ay}{f:ay->ay}(i: ∀x,cP x=true->F x=some (f x)): ∀(L n:Nat) (e:Expr),5000+L<=n->dD L e d=true->lU (n+1) e F=some (jz f L e)
 |0,_,_,_,h=>by cases h
 |L+1,n,e,D,h=>by
  obtain⟨G,l,p⟩:=hi h;obtain⟨n,rfl⟩: ∃j,n=j+1:=⟨n-1,O⟩
  have q:e.bm.length<=2:=by have:=pw e.kind;omega
  unfold lU;refine ab.eq (ab.aA (λz=>(⟨z.1,z.2.1⟩:ay)=(if e.kind=2 then f e.index else⟨[],0⟩)/\(⟨z.2.2.1,z.2.2.2⟩:bZ)=(if e.kind=3 then l1 f e.read else⟨[],[]⟩)) (λj k=>?_) λz r=>?_)
  ·refine aP (λa=>?_) λa=>aP (λc=>?_) λc=>?_
   ·exact ag (i _ (H1 l a).1) (k _ ⟨by rw[a1 a],by rw[aY O]⟩)
   ·exact ag (JA O (rz l c).1 i) (k _ ⟨by rw[aY a],by rw[a1 c]⟩)
   exact k _ ⟨by rw[aY a],by rw[aY c]⟩
  obtain⟨s,w,y,A⟩:=z;obtain⟨m,o⟩:=r;dsimp only at m o⊢;refine oG (K:=λB=>some (⟨e.kind,e.num,(⟨s,w⟩:ay),(⟨y,A⟩:bZ),B⟩:Expr)) (λx C=>J3 i L n x O (p x C)) O O (ab.some ?_);rw[m,o];rfl
theorem J1(i:6000<=n){s:Stmt}(c:er s d=true)(a: ∀x,cP x=true->F x=some (f x)):ps n s F=some (fc f s):=by
 obtain⟨e,h,_⟩:=kI c;obtain⟨n,rfl⟩: ∃j,n=j+1:=⟨n-1,O⟩
 unfold ps;rw[JA O e a,J3 a 5 n s.value O h];rfl
theorem pZ{k:Type}{f:k->k}: ∀{l:List k},(∀x∈l,f x=x)->l.map f=l
 | [],_=>rfl
 |x::l,h=>by rw[List.map_cons,h x eX,pZ λy a=>h y (eA _ a)]
theorem Mb{a:bZ}(c:fX a d=true)(e: ∀x,cP x=true->f x=x):l1 f a=a:=by obtain⟨k,l,h⟩:=mY c;unfold l1;rw[pZ λx i=>e x (h x i)]
theorem NS{d:Int}{f:ay->ay}(l: ∀x,cP x=true->f x=x): ∀{L:Nat} {e:Expr},dD L e d=true->jz f L e=e
 |0,_,_=>rfl
 |L+1,e,h=>by
  obtain⟨o,i,m⟩:=hi h;obtain⟨kind,num,index,read,n⟩:=e;unfold jz;dsimp only at o i m⊢;rw[pZ λx p=>NS l (m x p)];by_cases c:kind=2
  ·have a:=H1 i c;dsimp only at a;rw[a1 c,aY O,l _ a.1,s4 a.2]
  by_cases k:kind=3
  ·have a:=rz i k;dsimp only at a;rw[aY c,a1 k,Mb a.1 l,s3 a.2]
  have a:=wZ i c k;dsimp only at a;rw[aY c,aY k,s3 a.1,s4 a.2]
theorem FU(a: ∀x,cP x=true->f x=x){s:Stmt}(c:er s d=true):fc f s=s:=by obtain⟨e,h,_⟩:=kI c;unfold fc;rw[Mb e a,NS a h]
theorem MZ(f g:ay->ay): ∀(L:Nat) (e:Expr),jz g L (jz f L e)=jz (λx=>g (f x)) L e
 |0,_=>rfl
 |L+1,e=>by
  show(⟨e.kind,e.num,if e.kind=2 then g (if e.kind=2 then f e.index else⟨[],0⟩) else⟨[],0⟩,if e.kind=3 then l1 g (if e.kind=3 then l1 f e.read else⟨[],[]⟩) else⟨[],[]⟩,(e.bm.map (jz f L)).map (jz g L)⟩:Expr)
   =⟨e.kind,e.num,if e.kind=2 then g (f e.index) else⟨[],0⟩,if e.kind=3 then l1 (λx=>g (f x)) e.read else⟨[],[]⟩,e.bm.map (jz (λx=>g (f x)) L)⟩
  rw[tg,show(jz g L ∘ jz f L)=jz (λx=>g (f x)) L from funext (MZ f g L)];by_cases c:e.kind=2
  ·have a: ¬e.kind=3:=O
   simp only[if_pos c,if_neg a]
  by_cases a:e.kind=3
  ·simp only[if_neg c,if_pos a,l1,List.map_map];rfl
  simp only[if_neg c,if_neg a]
theorem MX(f g:ay->ay)(s:Stmt):fc g (fc f s)=fc (λx=>g (f x)) s:=by unfold fc;rw[MZ];simp only[l1,List.map_map];rfl
theorem Ma(f g:ay->ay)(l:Loop):de g (de f l)=de (λx=>g (f x)) l:=by simp only[de,List.map_map];rfl
def jY(l:Loop):Prop:=(l.bf.length<=2/\ ∀x∈l.bf,cP x=true)/\l.aH.length<=2/\ ∀x∈l.aH,cP x=true
theorem MY(c: ∀x,cP x=true->f x=x)(d:jY l):de f l=l:=by unfold de;rw[pZ λx a=>c x (d.1.2 x a),pZ λx a=>c x (d.2.2 x a)]
theorem aaV(h:Fit o): ∀l∈o,jY l:=λl a=>by
 obtain⟨i,c⟩:=km.1 a
 have:=h.2 i l c;exact⟨(p1 this.1).2,(p1 this.2).2⟩
theorem hl(h:eh r x=true):x.nest.length<=4/\ ∀l∈x.nest,jY l:=by have:=(r1 (fS h).1).1;exact⟨this.1,aaV this⟩
theorem OR{a:ay}(h:cP a=true):dq 4 a:=by have:=(fu h).1;unfold dq;omega
theorem Bd{l:List ay}(e:l.length<=2)(c: ∀x∈l,cP x=true):eR 4 l:=⟨O,λa d=>OR (c a d)⟩
theorem OQ{d:Int}: ∀{L:Nat} {e:Expr},dD L e d=true->ia 4 L e
 |0,_,h=>by cases h
 |L+1,e,h=>by
  obtain⟨m,a,n⟩:=hi h
  have:=pw e.kind;refine⟨O,?_,?_,λk m=>OQ (n k m)⟩
  ·by_cases c:e.kind=2
   ·exact OR (H1 a c).1
   by_cases i:e.kind=3
   ·rw[s3 (rz a i).2];unfold dq;simp
   rw[s3 (wZ a c i).1];unfold dq;simp
  by_cases i:e.kind=3
  ·have:=mY (rz a i).1;exact Bd this.2.1 this.2.2
  by_cases c:e.kind=2
  ·rw[s4 (H1 a c).2];exact⟨aV,λx l=>by cases l⟩
  rw[s4 (wZ a c i).2];exact⟨aV,λx l=>by cases l⟩
theorem Pc{s:Stmt}(a:er s d=true):iG 4 s:=by
 obtain⟨c,e,_⟩:=kI a
 have:=mY c;exact⟨Bd this.2.1 this.2.2,OQ e⟩
theorem tK(h:eh r x=true):fA 4 x:=by obtain⟨d,a⟩:=hl h;obtain⟨_,e,i,_⟩:=fS h;exact⟨⟨d,λl c=>⟨Bd (a l c).1.1 (a l c).1.2,Bd (a l c).2.1 (a l c).2.2⟩⟩,e.2,λs k=>Pc (i s k)⟩
theorem OP{l:List ch}(a:l.length<=4)(c:kH l):rs 4 l:=⟨a,λx d=>by have:=c x d;simp only[kd,Bool.and_eq_true,decide_eq_true_eq] at this;omega⟩
theorem k0(h:b6 p=true):da 4 p:=by obtain⟨a,c,d,e,_⟩:=eC h;exact⟨OP a c,d,λx i=>tK (e x i)⟩
theorem AG{B:Nat}{l:List ay}(h:l.length<=B)(c: ∀x∈l,dq B (f x)):eR B (l.map f):=⟨by rw[c5];exact h,λa d=>by obtain⟨x,e,rfl⟩:=eP.1 d;exact c x e⟩
theorem Ow{d:Int}{f:ay->ay}(c: ∀x,cP x=true->dq 4 (f x)): ∀{L:Nat} {e:Expr},dD L e d=true->ia 4 L (jz f L e)
 |0,_,h=>by cases h
 |L+1,e,h=>by
  obtain⟨m,n,o⟩:=hi h
  have:=pw e.kind;unfold jz ia;refine⟨by dsimp only;rw[c5];omega,?_,?_,λk m=>?_⟩
  ·dsimp only;by_cases i:e.kind=2
   ·rw[a1 i];exact c _ (H1 n i).1
   rw[aY i];unfold dq;simp
  ·dsimp only;by_cases l:e.kind=3
   ·rw[a1 l]
    have:=mY (rz n l).1;exact AG O λx a=>c x (this.2.2 x a)
   rw[aY l];exact⟨aV,λx a=>by cases a⟩
  obtain⟨x,a,rfl⟩:=eP.1 m;exact Ow c (o x a)
theorem Bc(a: ∀x,cP x=true->dq 4 (f x)){s:Stmt}(c:er s d=true):iG 4 (fc f s):=by
 obtain⟨e,h,_⟩:=kI c
 have:=mY e;exact⟨AG O λx i=>a x (this.2.2 x i),Ow a h⟩
theorem wL(c: ∀x,cP x=true->dq 4 (f x))(h:jY l):eR 4 (de f l).bf/\eR 4 (de f l).aH:=
 ⟨AG (by have:=h.1.1;omega) λx a=>c x (h.1.2 x a),AG (by have:=h.2.1;omega) λx a=>c x (h.2.2 x a)⟩
theorem L4(n:Nat){a:ay}(h:a.aT.length<=1000):lH n a=some a:=by unfold lH jM;rw[a1 O];rfl
theorem zv(n:Nat): ∀x,cP x=true->lH n x=some x:=λx a=>L4 n (by have:=(fu a).1;omega)
theorem KY(a:5000<=n){l:List ay}(h:l.length<=2)(c: ∀x∈l,cP x=true):qv n l=some l:=by unfold qv;refine ab.eq (oG (g:=λx=>x) (K:=λd=>some d) (λx e=>zv n x (c x e)) O a (ab.some ?_));simp
theorem KX(d:5000<=n)(p:nest.length<=4)(a: ∀l∈nest,jY l):sO n nest=some nest:=by unfold sO;refine ab.eq ?_;refine wq (β:=Loop) (l:=nest) (n:=n) (F:=λe k=>Option.bind (qv n e.bf) λh=>Option.bind (qv n e.aH) λi=>k (⟨h,i⟩:Loop)) (g:=λx=>x) (s:=0) (pre:=[]) (K:=λm=>some m) ?_ O aV O d (ab.some aV);exact λx c k o=>ag (KY d (a x c).1.1 (a x c).1.2) (ag (KY d (a x c).2.1 (a x c).2.2) o)
theorem Ql(c:6000<=n){s:Stmt}(a:er s d=true):yV n s=some s:=by unfold yV;rw[J1 c a (F:=λe=>lH n e) (f:=λx=>x) (zv n),FU (λ_ _=>rfl) a];rfl
theorem KW(a:6000<=n)(h:eh r x=true):qO n x=some x:=by obtain⟨c,d⟩:=hl h;obtain⟨_,l,e,_⟩:=fS h;unfold qO;refine ab.eq (ag (KX O c d) (oG (g:=λx=>x) (K:=λi=>some (⟨x.nest,i⟩:Part)) (λs k=>Ql a (e s k)) O O (ab.some ?_)));simp
theorem qP(q:6000<=n)(h:b6 p=true):oc n p=some p:=by
 obtain⟨r,w,C,y,_⟩:=eC h;unfold oc;refine ab.eq (wq (F:=λo k=>Option.bind (jM o.bT) λz=>k (⟨o.name,z⟩:ch)) (g:=λx=>x) (s:=0) (pre:=[]) (K:=λA=>bp (λa ((c,d):(List Part)×Int)=>
    bif decide (d<(p.parts.length:Int)) then(
     Option.bind (au p.parts d) λe=>
     Option.bind (qO n e) λi=>
     Option.bind (app c [i]) λl=>
     a (l,wr (d+1))
    ) else(
     some (⟨A,c⟩:Prog)
    )
   ) n ([],0)) (λx m k B=>ag (x:=x.bT) ?_ B) O aV O O ?_)
 ·have:=(OP r w).2 x m;unfold jM;rw[a1 O]
 refine oG (g:=λx=>x) (K:=λc=>some (⟨_,c⟩:Prog)) (λx m=>KW q (y x m)) O O (ab.some ?_);simp
theorem oI{k:Type}{a b:List k}(h:b.length=a.length):j8 a b=some ():=by unfold j8;rw[a1 h]
theorem I9(p:5000<=n)(w:jY l)(q: ∀x,cP x=true->F x=some (f x)):sy n l F=some (de f l):=by
 obtain⟨⟨aJ,a2⟩,B,A⟩:=w;unfold sy;refine ab.eq (ab.loop (λz:Loop×Int=>(z.2=0/\z.1=l)\/(z.2=1/\z.1=⟨l.bf.map f,l.aH⟩)\/(z.2=2/\z.1=de f l)) (λz=>3-z.2.toNat) ?_ n _ (.inl ⟨rfl,rfl⟩) Z);rintro a ⟨x,i⟩ r c;dsimp only at r c⊢;rcases r with ⟨rfl,rfl⟩|⟨rfl,rfl⟩|⟨rfl,rfl⟩
 ·refine ag (oI rfl) (ag (oI rfl) (aP (λ_=>aP (λ_=>?_) λh=>(h rfl).elim) λh=>bB h O));refine yH (F:=λx k=>Option.bind (F x) k) (W:=λ_ o=>o) (m:=λ_=>(x.bf.length:Int)) (g:=f) (s:=0) (K:=λy=>a ((⟨y,x.aH⟩:Loop),wr (0+1))) (λ_ _ _ h=>h) (λ_ _=>rfl) O (λx d k e=>ag (q x (a2 x d)) e) O p ?_;rw[be O];exact c _ (.inr (.inl ⟨Z,aV⟩)) Z
 ·refine ag (oI aV) (ag (oI rfl) (aP (λ_=>aP (λh=>bB h O) λ_=>aP (λ_=>?_) λh=>(h rfl).elim) λh=>bB h O));refine yH (F:=λx k=>Option.bind (F x) k) (W:=λ_ o=>o) (m:=λ_=>(l.aH.length:Int)) (g:=f) (s:=0) (K:=λy=>a ((⟨l.bf.map f,y⟩:Loop),wr (1+1))) (λ_ _ _ h=>h) (λ_ _=>rfl) O (λx d k e=>ag (q x (A x d)) e) O p ?_;rw[be O];exact c _ (.inr (.inr ⟨Z,by simp[de]⟩)) Z
 refine ag (oI (by simp[de])) (ag (oI (by simp[de])) (aP (λh=>bB h O) λ_=>ab.some rfl))
def p9(k:Nat)(g f:ay->ay)(x:Part)(l:Loop):Part:=⟨x.nest.take k++de g l::(x.nest.drop (k+1)).map (de f),x.body.map (fc f)⟩
theorem x3(I:6000<=n){body:List Stmt}{s:Nat}(N:s<=nest.length)(P:nest.length<=4)(L: ∀l∈nest.drop s,jY l)(S:body.length<=4)(Q: ∀s∈body,er s d=true)(G: ∀x,cP x=true->F x=some (f x)):
  o6 n ⟨nest,body⟩ (s:Int) F=some ⟨nest.take s++(nest.drop s).map (de f),body.map (fc f)⟩:=by
 have A: ∀(a:List Loop),ab (bp (λc ((y,j):(List Stmt)×Int)=>
    Option.bind (j8 body y) λT=>
    bif decide (j<(body.length:Int)) then(
     Option.bind (au y j) λR=>
     Option.bind (ps n R F) λU=>
     Option.bind (b' y j U) λX=>
     c (X,wr (j+1))
    ) else(
     some (⟨a,y⟩:Part)
    )
   ) n (body,0)) (λr=>r=⟨a,body.map (fc f)⟩):=λa=>
  yH (F:=λx k=>Option.bind (ps n x F) k) (W:=λy o=>Option.bind (j8 body y) λ_=>o) (m:=λ_=>(body.length:Int)) (g:=fc f) (s:=0) (K:=λy=>some (⟨a,y⟩:Part)) (λy o h Y=>ag (oI h) Y) (λ_ _=>rfl) O (λx p k b=>ag (J1 I (Q x p) G) b) O O (ab.some aV)
 unfold o6;refine ab.eq ?_
 -- the loops ahead stay: only those behind are changed
 refine ab.loop (λz:List Loop×Int=> ∃i:Nat,z.2=i/\s<=i/\i<=nest.length/\z.1=nest.take s++((nest.drop s).take (i-s)).map (de f)++nest.drop i) (λz=>nest.length-z.2.toNat) ?_ n _ ⟨s,rfl,O,O,aV⟩ Z;rintro B ⟨x,z⟩ ⟨i,H,t,V,p⟩ u;dsimp only at H p⊢;subst H;have q:(nest.take s++((nest.drop s).take (i-s)).map (de f)).length=i:=by rw[dE,c5,cG,cG,fs];omega
 have C:x.length=nest.length:=by rw[p,dE,q,fs];omega
 refine ag (oI C) (aP (λv=>?_) λE=>?_)
 ·obtain⟨e,w⟩: ∃e,nest[i]? =some e:=⟨_,br (O:i<nest.length)⟩
  have D:x[i]? =some e:=by
   rw[p,gF O,q,jS,fZ];exact w
  have M:e∈nest.drop s:=km.2 ⟨i-s,by rw[fZ,show s+(i-s)=i by omega];exact w⟩;refine ag (bk D) (ag (I9 O (L _ M) G) (ag (dK O _) ?_));rw[be O];refine u _ ⟨i+1,Z,O,O,?_⟩ Z;dsimp only;rw[p,c3,mR _ _ O,q,jS,j6 w,vC,show i+1-s=(i-s)+1 by omega,en,fZ,show s+(i-s)=i by omega,w];simp
 have:i=nest.length:=O
 subst this;rw[p,hU (l:=nest.drop s) (by rw[fs];omega),nI,kS];exact A _
theorem F9(c:5000<=n){l:List ay}(k:l.length<=2)(d: ∀x∈l,cP x=true)(e: ∀x,cP x=true->jG n x a v b=some (f x)):vK n l a v b=some (l.map f):=by unfold vK;exact ab.eq (oG (K:=λh=>some h) (λx i=>e x (d x i)) O c (ab.some rfl))
theorem Xy(d:5000<=n)(c:jY l)(e: ∀x,cP x=true->jG n x a v b=some (f x)):wb n l a v b=some (de f l):=by unfold wb;rw[F9 d c.1.1 c.1.2 e,F9 d c.2.1 c.2.2 e];rfl
theorem Kw(e:5000<=n){a:bZ}(h:fX a d=true)(i: ∀x,cP x=true->jG n x c v b=some (f x)):vc n a c v b=some (l1 f a):=by have:=mY h;unfold vc;rw[F9 e this.2.1 this.2.2 i];rfl
theorem LF{d a v:Int}{b:ay}{f:ay->ay}(l: ∀n,5000<=n-> ∀x,cP x=true->jG n x a v b=some (f x)): ∀(L n:Nat) (e:Expr),5000+L<=n->dD L e d=true->qZ (n+1) e a v b=some (jz f L e)
 |0,_,_,_,h=>by cases h
 |L+1,n,e,F,h=>by
  obtain⟨G,m,q⟩:=hi h;obtain⟨n,rfl⟩: ∃j,n=j+1:=⟨n-1,O⟩
  have r:e.bm.length<=2:=by have:=pw e.kind;omega
  unfold qZ;refine ab.eq (ab.aA (λz=>(⟨z.1,z.2⟩:ay)=(if e.kind=2 then f e.index else⟨[],0⟩)) (λj c=>?_) λz o=>ab.aA (λy=>(⟨y.1,y.2⟩:bZ)=(if e.kind=3 then l1 f e.read else⟨[],[]⟩)) (λj c=>?_) λy p=>?_)
  ·exact aP (λi=>ag (l _ O _ (H1 m i).1) (c _ (by rw[a1 i]))) λi=>c _ (by rw[aY i])
  ·exact aP (λk=>ag (Kw O (rz m k).1 (l _ O)) (c _ (by rw[a1 k]))) λk=>c _ (by rw[aY k])
  obtain⟨s,w⟩:=z;obtain⟨A,B⟩:=y;dsimp only at o p⊢;refine oG (K:=λC=>some (⟨e.kind,e.num,(⟨s,w⟩:ay),(⟨A,B⟩:bZ),C⟩:Expr)) (λx D=>LF l L n x O (q x D)) O O (ab.some ?_);rw[o,p];rfl
theorem XA(w:6000<=n){l:List Stmt}(e:l.length<=4)(c: ∀s∈l,er s d=true)(h: ∀n,5000<=n-> ∀x,cP x=true->jG n x a v b=some (f x)):zV n l a v b=some (l.map (fc f)):=by
 obtain⟨n,rfl⟩: ∃j,n=j+1:=⟨n-1,O⟩
 unfold zV;refine ab.eq ?_;refine wq (β:=Stmt) (l:=l) (n:=n+1) (F:=λi k=>Option.bind (vc (n+1) i.write a v b) λm=>Option.bind (qZ (n+1) i.value a v b) λo=>k (⟨m,o⟩:Stmt)) (g:=fc f) (s:=0) (pre:=[]) (K:=λp=>some p) (λx q k r=>?_) O aV O O (ab.some aV);obtain⟨e,c,_⟩:=kI (c x q);exact ag (Kw O e (h _ O)) (ag (LF h 5 n x.value O c) r)
theorem DT(c:6000<=n){s:Nat}(r:s+1<=x.nest.length)(w:x.nest.length<=4)(e: ∀l∈x.nest,jY l)(h:x.body.length<=4)(i: ∀s∈x.body,er s d=true){way:Int}(a: ∀n,5000<=n-> ∀x,cP x=true->jG n x way v b=some (f x)):
  sM n x (s:Int) way v b=some ⟨x.nest.take (s+1)++(x.nest.drop (s+1)).map (de f),x.body.map (fc f)⟩:=by unfold sM;rw[be O];refine ab.eq (ag (hR O O O) ?_);rw[show((s:Int)+1).toNat=s+1 by omega,show(0:Int).toNat=0 from rfl,oK];refine ag (x:=x.nest.take (s+1)) (cY bQ) (ag (XA c h i a) ?_);exact wq (F:=λm k=>Option.bind (wb n m way v b) k) (g:=de f) (s:=s+1) (pre:=x.nest.take (s+1)) (K:=λo=>some (⟨o,x.body.map (fc f)⟩:Part)) (λl p k q=>ag (Xy O (e l p) (a _ O)) q) O bQ O O (ab.some rfl)
theorem L6(n:Nat){a:ay}(h:dq 1000 a):xY n a=some a:=by unfold xY;rw[nk _ h];rfl
theorem Er(a:5000<=n){l:List ay}(h:eR 1000 l):uq n l=some l:=by unfold uq;exact ab.eq (qS (K:=λc=>some c) (λx d=>L6 n (h.2 x d)) h.1 a (ab.some rfl))
theorem L7(c:5000<=n){a:bZ}(h:eR 1000 a.bC):xZ n a=some a:=by unfold xZ;rw[Er c h];rfl
theorem K1: ∀(L n:Nat) (e:Expr),5000+L<=n->ia 1000 L e->pF (n+1) e=some e
 |0,_,_,_,h=>h.elim
 |L+1,n,e,m,h=>by
  obtain⟨a,c,d,i⟩:=h;obtain⟨n,rfl⟩: ∃j,n=j+1:=⟨n-1,O⟩
  unfold pF Ix;rw[L6 _ c,L7 O d];refine ab.eq (ag rfl (ag rfl (ag (x:=e.bm) ?_ (ab.some (by cases e;rfl)))));exact ab.eq (qS (f:=pF (n+1)) (K:=λk=>some k) (λx l=>K1 L n x O (i x l)) a O (ab.some rfl))
theorem V3(a:6000<=n){s:Stmt}(h:iG 1000 s):CV n s=some s:=by
 obtain⟨n,rfl⟩: ∃j,n=j+1:=⟨n-1,O⟩
 unfold CV;rw[L7 O h.1,K1 5 n s.value O h.2];rfl
theorem V4(e:6000<=n)(h:fA 1000 x):CW n x=some x:=by
 obtain⟨⟨i,d⟩,k,m⟩:=h;have o:B8 n x.nest=some x.nest:=by
  unfold B8;refine ab.eq (qS (K:=λc=>some c) (λl a=>?_) i O (ab.some rfl));unfold Jm;rw[Er O (d l a).1,Er O (d l a).2];rfl
 have p:Cc n x.body=some x.body:=by
  unfold Cc;exact ab.eq (qS (K:=λc=>some c) (λl a=>V3 e (m l a)) k O (ab.some rfl))
 unfold CW;rw[o,p];rfl
theorem lj(d:6000<=n)(h:da 1000 p):ky n p=some p:=by
 obtain⟨⟨e,i⟩,k,m⟩:=h;have o:Ca n p.aR=some p.aR:=by
  unfold Ca;refine ab.eq (qS (K:=λa=>some a) (λl c=>?_) e O (ab.some rfl));unfold Jc;rw[nk _ (i l c)];rfl
 have q:B7 n p.parts=some p.parts:=by
  unfold B7;exact ab.eq (qS (K:=λa=>some a) (λl c=>V4 d (m l c)) k O (ab.some rfl))
 unfold ky;rw[o,q];rfl
theorem vJ{k:Type}{f:k->k->Option Bool}{l:List k}(o: ∀x∈l,f x x=some true)(y:l.length<n)(z:l.length<=1000000):
  (bif !decide ((l.length:Int)=(l.length:Int)) then(some false) else(bp (λa (c:Int)=>bif decide (c<(l.length:Int)) then(Option.bind (au l c) λp=>Option.bind (au l c) λq=>Option.bind (f p q) λr=>bif !r then(some false) else(a (wr (c+1)))) else(some true)) n 0))=some true:=by
 refine ab.eq (eK (λh=>(h rfl).elim) λ_=>?_);refine ab.loop (λx:Int=> ∃i:Nat,x=i/\i<=l.length) (λx=>l.length-x.toNat) ?_ n 0 ⟨0,rfl,O⟩ O;rintro d x ⟨i,rfl,A⟩ s;refine aP (λw=>?_) λ_=>ab.some rfl;obtain⟨e,m⟩: ∃e,l[i]? =some e:=⟨_,br (O:i<l.length)⟩
 refine ag (bk m) (ag (bk m) (ag (o e (bE m)) (b3 ?_)));rw[be O];exact s _ ⟨i+1,O,O⟩ O
theorem Ls{a:List Int}(m:a.length<n)(o:a.length<=1000000):sD n a a=some true:=by
 unfold sD;refine ab.eq (eK (λh=>(h rfl).elim) λ_=>?_);refine ab.loop (λx:Int=> ∃i:Nat,x=i/\i<=a.length) (λx=>a.length-x.toNat) ?_ n 0 ⟨0,rfl,O⟩ O;rintro c x ⟨i,rfl,p⟩ k;refine aP (λl=>?_) λ_=>ab.some rfl;obtain⟨e,d⟩: ∃e,a[i]? =some e:=⟨_,br (O:i<a.length)⟩
 refine ag (bk d) (ag (bk d) (eK (λh=>(h rfl).elim) λ_=>?_));rw[be O];exact k _ ⟨i+1,O,O⟩ O
theorem ND(e:5000<=n){a:ay}(h:dq 1000 a):j3 n a a=some true:=by unfold dq at h;unfold j3;refine ab.eq (ab.aA (λz=>z=true) (λj c=>ag (Ls O O) (bS (c _ (bA rfl)))) λz d=>ab.some d)
theorem FH(a:5000<=n){l:List ay}(h:eR 1000 l):qg n l l (λc d=>j3 n c d)=some true:=by have:=h.1;unfold qg;exact vJ (λx e=>ND a (h.2 x e)) O O
theorem NF(c:5000<=n){a:bZ}(h:eR 1000 a.bC):yb n a a=some true:=by unfold yb;refine ab.eq (ab.aA (λz=>z=true) (λj d=>?_) λz e=>ab.some e);exact aP (λ_=>ag (FH c h) (d _ rfl)) λh=>(h rfl).elim
theorem MG: ∀(L n:Nat) (e:Expr),5000+L<=n->ia 1000 L e->qy (n+1) e e=some true
 |0,_,_,_,h=>h.elim
 |L+1,n,e,m,h=>by
  obtain⟨o,a,c,d⟩:=h;obtain⟨n,rfl⟩: ∃j,n=j+1:=⟨n-1,O⟩
  unfold qy;refine ab.eq (ab.aA (λz=>z=true) (λj i=>?_) λz k=>ab.some k);refine aP (λ_=>aP (λ_=>ag (ND O a) (bS (ag (NF O c) (bS (ag (x:=true) ?_ (i _ rfl)))))) λh=>(h rfl).elim) λh=>(h rfl).elim;unfold IC;exact vJ (λx l=>MG L n x O (d x l)) O O
theorem XY(d:6000<=n){s:Stmt}(h:iG 1000 s):yD n s s=some true:=by
 obtain⟨n,rfl⟩: ∃j,n=j+1:=⟨n-1,O⟩
 unfold yD;refine ab.eq (ab.aA (λz=>z=true) (λj a=>?_) λz c=>ab.some c);exact ag (NF O h.1) (bS (ag (MG 5 n s.value O h.2) (a _ rfl)))
theorem YF(a:5000<=n)(h:ko 1000 o):sJ n o o=some true:=by
 have:=h.1;unfold sJ Cf;rw[vJ (λl c=>?_) O O]
 ·rfl
 unfold u0;refine ab.eq (ab.aA (λz=>z=true) (λj d=>?_) λz e=>ab.some e);exact ag (FH a (h.2 l c).1) (bS (ag (FH a (h.2 l c).2) (d _ rfl)))
theorem YC(a:6000<=n)(h:fA 1000 x):xT n x x=some true:=by have:=h.2.1;unfold xT;refine ab.eq (ab.aA (λz=>z=true) (λj c=>?_) λz d=>ab.some d);refine ag (YF O h.1) (bS (ag (x:=true) ?_ (c _ rfl)));unfold IA;exact vJ (λs e=>XY a (h.2.2 s e)) O O
theorem MR(e:6000<=n)(h:da 1000 p):uW n p p=some true:=by
 obtain⟨⟨l,i⟩,m,k⟩:=h;unfold uW;refine ab.eq (ab.aA (λz=>z=true) (λj a=>?_) λz c=>ab.some c);refine ag (x:=true) ?_ (bS (ag (x:=true) ?_ (a _ rfl)))
 ·unfold Iv;refine vJ (λx d=>?_) O O;unfold xU;refine ab.eq (ab.aA (λz=>z=true) (λj a=>?_) λz c=>ab.some c)
  have:=i x d;exact aP (λ_=>ag (Ls O O) (a _ rfl)) λh=>(h rfl).elim
 unfold IB;exact vJ (λx d=>YC e (k x d)) O O
def cI(p:Prog)(c a:Int):Bool:=b6 p&&match au p.parts c with
 |some x=>decide (0<=a/\a<(x.nest.length:Int))
 |none=>false
theorem w5{k:Type}{l:List k}{i:Int}(h: ¬(0<=i/\i<(l.length:Int))):au l i=none:=by
 cases a:au l i with
 |none=>rfl
 |some x=>
  obtain⟨c,d⟩:=mG a
  have:=(bR.1 d).1;exact bB ⟨c,O⟩ h
theorem aaO{l:List R}{i:Int}{x:R}(h:au l i=some x): ∃k:Nat,i=k/\k<l.length/\l[k]? =some x:=by obtain⟨c,a⟩:=mG h;exact⟨i.toNat,O,(bR.1 a).1,a⟩
theorem qF(n:Nat)(h:p.parts.length<=1000)(a:Int):k1 n p a=some (decide (0<=a/\a<(p.parts.length:Int))):=by unfold k1;rw[d6,be O];exact congrArg some (decide_eq_decide.2 O)
theorem wz(r:7000<=n)(l:da 1000 p)(a c:Int)(s:c≠ -1):j9 n p a c=some (if cI p a c=true then(p,true) else(⟨[],[]⟩,false)):=by
 unfold j9;refine ab.eq (ab.aA (λz=>z= !cI p a c) (λj k=>?_) λz m=>?_)
 ·refine ag (ur r l.sm) (ab.cond (λh=>?_) λh=>?_)
  ·refine k _ ?_;unfold cI;rw[show b6 p=false by simpa using h];rfl
  have o:b6 p=true:=by simpa using h
  refine ag (qF n l.2.1 a) ?_;by_cases e:0<=a/\a<(p.parts.length:Int)
  ·obtain⟨x,i,q⟩:=gy e.1 e.2;rw[bA e];refine b3 (eK (λ_=>ag (x:=cI p a c) ?_ (k _ rfl)) λh=>bB h s);unfold ID;refine ab.eq (ab.aA (λz=>z=cI p a c) (λj k=>?_) λz m=>ab.some m);rw[qF n l.2.1 a,bA e];refine ag rfl (bS (ag i ?_))
   have:=(l.2.2 x (bE q)).1.1;rw[be O,d6];refine ag rfl (k _ ?_);unfold cI;rw[o,i];exact decide_eq_decide.2 O
  rw[bx e];refine bS (k _ ?_);unfold cI;rw[w5 e,jv];rfl
 subst m;by_cases d:cI p a c=true
 ·rw[d];have o:b6 p=true:=by unfold cI at d;rw[oN] at d;exact d.1
  obtain⟨x,i⟩: ∃x,au p.parts a=some x:=by
   cases i:au p.parts a with
   |some x=>exact⟨x,rfl⟩
   |none=>unfold cI at d;rw[i,jv] at d;cases d
  exact b3 (ag (qP O o) (ag i (ab.some rfl)))
 rw[show cI p a c=false by simpa using d];exact bS (ab.some rfl)
def fP(q:Prog):Prog×Bool:=if b6 q=true then(q,true) else(⟨[],[]⟩,false)
theorem qG(c:7000<=n)(d:da 1000 p):lL n p=some (fP p):=by
 unfold lL fP;refine ab.eq (ag (ur c d.sm) (ab.cond (λh=>ab.some ?_) λh=>?_))
 ·rw[aY (by simpa using h)]
 have a:b6 p=true:=by simpa using h
 rw[a1 a];exact ag (qP O a) (ab.some rfl)
theorem mL(l:7000<=n)(m:da 1000 p)(a c:Int):nA n p a c=some (cI p a c):=by
 unfold nA;refine ab.eq (ab.aA (λz=>z=cI p a c) (λj d=>?_) λz o=>ab.some o);refine ag (kv l m.sm) (ab.cond (λe=>?_) λe=>d _ (by unfold cI;rw[e];rfl));refine aP (λi=>aP (λk=>?_) λk=>?_) λi=>?_
 ·obtain⟨x,h,q⟩:=gy i k;refine aP (λr=>ag h (d _ ?_)) λr=>d _ ?_
  ·unfold cI;rw[e,h];exact decide_eq_decide.2 O
  unfold cI;rw[e,h];exact(bx O).symm
 ·exact d _ (by unfold cI;rw[w5 O,jv])
 exact d _ (by unfold cI;rw[w5 O,jv])
theorem wC(e:7000<=n)(a:da 1000 p)(k:i<p.parts.length)(l:fA 1000 y):jF n p (i:Int) 1 [y]=some (fP ⟨p.aR,p.parts.set i y⟩):=by
 have c:=a.2.1;have d:da 1000 ⟨p.aR,p.parts.set i y⟩:=⟨a.1,by dsimp only;rw[eS];exact c,pB a.2.2 l⟩
 unfold jF fP;refine ab.eq (ag (og O a) (ag (hR O O O) ?_));rw[c3,show(0:Int).toNat=0 from rfl,oK];refine ag (x:=p.parts.take i) (cY bQ) (ag (x:=p.parts.take i++[y]) (cY bQ) ?_);rw[be O];refine ag (hR O O O) ?_;rw[c3,c6,show((i:Int)+1).toNat=i+1 by omega];refine ag (x:=p.parts.set i y) ?_ (ag (kv e d.sm) (ab.cond (λh=>ab.some ?_) λh=>?_))
 ·rw[cY bQ,List.set_eq_take_append_cons_drop,a1 k,iy];rfl
 ·rw[aY (by simpa using h)]
 rw[a1 (by simpa using h)];exact ag (og O d) (ab.some rfl)
def eV(a:ay)(k:Int)(b:ay):ay:=⟨List.zipWith (λx y=>x+k*y) a.aT b.aT,a.const+k*b.const⟩
def gZ(k:Nat):ay:=⟨[0,0,0,0].set k 1,0⟩
def ho(k:Nat)(b x:ay):ay:=eV x (-(x.aT.getD k 0)) b
def fi(m:Int)(a:ay):Prop:=a.aT.length=4/\cL m a.const/\ ∀c∈a.aT,cL m c
theorem fi.mono{m b:Int}{a:ay}(h:fi m a)(e:m<=b):fi b a:=⟨h.1,⟨by have:=h.2.1.1;omega,by have:=h.2.1.2;omega⟩,λc d=>⟨by have:=(h.2.2 c d).1;omega,by have:=(h.2.2 c d).2;omega⟩⟩
theorem kX{l:List Int}(h:l.length=4): ∃a b c d,l=[a,b,c,d]:=by
 match l,h with
 | [a,b,c,d],_=>exact⟨a,b,c,d,rfl⟩
theorem nE{a:ay}(h:cP a=true):fi 99 a:=by obtain⟨i,k,d⟩:=fu h;exact⟨i,k,λc e=>⟨by have:=(d c e).1;omega,by have:=(d c e).2;omega⟩⟩
theorem tp(a:k<4):fi 6 (gZ k):=by rcases(O:k=0\/k=1\/k=2\/k=3) with rfl|rfl|rfl|rfl<;>(unfold fi cL gZ;simp)
theorem kr{k b:Int}(a:cL 1000 k)(c:cL 1000 b):cL 1000000 (k*b):=Bn O O a c
theorem yO{x:Int}(c:cL 1000 a)(d:cL 1000000 x):wr (a+wr x)=a+x:=by unfold cL at c d;rw[be (n:=x) O,be O]
theorem aaT(m:Nat)(a c d e ac k h i l n o:Int):rN (m+6) ⟨[a,c,d,e],ac⟩ k ⟨[h,i,l,n],o⟩=
  some ⟨[wr (a+wr (k*h)),wr (c+wr (k*i)),wr (d+wr (k*l)),wr (e+wr (k*n))],wr (ac+wr (k*o))⟩:=J
theorem Aa(y:5000<=n){a:ay}(p:fi 1000 a)(q:fi 1000 b){k:Int}(c:cL 1000 k):rN n a k b=some (eV a k b):=by
 obtain⟨m,rfl⟩: ∃m,n=m+6:=⟨n-6,O⟩
 obtain⟨ac,a⟩:=a;obtain⟨z,b⟩:=b;obtain⟨h,i,d⟩:=p;obtain⟨l,o,e⟩:=q;dsimp only at h i d l o e;obtain⟨a0,aJ,a2,a3,rfl⟩:=kX h;obtain⟨r,s,w,x,rfl⟩:=kX l;rw[aaT,yO (d a0 aV) (kr c (e r aV)),yO (d aJ aV) (kr c (e s aV)),yO (d a2 aV) (kr c (e w aV)),yO (d a3 aV) (kr c (e x aV)),yO i (kr c o)];rfl
def n'(a:ay)(x:Int)(b:ay)(y:Int):ay:=⟨List.zipWith (λp q=>x*p+y*q) a.aT b.aT,x*a.const+y*b.const⟩
theorem abe(m:Nat)(a c d e ac x h i k l n y:Int):ih (m+6) ⟨[a,c,d,e],ac⟩ x ⟨[h,i,k,l],n⟩ y=
  some ⟨[wr (wr (x*a)+wr (y*h)),wr (wr (x*c)+wr (y*i)),wr (wr (x*d)+wr (y*k)),wr (wr (x*e)+wr (y*l))],wr (wr (x*ac)+wr (y*n))⟩:=J
theorem yP{x:Int}(c:cL 1000000 a)(d:cL 1000000 x):wr (wr a+wr x)=a+x:=by unfold cL at c d;rw[be (n:=x) O,be (n:=a) O,be O]
theorem sZ(A:5000<=n){a:ay}(p:fi 1000 a)(q:fi 1000 b){x y:Int}(c:cL 1000 x)(d:cL 1000 y):ih n a x b y=some (n' a x b y):=by
 obtain⟨m,rfl⟩: ∃m,n=m+6:=⟨n-6,O⟩
 obtain⟨ac,a⟩:=a;obtain⟨B,b⟩:=b;obtain⟨i,k,e⟩:=p;obtain⟨l,o,h⟩:=q;dsimp only at i k e l o h;obtain⟨a0,aJ,a2,a3,rfl⟩:=kX i;obtain⟨r,s,w,z,rfl⟩:=kX l;rw[abe,yP (kr c (e a0 aV)) (kr d (h r aV)),yP (kr c (e aJ aV)) (kr d (h s aV)),yP (kr c (e a2 aV)) (kr d (h w aV)),yP (kr c (e a3 aV)) (kr d (h z aV)),yP (kr c k) (kr d o)];rfl
theorem FQ(a b:ay)(k:Int):n' a 1 b k=eV a k b:=by unfold n' eV;simp only[Int.one_mul]
theorem Ox(a b:ay)(k:Int)(c:a.aT.length=4)(d:b.aT.length=4):(eV a k b).aT.length=4:=by unfold eV;rw[vA];omega
def rX(a:ay)(k:Nat)(b:ay):ay:=eV ⟨a.aT.set k 0,a.const⟩ (a.aT.getD k 0) b
theorem Nk{a:ay}(h:fi 1000 a)(k:Nat):fi 1000 ⟨a.aT.set k 0,a.const⟩:=⟨by dsimp only;rw[eS];exact h.1,h.2.1,pB h.2.2 ⟨O,O⟩⟩
theorem Nw{a:ay}(h:fi 1000 a)(d:k<4):a.aT[k]? =some (a.aT.getD k 0)/\cL 1000 (a.aT.getD k 0):=by
 have c:k<a.aT.length:=by rw[h.1];exact d
 have e:=br c;have i:a.aT.getD k 0=a.aT[k]:=by rw[ez,e];rfl
 rw[i];exact⟨e,h.2.2 _ (fC c)⟩
theorem Ev(e:5000<=n){a:ay}(c:fi 1000 a)(h:fi 1000 b)(d:k<4):tw n a (k:Int) b=some (rX a k b):=by
 obtain⟨i,l⟩:=Nw c d;have m:k<a.aT.length:=by rw[c.1];exact d
 unfold tw;rw[L4 n (by have:=c.1;omega)];refine ab.eq (ag rfl (ag (bk i) (ag (dK O _) (ag (Aa e (Nk c k) h l) (ab.some rfl)))))
theorem Kz(h:5000<=n){a:ay}(c:fi 1000 a)(i:fi 1000 b)(d:k<4):zk n a (k:Int) b=some (rX a k b):=by
 obtain⟨e,l⟩:=Nw c d;have m:k<a.aT.length:=by rw[c.1];exact d
 unfold zk;rw[nk _ (by have:=c.1;omega)];refine ab.eq (ag rfl (ag (bk e) (ag (dK O _) (ag (bk e) (ag (sZ h (Nk c k) i ⟨O,O⟩ l) (ab.some ?_))))));rw[FQ];rfl
theorem z'(n:Nat)(a:k<4):np n (k:Int) 1=some (gZ k):=by rcases(O:k=0\/k=1\/k=2\/k=3) with rfl|rfl|rfl|rfl<;>rfl
theorem zS(n:Nat)(a:k<4):lW n (k:Int)=some (gZ k):=by rcases(O:k=0\/k=1\/k=2\/k=3) with rfl|rfl|rfl|rfl<;>rfl
def nD(k:Nat)(b:ay):ay:=eV (gZ k) (-1) b
theorem Gv{a:ay}(d:a.aT.length=4)(e:b.aT.length=4)(h:k<4)(c:b.aT.getD k 0=0):rX a k (nD k b)=ho k b a:=by
 obtain⟨a,ac⟩:=a;obtain⟨b,i⟩:=b;dsimp only at d e c;obtain⟨a0,aJ,a2,a3,rfl⟩:=kX d;obtain⟨l,m,n,o,rfl⟩:=kX e;rcases(O:k=0\/k=1\/k=2\/k=3) with rfl|rfl|rfl|rfl<;>
  (simp only[List.getD_cons_zero,List.getD_cons_succ] at c;subst c;simp[rX,nD,ho,eV,gZ,Int.mul_neg,Int.neg_mul])
def ec:Prog×Bool:=(⟨[],[]⟩,false)
def u4(p:Prog)(a c:Int)(g f:ay->ay):Prog×Bool:=
 match au p.parts a with
 |some P=>match au P.nest c with
  |some l=>fP ⟨p.aR,p.parts.set a.toNat (p9 c.toNat g f P l)⟩
  |none=>ec
 |none=>ec
theorem jo{b:Int}(h:cI p a b=true):b6 p=true/\ ∃(i k:Nat) (P:Part) (l:Loop),a=i/\b=k/\p.parts[i]? =some P/\P.nest[k]? =some l/\i<p.parts.length/\k<P.nest.length/\eh p.aR P=true/\k<4:=by
 unfold cI at h;rw[oN] at h;obtain⟨m,h⟩:=h;refine⟨m,?_⟩;cases d:au p.parts a with
 |none=>rw[d] at h;cases h
 |some P=>
  rw[d] at h;obtain⟨i,rfl,o,n⟩:=aaO d;obtain⟨q,r⟩:=e8 h;obtain⟨l,s,e⟩:=gy q r;have c:=(eC m).2.2.2.1 P (bE n)
  have:=(hl c).1;exact⟨i,b.toNat,P,l,rfl,O,n,e,o,O,c,O⟩
theorem AV(c:eh r P=true)(e:P.nest[k]? =some l){g:ay->ay}(m: ∀x,cP x=true->dq 4 (g x))(h: ∀x,cP x=true->dq 4 (f x)):fA 4 (p9 k g f P l):=by
 obtain⟨q,i⟩:=hl c;obtain⟨_,n,o,_⟩:=fS c;have w:=(bR.1 e).1;refine⟨⟨by simp only[p9,List.length_append,List.length_cons,List.length_map,List.length_take,List.length_drop];omega,λy a=>?_⟩,by simp only[p9,List.length_map];exact n.2,λs p=>?_⟩
 ·rcases d'.1 a with a|a
  ·exact((tK c).1.2 y (gh a))
  rcases dP.1 a with rfl|a
  ·exact wL m (i l (bE e))
  obtain⟨z,d,rfl⟩:=eP.1 a;exact wL h (i z (eY d))
 obtain⟨z,d,rfl⟩:=eP.1 p;exact Bc h (o z d)
theorem w3(a:da 1000 p)(i:Nat)(c:fA 4 y):da 1000 ⟨p.aR,p.parts.set i y⟩:=⟨a.1,by dsimp only;rw[eS];exact a.2.1,pB a.2.2 (c.mono O)⟩
theorem wM{k:Int}(a:b.aT.length=4): ∀x,cP x=true->dq 4 (eV x k b):=λx c=>by have:=Ox x b k (fu c).1 a;unfold dq;omega
theorem Bj(a:b.aT.length=4): ∀x,cP x=true->dq 4 (ho k b x):=λx c=>wM a x c
theorem Gt(s:k<4)(h:fi 6 b):fi 1000 (nD k b):=by
 obtain⟨b,w⟩:=b;obtain⟨d,e,a⟩:=h;dsimp only at d e a;obtain⟨i,l,m,n,rfl⟩:=kX d;have o:=a i aV;have p:=a l aV;have q:=a m aV;have r:=a n aV;unfold cL at e o p q r;rcases(O:k=0\/k=1\/k=2\/k=3) with rfl|rfl|rfl|rfl<;>
  (refine⟨rfl,?_,λc x=>?_⟩<;>unfold cL<;>simp[nD,gZ,eV] at* <;>omega)
theorem ZG(a:k<4)(c:fi 6 b)(e:b.aT.getD k 0=0): ∀n,5000<=n-> ∀x,cP x=true->jG n x 1 (k:Int) (nD k b)=some (ho k b x):=λn h x d=>by unfold jG;rw[Kz h ((nE d).mono O) (Gt a c) a,Gv (nE d).1 c.1 a e];rfl
theorem take_set{l r:List R}{x y:R}(h:l[k]? =some x):(l.take (k+1)++r).set k y=l.take k++y::r:=by have a:=(bR.1 h).1;rw[en,h,iy,mR _ _ bQ,cG,vF O,jS];rfl
theorem NO(C:6000<=n)(z:eh r P=true)(m:P.nest[k]? =some l)(o:k<4)(p:fi 6 b)(D:b.aT.getD k 0=0):
  wa n P (k:Int) b=some (p9 k (λx=>eV x 1 b) (ho k b) P l):=by
 obtain⟨F,A⟩:=hl z;obtain⟨_,G,H,_⟩:=fS z;have I:=(bR.1 m).1;have c:=A l (bE m);have B: ∀x,cP x=true->ih n x 1 b 1=some (eV x 1 b):=λx e=>by
  rw[sZ O ((nE e).mono O) (p.mono O) ⟨O,O⟩ ⟨O,O⟩,FQ]
 unfold wa;simp only[bk m,Option.bind_some];refine ab.eq (ag (zS n o) (ag (sZ O ((tp o).mono O) (p.mono O) ⟨O,O⟩ ⟨O,O⟩) ?_));rw[FQ];refine ag (DT C O F A G.2 H (ZG o p D)) ?_;refine oG (n:=n) (l:=l.bf) (f:=λx=>ih n x 1 b 1) (K:=λL=>bp (λa ((d,h):(List ay)×Int)=>
    bif decide (h<(l.aH.length:Int)) then(
     Option.bind (au l.aH h) λq=>
     Option.bind (ih n q 1 b 1) λs=>
     Option.bind (app d [s]) λw=>
     a (w,wr (h+1))
    ) else(
     Option.bind (au (P.nest.take (k+1)++(P.nest.drop (k+1)).map (de (ho k b))) (k:Int)) λy=>
     Option.bind (b' (P.nest.take (k+1)++(P.nest.drop (k+1)).map (de (ho k b))) (k:Int) (⟨L,d⟩:Loop)) λi=>
     some (⟨i,P.body.map (fc (ho k b))⟩:Part)
    )
   ) n ([],0)) (λx e=>B x (c.1.2 x e)) (by have:=c.1.1;omega) O ?_
 refine oG (n:=n) (l:=l.aH) (f:=λx=>ih n x 1 b 1) (g:=λx=>eV x 1 b) (K:=λd=>Option.bind (au (P.nest.take (k+1)++(P.nest.drop (k+1)).map (de (ho k b))) (k:Int)) λy=>Option.bind (b' (P.nest.take (k+1)++(P.nest.drop (k+1)).map (de (ho k b))) (k:Int) (⟨l.bf.map λx=>eV x 1 b,d⟩:Loop)) λi=>some (⟨i,P.body.map (fc (ho k b))⟩:Part)) (λx e=>B x (c.2.2 x e)) (by have:=c.2.1;omega) O ?_;have e:(P.nest.take (k+1)++(P.nest.drop (k+1)).map (de (ho k b)))[k]? =some l:=by
  rw[gG bQ,ft,a1 O];exact m
 refine ag (bk e) (ag (dK bQ _) (ab.some ?_));rw[c3,take_set m];rfl
def jR(s:Int):ay:=⟨[0,0,0,0],s⟩
theorem Bm(h: -6<=s/\s<=6):fi 6 (jR s):=by unfold jR fi cL;simp;omega
theorem OW(s:Int)(a:k<4):(jR s).aT.getD k 0=0:=by rcases(O:k=0\/k=1\/k=2\/k=3) with rfl|rfl|rfl|rfl<;>rfl
def vl(p:Prog)(d a c:Int):Prog×Bool:=
 if cI p d a=true/\(-6<=c/\c<=6) then u4 p d a (λx=>eV x 1 (jR c)) (ho a.toNat (jR c)) else ec
theorem LH(n:Nat)(s:Int):wx n s=some (decide (-6<=s/\s<=6)):=by unfold wx;rw[d6];rfl
theorem qQ{b:Int}(h:a<0):cI p b a=false:=by
 cases c:cI p b a with
 |false=>rfl
 |true=>obtain⟨_,i,k,P,l,_,d,_⟩:=jo c;omega
theorem zx(a:p.parts[i]? =some P)(c:P.nest[k]? =some l)(g f:ay->ay):u4 p (i:Int) (k:Int) g f=fP ⟨p.aR,p.parts.set i (p9 k g f P l)⟩:=by unfold u4;rw[bk a];dsimp only;rw[bk c];rfl
theorem afH(r:7000<=n)(o:da 1000 p)(a c d:Int):Dk n p a c d=some (vl p a c d):=by
 unfold Dk vl;refine ab.eq (ag (lj O o) (ab.aA (λz=>z= !(cI p a c&&decide (-6<=d/\d<=6))) (λj s=>?_) λz y=>?_))
 ·refine ag (mL r o a c) (ab.cond (λh=>s _ ?_) λh=>ag (yj n d 6 O) (s _ ?_))
  ·rw[show cI p a c=false by simpa using h];rfl
  rw[show cI p a c=true by simpa using h];rfl
 subst y;by_cases e:cI p a c=true/\(-6<=d/\d<=6)
 ·rw[a1 e,e.1,bA e.2];refine b3 ?_;obtain⟨F,i,k,P,l,rfl,rfl,w,q,A,B,m,x⟩:=jo e.1;refine ag (bk w) (ag (hg n d) (ag (NO O m q x (Bm e.2) (OW _ x)) (ag (wC r o A ((AV m q (wM (Bm e.2).1) (Bj (Bm e.2).1)).mono O)) (ab.some ?_))));rw[zx w q];rfl
 rw[aY e,show(cI p a c&&decide (-6<=d/\d<=6))=false by
  cases C:cI p a c with
  |false=>rfl
  |true=>exact bx λD=>e ⟨C,D⟩]
 exact bS (ab.some rfl)
theorem Xm(c:5000<=n)(h: -6<=s/\s<=6): ∀x,cP x=true->x4 n x s=some (eV x 1 (jR s)):=λx a=>by unfold x4;have d:pr n 1=some ⟨[0,0,0,0],1⟩:=rfl;rw[d];refine ab.eq (ag rfl (ag (Aa c ((nE a).mono O) (b:=⟨[0,0,0,0],1⟩) (by unfold fi cL;simp) ⟨O,O⟩) (ab.some ?_)));unfold eV jR;obtain⟨a0,aJ,a2,a3,e⟩:=kX (fu a).1;rw[e];simp
theorem Xl(d:5000<=n)(a:k<4)(h: -6<=s/\s<=6): ∀x,cP x=true->uV n x (k:Int) (⟨(gZ k).aT,wr (0-s)⟩:ay)=some (ho k (jR s) x):=λx c=>by
 have e:(⟨(gZ k).aT,wr (0-s)⟩:ay)=nD k (jR s):=by
  rw[be O];rcases(O:k=0\/k=1\/k=2\/k=3) with rfl|rfl|rfl|rfl<;>(unfold gZ nD jR eV gZ;simp)
 unfold uV;rw[e,Ev d ((nE c).mono O) (Gt a (Bm h)) a,Gv (nE c).1 rfl a (OW _ a)];rfl
theorem zK(i:7000<=n)(e:da 1000 p)(a:Int):ab (j9 n p a (-1)) (λr=>r.2=false->r=ec):=by
 unfold j9;refine ab.aA (λz=>z=false->b6 p=true/\(0<=a/\a<(p.parts.length:Int))) (λj c=>?_) λz k=>?_
 ·refine ag (ur i e.sm) (ab.cond (λh=>c _ λh=>by cases h) λh=>?_);refine ag (qF n e.2.1 a) (ab.cond (λh=>c _ λh=>by cases h) λd=>eK (λh=>(h rfl).elim) λ_=>c _ λ_=>⟨by simpa using h,by simpa using d⟩)
 refine ab.cond (λ_=>ab.some λ_=>rfl) λh=>?_;obtain⟨l,m,d⟩:=k h;obtain⟨x,o,q⟩:=gy m d;exact ag (qP O l) (ag o (ab.some λh=>by cases h))
theorem aeo(w:7000<=n)(A:da 1000 p)(c d a:Int):Db n p c d a=some (vl p c d a):=by
 unfold Db vl;by_cases e:d= -1
 ·subst e;rw[aY λh=>by rw[qQ O] at h;cases h.1];refine ab.eq (cb (zK w A c) λY L=>ab.cond (λ_=>ab.aA (λz=>z=true) (λj B=>aP (λ_=>B _ rfl) λh=>bB (show(-1:Int)<0 by omega) h) λz C=>by rw[C];exact bS (ab.some rfl)) λ_=>ab.some rfl)
 refine ab.eq (ag (wz w A c d e) ?_);by_cases m:cI p c d=true
 ·rw[a1 m];refine bS (ab.aA (λz=>z= !decide (-6<=a/\a<=6)) (λj B=>?_) λz C=>?_)
  ·refine aP (λh=>?_) λ_=>ag (LH n a) (B _ rfl);rw[qQ h] at m;cases m
  subst C;by_cases q: -6<=a/\a<=6
  ·rw[a1 ⟨m,q⟩,bA q];refine b3 ?_;obtain⟨b,i,k,P,l,rfl,rfl,G,r,f,Q,o,H⟩:=jo m;obtain⟨L,I⟩:=hl o;obtain⟨_,R,U,_⟩:=fS o;refine ag (bk G) (ag (bk r) (ag (I9 O (I l (bE r)) (Xm O q)) (ag (dK O _) (ag (dK Z _) (ag (z' n H) ?_)))));rw[be (n:=(k:Int)+1) O];have D:=x3 (n:=n) O (nest:=P.nest.set k (de (λx=>eV x 1 (jR a)) l)) (body:=P.body) (s:=k+1) bQ bQ (λy K=>by
    rw[pS O] at K;exact I y (eY K)) R.2 U (F:=λW=>uV n W (k:Int) (⟨(gZ k).aT,wr (0-a)⟩:ay)) (Xl O H q)
   rw[c3,c3];refine ag D (ag (dK bQ _) ?_);rw[c3,q'];have X:(⟨(P.nest.set k (de (λx=>eV x 1 (jR a)) l)).take (k+1)++((P.nest.set k (de (λx=>eV x 1 (jR a)) l)).drop (k+1)).map (de (ho k (jR a))),P.body.map (fc (ho k (jR a)))⟩:Part)=p9 k (λx=>eV x 1 (jR a)) (ho k (jR a)) P l:=by
    rw[pS O,en,gj O,List.take_set_of_le (cQ k),iy];rfl
   rw[X];refine ag (qG w (w3 A i (AV o r (wM rfl) (Bj rfl)))) (ab.some ?_);rw[zx G r]
  rw[aY λh=>q h.2,bx q];exact bS (ab.some rfl)
 rw[aY m,aY λh=>m h.1];exact b3 (ab.some rfl)
theorem IU{k:Type}{l:List k}{x:k}(h:l[i]? =some x):l.set i x=l:=by
 refine List.ext_getElem? λj=>?_;by_cases a:i=j
 ·subst a;rw[gj (bR.1 h).1,h]
 rw[ix a]
theorem afk:da 1000 ec.1:=⟨⟨by simp[ec],λx a=>by cases a⟩,by simp[ec],λx a=>by cases a⟩
def fy(k:Nat)(s:Int):ay:=⟨[0,0,0,0].set k s,0⟩
theorem rL(k:Nat)(h: -6<=s/\s<=6):fi 6 (fy k s):=by refine⟨by simp[fy],⟨by simp[fy],by simp[fy]⟩,pB (λc a=>?_) ⟨h.1,h.2⟩⟩;simp at a;subst a;exact⟨O,O⟩
theorem OV(s:Int)(a:k+1<4):(fy k s).aT.getD (k+1) 0=0:=by rcases(O:k=0\/k=1\/k=2) with rfl|rfl|rfl<;>rfl
def vm(p:Prog)(c a s:Int):Prog×Bool:=
 if cI p c a=true/\cI p c (a+1)=true/\(-6<=s/\s<=6) then u4 p c (a+1) (λx=>eV x 1 (fy a.toNat s)) (ho (a.toNat+1) (fy a.toNat s)) else ec
theorem aa0(a:k<4)(s:Int):n' (gZ k) s ⟨[0,0,0,0],0⟩ 0=fy k s:=by rcases(O:k=0\/k=1\/k=2\/k=3) with rfl|rfl|rfl|rfl<;>simp[n',gZ,fy]
theorem aaG(d:k<4)(s:Int){a:ay}(c:a.aT.length=4):eV a s (gZ k)=eV a 1 (fy k s):=by obtain⟨a0,aJ,a2,a3,e⟩:=kX c;rcases(O:k=0\/k=1\/k=2\/k=3) with rfl|rfl|rfl|rfl<;>simp[eV,gZ,fy,e]
theorem abr(a:k+1<4)(s:Int):eV (gZ (k+1)) (-s) (gZ k)=nD (k+1) (fy k s):=by rcases(O:k=0\/k=1\/k=2) with rfl|rfl|rfl<;>simp[nD,eV,gZ,fy]
theorem afI(r:7000<=n)(o:da 1000 p)(a c s:Int):DM n p a c s=some (vm p a c s):=by
 unfold DM vm;refine ab.eq (ag (lj O o) (ab.aA (λz=>z= !(cI p a c&&(cI p a (c+1)&&decide (-6<=s/\s<=6)))) (λj w=>?_) λz D=>?_))
 ·refine ag (mL r o a c) (ab.cond (λh=>w _ ?_) λh=>?_)
  ·rw[show cI p a c=false by simpa using h];rfl
  have m:cI p a c=true:=by simpa using h
  obtain⟨F,i,k,P,l,rfl,rfl,y,q,C,A,e,B⟩:=jo m;rw[be O];refine ag (mL r o _ _) (ab.cond (λh=>w _ ?_) λh=>ag (yj n s 6 O) (w _ ?_))
  ·rw[m,show cI p (i:Int) ((k:Int)+1)=false by simpa using h];rfl
  rw[m,show cI p (i:Int) ((k:Int)+1)=true by simpa using h];rfl
 subst D;by_cases d:cI p a c=true/\cI p a (c+1)=true/\(-6<=s/\s<=6)
 ·rw[a1 d,d.1,d.2.1,bA d.2.2];refine b3 ?_;obtain⟨F,i,ev,P,l,rfl,G,y,q,C,A,e,B⟩:=jo d.2.1;obtain⟨_,L,k,Q,R,H,rfl,_⟩:=jo d.1;obtain rfl:ev=k+1:=O
  refine ag (zS n O) (ag (x:=⟨[0,0,0,0],0⟩) rfl (ag (sZ O ((tp O).mono O) (by unfold fi cL;simp) ⟨O,O⟩ ⟨O,O⟩) ?_));rw[aa0 O,be O];refine ag (bk y) (ag (NO O e q B (rL k d.2.2) (OV s B)) (ag (wC r o C ((AV e q (wM (rL k d.2.2).1) (Bj (rL k d.2.2).1)).mono O)) (ab.some ?_)));show fP _=_;rw[show((k:Int)+1)=((k+1:Nat):Int) by omega,zx y q];rfl
 rw[aY d,show(cI p a c&&(cI p a (c+1)&&decide (-6<=s/\s<=6)))=false by
  cases m:cI p a c with
  |false=>rfl
  |true=>cases I:cI p a (c+1) with
   |false=>rfl
   |true=>exact bx λK=>d ⟨m,I,K⟩]
 exact bS (ab.some rfl)
theorem X3(d:5000<=n)(a:k<4)(e: -6<=s/\s<=6): ∀x,cP x=true->yd n x s (k:Int)=some (eV x 1 (fy k s)):=λx c=>by unfold yd;rw[z' n a];refine ab.eq (ag rfl (ag (Aa d ((nE c).mono O) ((tp a).mono O) ⟨O,O⟩) (ab.some (aaG a s (fu c).1))))
theorem X2(e:5000<=n)(a:k+1<4)(c: -6<=s/\s<=6): ∀x,cP x=true->uZ n x (k:Int) (nD (k+1) (fy k s))=some (ho (k+1) (fy k s) x):=λx d=>by unfold uZ;rw[be O,show((k:Int)+1)=((k+1:Nat):Int) by omega,Ev e ((nE d).mono O) (Gt a (rL k c)) a,Gv (nE d).1 (rL k c).1 a (OV s a)];rfl
theorem aep(C:7000<=n)(D:da 1000 p)(a c s:Int):y5 n p a c s=some (vm p a c s):=by
 unfold y5 vm;by_cases e:c= -1
 ·subst e;rw[aY λh=>by rw[qQ O] at h;cases h.1];refine ab.eq (cb (zK C D a) λg Q=>ab.cond (λ_=>ab.aA (λz=>z=true) (λj w=>aP (λ_=>w _ rfl) λh=>bB (show(-1:Int)<0 by omega) h) λz G=>by rw[G];exact bS (ab.some rfl)) λ_=>ab.some rfl)
 refine ab.eq (ag (wz C D a c e) ?_);by_cases q:cI p a c=true
 ·rw[a1 q];obtain⟨R,i,k,P,t,rfl,rfl,A,U,u,W,o,H⟩:=jo q;obtain⟨Q,K⟩:=hl o;obtain⟨_,X,Y,_⟩:=fS o;have r:cI p (i:Int) ((k:Int)+1)=decide (k+1<P.nest.length):=by
   unfold cI;rw[R,bk A];exact decide_eq_decide.2 O
  refine bS (ab.aA (λz=>z= !(decide (k+1<P.nest.length)&&decide (-6<=s/\s<=6))) (λj w=>?_) λz G=>?_)
  ·refine aP (λh=>bB h O) λ_=>ag (bk A) ?_;rw[be O];refine aP (λh=>w _ ?_) λh=>ag (LH n s) (w _ ?_)
   ·rw[bx (show¬k+1<P.nest.length by omega)];rfl
   rw[bA (O:k+1<P.nest.length)];rfl
  subst G;by_cases d:k+1<P.nest.length
  ·by_cases m: -6<=s/\s<=6
   ·rw[a1 ⟨q,by rw[r,bA d],m⟩,bA m,bA d];refine b3 ?_;obtain⟨l,B⟩: ∃l,P.nest[k+1]? =some l:=⟨_,br d⟩
    rw[be (n:=(k:Int)+1) O,be (n:=(k:Int)+2) O,be (n:=0-s) O,show((k:Int)+1)=((k+1:Nat):Int) by omega,show((k:Int)+2)=((k+1+1:Nat):Int) by omega,show 0-s= -s by omega];refine ag (bk A) (ag (bk B) (ag (I9 O (K l (bE B)) (X3 O H m)) (ag (dK O _) (ag (dK Z _) (ag (z' n O) (ag (z' n H) (ag (Aa O ((tp O).mono O) ((tp H).mono O) ⟨O,O⟩) ?_)))))));rw[abr O];have I:=x3 (n:=n) O (nest:=P.nest.set (k+1) (de (λx=>eV x 1 (fy k s)) l)) (body:=P.body) (s:=k+1+1) bQ bQ (λy L=>by
     rw[pS O] at L;exact K y (eY L)) X.2 Y (F:=λb=>uZ n b (k:Int) (nD (k+1) (fy k s))) (X2 O O m)
    rw[c3,c3];refine ag I (ag (dK bQ _) ?_);rw[c3,q'];have f:(⟨(P.nest.set (k+1) (de (λx=>eV x 1 (fy k s)) l)).take (k+1+1)++((P.nest.set (k+1) (de (λx=>eV x 1 (fy k s)) l)).drop (k+1+1)).map (de (ho (k+1) (fy k s))),P.body.map (fc (ho (k+1) (fy k s)))⟩:Part)=p9 (k+1) (λx=>eV x 1 (fy k s)) (ho (k+1) (fy k s)) P l:=by
     rw[pS O,en,gj O,List.take_set_of_le (cQ _),iy];rfl
    rw[f];refine ag (qG C (w3 D i (AV o B (wM (rL k m).1) (Bj (rL k m).1)))) (ab.some ?_);rw[zx A B];rfl
   rw[aY λh=>m h.2.2,bx m,jv];exact bS (ab.some rfl)
  rw[aY (λh=>by rw[r,bx d] at h;cases h.2.1),bx d];exact bS (ab.some rfl)
 rw[aY q,aY λh=>q h.1];exact b3 (ab.some rfl)
theorem Oc{q:Prog}(h:fP p=(q,true)):q=p/\b6 p=true:=by
 unfold fP at h;split at h
 ·rename_i a;cases h;exact⟨rfl,a⟩
 cases h
def low(k:Nat)(b:ay):Prop:= ∀j,k<=j->b.aT.getD j 0=0
def kZ(n:Int):Expr:=⟨1,n,⟨[],0⟩,⟨[],[]⟩,[]⟩
def gQ(e:Expr)(n:Int):Bool:=decide (e.kind=1)&&decide (e.num=n)
def hb(k x y:Int):Int:=if k=5 then x-y else if k=6 then x*y else x+y
def iT(e:Expr):Expr:=
 if e.kind=2/\eL e.index.aT=0/\0<=e.index.const then kZ e.index.const
 else match e.bm with
  | [a,b]=>
   if a.kind=1/\b.kind=1 then(if 0<=hb e.kind a.num b.num/\hb e.kind a.num b.num<=99 then kZ (hb e.kind a.num b.num) else e)
   else if(¬e.kind=6/\gQ b 0=true)\/(e.kind=6/\gQ b 1=true) then a
   else if(e.kind=4/\gQ a 0=true)\/(e.kind=6/\gQ a 1=true) then b
   else if e.kind=6/\(gQ a 0=true\/gQ b 0=true) then kZ 0
   else e
  |_=>e
def lu(e:Expr)(a:List Expr):Expr:=⟨e.kind,e.num,e.index,e.read,a⟩
def fQ:Nat->Expr->Expr
 |0,e=>e
 |L+1,e=>iT (lu e (e.bm.map (fQ L)))
theorem Mh{d:Int}: ∀{L:Nat} {e:Expr},dD L e d=true->dD (L+1) e d=true
 |0,_,h=>by cases h
 |L+1,e,h=>by obtain⟨c,i,l⟩:=hi h;show(decide (fv e.kind=e.bm.length)&&(ej e d&&e.bm.all λk=>dD (L+1) k d))=true;rw[bA c,i,ff,ff];exact fB.2 λk a=>Mh (l k a)
theorem IV(a:fv e.kind=e.bm.length)(c:ej e d=true)(h: ∀k∈e.bm,dD L k d=true):dD (L+1) e d=true:=by show(decide (fv e.kind=e.bm.length)&&(ej e d&&e.bm.all λk=>dD L k d))=true;rw[bA a,c,ff,ff];exact fB.2 h
theorem Ot{d:Int}: ∀{L:Nat} {e:Expr},dD L e d=true->dB (L+1) e=dB L e
 |0,_,h=>by cases h
 |L+1,e,h=>by obtain⟨i,l,c⟩:=hi h;show 1+(e.bm.map (dB (L+1))).sum=1+(e.bm.map (dB L)).sum;rw[show e.bm.map (dB (L+1))=e.bm.map (dB L) from List.map_congr_left λk a=>Ot (c k a)]
theorem MQ{d:Int}: ∀{L:Nat} {e:Expr},dD L e d=true->dX (L+1) e=dX L e
 |0,_,h=>by cases h
 |L+1,e,h=>by obtain⟨i,l,c⟩:=hi h;show(if e.kind=3 then [e.read] else [])++e.bm.flatMap (dX (L+1))=(if e.kind=3 then [e.read] else [])++e.bm.flatMap (dX L);rw[List.flatMap_def,List.flatMap_def,show e.bm.map (dX (L+1))=e.bm.map (dX L) from List.map_congr_left λk a=>MQ (c k a)]
theorem F'(l:ej e d=true):iT e=e\/(∃n,iT e=kZ n/\0<=n/\n<=99)\/ ∃k∈e.bm,iT e=k:=by
 obtain⟨kind,num,index,read,i⟩:=e;unfold iT;dsimp only;split
 ·rename_i h
  have:=(fu (H1 l h.1).1).2.1;exact .inr (.inl ⟨_,rfl,h.2.2,this.2⟩)
 match i with
 | []=>exact .inl rfl
 | [a]=>exact .inl rfl
 | [a,b]=>
  dsimp only;split
  ·split
   ·rename_i h;exact .inr (.inl ⟨_,rfl,h⟩)
   exact .inl rfl
  split
  ·exact .inr (.inr ⟨a,aV,rfl⟩)
  split
  ·exact .inr (.inr ⟨b,aV,rfl⟩)
  split
  ·exact .inr (.inl ⟨0,rfl,O,O⟩)
  exact .inl rfl
 |a::b::c::r=>exact .inl rfl
theorem Xx(L:Nat){n:Int}(h:0<=n/\n<=99)(d:Int):dD (L+1) (kZ n) d=true:=by
 refine IV (by simp[kZ,fv]) ?_ λk a=>by cases a
 unfold ej kZ hv jO;simp;omega
theorem E9(h:ej e d=true)(a:List Expr):ej (lu e a) d=true:=h
theorem qm{d:Int}: ∀{L:Nat} {e:Expr},dD L e d=true->dD L (fQ L e) d=true
 |0,_,h=>by cases h
 |L+1,e,h=>by
  obtain⟨o,l,m⟩:=hi h;have p:dD (L+1) (lu e (e.bm.map (fQ L))) d=true:=IV (by simp only[lu,List.length_map];exact o) l (λk a=>by
   obtain⟨y,i,rfl⟩:=eP.1 a;exact qm (m y i))
  show dD (L+1) (iT (lu e (e.bm.map (fQ L)))) d=true;rcases F' (E9 l (e.bm.map (fQ L))) with c|⟨n,c,q⟩|⟨k,a,c⟩
  ·rw[c];exact p
  ·rw[c];exact Xx L q d
  rw[c];obtain⟨y,i,rfl⟩:=eP.1 a;exact Mh (qm (m y i))
theorem Ni{k:Type}(f:k->Int)(c: ∀x,0<=f x): ∀{l:List k} {x:k},x∈l->f x<=(l.map f).sum
 |y::l,x,h=>by
  have d: ∀l:List k,0<=(l.map f).sum:=λl=>by
   induction l with
   |nil=>simp
   |cons a l e=>simp only[List.map_cons,List.sum_cons];have:=c a;omega
  simp only[List.map_cons,List.sum_cons];rcases dP.1 h with rfl|h
  ·have:=d l;omega
  have:=Ni f c h;have:=c y;omega
theorem Me{k:Type}(f g:k->Int): ∀{l:List k},(∀x∈l,f x<=g x)->(l.map f).sum<=(l.map g).sum
 | [],_=>gH _
 |x::l,h=>by
  simp only[List.map_cons,List.sum_cons]
  have:=h x eX
  have:=Me f g λy a=>h y (eA _ a);omega
theorem Po{d:Int}: ∀{L:Nat} {e:Expr},dD L e d=true->dB L (fQ L e)<=dB L e
 |0,_,h=>by cases h
 |L+1,e,h=>by
  obtain⟨q,o,i⟩:=hi h;have m:dB (L+1) (lu e (e.bm.map (fQ L)))<=dB (L+1) e:=by
   show 1+((e.bm.map (fQ L)).map (dB L)).sum<=1+(e.bm.map (dB L)).sum;rw[tg]
   have:=Me (dB L ∘ fQ L) (dB L) (l:=e.bm) λk a=>Po (i k a);omega
  show dB (L+1) (iT (lu e (e.bm.map (fQ L))))<=dB (L+1) e;rcases F' (E9 o (e.bm.map (fQ L))) with c|⟨n,c,r⟩|⟨k,a,c⟩
  ·rw[c];exact m
  ·rw[c];exact re (L+1) e
  rw[c];refine Int.le_trans ?_ m;obtain⟨y,p,rfl⟩:=eP.1 a;rw[Ot (qm (i y p))];have s:dB L (fQ L y)<=((e.bm.map (fQ L)).map (dB L)).sum:=Ni (dB L) (λx=>by have:=re L x;omega) a;show _<=1+((e.bm.map (fQ L)).map (dB L)).sum;omega
theorem Pp{d:Int}: ∀{L:Nat} {e:Expr},dD L e d=true-> ∀a∈dX L (fQ L e),a∈dX L e
 |0,_,h=>by cases h
 |L+1,e,h=>by
  obtain⟨w,s,p⟩:=hi h;have q: ∀a∈dX (L+1) (lu e (e.bm.map (fQ L))),a∈dX (L+1) e:=λa c=>by
   have c:a∈(if e.kind=3 then [e.read] else [])++(e.bm.map (fQ L)).flatMap (dX L):=c;show a∈(if e.kind=3 then [e.read] else [])++e.bm.flatMap (dX L);rcases d'.1 c with c|c
   ·exact mT _ c
   refine pR _ ?_;obtain⟨y,m,o⟩:=yK.1 c;obtain⟨z,r,rfl⟩:=eP.1 m;exact yK.2 ⟨z,r,Pp (p z r) a o⟩
  intro a c;have c:a∈dX (L+1) (iT (lu e (e.bm.map (fQ L)))):=c;rcases F' (E9 s (e.bm.map (fQ L))) with i|⟨n,i,x⟩|⟨k,l,i⟩
  ·rw[i] at c;exact q a c
  ·rw[i] at c;simp[dX,kZ] at c
  rw[i] at c;obtain⟨y,m,rfl⟩:=eP.1 l;rw[MQ (qm (p y m))] at c;refine q a ?_;show a∈(if e.kind=3 then [e.read] else [])++(e.bm.map (fQ L)).flatMap (dX L);exact pR _ (yK.2 ⟨_,l,c⟩)
theorem Xn(h:dD L e d=true): ∃K,L=K+1:=by
 cases L with
 |zero=>cases h
 |succ K=>exact⟨K,rfl⟩
theorem VG(n:Nat)(e:Expr)(k:Int):iL n e k=some (gQ e k):=by unfold iL gQ;cases decide (e.kind=1)<;>rfl
theorem VU(n:Nat)(e:Expr)(k:Int):pC n e k=some (gQ e k):=by unfold pC gQ;cases decide (e.kind=1)<;>rfl
def Bu(a:Expr):Prop:=a.kind=1->0<=a.num/\a.num<=99
theorem GW(h:dD L e d=true):Bu e:=λc=>by obtain⟨K,rfl⟩:=Xn h;obtain⟨_,a,_⟩:=hi h;unfold ej at a;rw[aY O,aY O,a1 c] at a;simp only[Bool.and_eq_true,decide_eq_true_eq] at a;exact a.1
theorem OG{b:Int}(d:0<=a/\a<=99)(c:0<=b/\b<=99):0<=a*b/\a*b<=9801:=by
 refine⟨mW d.1 c.1,?_⟩
 have:=q6 d.2 c.2 c.1 (by omega:(0:Int)<=99);omega
theorem aaS(n:Nat)(L:c=4\/c=5\/c=6){a b:Expr}(Q:Bu a)(R:Bu b):
  aA (fun(s:Bool)=>
      bif s then(
       aA (fun(q:Int)=>
        Option.bind (fl n q 0 99) λd=>
        bif d then(
         Option.bind (nT n q) λe=>
         some e
        ) else(
         some (⟨c,0,(⟨[],0⟩:ay),(⟨[],[]⟩:bZ),[a,b]⟩:Expr)
        )
       ) (λl=>
        bif decide (c=5) then(
         l (wr (a.num-b.num))
        ) else(
         bif decide (c=6) then(
          l (wr (a.num*b.num))
         ) else(
          l (wr (a.num+b.num))
         )
        )
       )
      ) else(
       aA (fun(w:Bool)=>
        bif w then(
         some a
        ) else(
         aA (fun(x:Bool)=>
          bif x then(
           some b
          ) else(
           aA (fun(y:Bool)=>
            bif y then(
             Option.bind (nT n 0) λA=>
             some A
            ) else(
             some (⟨c,0,(⟨[],0⟩:ay),(⟨[],[]⟩:bZ),[a,b]⟩:Expr)
            )
           ) (λm=>
            bif decide (c=6) then(
             Option.bind (iL n a 0) λB=>
             bif B then(
              m true
             ) else(
              Option.bind (iL n b 0) λC=>
              m C
             )
            ) else(
             m false
            )
           )
          )
         ) (λi=>
          bif decide (c=4) then(
           Option.bind (iL n a 0) λD=>
           bif D then(
            i true
           ) else(
            bif decide (c=6) then(
             Option.bind (iL n a 1) λF=>
             i F
            ) else(
             i false
            )
           )
          ) else(
           bif decide (c=6) then(
            Option.bind (iL n a 1) λG=>
            i G
           ) else(
            i false
           )
          )
         )
        )
       ) (λk=>
        bif !(decide (c=6)) then(
         Option.bind (iL n b 0) λH=>
         bif H then(
          k true
         ) else(
          bif decide (c=6) then(
           Option.bind (iL n b 1) λI=>
           k I
          ) else(
           k false
          )
         )
        ) else(
         bif decide (c=6) then(
          Option.bind (iL n b 1) λK=>
          k K
         ) else(
          k false
         )
        )
       )
      )
     ) (λr=>
      bif decide (a.kind=1) then(
       r (decide (b.kind=1))
      ) else(
       r false
      )
     )=some (iT ⟨c,0,⟨[],0⟩,⟨[],[]⟩,[a,b]⟩):=by
 have U: ¬(c=2/\eL ([]:List Int)=0/\(0:Int)<=0):=λh=>O
 unfold iT;dsimp only;rw[aY U];simp only[VG,Option.bind_some,aA];by_cases o:a.kind=1/\b.kind=1
 ·have W:=Q o.1;have X:=R o.2;have v:=OG W X;rw[a1 o,bA o.1,bA o.2];simp only[cond_true];have Y:(bif decide (c=5) then(Option.bind (fl n (wr (a.num-b.num)) 0 99) λd=>bif d then(Option.bind (nT n (wr (a.num-b.num))) λe=>some e) else(some (⟨c,0,⟨[],0⟩,⟨[],[]⟩,[a,b]⟩:Expr)))
    else bif decide (c=6) then(Option.bind (fl n (wr (a.num*b.num)) 0 99) λd=>bif d then(Option.bind (nT n (wr (a.num*b.num))) λe=>some e) else(some (⟨c,0,⟨[],0⟩,⟨[],[]⟩,[a,b]⟩:Expr)))
    else(Option.bind (fl n (wr (a.num+b.num)) 0 99) λd=>bif d then(Option.bind (nT n (wr (a.num+b.num))) λe=>some e) else(some (⟨c,0,⟨[],0⟩,⟨[],[]⟩,[a,b]⟩:Expr))))
    =Option.bind (fl n (hb c a.num b.num) 0 99) λd=>bif d then(Option.bind (nT n (hb c a.num b.num)) λe=>some e) else(some (⟨c,0,⟨[],0⟩,⟨[],[]⟩,[a,b]⟩:Expr)):=by
   rw[be (n:=a.num-b.num) O,be (n:=a.num*b.num) O,be (n:=a.num+b.num) O];unfold hb;rcases L with rfl|rfl|rfl<;>rfl
  refine Y.trans ?_;rw[d6,Option.bind_some];by_cases p:0<=hb c a.num b.num/\hb c a.num b.num<=99
  ·rw[a1 p,bA p];rfl
  rw[aY p,bx p];rfl
 rw[aY o];have g:(bif decide (a.kind=1) then decide (b.kind=1) else false)=false:=by
  cases j:decide (a.kind=1) with
  |false=>rfl
  |true=>
   have: ¬b.kind=1:=λh=>o ⟨e8 j,h⟩;rw[bx this];rfl
 have p: ∀{f:Bool->Option Expr},(bif decide (a.kind=1) then f (decide (b.kind=1)) else f false)=f false:=fun {f}=>by
  have:(bif decide (a.kind=1) then f (decide (b.kind=1)) else f false)=f (bif decide (a.kind=1) then decide (b.kind=1) else false):=by cases decide (a.kind=1)<;>rfl
  rw[this,g]
 refine(p (f:=λz=>bif z then _ else _)).trans ?_;generalize gQ a 0=a0;generalize gQ a 1=aJ;generalize gQ b 0=t;generalize gQ b 1=u;rcases L with rfl|rfl|rfl<;>cases a0<;>cases aJ<;>cases t<;>cases u<;>rfl
theorem W5(n:Nat)(k:Int):rD n k=some (decide (4<=k/\k<=6)):=by unfold rD;rw[d6];rfl
theorem FV(h:fv e.kind=e.bm.length):((e.kind=1\/e.kind=2\/e.kind=3)/\e.bm=[])\/((e.kind=4\/e.kind=5\/e.kind=6)/\ ∃a b,e.bm=[a,b]):=by
 unfold fv at h;split at h
 ·rename_i d;exact .inl ⟨d,kQ O⟩
 split at h
 ·rename_i d;refine .inr ⟨d,?_⟩
  match i:e.bm,h with
  | [a,b],_=>exact⟨a,b,rfl⟩
  | [],h=>simp at h
  | [a],h=>simp at h
  |a::b::c::r,h=>simp at h;omega
 omega
theorem aaH(a:ej e d=true)(h:e.kind=4\/e.kind=5\/e.kind=6):e.num=0/\e.index=⟨[],0⟩/\e.read=⟨[],[]⟩:=by have c:=wZ a O O;unfold ej at a;rw[aY O,aY O,aY O] at a;simp only[Bool.and_eq_true,decide_eq_true_eq] at a;exact⟨a.1,s3 c.1,s4 c.2⟩
theorem A'(a:ej e d=true):jA e.index/\ku e.read.bC:=by
 by_cases h:e.kind=2
 ·have:=H1 a h;refine⟨by have:=(fu this.1).1;unfold jA;omega,?_⟩;rw[s4 this.2];exact⟨aV,λx c=>by cases c⟩
 by_cases i:e.kind=3
 ·have:=rz a i;have k:=mY this.1;refine⟨?_,NG k.2.1 k.2.2⟩;rw[s3 this.2];unfold jA;simp
 have:=wZ a h i;refine⟨?_,?_⟩
 ·rw[s3 this.1];unfold jA;simp
 rw[s4 this.2];exact⟨aV,λx c=>by cases c⟩
def mM(e:Expr):Bool:=decide (e.kind=2)&&(decide (eL e.index.aT=0)&&decide (0<=e.index.const))
theorem La(e:Expr):mM e=true↔e.kind=2/\eL e.index.aT=0/\0<=e.index.const:=by unfold mM;simp
theorem K2(h:mM e=true):iT e=kZ e.index.const:=by unfold iT;rw[a1 ((La e).1 h)]
theorem L8(h:mM e=false)(a:e.bm=[]):iT e=e:=by unfold iT;rw[aY (λc=>by rw[(La e).2 c] at h;cases h),a]
theorem Ia{d:Int}: ∀(L n:Nat) (e:Expr),6000+L<=n->dD L e d=true->qz (n+1) e=some (fQ L e)
 |0,_,_,_,h=>by cases h
 |L+1,n,e,K,h=>by
  obtain⟨r,s,w⟩:=hi h;obtain⟨n,rfl⟩: ∃j,n=j+1:=⟨n-1,O⟩
  unfold qz;refine ab.eq (ab.aA (λz=>z=mM e) (λj m=>?_) λz B=>?_)
  ·refine aP (λo=>ag (y3 O (A' s).1) (aP (λC=>m _ ?_) λC=>m _ ?_)) λo=>m _ ?_
   ·unfold mM;rw[bA o,bA (O:eL e.index.aT=0)];rfl
   ·unfold mM;rw[bx (show¬eL e.index.aT=0 by omega),Bool.false_and,jv]
   unfold mM;rw[bx o];rfl
  subst B;have p:fQ (L+1) e=iT (lu e (e.bm.map (fQ L))):=rfl;refine ab.cond (λq=>?_) λq=>?_
  ·refine ag (x:=kZ e.index.const) rfl (ab.some ?_);rw[p];exact(K2 (e:=lu e (e.bm.map (fQ L))) q).symm
  refine ag (W5 _ _) (eK (λl=>ab.some ?_) λl=>?_)
  ·rcases FV r with ⟨_,k⟩|⟨i,_⟩
   ·rw[p,k]
    have:lu e []=e:=by cases e;cases k;rfl
    show e=iT (lu e []);rw[this];exact(L8 q k).symm
   exact bB O l
  rcases FV r with ⟨i,_⟩|⟨i,a,b,c⟩
  ·omega
  have y:=w a (by rw[c];simp);have A:=w b (by rw[c];simp);have D:au e.bm 0=some a:=by rw[c];rfl
  have F:au e.bm 1=some b:=by rw[c];rfl
  refine ag D (ag (Ia L n a O y) (ag F (ag (Ia L n b O A) (ab.of (aaS (n+1) i (GW (qm y)) (GW (qm A))) ?_))));obtain⟨G,H,I⟩:=aaH s i;rw[p,c];unfold lu;rw[G,H,I];rfl
theorem X4(n:Nat)(o:e.kind=4\/e.kind=5\/e.kind=6){x y:Int}(l:0<=x/\x<=99)(m:0<=y/\y<=99):Ao n e x y=some (if 0<=hb e.kind x y/\hb e.kind x y<=99 then kZ (hb e.kind x y) else e):=by
 have p:=OG l m;unfold Ao;refine ab.eq (ab.aA (λz=>z=hb e.kind x y) (λj a=>?_) λz d=>?_)
 ·rw[be (n:=x+y) O,be (n:=x-y) O,be (n:=x*y) O];refine aP (λh=>a _ ?_) λh=>aP (λi=>a _ ?_) λi=>a _ ?_
  ·unfold hb;rw[aY O,aY O]
  ·unfold hb;rw[a1 i]
  unfold hb;rw[aY i,a1 O]
 subst d;refine ab.aA (λz=>z= !decide (0<=hb e.kind x y/\hb e.kind x y<=99)) (λj a=>aP (λh=>a _ ?_) λh=>a _ ?_) λz d=>?_
 ·rw[bx O];rfl
 ·by_cases k:(99:Int)<hb e.kind x y
  ·rw[bA k,bx O];rfl
  rw[bx k,bA O];rfl
 subst d;by_cases c:0<=hb e.kind x y/\hb e.kind x y<=99
 ·rw[bA c,a1 c];exact b3 (ag rfl (ab.some rfl))
 rw[bx c,aY c];exact bS (ab.some rfl)
theorem Xo(K:5000<=n)(B:jA e.index)(C:fv e.kind=e.bm.length)(y: ∀k∈e.bm,Bu k):yS n e=some (iT e):=by
 unfold yS;refine ab.eq (ab.aA (λz=>z=mM e) (λj l=>?_) λz q=>?_)
 ·refine aP (λr=>ag (t8 O B) (aP (λD=>l _ ?_) λD=>l _ ?_)) λr=>l _ ?_
  ·unfold mM;rw[bA r,bA (O:eL e.index.aT=0)];rfl
  ·unfold mM;rw[bx (show¬eL e.index.aT=0 by omega),Bool.false_and,jv]
  unfold mM;rw[bx r];rfl
 subst q;refine ab.cond (λs=>ag (x:=kZ e.index.const) rfl (ab.some (K2 s).symm)) λs=>?_;rcases FV C with ⟨_,o⟩|⟨d,a,b,c⟩
 ·refine aP (λ_=>ab.some (L8 s o).symm) λh=>bB (by rw[o];rfl) h
 have F:=y a (by rw[c];simp);have G:=y b (by rw[c];simp);refine aP (λh=>by rw[c] at h;simp at h) λ_=>ag (show au e.bm 0=some a by rw[c];rfl) (ag (show au e.bm 1=some b by rw[c];rfl) ?_);have i:iT e=(if a.kind=1/\b.kind=1 then(if 0<=hb e.kind a.num b.num/\hb e.kind a.num b.num<=99 then kZ (hb e.kind a.num b.num) else e)
   else if(¬e.kind=6/\gQ b 0=true)\/(e.kind=6/\gQ b 1=true) then a
   else if(e.kind=4/\gQ a 0=true)\/(e.kind=6/\gQ a 1=true) then b
   else if e.kind=6/\(gQ a 0=true\/gQ b 0=true) then kZ 0
   else e):=by
  unfold iT;rw[aY (λh=>O),c]
 rw[i];refine ab.aA (λz=>z=decide (a.kind=1/\b.kind=1)) (λj l=>aP (λh=>l _ ?_) λh=>l _ ?_) λz q=>?_
 ·by_cases p:b.kind=1
  ·rw[bA p,bA ⟨h,p⟩]
  rw[bx p,bx λw=>p w.2]
 ·rw[bx λw=>h w.1]
 subst q;by_cases m:a.kind=1/\b.kind=1
 ·rw[bA m,a1 m];exact bS (ag (X4 n d (F m.1) (G m.2)) (ab.some rfl))
 rw[bx m,aY m];refine b3 ?_;simp only[VU,Option.bind_some,aA];generalize gQ a 0=a0;generalize gQ a 1=aJ;generalize gQ b 0=H;generalize gQ b 1=I;obtain⟨kind,num,index,read,A⟩:=e;dsimp only at d⊢;rcases d with rfl|rfl|rfl<;>cases a0<;>cases aJ<;>cases H<;>cases I<;>exact ab.some rfl
theorem Qv{d:Int}: ∀(L n:Nat) (e:Expr),6000+L<=n->dD L e d=true->qT (n+1) e=some (fQ L e)
 |0,_,_,_,h=>by cases h
 |L+1,n,e,s,h=>by
  obtain⟨m,a,l⟩:=hi h;obtain⟨n,rfl⟩: ∃j,n=j+1:=⟨n-1,O⟩
  have o:e.bm.length<=2:=by have:=pw e.kind;omega
  unfold qT;refine ab.eq (ag (y8 _ (A' a).1) (ag (yF O (A' a).2) ?_));refine oG (f:=qT (n+1)) (g:=fQ L) (K:=λp=>Option.bind (yS (n+1) (⟨e.kind,e.num,e.index,e.read,p⟩:Expr)) λc=>some c) (λx q=>Qv L n x O (l x q)) O O ?_;refine ag (Xo O (A' a).1 (by simpa using m) λk i=>?_) (ab.some rfl);obtain⟨y,r,rfl⟩:=eP.1 i;exact GW (qm (l y r))
def jK(l:List cx)(p:Prog)(a:Int)(c:Nat):Prop:= ∃x∈l,x.part=a/\dd p x=c
def kG(l:List cx)(p:Prog)(a:Int)(c:Nat):Prop:= ∃x∈l,x.part=a/\(c:Int)∈rc p x
theorem wu{l:List cx}{c:Nat}{x:cx}:jK (l++[x]) p a c↔jK l p a c\/(x.part=a/\dd p x=c):=by
 unfold jK;constructor
 ·rintro⟨y,d,h⟩;rcases d'.1 d with d|d
  ·exact .inl ⟨y,d,h⟩
  rw[mU] at d;subst d;exact .inr h
 rintro(⟨y,d,h⟩|h)
 ·exact⟨y,mT _ d,h⟩
 exact⟨x,aV,h⟩
theorem wv{l:List cx}{c:Nat}{x:cx}:kG (l++[x]) p a c↔kG l p a c\/(x.part=a/\(c:Int)∈rc p x):=by
 unfold kG;constructor
 ·rintro⟨y,d,h⟩;rcases d'.1 d with d|d
  ·exact .inl ⟨y,d,h⟩
  rw[mU] at d;subst d;exact .inr h
 rintro(⟨y,d,h⟩|h)
 ·exact⟨y,mT _ d,h⟩
 exact⟨x,aV,h⟩
def hK(T:Nat)(f:List Bool)(S:Nat->Prop):Prop:=f.length=T/\ ∀c,c<T->(f.getD c false=true↔S c)
theorem Fp(T:Nat):hK T (List.replicate T false) (λ_=>False):=⟨Df,λc a=>by rw[ez,td];split<;>simp⟩
theorem FZ{T:Nat}{f:List Bool}{S:Nat->Prop}(h:hK T f S){d:Nat}(a:d<T):hK T (f.set d true) (λc=>S c\/c=d):=⟨by rw[eS];exact h.1,λc i=>by
 by_cases e:d=c
 ·subst e;rw[ez,gj (by rw[h.1];exact a)];simp
 rw[ez,ix e,<-ez,h.2 c i];constructor
 ·exact .inl
 rintro(h|h)
 ·exact h
 exact bB h.symm e⟩
theorem lX{T:Nat}{f:List Bool}{S X:Nat->Prop}(h:hK T f S)(d: ∀c,c<T->(S c↔X c)):hK T f X:=⟨h.1,λc a=>(h.2 c a).trans (d c a)⟩
theorem rE{T:Nat}{f:List Bool}{S:Nat->Prop}(h:hK T f S){c:Nat}(d:c<T):au f (c:Int)=some (f.getD c false):=by
 have a:c<f.length:=by rw[h.1];exact d
 rw[bk (br a),ez,br a];rfl
theorem LQ(B:5000<=n){T:Nat}{cs:List Int}(C:cs.length<=1000)(o: ∀c∈cs,0<=c/\c<(T:Int)){K:List Bool->Option R}{f:List Bool}{S:Nat->Prop}(p:hK T f S)(q: ∀g,hK T g (λc=>S c\/(c:Int)∈cs)->ab (K g) Q):
  ab (bp (λa (z:(List Bool)×Int)=>bif decide (z.2<(cs.length:Int)) then(Option.bind (au cs z.2) λx=>Option.bind (au z.1 x) λ_=>Option.bind (b' z.1 x true) λy=>a (y,wr (z.2+1))) else(K z.1)) n (f,0)) Q:=by
 refine ab.loop (λz:List Bool×Int=> ∃i:Nat,z.2=i/\i<=cs.length/\hK T z.1 λc=>S c\/(c:Int)∈cs.take i) (λz=>cs.length-z.2.toNat) ?_ n _ ⟨0,rfl,O,lX p λc _=>aV⟩ Z;rintro a ⟨x,z⟩ ⟨i,m,D,k⟩ r;dsimp only at m k⊢;subst m;refine aP (λs=>?_) λw=>?_
 ·obtain⟨c,l⟩: ∃c,cs[i]? =some c:=⟨_,br (O:i<cs.length)⟩
  have a':=o c (bE l);have A:=k.1;refine ag (bk l) (ag (w6 a'.1 O) (ag (Fg a'.1 O true) ?_));rw[be O];refine r _ ⟨i+1,Z,O,lX (FZ k (d:=c.toNat) O) λe F=>?_⟩ Z;rw[gp l,d',mU];constructor
  ·rintro((h|h)|h)
   ·exact .inl h
   ·exact .inr (.inl h)
   exact .inr (.inr O)
  rintro(h|h|h)
  ·exact .inl (.inl h)
  ·exact .inl (.inr h)
  exact .inr O
 have e:i=cs.length:=O
 refine q x (lX k λc _=>?_);rw[e,c6]
theorem wQ(a:b6 p=true):((iv p:Nat):Int)=gd p.aR/\iv p<=144:=by have:=XV a;show(((gd p.aR).toNat:Nat):Int)=_/\(gd p.aR).toNat<=144;omega
theorem Ld(cJ:7100<=n)(A:b6 p=true)(a:Int):ab (i8 n (gg p) a) (λr=>hK (iv p) r.1 (kG (bz p.parts) p a)/\hK (iv p) r.2 (jK (bz p.parts) p a)):=by
 obtain⟨I,L,_,_,U⟩:=eC A;have e6:=wQ A;unfold i8;refine ag (KQ (p:=p) O I L) (ag (Gm ⟨O,O⟩ false) (ag (KQ (p:=p) O I L) (ag (Gm ⟨O,O⟩ false) ?_)));show ab (bp _ n (List.replicate (iv p) false,List.replicate (iv p) false,0)) _;refine ab.loop (λz:List Bool×List Bool×Int=> ∃i:Nat,z.2.2=i/\i<=(bz p.parts).length/\hK (iv p) z.1 (kG ((bz p.parts).take i) p a)/\hK (iv p) z.2.1 (jK ((bz p.parts).take i) p a)) (λz=>(bz p.parts).length-z.2.2.toNat) ?_ n _ ⟨0,rfl,O,lX (Fp _) (λc _=>by simp[kG]),lX (Fp _) λc _=>by simp[jK]⟩ Z;rintro B ⟨x,y,z⟩ ⟨i,o,aH,q,l⟩ W;dsimp only at o q l⊢;subst o;have m:(gg p).list=bz p.parts:=rfl;rw[m];refine aP (λX=>?_) λY=>ab.some ?_
 ·obtain⟨u,k⟩: ∃u,(bz p.parts)[i]? =some u:=⟨_,br (O:i<(bz p.parts).length)⟩
  have b:=iP (bE k);obtain⟨gI,t,ahN,_⟩:=qD A b;have C:(gg p).reads[i]? =some (rc p u):=lf k;have D:(gg p).dy[i]? =some (dd p u:Int):=lf (f:=λx=>(dd p x:Int)) k;refine ab.aA (λz:List Bool×List Bool×Int×Int×List Int=>hK (iv p) z.1 (kG ((bz p.parts).take (i+1)) p a)/\hK (iv p) z.2.1 (jK ((bz p.parts).take (i+1)) p a)) (λj Q=>?_) λz o=>?_
  ·refine ag (bk k) (eK (λs=>Q _ ⟨lX q λc _=>?_,lX l λc _=>?_⟩) λR=>ag (bk C) ?_)
   ·rw[gp k,wv];exact⟨.inl,λh=>h.elim id λh=>bB h.1 s⟩
   ·rw[gp k,wu];exact⟨.inl,λh=>h.elim id λh=>bB h.1 s⟩
   refine LQ (T:=iv p) O (cs:=rc p u) O (λc v=>by have:=t c v;omega) (K:=λF=>Option.bind (au (gg p).dy (i:Int)) λw=>Option.bind (au y w) λE=>Option.bind (b' y w true) λG=>j (F,G,u.part,u.stmt,u.cM)) q λg H=>?_;refine ag (bk D) (ag (rE l O) (ag (Fg O (by rw[l.1];omega) true) (Q _ ⟨lX H λc _=>?_,?_⟩)))
   ·rw[gp k,wv];exact or_congr Iff.rfl ⟨λh=>⟨R,h⟩,λh=>h.2⟩
   refine lX (FZ l (d:=dd p u) O) λc _=>?_;rw[gp k,wu];exact or_congr Iff.rfl ⟨λh=>⟨R,h.symm⟩,λh=>h.2.symm⟩
  obtain⟨M,N,P,S,V⟩:=z;dsimp only at o⊢;rw[be O];exact W _ ⟨i+1,Z,O,o.1,o.2⟩ Z
 have e:i=(bz p.parts).length:=O
 rw[e,c6] at q l;exact⟨q,l⟩
theorem DL(L:7100<=n)(o:b6 p=true)(a:Int)(w:Bool):ab (sG n p a w) (λr=>r.length<=144/\ ∀c:Int,c∈r↔0<=c/\c.toNat<iv p/\(if w=true then jK (bz p.parts) p a c.toNat else kG (bz p.parts) p a c.toNat)):=by
 obtain⟨Q,R,_,_,U⟩:=eC o;have v:=wQ o;unfold sG;refine ag (Ky O Q R) (ag (Gm ⟨O,O⟩ false) (ag (uL O o) (ag (EV L o) ?_)));show ab (bp _ n (List.replicate (iv p) false,0)) _;refine ab.loop (λz:List Bool×Int=> ∃i:Nat,z.2=i/\i<=(bz p.parts).length/\hK (iv p) z.1 λc=>if w=true then jK ((bz p.parts).take i) p a c else kG ((bz p.parts).take i) p a c) (λz=>(bz p.parts).length-z.2.toNat) ?_ n _ ⟨0,rfl,O,lX (Fp _) λc _=>by simp[kG,jK]⟩ Z;rintro A ⟨x,z⟩ ⟨i,y,E,l⟩ W;dsimp only at y l⊢;subst y;refine aP (λk=>?_) λX=>?_
 ·obtain⟨u,m⟩: ∃u,(bz p.parts)[i]? =some u:=⟨_,br (O:i<(bz p.parts).length)⟩
  have Y:=iP (bE m);obtain⟨M,b,N,_⟩:=qD o Y;have q:(l8 p)[i]? =some (⟨rc p u,(dd p u:Int)⟩:kV):=lf (f:=λx=>(⟨rc p x,(dd p x:Int)⟩:kV)) m;refine ab.aA (λz:List Bool=>hK (iv p) z λc=>if w=true then jK ((bz p.parts).take (i+1)) p a c else kG ((bz p.parts).take (i+1)) p a c) (λj B=>?_) λz y=>?_
  ·refine ag (bk m) (eK (λC=>B _ (lX l λc _=>?_)) λI=>?_)
   ·rw[gp m,wu,wv];split<;>exact⟨.inl,λh=>h.elim id λh=>bB h.1 C⟩
   cases w with
   |true=>
    refine bS (ag (bk q) (ag (rE l O) (ag (Fg (by(try dsimp only);omega) (by rw[l.1];(try dsimp only);omega) true) (B _ ?_))));refine lX (FZ l (d:=dd p u) O) λc _=>?_;rw[gp m,wu,wv];exact or_congr Iff.rfl ⟨λh=>⟨I,h.symm⟩,λh=>h.2.symm⟩
   |false=>
    refine b3 ?_;simp only[bk q,Option.bind_some];refine LQ (T:=iv p) O (cs:=rc p u) O (λc t=>by have:=b c t;omega) (K:=λD=>j D) l λg F=>B _ (lX F λc _=>?_);rw[gp m,wu,wv];exact or_congr Iff.rfl ⟨λh=>⟨I,h⟩,λh=>h.2⟩
  rw[be O];exact W _ ⟨i+1,Z,O,y⟩ Z
 have e:i=(bz p.parts).length:=O
 rw[e,c6] at l;have G:=l.1;refine ag (J8 O O) (ab.some ⟨by have:=Kx x;omega,λc=>?_⟩);rw[Ea];constructor
 ·rintro⟨H,s⟩;have k:c.toNat<iv p:=by
   rw[<-G];by_cases h:c.toNat<x.length
   ·exact h
   rw[ez,q8 O] at s;cases s
  exact⟨H,k,(l.2 _ k).1 s⟩
 rintro⟨H,k,s⟩;exact⟨H,(l.2 _ k).2 s⟩
theorem FT(r:5000<=n){a b:List Int}(s:a.length<=1000)(m:b.length<=1000):vt n a b=some (a.any λc=>decide (c∈b)):=by
 refine ab.eq ?_;unfold vt;refine ab.loop (λz:Int=> ∃i:Nat,z=i/\i<=a.length/\(a.take i).any (λc=>decide (c∈b))=false) (λz=>a.length-z.toNat) ?_ n 0 ⟨0,rfl,O,aV⟩ O;rintro k z ⟨i,rfl,w,d⟩ o;refine aP (λp=>?_) λq=>ab.some ?_
 ·obtain⟨c,l⟩: ∃c,a[i]? =some c:=⟨_,br (O:i<a.length)⟩
  refine ag (bk l) (ag (FC O m c) (ab.cond (λh=>ab.some ?_) λh=>?_))
  ·exact(iz.2 ⟨c,bE l,h⟩).symm
  rw[be O];refine o _ ⟨i+1,O,O,?_⟩ O;rw[gp l,tb,d];simpa using h
 have e:i=a.length:=O
 rw[e,c6] at d;exact d.symm
def Bq(p:Prog)(a b:Int):Prop:= ∀x∈bz p.parts,∀y∈bz p.parts,x.part=a->y.part=b-> ¬O2 p x y
noncomputable def rV(p:Prog)(a b:Int):Bool:= @decide (Bq p a b) (Classical.propDecidable _)
theorem Ib{b:Int}:rV p a b=true↔Bq p a b:=by unfold rV;exact @decide_eq_true_iff _ (Classical.propDecidable _)
theorem KN(n:b6 p=true){b:Int}:Bq p a b↔ ∀c,c<iv p-> ¬(jK (bz p.parts) p a c/\(kG (bz p.parts) p b c\/jK (bz p.parts) p b c))/\ ¬(jK (bz p.parts) p b c/\kG (bz p.parts) p a c):=by
 have o:=wQ n;constructor
 ·intro h c _;refine⟨?_,?_⟩
  ·rintro⟨⟨x,l,e,m⟩,⟨y,k,d,i⟩|⟨y,k,d,i⟩⟩
   ·exact h x l y k e d (.inl (by rw[m];exact i))
   exact h x l y k e d (.inr (.inr (by rw[m,i])))
  rintro⟨⟨y,k,d,i⟩,⟨x,l,e,m⟩⟩;exact h x l y k e d (.inr (.inl (by rw[i];exact m)))
 intro h x l y k e d bP;have q:=(qD n (iP l)).1;have r:=(qD n (iP k)).1;rcases bP with bP|bP|bP
 ·exact(h (dd p x) O).1 ⟨⟨x,l,e,rfl⟩,.inl ⟨y,k,d,bP⟩⟩
 ·exact(h (dd p y) O).2 ⟨⟨y,k,d,rfl⟩,⟨x,l,e,bP⟩⟩
 exact(h (dd p x) O).1 ⟨⟨x,l,e,rfl⟩,.inr ⟨y,k,d,bP.symm⟩⟩
def eg(p:Prog)(a:Int):Bool:=decide (0<=a/\a<(p.parts.length:Int))
noncomputable def jl(p:Prog)(a b:Int):Bool:=b6 p&&(eg p a&&(eg p b&&(!decide (a=b)&&rV p a b)))
theorem sK{b:Bool}(h:(!b)=true):b=false:=by cases b with
 |false=>rfl
 |true=>cases h
theorem qN{b:Bool}(h:(!b)=false):b=true:=by cases b with
 |false=>cases h
 |true=>rfl
theorem VH(cJ:5000<=n){T:Nat}(kC:T<=1000){I E M K:List Bool}{x p q l:Nat->Prop}(F:hK T I x)(L:hK T E p)(Q:hK T M q)(y:hK T K l){v:Bool}(N:v=true↔ ∀c,c<T-> ¬(p c/\(q c\/l c))/\ ¬(l c/\x c)):
  ab (bp (λm (k:Int)=>
     bif decide (k<(I.length:Int)) then(
      aA (fun(R:Bool)=>
       bif R then(
        some false
       ) else(
        m (wr (k+1))
       )
      ) (λo=>
       Option.bind (au E k) λU=>
       bif U then(
        Option.bind (au M k) λW=>
        bif W then(
         o true
        ) else(
         Option.bind (au K k) λX=>
         bif X then(
          o true
         ) else(
          o false
         )
        )
       ) else(
        Option.bind (au K k) λY=>
        bif Y then(
         Option.bind (au I k) λb=>
         o b
        ) else(
         o false
        )
       )
      )
     ) else(
      some true
     )
    ) n 0) (λr=>r=v):=by
 have A: ∀c,c<T->((p c/\(q c\/l c))\/(l c/\x c))->v=false:=λc f h=>by
  cases g:v with
  |false=>rfl
  |true=>
   have:=N.1 g c f;rcases h with h|h
   ·exact bB h this.1
   exact bB h this.2
 have t:=F.1;refine ab.loop (λz:Int=> ∃i:Nat,z=i/\i<=T/\ ∀c,c<i-> ¬(p c/\(q c\/l c))/\ ¬(l c/\x c)) (λz=>T-z.toNat) ?_ n 0 ⟨0,rfl,O,λc h=>O⟩ O;rintro u z ⟨i,rfl,aH,B⟩ V;rw[t];refine aP (λhlt=>?_) λiN=>ab.some ?_
 ·have a:i<T:=O
  refine ab.aA (λz=>(z=true->(p i/\(q i\/l i))\/(l i/\x i))/\(z=false-> ¬(p i/\(q i\/l i))/\ ¬(l i/\x i))) (λj C=>?_) λz P=>ab.cond (λh=>ab.some (A i a (P.1 h)).symm) λh=>?_
  ·refine ag (rE L a) (ab.cond (λG=>?_) λG=>?_)
   ·have w:=(L.2 i a).1 G;refine ag (rE Q a) (ab.cond (λH=>C _ ⟨λ_=> .inl ⟨w,.inl ((Q.2 i a).1 H)⟩,λh=>(by cases h)⟩) λH=>ag (rE y a) (ab.cond (λd=>C _ ⟨λ_=> .inl ⟨w,.inr ((y.2 i a).1 d)⟩,λh=>(by cases h)⟩) λd=>C _ ⟨λh=>(by cases h),λ_=>?_⟩));have ahj: ¬q i:=λh=>by rw[(Q.2 i a).2 h] at H;cases H
    have D: ¬l i:=λh=>by rw[(y.2 i a).2 h] at d;cases d
    exact⟨λh=>h.2.elim ahj D,λh=>D h.1⟩
   have S: ¬p i:=λh=>by rw[(L.2 i a).2 h] at G;cases G
   refine ag (rE y a) (ab.cond (λd=>ag (rE F a) (C _ ⟨λh=> .inr ⟨(y.2 i a).1 d,(F.2 i a).1 h⟩,λh=>⟨λs=>S s.1,λs=>by rw[(F.2 i a).2 s.2] at h;cases h⟩⟩)) λd=>C _ ⟨λh=>(by cases h),λ_=>⟨λs=>S s.1,λs=>by rw[(y.2 i a).2 s.1] at d;cases d⟩⟩)
  rw[be O];refine V _ ⟨i+1,O,O,λc f=>?_⟩ O;by_cases e:c=i
  ·subst e;exact P.2 h
  exact B c O
 exact(N.2 λc f=>B c O).symm
theorem YR(l:7100<=n)(q:lC p)(a b:Int):B6 n p a b=some (jl p a b):=by
 unfold B6;refine ab.eq (ag (yz l q) ?_);by_cases c:b6 p=true
 ·rw[a1 c];have C:=wQ c;have d:=q.2.1;refine bS (ab.aA (λz=>z= !(eg p a&&(eg p b&& !decide (a=b)))) (λj e=>b3 (ag (qF n d a) (ab.cond (λh=>e _ ?_) λh=>ag (qF n d b) (ab.cond (λm=>e _ ?_) λm=>e _ ?_)))) λz o=>?_)
  ·have:eg p a=false:=sK h;rw[this];rfl
  ·have i:eg p a=true:=qN h;have k:eg p b=false:=sK m;rw[i,k];rfl
  ·have i:eg p a=true:=qN h;have k:eg p b=true:=qN m;rw[i,k];simp
  subst o;unfold jl;rw[c];cases i:eg p a with
  |false=>exact bS (ab.some rfl)
  |true=>
   cases k:eg p b with
   |false=>exact bS (ab.some rfl)
   |true=>
    cases D:decide (a=b) with
    |true=>exact bS (ab.some rfl)
    |false=>
     refine b3 (cb (Ld l c a) λr ⟨w,x⟩=>cb (Ld l c b) λs ⟨y,A⟩=>?_);exact(VH O (T:=iv p) O w x y A (v:=rV p a b) (by rw[Ib,KN c])).mono λr B=>B
 rw[aY c];refine b3 (ab.aA (λz=>z=true) (λj e=>bS (e _ rfl)) λz o=>?_);rw[o];refine bS (ab.some ?_);unfold jl;rw[show b6 p=false by simpa using c];rfl
theorem X6(B:7100<=n)(W:lC p)(a b:Int):B4 n p a b=some (jl p a b):=by
 unfold B4;refine ab.eq (ab.aA (λz=>z= !(b6 p&&(eg p a&&(eg p b&& !decide (a=b))))) (λj i=>?_) λz F=>?_)
 ·refine ag (kv O W) (ab.cond (λh=>i _ ?_) λh=>?_)
  ·rw[show b6 p=false by simpa using h];rfl
  have l:b6 p=true:=by simpa using h
  rw[l] at i;refine aP (λL=>i _ ?_) λL=>aP (λX=>i _ ?_) λX=>aP (λQ=>i _ ?_) λQ=>aP (λY=>i _ ?_) λY=>i _ ?_
  ·rw[show eg p a=false from bx O];rfl
  ·rw[show eg p b=false from bx O];simp
  ·rw[show eg p a=false from bx O];rfl
  ·rw[show eg p b=false from bx O];simp
  rw[show eg p a=true from bA O,show eg p b=true from bA O];simp
 subst F;unfold jl;by_cases l:b6 p=true
 ·rw[l];have t:=wQ l;cases L:eg p a with
  |false=>exact bS (ab.some rfl)
  |true=>
   cases Q:eg p b with
   |false=>exact bS (ab.some rfl)
   |true=>
    cases u:decide (a=b) with
    |true=>exact bS (ab.some rfl)
    |false=>
     have m:=Ib.trans (KN l (a:=a) (b:=b));have k: ∀c,c<iv p->((jK (bz p.parts) p a c/\(kG (bz p.parts) p b c\/jK (bz p.parts) p b c))\/(jK (bz p.parts) p b c/\kG (bz p.parts) p a c))->rV p a b=false:=λc o h=>by
      cases G:rV p a b with
      |false=>rfl
      |true=>
       have:=m.1 G c o;rcases h with h|h
       ·exact bB h this.1
       exact bB h this.2
     refine b3 (cb (DL B l a true) λq ⟨v,C⟩=>cb (DL B l b true) λr ⟨E,D⟩=>ab.aA (λz=>z=rV p a b) (λj i=>?_) λz F=>ab.some F);refine ag (FT O O O) (ab.cond (λh=>?_) λh=>i _ ?_)
     ·have f: ∀c,c∈q->c∈r->False:=λc e d=>by
       have:q.any (λc=>decide (c∈r))=true:=iz.2 ⟨c,e,bA d⟩;rw[this] at h;cases h
      refine cb (DL B l b false) λH ⟨M,R⟩=>ag (FT O O O) (ab.cond (λh=>?_) λh=>i _ ?_)
      ·have g: ∀c,c∈q->c∈H->False:=λc e d=>by
        have:q.any (λc=>decide (c∈H))=true:=iz.2 ⟨c,e,bA d⟩;rw[this] at h;cases h
       refine cb (DL B l a false) λs ⟨l10,w⟩=>ag (FT O O O) (i _ ?_);cases I:r.any (λc=>decide (c∈s)) with
       |true=>
        obtain⟨c,e,d⟩:=iz.1 I;obtain⟨U,x,y⟩:=(D c).1 e;obtain⟨_,_,A⟩:=(w c).1 (e8 d);exact(k c.toNat x (.inr ⟨y,A⟩)).symm
       |false=>
        refine(m.2 λc o=>⟨?_,?_⟩).symm
        ·rintro⟨e,d|d⟩
         ·exact g (c:Int) ((C _).2 ⟨O,o,e⟩) ((R _).2 ⟨O,o,d⟩)
         exact f (c:Int) ((C _).2 ⟨O,o,e⟩) ((D _).2 ⟨O,o,d⟩)
        rintro⟨e,d⟩
        have:r.any (λc=>decide (c∈s))=true:=iz.2 ⟨(c:Int),(D _).2 ⟨O,o,e⟩,bA ((w _).2 ⟨O,o,d⟩)⟩;rw[this] at I;cases I
      have K:q.any (λc=>decide (c∈H))=true:=by simpa using h
      obtain⟨c,e,d⟩:=iz.1 K;obtain⟨U,x,y⟩:=(C c).1 e;obtain⟨_,_,A⟩:=(R c).1 (e8 d);exact(k c.toNat x (.inl ⟨y,.inl A⟩)).symm
     have K:q.any (λc=>decide (c∈r))=true:=by simpa using h
     obtain⟨c,e,d⟩:=iz.1 K;obtain⟨U,x,y⟩:=(C c).1 e;obtain⟨_,_,A⟩:=(D c).1 (e8 d);exact(k c.toNat x (.inl ⟨y,.inr A⟩)).symm
 rw[show b6 p=false by simpa using l];exact bS (ab.some rfl)
def fV{k:Type}(l:List k)(i:Nat)(a b:k):List k:=l.take i++b::a::l.drop (i+2)
theorem A7{k:Type}{l:List k}{a b:k}(c:l[i]? =some a)(d:l[i+1]? =some b):l=l.take i++a::b::l.drop (i+2):=by have e:l.drop i=a::l.drop (i+1):=j6 c;have h:l.drop (i+1)=b::l.drop (i+2):=j6 d;rw[<-h,<-e,q9]
noncomputable def kM(p:Prog)(a:Int):Prog×Bool:=
 if jl p a (a+1)=true then
  (match au p.parts a,au p.parts (a+1) with
  |some c,some d=>(⟨p.aR,fV p.parts a.toNat c d⟩,true)
  |_,_=>ec)
 else ec
theorem uO{b:Int}(h:jl p a b=true):b6 p=true/\(0<=a/\a<(p.parts.length:Int))/\(0<=b/\b<(p.parts.length:Int))/\Bq p a b:=by unfold jl at h;simp only[Bool.and_eq_true] at h;exact⟨h.1,e8 h.2.1,e8 h.2.2.1,Ib.1 h.2.2.2.2⟩
theorem B2(h:jl p a (a+1)=true): ∃(i:Nat) (c d:Part),a=i/\p.parts[i]? =some c/\p.parts[i+1]? =some d/\i+1<p.parts.length:=by
 obtain⟨e,k,l,_⟩:=uO h;obtain⟨i,rfl⟩: ∃i:Nat,a=i:=⟨a.toNat,O⟩
 exact⟨i,_,_,rfl,br O,br O,O⟩
theorem yu(h:jl p (i:Int) ((i:Int)+1)=true)(a:p.parts[i]? =some x)(c:p.parts[i+1]? =some P):kM p (i:Int)=(⟨p.aR,fV p.parts i x P⟩,true):=by unfold kM;rw[a1 h,bk a,show((i:Int)+1)=((i+1:Nat):Int) by omega,bk c];rfl
theorem WJ{k:Type}{l:List k}{a b:k}(c:l[i]? =some a)(d:l[i+1]? =some b){x:k}:x∈fV l i a b↔x∈l:=by
 conv=>rhs;rw[A7 c d]
 unfold fV;simp only[List.mem_append,List.mem_cons];constructor
 ·rintro(h|h|h|h)
  ·exact .inl h
  ·exact .inr (.inr (.inl h))
  ·exact .inr (.inl h)
  exact .inr (.inr (.inr h))
 rintro(h|h|h|h)
 ·exact .inl h
 ·exact .inr (.inr (.inl h))
 ·exact .inr (.inl h)
 exact .inr (.inr (.inr h))
theorem WK{k:Type}{l:List k}{a b:k}(h:i+1<l.length):(fV l i a b).length=l.length:=by unfold fV;simp only[List.length_append,List.length_cons,List.length_take,List.length_drop];omega
theorem WI{k:Type}{l:List k}{a b:k}(e:l[i]? =some a)(c:l[i+1]? =some b):(l.set i b).set (i+1) a=fV l i a b:=by
 have aH:=(bR.1 c).1;have d:(l.take i).length=i:=by rw[cG];omega
 conv=>lhs;rw[A7 e c]
 rw[mR _ _ O,d,jS,vC,mR _ _ O,d,show i+1-i=1 by omega];rfl
theorem XX{k:Type}{l:List k}{a b:k}(h:i+1<l.length):(fV l i a b)[i]? =some b/\(fV l i a b)[i+1]? =some a:=by
 have c:(l.take i).length=i:=by rw[cG];omega
 unfold fV;refine⟨?_,?_⟩
 ·rw[gF O,c,jS];rfl
 rw[gF O,c,show i+1-i=1 by omega];rfl
theorem WH{k:Type}{l:List k}{a b:k}(d:l[i]? =some a)(c:l[i+1]? =some b):fV (fV l i a b) i b a=l:=by
 have aH:=(bR.1 c).1;have e:(l.take i).length=i:=by rw[cG];omega
 conv=>rhs;rw[A7 d c]
 have h:(fV l i a b).take i=l.take i:=by
  unfold fV;rw[mQ O,hU O]
 have m:(fV l i a b).drop (i+2)=l.drop (i+2):=by
  unfold fV;rw[List.drop_append,e,vx O,show i+2-i=2 by omega];rfl
 show(fV l i a b).take i++a::b::(fV l i a b).drop (i+2)=_;rw[h,m]
theorem IW(a:b6 p=true){s:Part}(d:p.parts[i]? =some P)(c:p.parts[i+1]? =some s):b6 ⟨p.aR,fV p.parts i P s⟩=true:=by
 have aH:=(bR.1 c).1;unfold b6 kj at a⊢;simp only[Bool.and_eq_true,decide_eq_true_eq,List.all_eq_true] at a⊢;obtain⟨⟨aJ,a2,a3⟩,a4⟩:=a;refine⟨⟨aJ,by rw[WK aH];exact a2,λx h=>a3 x ((WJ d c).1 h)⟩,?_⟩;have e:=A7 d c
 have:(p.parts.map fE).sum=((fV p.parts i P s).map fE).sum:=by
  conv=>lhs;rw[e]
  unfold fV;simp only[List.map_append,List.map_cons,List.sum_append,List.sum_cons];omega
 rw[<-this];exact a4
theorem Nd(a:b6 p=true)(c:p.parts[i]? =some x)(d:p.parts[i+1]? =some P):da 1000 ⟨p.aR,fV p.parts i x P⟩:=(k0 (IW a c d)).mono O
theorem aes(m:7100<=n)(o:da 1000 p)(s: -1<=a/\a<=9):Du n p a=some (kM p a):=by
 unfold Du;rw[be (n:=a+1) O];refine ab.eq (ab.aA (λz=>z= !jl p a (a+1)) (λj e=>?_) λz q=>?_)
 ·refine aP (λh=>e _ ?_) λh=>aP (λd=>e _ ?_) λd=>ag (YR m o.sm a (a+1)) (e _ rfl)
  ·cases c:jl p a (a+1) with
   |false=>rfl
   |true=>have:=uO c;omega
  cases c:jl p a (a+1) with
  |false=>rfl
  |true=>have:=uO c;omega
 subst q;cases c:jl p a (a+1) with
 |false=>
  refine bS (ab.some ?_);unfold kM;rw[aY (by rw[c];simp)];rfl
 |true=>
  refine b3 ?_;obtain⟨i,w,l,rfl,k,d,x⟩:=B2 c;rw[yu c k d,show((i:Int)+1)=((i+1:Nat):Int) by omega];refine ag (qP O (uO c).1) (ag (bk d) (ag (bk k) (ag (dK O _) ?_)));rw[c3];have r:(p.parts.set i l)[i+1]? =some l:=by rw[ix O];exact d
  refine ag (bk r) (ag (dK (by rw[eS];omega) _) (ab.some ?_));rw[c3,WI k d]
theorem afL(m:7100<=n)(e:da 1000 p)(q: -1<=a/\a<=9):Dh n p a=some (kM p a):=by
 unfold Dh;rw[be (n:=a+1) O];refine ab.eq (ag (lj O e) (ag (X6 m e.sm a (a+1)) ?_));cases h:jl p a (a+1) with
 |false=>
  refine bS (ab.some ?_);unfold kM;rw[aY (by rw[h];simp)];rfl
 |true=>
  refine b3 ?_;obtain⟨i,k,l,rfl,c,d,r⟩:=B2 h;have bJ:=(uO h).1;have o:=e.2.1;rw[yu h c d,show((i:Int)+1)=((i+1:Nat):Int) by omega];refine ag (bk d) (ag (bk c) (ag (x:=(⟨p.aR,fV p.parts i k l⟩,true)) (ab.eq ?_) (ab.some rfl)));unfold jF;refine ag (og O e) (ag (hR O O O) ?_);rw[c3,show(0:Int).toNat=0 from rfl,oK];refine ag (x:=p.parts.take i) (cY bQ) (ag (x:=p.parts.take i++[l,k]) (cY bQ) ?_);rw[be O];refine ag (hR O O O) ?_;rw[c3,c6,show((i:Int)+2).toNat=i+2 by omega];refine ag (x:=fV p.parts i k l) ?_ (ag (kv O (Nd bJ c d).sm) ?_)
  ·rw[cY bQ,iy];rfl
  rw[IW bJ c d];exact b3 (ag (og O (Nd bJ c d)) (ab.some rfl))
theorem Ov{p:Prog}(c:b6 p=true){x:cx}(i:gw p x): ∀{Y:List cx} {m:List Int},(∀y∈Y,gw p y)->(∀y∈Y,G' p x y)->rQ p.aR m->mK p (iV p m x) Y=iV p (mK p m Y) x
 | [],m,_,_,_=>rfl
 |y::Y,m,d,e,h=>by show mK p (iV p (iV p m x) y) Y=iV p (mK p (iV p m y) Y) x;rw[e y eX m h];exact Ov c i (λz a=>d z (eA _ a)) (λz a=>e z (eA _ a)) (NI c h (d y eX))
theorem block{p:Prog}(a:b6 p=true): ∀{X Y:List cx} {m:List Int},(∀x∈X,gw p x)->(∀y∈Y,gw p y)->(∀x∈X,∀y∈Y,G' p x y)->rQ p.aR m->mK p (mK p m X) Y=mK p (mK p m Y) X
 | [],Y,m,_,_,_,_=>rfl
 |x::X,Y,m,c,e,h,i=>by show mK p (mK p (iV p m x) X) Y=mK p (iV p (mK p m Y) x) X;rw[block a (λz d=>c z (eA _ d)) e (λz d=>h z (eA _ d)) (NI a i (c x eX)),Ov a (c x eX) e (h x eX) i]
def nZ(a b:Loop):Bool:=pY a.bf b.bf&&pY a.aH b.aH
def p3(a b:List Loop):Bool:=kN nZ a b
theorem TH(d:5000<=n){a b:List Loop}(c:p6 a):sJ n a b=some (p3 a b):=by unfold sJ Cf;refine ab.eq (ag (Fh (p:=nZ) (f:=λk l=>u0 n k l) (λx h y _=>?_) (by have:=c.1;omega) (by have:=c.1;omega)) (ab.some rfl));unfold u0 nZ;refine ab.eq (ab.aA (λz=>z=(pY x.bf y.bf&&pY x.aH y.aH)) (λj i=>ag (JH d (c.2 x h).1) (ab.cond (λe=>ag (JH d (c.2 x h).2) (i _ (by rw[e];rfl))) λe=>i _ (by rw[e];rfl))) λz m=>ab.some m)
theorem Tt(m:5000<=n){a b:List Loop}(o:p6 a):DN n a b=some (p3 a b):=by
 unfold DN p3;have cE:=o.1;refine ab.eq (eK (λh=>ab.some ?_) λh=>?_)
 ·cases c:kN nZ a b with
  |false=>rfl
  |true=>exact bB (by rw[Fc c]) h
 refine ab.loop (λx:Int=> ∃i:Nat,x=i/\i<=a.length/\kN nZ (a.drop i) (b.drop i)=kN nZ a b) (λx=>a.length-x.toNat) ?_ n 0 ⟨0,rfl,O,rfl⟩ O;rintro k x ⟨i,rfl,G,c⟩ y;refine aP (λA=>?_) λB=>ab.some ?_
 ·have p:i<a.length:=O
  have q:i<b.length:=O
  have d:=br p;have l:=br q;have r:=o.2 _ (bE d);rw[lr p,lr q] at c;simp only[kN] at c;refine ab.aA (λz=>z= !nZ a[i] b[i]) (λj s=>?_) λz C=>?_
  ·refine ag (bk d) (ag (bk l) (ag (JF m r.1) (ab.cond (λe=>s _ ?_) λe=>ag (JF m r.2) (s _ ?_))))
   ·unfold nZ;rw[sK e];rfl
   unfold nZ;rw[qN e];rfl
  subst C;cases w:nZ a[i] b[i] with
  |false=>rw[w] at c;exact bS (ab.some c)
  |true=>
   rw[w,ff] at c;refine b3 ?_;rw[be O];exact y _ ⟨i+1,O,O,c⟩ O
 have D:a.drop i=[]:=kR O;have F:b.drop i=[]:=kR O;rw[D,F] at c;exact c
def iE:List Int->List Int->Bool
 |a::as,b::c=>if a=b then iE as c else decide (a<b)
 | [],_::_=>true
 |_,[]=>false
theorem MK{p:List Int}(B:p.length<n)(C:p.length<=1000)(D:q.length<=1000):yT n p q=some (iE p q):=by
 unfold yT;refine ab.eq (ab.loop (λx:Int=> ∃i:Nat,x=i/\i<=p.length/\i<=q.length/\iE (p.drop i) (q.drop i)=iE p q) (λx=>p.length-x.toNat) ?_ n 0 ⟨0,rfl,O,O,rfl⟩ O);rintro c x ⟨i,rfl,F,G,a⟩ o;refine ab.aA (λz=>z=decide (i<p.length/\i<q.length)) (λj m=>aP (λh=>m _ ?_) λh=>m _ ?_) λz r=>?_
 ·rw[fg];simp only[decide_eq_true_eq];omega
 ·exact(bx O).symm
 subst r;refine aP (λh=>?_) λh=>ab.some ?_
 ·have d:=br h.1;have k:=br h.2;rw[lr h.1,lr h.2] at a;simp only[iE] at a;refine ag (bk d) (ag (bk k) (eK (λl=>ab.some ?_) λs=>?_))
  ·rw[aY l] at a;exact a
  rw[a1 s] at a;rw[be O];exact o _ ⟨i+1,O,O,O,a⟩ O
 rw[<-a];by_cases e:i<p.length
 ·have w:q.drop i=[]:=kR O;rw[w,lr e];simp only[iE];exact bx O
 have y:p.drop i=[]:=kR O;rw[y];by_cases A:i<q.length
 ·rw[lr A];simp only[iE];exact bA O
 rw[kR (O:q.length<=i)];simp only[iE];exact bx O
theorem Wm(n:Nat)(x y:Int):B' n x y=some (if x<y then-1 else if y<x then 1 else 0):=by
 unfold B' Cn;simp only[Option.bind,decide_true,Bool.not_true,cond_false];by_cases h:x<y
 ·rw[bA h,a1 h];rfl
 rw[bx h,aY h];by_cases a:y<x
 ·rw[bA a,a1 a];rfl
 rw[bx a,aY a];rfl
theorem Yr{p:List Int}(D:p.length<n)(F:p.length<=1000)(G:q.length<=1000):zD n p q=some (iE p q):=by
 unfold zD I';refine ab.eq (cb (P:=λc:Int=>decide (c<0)=iE p q) ?_ λc y=>ab.some y);refine ab.loop (λx:Int=> ∃i:Nat,x=i/\i<=p.length/\i<=q.length/\iE (p.drop i) (q.drop i)=iE p q) (λx=>p.length-x.toNat) ?_ n 0 ⟨0,rfl,O,O,rfl⟩ O;rintro k x ⟨i,rfl,H,I,a⟩ z;refine aP (λA=>?_) λB=>?_
 ·have e:i<p.length:=O
  have l:=br e;refine ag (bk l) (aP (λh=>ab.some ?_) λh=>?_)
  ·rw[<-a,kR (O:q.length<=i),lr e];simp[iE]
  have s:i<q.length:=O
  have m:=br s;rw[lr e,lr s] at a;simp only[iE] at a;refine ag (bk m) (ag (Wm n _ _) ?_);by_cases d:p[i]<q[i]
  ·rw[a1 d];refine eK (λ_=>ab.some ?_) λo=>bB o O;rw[aY O] at a;rw[<-a,bA d];rfl
  rw[aY d];by_cases w:q[i]<p[i]
  ·rw[a1 w];refine eK (λ_=>ab.some ?_) λo=>bB o O;rw[aY O] at a;rw[<-a,bx d];rfl
  rw[aY w];refine eK (λr=>bB rfl r) λ_=>?_;rw[a1 O] at a;rw[be O];exact z _ ⟨i+1,O,O,O,a⟩ O
 have C:p.drop i=[]:=kR O;rw[C] at a;refine aP (λh=>ab.some ?_) λh=>ab.some ?_
 ·rw[<-a,lr (O:i<q.length)];rfl
 rw[<-a,kR (O:q.length<=i)];rfl
def kY(p:Prog)(i many:Nat)(a:List Part):Prog:=⟨p.aR,p.parts.take i++a++p.parts.drop (i+many)⟩
theorem AS(a:da 900 p)(k:ys.length<=4)(d: ∀y∈ys,fA 1000 y):da 1000 (kY p i many ys):=by
 have e:=a.2.1;refine⟨(a.mono (O:900<=1000)).1,?_,λx c=>?_⟩
 ·show(p.parts.take i++ys++p.parts.drop (i+many)).length<=1000;simp only[List.length_append,List.length_take,List.length_drop];omega
 have c:x∈p.parts.take i++ys++p.parts.drop (i+many):=c;simp only[List.mem_append] at c;rcases c with (h|h)|h
 ·exact(a.mono (O:900<=1000)).2.2 x (gh h)
 ·exact d x h
 exact(a.mono (O:900<=1000)).2.2 x (eY h)
theorem Fl(e:7000<=n)(a:da 900 p)(o:i+many<=p.parts.length)(k:ys.length<=4)(l: ∀y∈ys,fA 1000 y):jF n p (i:Int) (many:Int) ys=some (fP (kY p i many ys)):=by
 have m:=a.2.1;have c:=a.mono (O:900<=1000);have d:=AS a (i:=i) (many:=many) k l;unfold jF fP;refine ab.eq (ag (og O c) (ag (hR O O O) ?_));rw[c3,show(0:Int).toNat=0 from rfl,oK];refine ag (x:=p.parts.take i) (cY bQ) (ag (x:=p.parts.take i++ys) (cY bQ) ?_);rw[be O];refine ag (hR O O O) ?_;rw[c3,c6,show((i:Int)+(many:Int)).toNat=i+many by omega];refine ag (x:=(kY p i many ys).parts) ?_ ?_;rotate_left;show ab (Option.bind (k2 n (kY p i many ys)) _) _;refine(ag (kv e d.sm) (ab.cond (λh=>ab.some ?_) λh=>?_))
 ·rw[aY (by simpa using h)]
 ·rw[a1 (by simpa using h)];exact ag (og O d) (ab.some rfl)
 rw[cY bQ];rfl
def nd(p:Prog)(c:Int)(d:fL):Bool:=match (bz p.parts)[d.eE.toNat]?,(bz p.parts)[d.eG.toNat]? with
 |some a,some b=>decide (a.part=c)&&(decide (b.part=c+1)&&iE b.cM a.cM)
 |_,_=>false
def rI(a c:Part):Part:=⟨a.nest,a.body++c.body⟩
abbrev nU(p:Prog):List fL:=gf p (bz p.parts) (bz p.parts).length
def GO(p:Prog)(a:Int)(c d:Part):Bool:=p3 c.nest d.nest&& !(nU p).any (nd p a)
def uu(p:Prog)(a:Int):Prog×Bool:=
 if b6 p=true/\eg p a=true then
  (match au p.parts a,au p.parts (a+1) with
  |some c,some d=>if GO p a c d=true then fP (kY p a.toNat 2 [rI c d]) else ec
  |_,_=>ec)
 else ec
theorem AD(c:b6 p=true){d:fL}(i:d∈nU p): ∃(s t:Nat) (a b:cx),d.eE=s/\d.eG=t/\(bz p.parts)[s]? =some a/\(bz p.parts)[t]? =some b/\s<t/\a.cM.length<=4/\b.cM.length<=4:=by obtain⟨s,t,k,l,_,rfl⟩:=MV.1 i;have e:=br (O:s<(bz p.parts).length);have h:=br l;exact⟨s,t,_,_,rfl,rfl,e,h,k,Qa c (iP (bE e)),Qa c (iP (bE h))⟩
theorem zG(c:b6 p=true):(nU p).length<=14400:=by have d:=yZ p (bz p.parts) (bz p.parts).length;have a:=(eC c).2.2.2.2;have e:(bz p.parts).length*(bz p.parts).length<=120*120:=nH a a;exact gE d e
theorem zL(m:7000<=n)(i:da 1000 p)(a:Int):j9 n p a (-1)=some (if b6 p=true/\eg p a=true then(p,true) else ec):=by
 unfold j9;refine ab.eq (ab.aA (λz=>z= !(b6 p&&eg p a)) (λj d=>?_) λz o=>?_)
 ·refine ag (ur m i.sm) (ab.cond (λh=>d _ (by rw[sK h];rfl)) λh=>?_);have bJ:=qN h;refine ag (qF n i.2.1 a) (ab.cond (λe=>d _ ?_) λe=>eK (λh=>(h rfl).elim) λ_=>d _ ?_)
  ·rw[bJ,show eg p a=false from sK e];rfl
  rw[bJ,show eg p a=true from qN e];rfl
 subst o;refine ab.cond (λh=>ab.some ?_) λh=>?_
 ·have:=sK h;rw[aY λk=>by rw[k.1,k.2] at this;cases this];rfl
 have:=qN h;simp only[Bool.and_eq_true] at this;obtain⟨bJ,l⟩:=this;rw[a1 ⟨bJ,l⟩];have c:0<=a/\a<(p.parts.length:Int):=e8 l;obtain⟨x,q,_⟩:=gy c.1 c.2;exact ag (qP O bJ) (ag q (ab.some rfl))
theorem aar{s:List Part}{j:Nat}(c:i<j)(d:j<=s.length): ∃r,uS n s (i:Int) (j:Int)=some r/\r.2.take r.1=s.take i++s.drop j:=by
 refine⟨(eO s i j,j1 s i j (⟨[],[]⟩:Part)),?_,?_⟩
 ·unfold uS;rw[bA (show(0:Int)<=(i:Int) by omega),bA (show(i:Int)<=(j:Int) by omega),bA (show(j:Int)<=(s.length:Int) by omega),bx (show¬(i:Int)=(j:Int) by omega)];rfl
 dsimp only;have a:(s.take (i:Int).toNat++s.drop (j:Int).toNat).length=eO s i j:=by
  unfold eO;simp only[List.length_append,List.length_take,List.length_drop];omega
 unfold j1;rw[mQ (by rw[a];exact cQ _),hU (l:=s.take (i:Int).toNat++s.drop (j:Int).toNat) (by rw[a];exact cQ _),c3,c3]
theorem MB(c:b6 p=true)(d:x∈p.parts)(e:P∈p.parts):fA 1000 (rI x P):=by
 obtain⟨_,_,a⟩:=k0 c;obtain⟨aJ,a2,a3⟩:=a x d;obtain⟨l,m,i⟩:=a P e;refine⟨aJ.mono O,?_,λs k=>?_⟩
 ·show(x.body++P.body).length<=1000;rw[dE];omega
 rcases d'.1 (show s∈x.body++P.body from k) with h|h
 ·exact(a3 s h).mono O
 exact(i s h).mono O
theorem aem(cJ:20000<=n)(H:da 1000 p)(a': -1<=c/\c<=9):DA n p c=some (uu p c):=by
 unfold DA uu;refine ab.eq (ag (zL O H c) ?_);by_cases A:b6 p=true/\eg p c=true
 ·rw[a1 A,a1 A];obtain⟨o,S⟩:=A;have T:0<=c/\c<(p.parts.length:Int):=e8 S;obtain⟨i,rfl⟩: ∃i:Nat,c=i:=⟨c.toNat,O⟩
  have e:=br (O:i<p.parts.length);have I:=bk e;generalize V:p.parts[i]=l at I e;have BV:=(eC o).2.2.1;refine bS (ag I ?_);rw[be (n:=(i:Int)+1) O,be (n:=(i:Int)+2) O,I];by_cases B:i+1<p.parts.length
  ·have w:=br B;generalize agj:p.parts[i+1]=m at w;have K:au p.parts ((i:Int)+1)=some m:=bk w;have m1:=bE e;have f:=bE w;rw[K];dsimp only;refine ab.aA (λz=>z= !p3 l.nest m.nest) (λj q=>aP (λh=>bB h O) λ_=>ag rfl (ag (TH O (H.sm.2.2 l m1).1) (q _ rfl))) λz C=>?_;subst C;unfold GO;cases hne:p3 l.nest m.nest with
   |false=>exact bS (ab.some rfl)
   |true=>
    refine b3 (ag (yz O H.sm) ?_);rw[a1 o];refine bS (ag (E8 O o) ?_);have L:=zG o;have Q: ∀d∈nU p,d∈nU p:=λ_ h=>h;show ab (bp _ n 0) _;rw[ff];generalize g:nU p=D at L Q;rw[show gf p (bz p.parts) (bz p.parts).length=D from g];refine ab.loop (λx:Int=> ∃k:Nat,x=k/\k<=D.length/\(D.take k).any (nd p (i:Int))=false) (λx=>D.length-x.toNat) ?_ n 0 ⟨0,rfl,O,rfl⟩ O;rintro R x ⟨k,rfl,hk,U⟩ b7;refine aP (λhlt=>?_) λiN=>?_
    ·have cv:=br (O:k<D.length);generalize HB:D[k]=d at cv;obtain⟨s,t,a,b,u,v,E,M,pe,Il,Ip⟩:=AD o (g▸bE cv);refine ag (bk cv) (ag (x:=a) (by rw[u];exact bk E) (ag (x:=b) (by rw[v];exact bk M) ?_));have F:nd p (i:Int) d=(decide (a.part=(i:Int))&&(decide (b.part=(i:Int)+1)&&iE b.cM a.cM)):=by
      unfold nd;rw[u,v,Int.toNat_natCast,Int.toNat_natCast,E,M]
     refine ab.aA (λz=>z=nd p (i:Int) d) (λj q=>?_) λz C=>?_
     ·rw[F] at q;refine aP (λG=>aP (λB=>ag (Yr O O O) (q _ ?_)) λB=>q _ ?_) λG=>q _ ?_
      ·rw[bA G,bA B];rfl
      ·rw[bA G,bx B];rfl
      rw[bx G];rfl
     subst C;refine ab.cond (λh=>ab.some ?_) λh=>?_
     ·rw[aY]; · rfl
      have:D.any (nd p (i:Int))=true:=iz.2 ⟨d,bE cv,h⟩;rw[this];simp
     rw[be O];exact b7 _ ⟨k+1,O,O,by rw[gp cv,tb,U];simp[h]⟩ O
    rw[hU O] at U;rw[U,a1 (by rfl)];have dj:=AS (i:=i) (many:=2) (ys:=[rI l m]) ((k0 o).mono (O:4<=900)) aV λy N=>by rw[mU] at N;subst N;exact MB o m1 f
    obtain⟨_,_,P⟩:=k0 o;have cU:=(P l m1).2.1;have cu:=(P m f).2.1;obtain⟨r,W,X⟩:=aar (n:=n) (s:=p.parts.set i (rI l m)) (i:=i+1) (j:=i+2) O (by rw[eS];omega);refine ag rfl (ag (x:=l.body++m.body) (cY O) (ag (x:=p.parts.set i (rI l m)) (dK O _) (ag (x:=r) W ?_)));have Y:(⟨p.aR,r.2.take r.1⟩:Prog)=kY p i 2 [rI l m]:=by
     unfold kY;rw[X];congr 1;rw[List.take_set,pS O,en,e,mR _ _ (by rw[cG];omega)]
     have:i-(p.parts.take i).length=0:=by rw[cG];omega
     rw[this];rfl
    rw[Y,c3];exact ag (qG O dj) (ab.some rfl)
  have K:au p.parts ((i:Int)+1)=none:=w5 O;rw[K];refine ab.aA (λz=>z=true) (λj q=>aP (λ_=>q _ rfl) λh=>bB (show(p.parts.length:Int)<=(i:Int)+1 by omega) h) λz C=>?_;rw[C];exact bS (ab.some rfl)
 rw[aY A,aY A];exact b3 (ab.some rfl)
theorem afF(cJ:20000<=n)(A:da 1000 p)(a': -1<=c/\c<=9):Dp n p c=some (uu p c):=by
 unfold Dp uu;refine ab.eq (ag (lj O A) ?_);by_cases F:b6 p=true/\eg p c=true
 ·rw[a1 F];obtain⟨e,R⟩:=F;have M:0<=c/\c<(p.parts.length:Int):=e8 R;obtain⟨i,rfl⟩: ∃i:Nat,c=i:=⟨c.toNat,O⟩
  have m:=br (O:i<p.parts.length);have U:=bk m;generalize N:p.parts[i]=o at U m;have H:=(eC e).2.2.1;rw[be (n:=(i:Int)+1) O,be (n:=(p.parts.length:Int)-1) O,U];by_cases q:i+1<p.parts.length
  ·have r:=br q;generalize P:p.parts[i+1]=B at r;have I:au p.parts ((i:Int)+1)=some B:=bk r;have m1:=bE m;have W:=bE r;rw[I];dsimp only;refine ab.aA (λz=>z= !p3 o.nest B.nest) (λj l=>ag (kv O A.sm) ?_) λz w=>?_
   ·rw[e];refine b3 (aP (λh=>bB h O) λ_=>aP (λh=>bB h O) λ_=>ag rfl (ag rfl (ag (Tt O (A.sm.2.2 o m1).1) (l _ rfl))))
   subst w;unfold GO;cases S:p3 o.nest B.nest with
   |false=>exact bS (ab.some rfl)
   |true=>
    refine b3 (ag (uL O e) (ag (EX O e) ?_));have K:=zG e;rw[ff];generalize X:nU p=D at K;rw[show gf p (bz p.parts) (bz p.parts).length=D from X];refine ab.loop (λx:Int=> ∃k:Nat,x=k/\k<=D.length/\(D.take k).any (nd p (i:Int))=false) (λx=>D.length-x.toNat) ?_ n 0 ⟨0,rfl,O,rfl⟩ O;rintro L x ⟨k,rfl,hk,Q⟩ T;refine aP (λV=>?_) λiN=>?_
    ·have cv:=br (O:k<D.length);generalize HB:D[k]=d at cv;obtain⟨s,t,a,b,Y,f,g,u,pe,Il,Ip⟩:=AD e (X▸bE cv);refine ag (bk cv) (ag (x:=a) (by rw[Y];exact bk g) (ag (x:=b) (by rw[f];exact bk u) ?_));have C:nd p (i:Int) d=(decide (a.part=(i:Int))&&(decide (b.part=(i:Int)+1)&&iE b.cM a.cM)):=by
      unfold nd;rw[Y,f,Int.toNat_natCast,Int.toNat_natCast,g,u]
     refine ab.aA (λz=>z=nd p (i:Int) d) (λj l=>?_) λz w=>?_
     ·rw[C] at l;refine aP (λG=>aP (λq=>ag (MK O O O) (l _ ?_)) λq=>l _ ?_) λG=>l _ ?_
      ·rw[bA G,bA q];rfl
      ·rw[bA G,bx q];rfl
      rw[bx G];rfl
     subst w;refine ab.cond (λh=>ab.some ?_) λh=>?_
     ·rw[aY]; · rfl
      have:D.any (nd p (i:Int))=true:=iz.2 ⟨d,bE cv,h⟩;rw[this];simp
     rw[be O];exact T _ ⟨k+1,O,O,by rw[gp cv,tb,Q];simp[h]⟩ O
    rw[hU O] at Q;rw[Q,a1 (by rfl)];obtain⟨_,_,v⟩:=k0 e;have cU:=(v o m1).2.1;have cu:=(v B W).2.1;refine ag rfl (ag (x:=o.body) (cY bQ) (ag rfl (ag (x:=o.body++B.body) (cY O) ?_)));have hw:=Fl (n:=n) O ((k0 e).mono (O:4<=900)) (i:=i) (many:=2) O (ys:=[rI o B]) aV λy E=>by rw[mU] at E;subst E;exact MB e m1 W
    rw[c3];exact ag hw (ab.some rfl)
  have I:au p.parts ((i:Int)+1)=none:=w5 O;rw[I];refine ab.aA (λz=>z=true) (λj l=>ag (kv O A.sm) ?_) λz w=>?_
  ·rw[e];exact b3 (aP (λh=>bB h O) λ_=>aP (λ_=>l _ rfl) λh=>bB (show(p.parts.length:Int)-1<=(i:Int) by omega) h)
  rw[w];exact bS (ab.some rfl)
 rw[aY F];refine ab.aA (λz=>z=true) (λj l=>ag (kv O A.sm) ?_) λz w=>by rw[w];exact bS (ab.some rfl)
 by_cases e:b6 p=true
 ·have R: ¬(0<=c/\c<(p.parts.length:Int)):=λh=>F ⟨e,bA h⟩;rw[e];have H:=A.2.1;rw[be (n:=(p.parts.length:Int)-1) O];exact b3 (aP (λ_=>l _ rfl) λh=>aP (λ_=>l _ rfl) λq=>bB (show(p.parts.length:Int)-1<=c by omega) q)
 rw[show b6 p=false by simpa using e];exact bS (l _ rfl)
def nf(p:Prog)(c k:Int)(d:fL):Bool:=match (bz p.parts)[d.eE.toNat]?,(bz p.parts)[d.eG.toNat]? with
 |some a,some b=>decide (a.part=c)&&(decide (b.part=c)&&(decide (k<=a.stmt)&&decide (b.stmt<k)))
 |_,_=>false
def G1(p:Prog)(a k:Int)(P:Part):Bool:=decide (1<=k/\k<(P.body.length:Int))&& !(nU p).any (nf p a k)
def nQ(P:Part)(k:Nat):Part:=⟨P.nest,P.body.take k⟩
def rP(P:Part)(k:Nat):Part:=⟨P.nest,P.body.drop k⟩
def um(p:Prog)(a k:Int):Prog×Bool:=
 if b6 p=true/\eg p a=true then
  (match au p.parts a with
  |some P=>if G1 p a k P=true then fP (kY p a.toNat 1 [nQ P k.toNat,rP P k.toNat]) else ec
  |none=>ec)
 else ec
theorem Mv(d:b6 p=true)(e:P∈p.parts)(k:Nat): ∀y∈[nQ P k,rP P k],fA 1000 y:=by
 obtain⟨_,_,h⟩:=k0 d;obtain⟨aJ,a2,a3⟩:=h P e;intro y c;simp only[List.mem_cons,List.not_mem_nil,or_false] at c;rcases c with rfl|rfl
 ·refine⟨aJ.mono O,?_,λs a=>(a3 s (gh a)).mono O⟩;show(P.body.take k).length<=1000;rw[cG];omega
 refine⟨aJ.mono O,?_,λs a=>(a3 s (eY a)).mono O⟩;show(P.body.drop k).length<=1000;rw[fs];omega
theorem NX{s:List Part}{v:List Part}(a:i<=s.length)(c:s.length+v.length<=1000000000):uQ n s (i:Int) v=some (s.take i++v++s.drop i):=by unfold uQ;rw[bA (show(0:Int)<=(i:Int) by omega),bA (show(i:Int)<=(s.length:Int) by omega),cond_true,cond_true,c3];exact cY (by simp only[List.length_append,List.length_take,List.length_drop];omega)
theorem ael(cJ:20000<=n)(W:da 1000 p){k:Int}(a': -1<=c/\c<=9):Ck n p c k=some (um p c k):=by
 unfold Ck um;refine ab.eq (ag (zL O W c) ?_);by_cases o:b6 p=true/\eg p c=true
 ·rw[a1 o,a1 o];obtain⟨l,M⟩:=o;have N:0<=c/\c<(p.parts.length:Int):=e8 M;obtain⟨i,rfl⟩: ∃i:Nat,c=i:=⟨c.toNat,O⟩
  have e:=br (O:i<p.parts.length);have y:=bk e;generalize S:p.parts[i]=P at y e;have T:=(eC l).2.2.1;have m1:=bE e;have r:=(eC l).2.2.2.1 P m1;obtain⟨A,B⟩:=hl r;obtain⟨_,V,PE,_⟩:=fS r;refine bS (ag y ?_);rw[be (n:=(i:Int)+1) O,be (n:=(P.body.length:Int)-1) O,y];dsimp only;refine ab.aA (λz=>z= !decide (1<=k/\k<(P.body.length:Int))) (λj X=>ag (d6 n k 1 _) (X _ ?_)) λz C=>?_
  ·congr 1;rw[fg];simp only[decide_eq_true_eq];omega
  subst C;unfold G1;cases F:decide (1<=k/\k<(P.body.length:Int)) with
  |false=>exact bS (ab.some rfl)
  |true=>
   have hk:=e8 F;obtain⟨t,rfl⟩: ∃t:Nat,k=t:=⟨k.toNat,O⟩
   refine b3 (ag (yz O W.sm) ?_);rw[a1 l];refine bS (ag (E8 O l) ?_);have G:=zG l;show ab (bp _ n 0) _;rw[ff];generalize Y:nU p=D at G;rw[show gf p (bz p.parts) (bz p.parts).length=D from Y];refine ab.loop (λx:Int=> ∃j:Nat,x=j/\j<=D.length/\(D.take j).any (nf p (i:Int) (t:Int))=false) (λx=>D.length-x.toNat) ?_ n 0 ⟨0,rfl,O,rfl⟩ O;rintro H x ⟨j,rfl,X,I⟩ b7;refine aP (λhlt=>?_) λiN=>?_
   ·have cv:=br (O:j<D.length);generalize HB:D[j]=d at cv;obtain⟨s,u,a,b,f,g,v,E,pe,Il,Ip⟩:=AD l (Y▸bE cv);refine ag (bk cv) (ag (x:=a) (by rw[f];exact bk v) (ag (x:=b) (by rw[g];exact bk E) ?_));have w:nf p (i:Int) (t:Int) d=(decide (a.part=(i:Int))&&(decide (b.part=(i:Int))&&(decide ((t:Int)<=a.stmt)&&decide (b.stmt<(t:Int))))):=by
     unfold nf;rw[f,g,Int.toNat_natCast,Int.toNat_natCast,v,E]
    refine ab.aA (λz=>z=nf p (i:Int) (t:Int) d) (λq m=>?_) λz C=>?_
    ·rw[w] at m;refine aP (λK=>aP (λL=>aP (λQ=>m _ ?_) λQ=>m _ ?_) λL=>m _ ?_) λK=>m _ ?_
     ·rw[bA K,bA L,bA Q];simp
     ·rw[bx Q];simp
     ·rw[bx L];simp
     rw[bx K];rfl
    subst C;refine ab.cond (λh=>ab.some ?_) λh=>?_
    ·rw[aY]; · rfl
     have:D.any (nf p (i:Int) (t:Int))=true:=iz.2 ⟨d,bE cv,h⟩;rw[this];simp
    rw[be O];exact b7 _ ⟨j+1,O,O,by rw[gp cv,tb,I];simp[h]⟩ O
   rw[hU O] at I;rw[I,a1 (by rfl)];have m:=AS (i:=i) (many:=1) (ys:=[nQ P t,rP P t]) ((k0 l).mono (O:4<=900)) aV (Mv l m1 t);refine ag (KX O A B) (ag (hR O O O) ?_);rw[c3,c3,c6];refine ag (x:=P.body.drop t) ?_ (ag (hR O O O) ?_)
   ·unfold Jn
    have:(P.body.drop t).isEmpty=false:=by
     cases R:P.body.drop t with
     |nil=>
      have:=congrArg List.length R;rw[fs,List.length_nil] at this;omega
     |cons=>rfl
    rw[this,cond_false];rw[cY bQ];rfl
   rw[c3,show(0:Int).toNat=0 from rfl,oK];refine ag (x:=p.parts.set i (nQ P t)) (dK O _) (ag (NX (i:=i+1) (by rw[eS];omega) (by rw[eS];simp;omega)) ?_);have U:(⟨p.aR,(p.parts.set i (nQ P t)).take (i+1)++[rP P t]++(p.parts.set i (nQ P t)).drop (i+1)⟩:Prog)=kY p i 1 [nQ P t,rP P t]:=by
    unfold kY;congr 1;rw[List.take_set,pS O,en,e,mR _ _ (by rw[cG];omega)]
    have:i-(p.parts.take i).length=0:=by rw[cG];omega
    rw[this];simp
   show ab (Option.bind (lL n (⟨p.aR,(p.parts.set i (nQ P t)).take (i+1)++[rP P t]++(p.parts.set i (nQ P t)).drop (i+1)⟩:Prog)) _) _;rw[U];simp only[Int.toNat_natCast];exact ag (qG O m) (ab.some rfl)
 rw[aY o,aY o];exact b3 (ab.some rfl)
theorem afE(cJ:20000<=n)(B:da 1000 p){k:Int}(a': -1<=c/\c<=9):B9 n p c k=some (um p c k):=by
 unfold B9 um;refine ab.eq (ag (lj O B) ?_);by_cases A:b6 p=true/\eg p c=true
 ·rw[a1 A];obtain⟨e,Q⟩:=A;have g:0<=c/\c<(p.parts.length:Int):=e8 Q;obtain⟨i,rfl⟩: ∃i:Nat,c=i:=⟨c.toNat,O⟩
  have l:=br (O:i<p.parts.length);have R:=bk l;generalize v:p.parts[i]=P at R l;have E:=(eC e).2.2.1;have m1:=bE l;have C:=(eC e).2.2.2.1 P m1;obtain⟨_,M,N,_⟩:=fS C;rw[R];dsimp only;refine ab.aA (λz=>z= !decide (1<=k/\k<(P.body.length:Int))) (λj m=>ag (kv O B.sm) ?_) λz o=>?_
  ·rw[e];refine b3 (aP (λh=>bB h O) λ_=>aP (λh=>bB h O) λ_=>aP (λh=>m _ ?_) λh=>ag rfl (m _ ?_))
   ·rw[bx O];rfl
   rw[fg];simp only[Bool.not_eq_true',decide_eq_true_eq,decide_eq_false_iff_not];omega
  subst o;unfold G1;cases F:decide (1<=k/\k<(P.body.length:Int)) with
  |false=>exact bS (ab.some rfl)
  |true=>
   have hk:=e8 F;obtain⟨t,rfl⟩: ∃t:Nat,k=t:=⟨k.toNat,O⟩
   refine b3 (ag (uL O e) (ag (EX O e) ?_));have G:=zG e;rw[ff];generalize U:nU p=D at G;rw[show gf p (bz p.parts) (bz p.parts).length=D from U];refine ab.loop (λx:Int=> ∃j:Nat,x=j/\j<=D.length/\(D.take j).any (nf p (i:Int) (t:Int))=false) (λx=>D.length-x.toNat) ?_ n 0 ⟨0,rfl,O,rfl⟩ O;rintro H x ⟨j,rfl,m,I⟩ S;refine aP (λT=>?_) λV=>?_
   ·have cv:=br (O:j<D.length);generalize HB:D[j]=d at cv;obtain⟨s,u,a,b,W,X,Y,f,pe,Il,Ip⟩:=AD e (U▸bE cv);refine ag (bk cv) (ag (x:=a) (by rw[W];exact bk Y) (ag (x:=b) (by rw[X];exact bk f) ?_));have r:nf p (i:Int) (t:Int) d=(decide (a.part=(i:Int))&&(decide (b.part=(i:Int))&&(decide ((t:Int)<=a.stmt)&&decide (b.stmt<(t:Int))))):=by
     unfold nf;rw[W,X,Int.toNat_natCast,Int.toNat_natCast,Y,f]
    refine ab.aA (λz=>z=nf p (i:Int) (t:Int) d) (λq w=>?_) λz o=>?_
    ·rw[r] at w;refine aP (λK=>aP (λy=>aP (λL=>w _ ?_) λL=>w _ ?_) λy=>w _ ?_) λK=>w _ ?_
     ·rw[bA K,bA y,bA L];simp
     ·rw[bx L];simp
     ·rw[bx y];simp
     rw[bx K];rfl
    subst o;refine ab.cond (λh=>ab.some ?_) λh=>?_
    ·rw[aY]; · rfl
     have:D.any (nf p (i:Int) (t:Int))=true:=iz.2 ⟨d,bE cv,h⟩;rw[this];simp
    rw[be O];exact S _ ⟨j+1,O,O,by rw[gp cv,tb,I];simp[h]⟩ O
   rw[hU O] at I;rw[I,a1 (by rfl)];refine ag rfl (ag (hR O O O) (ag (hR O O O) ?_));rw[c3,c3,c6,show(0:Int).toNat=0 from rfl,oK,c3];have hw:=Fl (n:=n) O ((k0 e).mono (O:4<=900)) (i:=i) (many:=1) O (ys:=[nQ P t,rP P t]) aV (Mv e m1 t);exact ag hw (ab.some rfl)
 rw[aY A];refine ab.aA (λz=>z=true) (λj m=>ag (kv O B.sm) ?_) λz o=>by rw[o];exact bS (ab.some rfl)
 by_cases e:b6 p=true
 ·have Q: ¬(0<=c/\c<(p.parts.length:Int)):=λh=>A ⟨e,bA h⟩;rw[e];exact b3 (aP (λ_=>m _ rfl) λh=>aP (λ_=>m _ rfl) λy=>bB (show(p.parts.length:Int)<=c by omega) y)
 rw[show b6 p=false by simpa using e];exact bS (m _ rfl)
def jZ(k:Nat)(x:ay):ay:=⟨(x.aT.take k++0::x.aT.drop k).take 4,x.const⟩
def ga(c:Int):ay:=⟨[0,0,0,0],c⟩
def mP(k:Nat)(s c:Int):ay:=⟨[0,0,0,0].set k s,c⟩
theorem NZ(k:Nat): ∀x,cP x=true->dq 4 (jZ k x):=λx a=>by unfold dq jZ;rw[cG];omega
theorem Xj(l:5000<=n)(m:k<3): ∀x,cP x=true->uU n x (k:Int)=some (jZ k x):=λx h=>by obtain⟨i,_,_⟩:=fu h;obtain⟨a,b,c,d,e⟩:=kX i;unfold uU;rw[zv n x h];obtain⟨cs,ka⟩:=x;dsimp only at e;subst e;rcases(O:k=0\/k=1\/k=2) with rfl|rfl|rfl<;>rfl
theorem abv(m:Nat)(a b c d e:Int)(B:ay)(h:k<3):jG (m+6) ⟨[a,b,c,d],e⟩ 2 (k:Int) B=some (jZ k ⟨[a,b,c,d],e⟩):=by rcases(O:k=0\/k=1\/k=2) with rfl|rfl|rfl<;>rfl
theorem YH(h:k<3)(B:ay): ∀n,5000<=n-> ∀x,cP x=true->jG n x 2 (k:Int) B=some (jZ k x):=λn o x i=>by
 obtain⟨m,rfl⟩: ∃m,n=m+6:=⟨n-6,O⟩
 obtain⟨l,_,_⟩:=fu i;obtain⟨a,b,c,d,e⟩:=kX l;obtain⟨cs,ka⟩:=x;dsimp only at e;subst e;exact abv m a b c d ka B h
def jP(l:List ay):Bool:=l.all λa=>decide (eL a.aT=0)
def eN(l:Loop):Bool:=decide (l.bf.length=1)&&(decide (l.aH.length=1)&&(jP l.bf&&jP l.aH))
def df(l:List ay):Int:=(l.headD ⟨[],0⟩).const
theorem KM(c:5000<=n){l:List ay}(i:l.length<=2)(d: ∀x∈l,cP x=true):yW n l=some (jP l):=by
 unfold yW;rw[xW (p:=λa=>decide (0<(eL a.aT:Int))) (λx e=>by
  unfold Dt;rw[y3 c (show x.aT.length<=1000 by have:=(fu (d x e)).1;omega)];rfl) O O]
 show some (!l.any _)=_;congr 1;unfold jP;rw[List.not_any_eq_all_not];congr 1;funext a;by_cases h:eL a.aT=0
 ·simp[h]
 have:0<(eL a.aT:Int):=O
 simp[h];omega
theorem Fq(e:5000<=n)(h:jY l):u1 n l=some (if eN l=true then(df l.bf,df l.aH,true) else(0,0,false)):=by
 obtain⟨⟨i,k⟩,m,o⟩:=h;unfold u1;refine ab.eq (ab.aA (λz=>z= !eN l) (λj a=>?_) λz p=>?_)
 ·refine eK (λh=>a _ ?_) λh=>eK (λq=>a _ ?_) λq=>ag (KM e i k) (ab.cond (λc=>a _ ?_) λc=>ag (KM e m o) (a _ ?_))
  ·unfold eN;rw[bx (show¬l.bf.length=1 by omega)];rfl
  ·unfold eN;rw[bx (show¬l.aH.length=1 by omega),Bool.false_and,jv];rfl
  ·unfold eN;rw[show jP l.bf=false by simpa using c];simp
  unfold eN;rw[show jP l.bf=true by simpa using c,bA (O:l.bf.length=1),bA (O:l.aH.length=1)];rfl
 subst p;cases d:eN l with
 |false=>exact bS (ab.some rfl)
 |true=>
  refine b3 ?_;unfold eN at d;simp only[Bool.and_eq_true,decide_eq_true_eq] at d;obtain⟨r,s,_⟩:=d;obtain⟨x,w⟩:=vy.1 r;obtain⟨y,A⟩:=vy.1 s;rw[w,A];exact ag (x:=x) rfl (ag (x:=y) rfl (ab.some rfl))
theorem Zs(w:5000<=n)(h:jY l):Al n l=some (jP l.bf&&jP l.aH):=by
 obtain⟨⟨C,y⟩,D,A⟩:=h;have s: ∀x,cP x=true->oq n x=some (eL x.aT:Int):=λx c=>t8 w (show x.aT.length<=1000 by have:=(fu c).1;omega);have k: ∀(l:List ay) (i:Nat) (x:ay),l[i]? =some x->eL x.aT=0->jP (l.take i)=true->jP (l.take (i+1))=true:=λl i x c m d=>by
  unfold jP at d⊢;rw[en,c,List.all_append,d];simp[m]
 have p: ∀(l:List ay) (i:Nat) (x:ay),l[i]? =some x-> ¬eL x.aT=0->jP l=false:=λl i x c m=>by
  unfold jP;rw[ju];exact⟨x,bE c,by simp[m]⟩
 unfold Al;refine ab.eq (ab.loop (λz:Int=> ∃i:Nat,z=i/\i<=l.bf.length/\jP (l.bf.take i)=true) (λz=>l.bf.length-z.toNat) ?_ n _ ⟨0,rfl,O,rfl⟩ O);rintro o z ⟨i,rfl,B,d⟩ q;refine aP (λa=>?_) λr=>?_
 ·have a:i<l.bf.length:=O
  have c:=br a;refine ag (bk c) (ag (s _ (y _ (fC a))) (aP (λm=>ab.some ?_) λm=>?_))
  ·rw[p l.bf i _ c O];rfl
  rw[be O];exact q _ ⟨i+1,O,O,k _ _ _ c O d⟩ O
 have e:i=l.bf.length:=O
 subst e;rw[c6] at d;rw[d,ff];refine ab.loop (λz:Int=> ∃i:Nat,z=i/\i<=l.aH.length/\jP (l.aH.take i)=true) (λz=>l.aH.length-z.toNat) ?_ n _ ⟨0,rfl,O,rfl⟩ O;rintro o z ⟨i,rfl,B,d⟩ q;refine aP (λa=>?_) λr=>ab.some ?_
 ·have a:i<l.aH.length:=O
  have c:=br a;refine ag (bk c) (ag (s _ (A _ (fC a))) (aP (λm=>ab.some ?_) λm=>?_))
  ·exact(p l.aH i _ c O).symm
  rw[be O];exact q _ ⟨i+1,O,O,k _ _ _ c O d⟩ O
 have e:i=l.aH.length:=O
 subst e;rw[c6] at d;exact d.symm
theorem ER(d:5000<=n)(h:jY l):vo n l=some (if eN l=true then(df l.bf,df l.aH,true) else(0,0,false)):=by
 unfold vo;refine ab.eq (ab.aA (λz=>z= !eN l) (λj a=>?_) λz e=>?_)
 ·refine eK (λi=>a _ ?_) λi=>eK (λk=>a _ ?_) λk=>ag (Zs d h) (a _ ?_)
  ·unfold eN;rw[bx (show¬l.bf.length=1 by omega)];rfl
  ·unfold eN;rw[bx (show¬l.aH.length=1 by omega),Bool.false_and,jv];rfl
  unfold eN;rw[bA (O:l.bf.length=1),bA (O:l.aH.length=1)];rfl
 subst e;cases c:eN l with
 |false=>exact bS (ab.some rfl)
 |true=>
  refine b3 ?_;unfold eN at c;simp only[Bool.and_eq_true,decide_eq_true_eq] at c;obtain⟨m,o,_⟩:=c;obtain⟨x,p⟩:=vy.1 m;obtain⟨y,q⟩:=vy.1 o;rw[p,q];exact ag (x:=x) rfl (ag (x:=y) rfl (ab.some rfl))
def qf(a c s:Int):Int:=Int.tdiv (max 0 (c-a)+s-1) s
def wS(k:Nat)(s:Int)(P:Part)(l:Loop):Part:=
 ⟨P.nest.take k++(⟨[ga 0],[ga (qf (df l.bf) (df l.aH) s)]⟩:Loop)::(⟨[ga (df l.bf),mP k s (df l.bf)],[ga (df l.aH),mP k s (df l.bf+s)]⟩:Loop)::(P.nest.drop (k+1)).map (de (jZ k)),P.body.map (fc (jZ k))⟩
def q1(p:Prog)(a c s:Int):Prog×Bool:=
 match au p.parts a with
 |some P=>match au P.nest c with
  |some l=>if cI p a c=true/\P.nest.length<4/\(1<=s/\s<=6)/\eN l=true then fP ⟨p.aR,p.parts.set a.toNat (wS c.toNat s P l)⟩ else ec
  |none=>ec
 |none=>ec
theorem E'{b:Int}(h:cI p a b≠true):q1 p a b s=ec:=by
 unfold q1;split
 ·split
  ·rw[aY λc=>h c.1]
  rfl
 rfl
theorem Lo(a:p.parts[i]? =some P)(c:P.nest[k]? =some l)(s:Int):
  q1 p (i:Int) (k:Int) s=if cI p (i:Int) (k:Int)=true/\P.nest.length<4/\(1<=s/\s<=6)/\eN l=true then fP ⟨p.aR,p.parts.set i (wS k s P l)⟩ else ec:=by unfold q1;rw[bk a];dsimp only;rw[bk c];rfl
theorem Fs(h:jY l)(k:eN l=true): ∃a b,l=⟨[a],[b]⟩/\a=ga (df l.bf)/\b=ga (df l.aH)/\cL 99 (df l.bf)/\cL 99 (df l.aH):=by
 obtain⟨⟨o,n⟩,p,q⟩:=h;unfold eN at k;simp only[Bool.and_eq_true,decide_eq_true_eq] at k;obtain⟨r,s,w,A⟩:=k;obtain⟨bf,H⟩:=l;dsimp only at*;obtain⟨x,B⟩:=vy.1 r;obtain⟨y,C⟩:=vy.1 s;subst B;subst C;have m: ∀z:ay,cP z=true->jP [z]=true->z=ga z.const:=λz D k=>by
  obtain⟨F,_,_⟩:=fu D;obtain⟨a,b,c,d,e⟩:=kX F;obtain⟨cs,ka⟩:=z;dsimp only at e;subst e;unfold jP at k;simp only[List.all_cons,List.all_nil,Bool.and_true,decide_eq_true_eq] at k;have G:=yo (l:=[a,b,c,d]) (i:=0) rfl O;have o:=yo (l:=[a,b,c,d]) (i:=1) rfl O;have n:=yo (l:=[a,b,c,d]) (i:=2) rfl O;have p:=yo (l:=[a,b,c,d]) (i:=3) rfl O;rw[G,o,n,p];rfl
 exact⟨x,y,rfl,m x (n x aV) w,m y (q y aV) A,(fu (n x aV)).2.1,(fu (q y aV)).2.1⟩
theorem ON{x:Int}(d:cL 99 c)(h:cL 99 x)(i:1<=s/\s<=6):0<=qf c x s/\qf c x s<=198:=by
 unfold cL at d h;unfold qf;rw[Int.tdiv_eq_ediv_of_nonneg O];refine⟨Int.ediv_nonneg O O,?_⟩;refine Int.le_trans (Int.ediv_le_ediv (a:=max 0 (x-c)+s-1) (b:=198*s) O ?_) (by rw[Int.mul_ediv_cancel _ O];omega)
 have:0<=(198-max 0 (x-c))*(s-1):=mW O O;have e:(198-max 0 (x-c))*(s-1)=198*s-198-max 0 (x-c)*(s-1):=by
  rw[Int.sub_mul,Int.mul_sub];omega
 have k:max 0 (x-c)*(s-1)≥0:=mW O O;rcases(O:s=1\/s=2\/s=3\/s=4\/s=5\/s=6) with rfl|rfl|rfl|rfl|rfl|rfl<;>omega
theorem Mf(i:eh r P=true)(w:P.nest.length<4)(x:k<P.nest.length)(s:Int):fA 4 (wS k s P l):=by
 obtain⟨A,n⟩:=hl i;obtain⟨_,o,p,_⟩:=fS i;refine⟨⟨by simp only[wS,List.length_append,List.length_cons,List.length_map,List.length_take,List.length_drop];omega,λy e=>?_⟩,by simp only[wS,List.length_map];exact o.2,λs q=>?_⟩
 ·have h: ∀c,dq 4 (ga c):=λc=>by unfold dq ga;simp
  have m: ∀s c,dq 4 (mP k s c):=λs c=>by unfold dq mP;simp
  rcases d'.1 e with e|e
  ·exact((tK i).1.2 y (gh e))
  rcases dP.1 e with rfl|e
  ·exact⟨⟨aV,λa d=>by simp at d;subst d;exact h _⟩,aV,λa d=>by simp at d;subst d;exact h _⟩
  rcases dP.1 e with rfl|e
  ·exact⟨⟨aV,λa d=>by simp at d;rcases d with rfl|rfl;exact h _;exact m _ _⟩,aV,λa d=>by simp at d;rcases d with rfl|rfl;exact h _;exact m _ _⟩
  obtain⟨z,h,rfl⟩:=eP.1 e;exact wL (NZ k) (n z (eY h))
 obtain⟨z,h,rfl⟩:=eP.1 q;exact Bc (NZ k) (p z h)
theorem LK(n:Nat)(a:k<4)(s:Int):np n (k:Int) s=some (mP k s 0):=by rcases(O:k=0\/k=1\/k=2\/k=3) with rfl|rfl|rfl|rfl<;>rfl
theorem zI(n:Nat)(c:Int):pr n c=some (ga c):=rfl
theorem Oq{b:Int}(c:cL 99 a)(d:cL 99 b)(e:1<=s/\s<=6):wr (Int.tdiv (wr ((wr ((max 0 (wr (b-a)))+s))-1)) s)=qf a b s:=by obtain⟨h,i⟩:=ON c d e;unfold cL at c d;rw[be (n:=b-a) O,be (n:=max 0 (b-a)+s) O,be (n:=max 0 (b-a)+s-1) O];exact be (by unfold qf at h i;omega)
theorem aaR{l:List Loop}(a:k<=l.length)(c:l.length<=1000)(v:Loop):uR n l (k:Int) [v]=some (l.take k++[v]++l.drop k):=by unfold uR;rw[bA (show(0:Int)<=(k:Int) by omega),bA (show(k:Int)<=(l.length:Int) by omega)];rw[c3];exact cY bQ
theorem aer(G:7000<=n)(H:da 1000 p)(c d s:Int):Dv n p c d s=some (q1 p c d s):=by
 unfold Dv;by_cases m:d= -1
 ·subst m;rw[E' (by rw[qQ O];simp)];refine ab.eq (ag (zL G H c) ?_);by_cases I:b6 p=true/\eg p c=true
  ·rw[a1 I];have aH:=I.2;unfold eg at aH;simp only[decide_eq_true_eq] at aH;obtain⟨x,f,_⟩:=gy aH.1 aH.2;exact bS (ag f (ab.aA (λz=>z=true) (λj D=>aP (λ_=>D _ rfl) λh=>bB (show(-1:Int)<0 by omega) h) λz K=>by rw[K];exact bS (ab.some rfl)))
  rw[aY I];exact b3 (ab.some rfl)
 refine ab.eq (ag (wz G H c d m) ?_);by_cases q:cI p c d=true
 ·rw[a1 q];obtain⟨bJ,i,k,P,l,rfl,rfl,W,r,aH,L,o,X⟩:=jo q;obtain⟨g,Y⟩:=hl o;obtain⟨_,t,u,_⟩:=fS o;have w:=Y l (bE r);rw[Lo W r];refine bS (ag (bk W) (ab.aA (λz=>z= !(decide (P.nest.length<4)&&decide (1<=s/\s<=6))) (λj D=>?_) λz K=>?_))
  ·refine aP (λh=>bB h O) λ_=>aP (λh=>D _ ?_) λh=>ag (d6 n s 1 6) (D _ ?_)
   ·rw[bx (show¬P.nest.length<4 by omega)];rfl
   rw[bA (O:P.nest.length<4)];rfl
  subst K;by_cases e:P.nest.length<4
  ·by_cases A:1<=s/\s<=6
   ·rw[bA e,bA A];refine b3 (ag (bk r) (ag (Fq O w) ?_));by_cases B:eN l=true
    ·rw[a1 B,a1 ⟨q,e,A,B⟩];obtain⟨a,b,_,_,_,v,E⟩:=Fs w B;have Q:=x3 (n:=n) O (nest:=P.nest) (body:=P.body) (s:=k) O g (λy M=>Y y (eY M)) t.2 u (F:=λN=>uU n N (k:Int)) (Xj O O);have U:(P.nest.take k++(P.nest.drop k).map (de (jZ k)))[k]? =some (de (jZ k) l):=by
      rw[j6 r,gF (by rw[cG];omega),cG,vF O,jS];rfl
     refine bS (ag Q (ag (dK Z _) (ag (x:=()) (by unfold kf;rw[aY O]) (ag (LK n X s) (ag (LK n X s) (ag (zI n _) (ag (zI n _) (ag (bk U) (ag (dK bQ _) (ag (zI n 0) (ag (zI n _) (ag (aaR bQ bQ _) (ag (dK bQ _) ?_)))))))))))));dsimp only;unfold cL at v E;rw[c3,c3,q',be (n:=df l.bf+s) O,Oq ⟨O,O⟩ ⟨O,O⟩ A];have T:P.nest.drop k=l::P.nest.drop (k+1):=j6 r;have C:(P.nest.take k).length=k:=by rw[cG];omega
     have V: ∀R S:Loop,(((P.nest.take k++(P.nest.drop k).map (de (jZ k))).set k R).take k++[S]++((P.nest.take k++(P.nest.drop k).map (de (jZ k))).set k R).drop k)=P.nest.take k++S::R::(P.nest.drop (k+1)).map (de (jZ k)):=λR S=>by
      rw[T,List.map_cons,mR _ _ O,C,jS,vC,mQ O,hU O,vE O,vx O];simp
     rw[V];exact ag (qG G (w3 H i (Mf o e L s))) (ab.some rfl)
    rw[aY B,aY λh=>B h.2.2.2];exact b3 (ab.some rfl)
   rw[aY λh=>A h.2.2.1,bx A,jv];exact bS (ab.some rfl)
  rw[aY λh=>e h.2.1,bx e];exact bS (ab.some rfl)
 rw[aY q,E' q];exact b3 (ab.some rfl)
theorem abW(a:k<4)(s c:Int):n' (gZ k) s (ga c) 1=mP k s c:=by rcases(O:k=0\/k=1\/k=2\/k=3) with rfl|rfl|rfl|rfl<;>simp[n',gZ,ga,mP]
theorem abY(a:k<4)(s c e:Int):n' (mP k s c) 1 (ga e) 1=mP k s (c+e):=by rcases(O:k=0\/k=1\/k=2\/k=3) with rfl|rfl|rfl|rfl<;>simp[n',ga,mP]
theorem OZ(h:cL 1000 c):fi 1000 (ga c):=⟨rfl,h,λx a=>by simp[ga] at a;subst a;exact⟨O,O⟩⟩
theorem abL(d:cL 1000 s)(h:cL 1000 c):fi 1000 (mP k s c):=by refine⟨by simp[mP],h,pB (λc a=>?_) d⟩;simp at a;subst a;exact⟨O,O⟩
theorem afK(D:7000<=n)(B:da 1000 p)(c d s:Int):Di n p c d s=some (q1 p c d s):=by
 unfold Di;refine ab.eq (ag (lj O B) ?_);by_cases r:cI p c d=true
 ·obtain⟨u,i,k,P,l,rfl,rfl,F,G,W,H,o,C⟩:=jo r;obtain⟨X,I⟩:=hl o;obtain⟨_,Y,f,_⟩:=fS o;have w:=I l (bE G);rw[Lo F G];refine ab.aA (λz=>z= !(decide (P.nest.length<4)&&decide (1<=s/\s<=6))) (λj m=>?_) λz y=>?_
  ·refine ag (x:=true) (by rw[mL D B _ _,r]) ?_;refine b3 (ag (bk F) (aP (λh=>m _ ?_) λh=>aP (λg=>m _ ?_) λg=>m _ ?_))
   ·rw[bx (show¬P.nest.length<4 by omega)];rfl
   ·rw[bx (show¬(1<=s/\s<=6) by omega),jv];rfl
   rw[bA (O:P.nest.length<4),ff];by_cases K:(6:Int)<s
   ·rw[bA K,bx (show¬(1<=s/\s<=6) by omega)];rfl
   rw[bx K,bA (show(1<=s/\s<=6) by omega)];rfl
  subst y;by_cases e:P.nest.length<4
  ·by_cases q:1<=s/\s<=6
   ·rw[bA e,bA q];refine b3 (ag (bk F) (ag (bk G) (ag (ER O w) ?_)));by_cases A:eN l=true
    ·rw[a1 A,a1 ⟨r,e,q,A⟩];obtain⟨a,b,_,_,_,L,Q⟩:=Fs w A;obtain⟨v,E⟩:=ON L Q q;unfold cL at L Q;refine b3 (ab.aA (λz=>z=qf (df l.bf) (df l.aH) s) (λj m=>aP (λh=>ag (x:=()) (by unfold kf;rw[aY O]) (m _ ?_)) λh=>m _ ?_) λz y=>?_)
     ·dsimp only at h⊢;rw[<-Oq ⟨O,O⟩ ⟨O,O⟩ q,be (n:=df l.aH-df l.bf) O,show max 0 (df l.aH-df l.bf)=df l.aH-df l.bf by omega]
     ·dsimp only at h⊢;unfold qf;rw[show max 0 (df l.aH-df l.bf)=0 by omega,Int.tdiv_eq_ediv_of_nonneg O];exact(Int.ediv_eq_zero_of_lt O O).symm
     subst y;have U:(P.nest.take k).length=k:=by rw[cG];omega
     refine ag (DT O O X I Y.2 f (YH O _)) (ag (zS n C) (ag (hg n _) (ag (sZ O ((tp C).mono O) (OZ ⟨Z,Z⟩) ⟨O,O⟩ ⟨O,O⟩) ?_)));dsimp only;rw[abW C];refine ag (hg n _) (ag (hg n _) (ag (hg n _) (ag (sZ O (abL ⟨O,O⟩ ⟨O,O⟩) (OZ ⟨O,O⟩) ⟨O,O⟩ ⟨O,O⟩) ?_)));rw[abY C];refine ag (hR O O bQ) (ag (cY bQ) (ag (show m7 n=some (ga 0) from rfl) (ag (hg n _) (ag (cY bQ) ?_))));rw[be O];refine ag (hR O bQ aV) (ag (cY bQ) ?_);have t: ∀R S:Loop,([]++((P.nest.take (k+1)++(P.nest.drop (k+1)).map (de (jZ k))).take (k:Int).toNat).drop (0:Int).toNat++[S,R]++((P.nest.take (k+1)++(P.nest.drop (k+1)).map (de (jZ k))).take ((P.nest.take (k+1)++(P.nest.drop (k+1)).map (de (jZ k))).length:Int).toNat).drop ((k:Int)+1).toNat)=P.nest.take k++S::R::(P.nest.drop (k+1)).map (de (jZ k)):=λR S=>by
      have M:(P.nest.take (k+1)).length=k+1:=by rw[cG];omega
      rw[c3,c3,show((k:Int)+1).toNat=k+1 by omega,show(0:Int).toNat=0 from rfl,oK,c6,mQ O,List.take_take,vF O,vE O,vx O];simp
     rw[t];exact ag (wC D B W ((Mf o e H s).mono O)) (ab.some rfl)
    rw[aY A,aY λh=>A h.2.2.2];exact bS (ab.some rfl)
   rw[aY λh=>q h.2.2.1,bx q,jv];exact bS (ab.some rfl)
  rw[aY λh=>e h.2.1,bx e];exact bS (ab.some rfl)
 rw[E' r];refine ab.aA (λz=>z=true) (λj m=>ag (mL D B _ _) ?_) λz y=>by rw[y];exact bS (ab.some rfl)
 rw[show cI p c d=false by simpa using r];exact bS (m _ rfl)
def kL(P:Part)(a b:Int):Part:=⟨(⟨[ga a],[ga b]⟩:Loop)::P.nest.drop 1,P.body⟩
def q0(p:Prog)(a c:Int):Prog×Bool:=
 match au p.parts a with
 |some P=>match au P.nest 0 with
  |some l=>if cI p a 0=true/\eN l=true/\df l.bf<=c/\c<=df l.aH then fP (kY p a.toNat 1 [kL P (df l.bf) c,kL P c (df l.aH)]) else ec
  |none=>ec
 |none=>ec
theorem Fb(h:cI p a 0≠true):q0 p a c=ec:=by
 unfold q0;split
 ·split
  ·rw[aY λd=>h d.1]
  rfl
 rfl
theorem wF{k:Type}{l:List k}{x:k}(h:l[0]? =some x):au l 0=some x:=bk h
theorem Lq(a:p.parts[i]? =some P)(d:P.nest[0]? =some l)(c:Int):
  q0 p (i:Int) c=if cI p (i:Int) 0=true/\eN l=true/\df l.bf<=c/\c<=df l.aH then fP (kY p i 1 [kL P (df l.bf) c,kL P c (df l.aH)]) else ec:=by unfold q0;rw[bk a];dsimp only;rw[wF d];rfl
theorem OC(k:eh r P=true)(a b:Int):fA 4 (kL P a b):=by
 obtain⟨h,l,m⟩:=tK k;have i: ∀c,dq 4 (ga c):=λc=>by unfold dq ga;simp
 have:=h.1;refine⟨⟨by simp only[kL,List.length_cons,List.length_drop];omega,λy e=>?_⟩,l,m⟩;rcases dP.1 e with rfl|e
 ·exact⟨⟨aV,λa d=>by simp at d;subst d;exact i _⟩,aV,λa d=>by simp at d;subst d;exact i _⟩
 exact h.2 y (eY e)
theorem Lp(e:eh r P=true)(a b c d:Int): ∀y∈[kL P a b,kL P c d],fA 1000 y:=by
 intro y h;simp only[List.mem_cons,List.not_mem_nil,or_false] at h;rcases h with rfl|rfl
 ·exact(OC e a b).mono O
 exact(OC e c d).mono O
theorem Zp(a:b6 p=true)(c:p.parts[i]? =some P):cI p (i:Int) 0=decide (0<P.nest.length):=by unfold cI;rw[a,bk c,ff];rw[fg];simp only[decide_eq_true_eq];omega
theorem XL(a:i<p.parts.length)(A B:Part):(⟨p.aR,(p.parts.set i A).take (i+1)++[B]++(p.parts.set i A).drop (i+1)⟩:Prog)=kY p i 1 [A,B]:=by
 unfold kY;congr 1;rw[List.take_set,pS O,en,br a,mR _ _ (by rw[cG];omega)]
 have:i-(p.parts.take i).length=0:=by rw[cG];omega
 rw[this];simp
theorem aeq(g:20000<=n)(D:da 1000 p)(d c:Int):Da n p d c=some (q0 p d c):=by
 unfold Da;refine ab.eq (ag (zL O D d) ?_);by_cases y:b6 p=true/\eg p d=true
 ·rw[a1 y];obtain⟨m,B⟩:=y;have F:0<=d/\d<(p.parts.length:Int):=e8 B;obtain⟨i,rfl⟩: ∃i:Nat,d=i:=⟨d.toNat,O⟩
  have q:=br (O:i<p.parts.length);generalize G:p.parts[i]=P at q;have I:=(eC m).2.2.1;have e:=(eC m).2.2.2.1 P (bE q);obtain⟨K,A⟩:=hl e;have fG:=Zp m q;refine bS (ag (bk q) (aP (λz=>ab.some ?_) λz=>?_))
  ·rw[Fb (by rw[fG,bx O];simp)];rfl
  have z:0<P.nest.length:=O
  rw[bA z] at fG;have o:=br z;generalize P.nest[0]=l at o;have r:=A l (bE o);rw[Lq q o];refine ag (wF o) (ag (Fq O r) ?_);by_cases s:eN l=true
  ·rw[a1 s];refine bS (ag (d6 n c _ _) ?_);by_cases w:df l.bf<=c/\c<=df l.aH
   ·rw[a1 ⟨fG,s,w.1,w.2⟩];dsimp only;rw[bA w];obtain⟨a,b,Q,U,W,j,t⟩:=Fs r s;have X:=AS (i:=i) (many:=1) (ys:=[kL P (df l.bf) c,kL P c (df l.aH)]) ((k0 m).mono (O:4<=900)) aV (Lp e _ _ _ _);generalize df l.bf=L at*;generalize df l.aH=H at*;subst U;subst W;subst Q;have Y:P.nest=(⟨[ga L],[ga H]⟩:Loop)::P.nest.drop 1:=by
     have:=j6 o
     rwa [oK] at this
    have C: ∀R:Loop,P.nest.set (0:Int).toNat R=R::P.nest.drop 1:=λR=>by
     show P.nest.set 0 R=_;rw[Y];rfl
    refine bS (ag (KW O e) (ag (x:=ga H) rfl (ag (x:=[ga c]) rfl (ag (dK O _) (ag (dK O _) (ag (wF o) (ag (x:=ga L) rfl (ag (x:=[ga c]) rfl (ag (dK O _) ?_)))))))));rw[C,C,be O,c3];refine ag (NX (i:=i+1) (by rw[eS];omega) (by rw[eS];simp;omega)) ?_;show ab (Option.bind (lL n (⟨p.aR,(p.parts.set i (kL P L c)).take (i+1)++[kL P c H]++(p.parts.set i (kL P L c)).drop (i+1)⟩:Prog)) _) _;rw[XL O];exact ag (qG O X) (ab.some rfl)
   rw[aY λh=>w ⟨h.2.2.1,h.2.2.2⟩];dsimp only;rw[bx w];exact b3 (ab.some rfl)
  rw[aY s,aY λh=>s h.2.1];exact b3 (ab.some rfl)
 rw[aY y,Fb λf=>y ?_]
 ·exact b3 (ab.some rfl)
 obtain⟨m,i,k,P,l,rfl,_,u,_,B,_⟩:=jo f;exact⟨m,bA O⟩
theorem afJ(G:20000<=n)(A:da 1000 p)(a c:Int):Dj n p a c=some (q0 p a c):=by
 unfold Dj;refine ab.eq (ag (lj O A) (ag (mL O A a 0) ?_));cases q:cI p a 0 with
 |false=>
  rw[Fb (by rw[q];simp)];exact bS (ab.some rfl)
 |true=>
  obtain⟨C,i,k,P,l,rfl,D,B,r,H,I,d,K⟩:=jo q;obtain rfl:k=0:=O
  obtain⟨F,s⟩:=hl d;have w:=s l (bE r);rw[Lq B r];refine b3 (ag (bk B) (ag (wF r) (ag (ER O w) ?_)));by_cases m:eN l=true
  ·rw[a1 m];dsimp only;refine ab.aA (λz=>z= !decide (df l.bf<=c/\c<=df l.aH)) (λj o=>b3 (aP (λh=>o _ ?_) λh=>o _ ?_)) λz x=>?_
   ·rw[bx O];rfl
   ·rw[fg];simp only[Bool.not_eq_true',decide_eq_true_eq,decide_eq_false_iff_not];omega
   subst x;by_cases e:df l.bf<=c/\c<=df l.aH
   ·rw[a1 ⟨q,m,e.1,e.2⟩,bA e];refine b3 (ag (hg n _) (ag (hg n _) (ag (hR O O O) (ag (cY bQ) (ag (hg n _) (ag (hg n _) (ag (hR O O O) (ag (cY bQ) ?_))))))));rw[c3,c6];have y:=Fl (n:=n) O ((k0 C).mono (O:4<=900)) (i:=i) (many:=1) O (ys:=[kL P (df l.bf) c,kL P c (df l.aH)]) aV (Lp d _ _ _ _);exact ag y (ab.some rfl)
   rw[aY λh=>e ⟨h.2.2.1,h.2.2.2⟩,bx e];exact bS (ab.some rfl)
  rw[aY m,aY λh=>m h.2.1];exact ab.aA (λz=>z=true) (λj o=>bS (o _ rfl)) λz x=>by rw[x];exact bS (ab.some rfl)
end
section
def lv(s:Stmt):Stmt:=⟨s.write,fQ 5 s.value⟩
def kc(x:Part):Part:=⟨x.nest,x.body.map lv⟩
def Bi(p:Prog):Prog:=⟨p.aR,p.parts.map kc⟩
variable {n:Nat}{s:Stmt}{d e:Int}{p:Prog}{r:List ch}
theorem UK(c:7000<=n)(a:er s d=true):vT n s=some (lv s):=by
 obtain⟨n,rfl⟩: ∃j,n=j+1:=⟨n-1,O⟩
 unfold vT;rw[Ql O a];refine ab.eq (ag rfl (ag (Ia 5 n s.value O (kI a).2.1) (ab.some rfl)))
def tU(p:Prog):Prog×Bool:=if b6 p=true then(Bi p,true) else ec
theorem RZ(r:7000<=n)(w:da 1000 p):CD n p=some (tU p):=by
 unfold CD tU;refine ab.eq (ag (ur r w.sm) (ab.cond (λh=>ab.some ?_) λh=>?_))
 ·rw[aY (by simpa using h)];rfl
 have i:b6 p=true:=by simpa using h
 rw[a1 i];obtain⟨I,L,Q,y,_⟩:=eC i;refine ag (qP O i) ?_;refine yH (l:=p.parts) (n:=n) (F:=λd k=>bp (λa ((c,e):(List Stmt)×Int)=>
    bif decide (e<(d.body.length:Int)) then(
     Option.bind (au c e) λz=>
     Option.bind (vT n z) λA=>
     Option.bind (b' c e A) λB=>
     a (B,wr (e+1))
    ) else(
     Option.bind (j8 d.body c) λR=>
     k (⟨d.nest,c⟩:Part)
    )
   ) n (d.body,0)) (W:=λ_ o=>o) (m:=λ_=>(p.parts.length:Int)) (g:=kc) (s:=0) (K:=λC=>some ((⟨p.aR,C⟩:Prog),true)) (λ_ _ _ h=>h) (λ_ _=>rfl) O (λx D k q=>?_) O O (ab.some ?_)
 ·obtain⟨_,U,G,_⟩:=fS (y x D);refine yH (l:=x.body) (n:=n) (F:=λx k=>Option.bind (vT n x) k) (W:=λ_ o=>o) (m:=λ_=>(x.body.length:Int)) (g:=lv) (s:=0) (K:=λc=>Option.bind (j8 x.body c) λ_=>k (⟨x.nest,c⟩:Part)) (λ_ _ _ h=>h) (λ_ _=>rfl) O (λs H k q=>ag (UK r (G s H)) q) O O ?_;refine ag (oI aV) ?_
  have:(⟨x.nest,x.body.take 0++(x.body.drop 0).map lv⟩:Part)=kc x:=by simp[kc]
  rw[this];exact q
 simp[Bi]
theorem Tu(h:7000<=n)(i:d<=4)(a:er s d=true)(e:er s 4=true):DO n s=some (lv s,true):=by
 obtain⟨n,rfl⟩: ∃j,n=j+1:=⟨n-1,O⟩
 have c:iG 4 s:=Pc a;unfold DO;refine ab.eq (ag (IX O (c.mono (O:4<=1000)).sm 4) ?_);rw[e];refine b3 (ag (yF O ((c.mono (O:4<=1000)).1).sm) (ag (Qv 5 n s.value O (kI a).2.1) (ab.some rfl)))
theorem M1{a:ay}(h:eU a d=true)(c:d<=e):eU a e=true:=by unfold eU at h⊢;rw[oN,decide_eq_true_eq] at h;rw[h.1,bA O];rfl
theorem Oy{a:bZ}(h:fX a d=true)(c:d<=e):fX a e=true:=by unfold fX at h⊢;rw[oN,fB] at h;rw[h.2,Bool.and_true];exact fB.2 λx i=>M1 (h.1 x i) c
theorem abg{x:Expr}(h:ej x d=true)(a:d<=e):ej x e=true:=by
 unfold ej at h⊢;split at h
 ·rename_i c;rw[a1 c];simp only[Bool.and_eq_true] at h⊢;exact⟨h.1,h.2.1,M1 h.2.2 a⟩
 rename_i c;rw[aY c];split at h
 ·rename_i i;rw[a1 i];simp only[Bool.and_eq_true] at h⊢;exact⟨h.1,h.2.1,Oy h.2.2 a⟩
 rename_i i;rw[aY i];exact h
theorem Lr{d e:Int}(a:d<=e): ∀{L:Nat} {x:Expr},dD L x d=true->dD L x e=true
 |0,_,h=>by cases h
 |L+1,x,h=>by obtain⟨i,l,m⟩:=hi h;exact IV i (abg l a) λk c=>Lr a (m k c)
theorem Z1(h:er s d=true):er s 4=true:=by unfold er at h⊢;simp only[Bool.and_eq_true,decide_eq_true_eq] at h⊢;exact⟨O,Oy h.2.1 h.1.2,Lr h.1.2 h.2.2.1,h.2.2.2⟩
theorem Z3(h:er s d=true):d<=4:=by unfold er at h;simp only[Bool.and_eq_true,decide_eq_true_eq] at h;exact h.1.2
theorem RW(I:7000<=n)(r:da 1000 p):CI n p=some (tU p):=by
 unfold CI tU;refine ab.eq (ag (lj O r) (ag (kv I r.sm) (ab.cond (λh=>ab.some ?_) λh=>?_)))
 ·rw[aY (by simpa using h)];rfl
 have K:b6 p=true:=by simpa using h
 rw[a1 K];obtain⟨f,g,t,U,_⟩:=eC K;refine ag (og O r) ?_;refine ab.loop (λz:List Part×Int=> ∃i:Nat,z.2=i/\i<=p.parts.length/\z.1=(p.parts.take i).map kc++p.parts.drop i) (λz=>p.parts.length-z.2.toNat) ?_ n _ ⟨0,rfl,O,aV⟩ Z;rintro w ⟨x,z⟩ ⟨i,L,u,e⟩ W;dsimp only at L e⊢;subst L;have a:((p.parts.take i).map kc).length=i:=by rw[c5,cG];omega
 have A:x.length=p.parts.length:=by rw[e,dE,a,fs];omega
 rw[A];refine aP (λX=>?_) λY=>ab.some ?_
 ·obtain⟨P,m⟩: ∃P,p.parts[i]? =some P:=⟨_,br (O:i<p.parts.length)⟩
  have B:x[i]? =some P:=by
   rw[e,gF O,a,jS,fZ];exact m
  obtain⟨_,v,b,_⟩:=fS (U P (bE m));refine ab.loop (λz:List Part×Int=> ∃j:Nat,z.2=j/\j<=P.body.length/\z.1=x.set i ⟨P.nest,(P.body.take j).map lv++P.body.drop j⟩) (λz=>P.body.length-z.2.toNat) ?_ n _ ⟨0,rfl,O,by
   dsimp only;rw[List.take_zero,List.map_nil,pN,oK];exact(IU B).symm⟩ Z
  rintro o ⟨y,E⟩ ⟨j,k,M,l⟩ C;dsimp only at k l⊢;subst k;have D:y[i]? =some ⟨P.nest,(P.body.take j).map lv++P.body.drop j⟩:=by rw[l,gj O]
  have c:((P.body.take j).map lv).length=j:=by rw[c5,cG];omega
  have F:((P.body.take j).map lv++P.body.drop j).length=P.body.length:=by rw[dE,c,fs];omega
  refine ag (bk D) ?_;dsimp only;rw[F];refine aP (λQ=>?_) λR=>?_
  ·obtain⟨s,q⟩: ∃s,P.body[j]? =some s:=⟨_,br (O:j<P.body.length)⟩
   have G:((P.body.take j).map lv++P.body.drop j)[j]? =some s:=by
    rw[gF O,c,jS,fZ];exact q
   have d:=b s (bE q);refine ag (bk G) (ag (Tu I (Z3 d) d (Z1 d)) (ag (dK O _) (ag (dK (by rw[l,eS];omega) _) ?_)));rw[be O];refine C _ ⟨j+1,Z,O,?_⟩ Z;dsimp only;rw[l,c3,c3,q',mR _ _ O,c,jS,j6 q,vC,en,q];simp
  have H:j=P.body.length:=O
  rw[be O];refine W _ ⟨i+1,Z,O,?_⟩ Z;dsimp only;rw[l,H,c6,nI,kS,e,mR _ _ O,a,jS,j6 m,vC,en,m];simp[kc]
 have:i=p.parts.length:=O
 rw[e,this,c6,nI,kS];rfl
theorem Zq(h:er s d=true):er (lv s) d=true:=by obtain⟨c,a,_⟩:=kI h;unfold er at h⊢;simp only[Bool.and_eq_true,decide_eq_true_eq] at h⊢;exact⟨h.1,c,qm a,by have:=Po a;show dB 5 (fQ 5 s.value)<=12;omega⟩
theorem UO(c:er s d=true){q:List Int}(h:gO r s q=true):gO r (lv s) q=true:=by unfold gO at h⊢;rw[oN,fB] at h;rw[show(lv s).write=s.write from rfl,h.1,ff];exact fB.2 λa e=>h.2 a (Pp (kI c).2.1 a e)
theorem KH(x:Part):jk (kc x)=jk x:=rfl
theorem W'{x:Part}(h:eh r x=true):eh r (kc x)=true:=by
 obtain⟨e,i,d,k⟩:=fS h;unfold eh nV;rw[show(kc x).nest=x.nest from rfl,e,KH];have l:(kc x).body=x.body.map lv:=rfl;rw[l,c5,bA i];simp only[Option.isSome_some,Bool.true_and,Bool.and_eq_true,List.all_eq_true];refine⟨λs c=>?_,λs c q m=>?_⟩
 ·obtain⟨t,a,rfl⟩:=eP.1 c;exact Zq (d t a)
 obtain⟨t,a,rfl⟩:=eP.1 c
 have:=k t a q m;exact⟨UO (d t a) this.1,this.2⟩
theorem Zr(h:b6 p=true):b6 (Bi p)=true:=by
 unfold b6 kj at h⊢;simp only[Bool.and_eq_true,decide_eq_true_eq,List.all_eq_true] at h⊢;obtain⟨⟨a,c,d⟩,e⟩:=h;refine⟨⟨a,by simpa[Bi] using c,λx i=>?_⟩,?_⟩
 ·obtain⟨y,k,rfl⟩:=eP.1 i;exact W' (d y k)
 show((p.parts.map kc).map fE).sum<=120;rw[tg,show p.parts.map (fE ∘ kc)=p.parts.map fE from List.map_congr_left (λx _=>by
  show fE (kc x)=fE x;unfold fE;rw[KH,show(kc x).body.length=x.body.length by simp[kc]])]
 exact e
end
def oZ(p:Prog)(a:Int):Bool:=(List.range (bz p.parts).length).all (λi=>match (bz p.parts)[i]? with
 |some x=> !((ki p (bz p.parts)).getD i false&&decide (x.part=a))
 |none=>true)
variable {p:Prog}{n:Nat}{a:Int}
theorem zH{part:Int}:oZ p part=true↔ ∀(i:Nat) x,(bz p.parts)[i]? =some x->(ki p (bz p.parts)).getD i false=true->x.part≠part:=by
 unfold oZ;rw[fB];constructor
 ·intro h i x a c e
  have:=h i (tc.2 (bR.1 a).1);rw[a] at this;simp only[c,e,decide_true,Bool.and_self,Bool.not_true] at this;cases this
 intro h i d;cases a:(bz p.parts)[i]? with
 |none=>rfl
 |some x=>
  dsimp only;cases c:(ki p (bz p.parts)).getD i false with
  |false=>rfl
  |true=>rw[bx (h i x a c)];rfl
theorem LC(p:Prog)(l:List cx):(ki p l).length=l.length:=sN p l l.length
theorem GG(k:b6 p=true)(i:Nat):b6 ⟨p.aR,p.parts.take i++p.parts.drop (i+1)⟩=true:=by
 have c: ∀x∈p.parts.take i++p.parts.drop (i+1),x∈p.parts:=λx d=>by
  rcases d'.1 d with h|h
  ·exact gh h
  exact eY h
 have e:=(eC k).2.2.2.1;have n:=(B3 p.parts)
 have o: ∀l:List Part,(∀x∈l,x∈p.parts)->0<=(l.map fE).sum:=λl q=>by
  induction l with
  |nil=>simp
  |cons a l r=>
   simp only[List.map_cons,List.sum_cons]
   have:=(y0 (e a (q a eX))).1
   have:=r λx d=>q x (eA _ d);omega
 unfold b6 kj at k⊢;simp only[Bool.and_eq_true,decide_eq_true_eq,List.all_eq_true] at k⊢;obtain⟨⟨aJ,a2,a3⟩,a4⟩:=k;refine⟨⟨aJ,by simp only[List.length_append,List.length_take,List.length_drop];omega,λx d=>a3 x (c x d)⟩,?_⟩;have s:(p.parts.map fE).sum=((p.parts.take i).map fE).sum+((p.parts.drop i).map fE).sum:=by
  conv=>lhs;rw[<-q9 i p.parts]
  rw[f',yL]
 have w:((p.parts.drop (i+1)).map fE).sum<=((p.parts.drop i).map fE).sum:=by
  cases m:p.parts.drop i with
  |nil=>
   have:p.parts.drop (i+1)=[]:=by rw[<-List.drop_drop,m];rfl
   rw[this];simp
  |cons a l=>
   have:p.parts.drop (i+1)=l:=by rw[<-List.drop_drop,m];rfl
   rw[this];simp only[List.map_cons,List.sum_cons]
   have:=(y0 (e a (eY (i:=i) (by rw[m];exact eX)))).1;omega
 simp only[List.map_append,List.sum_append];omega
theorem Ns(a:b6 p=true)(i:Nat):da 1000 ⟨p.aR,p.parts.take i++p.parts.drop (i+1)⟩:=(k0 (GG a i)).mono O
def tN(p:Prog)(a:Int):Prog×Bool:=if(b6 p&&(eg p a&&oZ p a))=true then(⟨p.aR,p.parts.take a.toNat++p.parts.drop (a.toNat+1)⟩,true) else ec
theorem W8(H:7100<=n)(I:da 1000 p)(Y: -1<=a/\a<=9):y6 n p a=some (tN p a):=by
 unfold y6 tN;refine ab.eq (ag (yz H I.sm) ?_);by_cases d:b6 p=true
 ·rw[a1 d,d];have Q:=(eC d).2.2.2.2;refine bS (ab.aA (λz=>z= !eg p a) (λj k=>b3 (ag (qF n I.2.1 a) (k _ rfl))) λz q=>?_);subst q;cases w:eg p a with
  |false=>exact bS (ab.some rfl)
  |true=>
   have A:0<=a/\a<(p.parts.length:Int):=e8 w;refine b3 (ag (x:=ki p (bz p.parts)) (W4 H d) ?_);have B:=LC p (bz p.parts);rw[B];refine ab.loop (λz:Int=> ∃i:Nat,z=i/\i<=(bz p.parts).length/\ ∀(j:Nat) x,j<i->(bz p.parts)[j]? =some x->(ki p (bz p.parts)).getD j false=true->x.part≠a) (λz=>(bz p.parts).length-z.toNat) ?_ n _ ⟨0,rfl,O,λj x h=>O⟩ O;rintro C z ⟨i,rfl,b,r⟩ R;refine aP (λU=>?_) λW=>?_
   ·obtain⟨x,D⟩: ∃x,(bz p.parts)[i]? =some x:=⟨_,br (O:i<(bz p.parts).length)⟩
    have F:au (ki p (bz p.parts)) (i:Int)=some ((ki p (bz p.parts)).getD i false):=by
     have c:i<(ki p (bz p.parts)).length:=O
     rw[bk (br c),ez,br c];rfl
    have m:au (gg p).list (i:Int)=some x:=bk D;refine ag F (ab.aA (λz=>z=((ki p (bz p.parts)).getD i false&&decide (x.part=a))) (λj k=>ab.cond (λh=>ag m (k _ (by rw[h];rfl))) λh=>k _ (by rw[h];rfl)) λz q=>?_);subst q;refine ab.cond (λh=>ab.some ?_) λh=>?_
    ·rw[oN,decide_eq_true_eq] at h
     have:oZ p a=false:=by
      cases X:oZ p a with
      |false=>rfl
      |true=>exact bB h.2 (zH.1 X i x D h.1)
     rw[this];rfl
    rw[be O];refine R _ ⟨i+1,O,O,λj y k G s=>?_⟩ O;by_cases e:j=i
    ·subst e;rw[D] at G;cases G;rw[s,ff] at h;exact of_decide_eq_false h
    exact r j y O G s
   have o:oZ p a=true:=zH.2 λj x K s=>r j x (by have:=(bR.1 K).1;omega) K s;rw[o];refine ag (qP O d) (ag (x:=(eO p.parts a (a+1),j1 p.parts a (a+1) (⟨[],[]⟩:Part))) ?_ (ab.some ?_))
   ·unfold uS;rw[be O,bA A.1,bA (O:a<=a+1),bA (O:a+1<=(p.parts.length:Int)),bx (show¬a=a+1 by omega)];rfl
   show(⟨p.aR,(j1 p.parts a (a+1) (⟨[],[]⟩:Part)).take (eO p.parts a (a+1))⟩,true)=((⟨p.aR,p.parts.take a.toNat++p.parts.drop (a.toNat+1)⟩:Prog),true)
   have L:(p.parts.take a.toNat++p.parts.drop (a+1).toNat).length=eO p.parts a (a+1):=by
    unfold eO;simp only[List.length_append,List.length_take,List.length_drop];omega
   unfold j1;rw[mQ (by rw[L];exact cQ _),hU (l:=p.parts.take a.toNat++p.parts.drop (a+1).toNat) (by rw[L];exact cQ _),show(a+1).toNat=a.toNat+1 by omega]
 rw[aY d,show b6 p=false by simpa using d];refine b3 (ab.aA (λz=>z=true) (λj k=>bS (k _ rfl)) λz q=>?_);rw[q];exact bS (ab.some rfl)
theorem Xr(Q:7100<=n)(o:da 1000 p)(u: -1<=a/\a<=9):DP n p a=some (tN p a):=by
 unfold DP tN;refine ab.eq (ag (lj O o) (ab.aA (λz=>z= !(b6 p&&eg p a)) (λj q=>?_) λz R=>?_))
 ·refine ag (kv O o.sm) (ab.cond (λh=>q _ ?_) λh=>?_)
  ·rw[sK h];rfl
  have bJ:=qN h;refine aP (λr=>q _ ?_) λr=>q _ ?_
  ·rw[bJ,show eg p a=false from bx O];rfl
  by_cases K:(p.parts.length:Int)<=a
  ·rw[bJ,bA K,show eg p a=false from bx O];rfl
  rw[bJ,bx K,show eg p a=true from bA O];rfl
 subst R;by_cases bJ:b6 p=true
 ·rw[bJ];have U:=(eC bJ).2.2.2.2;cases B:eg p a with
  |false=>exact bS (ab.some rfl)
  |true=>
   have W:0<=a/\a<(p.parts.length:Int):=e8 B;refine b3 (ag (RD Q o.sm) (ag (uL O bJ) ?_));rw[a1 bJ];have X:=LC p (bz p.parts);have Y:=Kx (ki p (bz p.parts));have s: ∀c∈pI (ki p (bz p.parts)),∃(i:Nat) (x:cx),c=i/\(bz p.parts)[i]? =some x/\(ki p (bz p.parts)).getD i false=true:=λc C=>by
    obtain⟨v,r⟩:=Ea.1 C;have w:c.toNat<(bz p.parts).length:=by
     by_cases h:c.toNat<(bz p.parts).length
     ·exact h
     rw[ez,q8 O] at r;cases r
    exact⟨c.toNat,_,O,br w,r⟩
   generalize b:pI (ki p (bz p.parts))=L at*;refine ab.loop (λz:Int=> ∃i:Nat,z=i/\i<=L.length/\ ∀c∈L.take i,∀x,(bz p.parts)[c.toNat]? =some x->x.part≠a) (λz=>L.length-z.toNat) ?_ n _ ⟨0,rfl,O,λc C=>by simp at C⟩ O;rintro D z ⟨i,rfl,E,e⟩ f;refine aP (λw=>?_) λg=>?_
   ·obtain⟨c,F⟩: ∃c,L[i]? =some c:=⟨_,br (O:i<L.length)⟩
    obtain⟨k,x,rfl,A,G⟩:=s c (bE F);refine ag (bk F) (ag (bk A) (aP (λh=>ab.some ?_) λh=>?_))
    ·have:oZ p a=false:=by
      cases m:oZ p a with
      |false=>rfl
      |true=>exact bB h (zH.1 m k x A G)
     rw[this];rfl
    rw[be O];refine f _ ⟨i+1,O,O,λd m y H=>?_⟩ O;rw[gp F,d',mU] at m;rcases m with m|rfl
    ·exact e d m y H
    rw[c3,A] at H;cases H;exact h
   have I:i=L.length:=O
   rw[I,c6] at e;have l:oZ p a=true:=zH.2 (λj x A G=>by
    have q:((j:Nat):Int)∈L:=by rw[<-b];exact Ea.2 ⟨O,by rw[c3];exact G⟩
    exact e _ q x (by rw[c3];exact A))
   rw[l];obtain⟨i,rfl⟩: ∃i:Nat,a=i:=⟨a.toNat,O⟩
   refine ag (x:=(⟨p.aR,p.parts.take i++p.parts.drop (i+1)⟩,true)) (ab.eq ?_) (ab.some rfl);have t:=o.2.1;unfold jF;refine ag (og O o) (ag (hR O O O) ?_);rw[c3,show(0:Int).toNat=0 from rfl,oK];refine ag (x:=p.parts.take i) (cY bQ) (ag (x:=p.parts.take i) (by rw[cY bQ,kS]) ?_);rw[be O];refine ag (hR O O O) ?_;rw[c3,c6,show((i:Int)+1).toNat=i+1 by omega];refine ag (x:=p.parts.take i++p.parts.drop (i+1)) (cY bQ) (ag (kv O (Ns bJ i).sm) ?_);rw[GG bJ i];exact b3 (ag (og O (Ns bJ i)) (ab.some rfl))
 rw[show b6 p=false by simpa using bJ];exact bS (ab.some rfl)
end Go.Lift
