/- Tools. -/
import Derived.Test.YtlbojjldejlgaaaGreatVDrawD
set_option maxRecDepth 110000000
set_option linter.unusedVariables false
namespace Go.Lift
open Go
section
variable {h R:Type}{l:List az}{F:az->Option az}{K:List h->Option R}{Q:R->Prop}{n k:Nat}{s:Stmt}{f:az->az}{e:Expr}{d v i:Int}{a b:az}{r:List bW}{x y:Part}{p:Prog}{nest:List Loop}
theorem tN{β:Type}{l:List h}{F:h->(β->Option R)->Option R}{g:h->β}{K:List β->Option R}(d: ∀x∈l,∀k:β->Option R,ah (k (g x)) Q->ah (F x k) Q)
  {s:Nat} (v:s<=l.length) {pre:List β} (A:pre.length<=1100000) (B:l.length<=1100000) (C:5500000<=n) (e:ah (K (pre++(l.drop s).map g)) Q):
  ah (ba (λa ((x,i):List β×Int)=>bif decide (i<(l.length:Int)) then(Option.bind (aH l i) λy=>F y λz=>Option.bind (app x [z]) λw=>a (w,wr (i+1))) else K x) n (pre,(s:Int))) Q:=by
 refine ah.loop (λz:List β×Int=> ∃i:Nat,z.2=i/\s<=i/\i<=l.length/\z.1=pre++((l.drop s).take (i-s)).map g) (λz=>l.length-z.2.toNat) ?_ n _ ⟨s,rfl,O,O,aV⟩ Z;rintro a ⟨x,z⟩ ⟨i,c,m,D,b⟩ o;dsimp only at c b⊢;subst c;refine bc (λp=>?_) λq=>?_
 ·have bE:=bh (O:i<l.length);have r:x.length<=2200000:=by rw[b,dw,dL,dP,iV];omega
  refine ai (bI bE) (d _ (bA bE) _ (ai (ek b1) ?_));rw[a' O];refine o _ ⟨i+1,Z,O,O,?_⟩ Z;dsimp only;rw[show i+1-s=(i-s)+1 by omega,eF,ga,show s+(i-s)=i by omega,bE,b,jC,ix];rfl
 have:i=l.length:=O
 subst this;rw[b,mi (by rw[iV];omega)];exact e
theorem o7{H:Type}{l:List H}{f:H->Option h}{g:H->h}(b: ∀x∈l,f x=some (g x))(c:l.length<=1100000)(d:5500000<=n)(e:ah (K (l.map g)) Q):
  ah (ba (λa ((x,i):List h×Int)=>bif decide (i<(l.length:Int)) then(Option.bind (aH l i) λy=>Option.bind (f y) λz=>Option.bind (app x [z]) λw=>a (w,wr (i+1))) else K x) n ([],0)) Q:=
 tN (F:=λy k=>Option.bind (f y) k) (g:=g) (s:=0) (pre:=[]) (λx m k o=>ai (b x m) o) O aV c d (by simpa using e)
theorem zh{l:List h}{F:h->(h->Option R)->Option R}{W:List h->Option R->Option R}{m:List h->Int}{g:h->h}
  (v: ∀y o,y.length=l.length->ah o Q->ah (W y o) Q) (A: ∀y:List h,y.length=l.length->m y=(l.length:Int))
  {s:Nat} (X:s<=l.length) (B: ∀x∈l,∀k:h->Option R,ah (k (g x)) Q->ah (F x k) Q) (f:l.length<=1100000) (j:5500000<=n) (C:ah (K (l.take s++(l.drop s).map g)) Q):
  ah (ba (λa ((y,i):List h×Int)=>W y (bif decide (i<m y) then(Option.bind (aH y i) λx=>F x λz=>Option.bind (dh y i z) λw=>a (w,wr (i+1))) else K y)) n (l,(s:Int))) Q:=by
 refine ah.loop (λz:List h×Int=> ∃i:Nat,z.2=i/\s<=i/\i<=l.length/\z.1=l.take s++((l.drop s).take (i-s)).map g++l.drop i) (λz=>l.length-z.2.toNat) ?_ n _ ⟨s,rfl,O,O,aV⟩ Z;rintro a ⟨x,z⟩ ⟨i,r,D,t,c⟩ G;dsimp only at r c⊢;subst r;have b:(l.take s++((l.drop s).take (i-s)).map g).length=i:=by rw[dw,dL,dP,dP,iV];omega
 have d:x.length=l.length:=by rw[c,dw,b,iV];omega
 refine v _ _ d ?_;rw[A _ d];refine bc (λH=>?_) λL=>?_
 ·obtain⟨e,p⟩: ∃e,l[i]? =some e:=⟨_,bh (O:i<l.length)⟩
  have q:x[i]? =some e:=by
   rw[c,gK O,b,nI,ga];exact p
  refine ai (bI q) (B _ (bA p) _ (ai (hQ O _) ?_));rw[a' O];refine G _ ⟨i+1,Z,O,O,?_⟩ Z;dsimp only;rw[c,fX,xd _ _ O,b,nI,nf p,List.set_cons_zero,show i+1-s=(i-s)+1 by omega,eF,ga,show s+(i-s)=i by omega,p];simp
 have:i=l.length:=O
 subst this;rw[c,mi (l:=l.drop s) (by rw[iV];omega),nL,kn];exact C
def nB(f:az->az)(a:bR):bR:=⟨a.array,a.al.map f⟩
def mD(f:az->az):Nat->Expr->Expr
 |0,e=>e
 |L+1,e=>⟨e.kind,e.num,if e.kind=2 then f e.index else⟨[],0⟩,if e.kind=3 then nB f e.read else⟨[],[]⟩,e.aJ.map (mD f L)⟩
def jK(f:az->az)(s:Stmt):Stmt:=⟨nB f s.write,mD f 5 s.value⟩
def iP(f:az->az)(l:Loop):Loop:=⟨l.bg.map f,l.aD.map f⟩
theorem ny(h:eS e d=true)(a:e.kind=2):cU e.index=true/\hV e.read=true:=by unfold eS et at h;rw[bn a] at h;simp only[Bool.and_eq_true] at h;exact⟨h.2.2.1,h.2.1⟩
theorem nx(h:eS e d=true)(a:e.kind=3):eU e.read d=true/\fQ e.index=true:=by unfold eS at h;rw[br O,bn a] at h;simp only[Bool.and_eq_true] at h;exact⟨h.2.2,h.2.1⟩
theorem rJ(h:eS e d=true)(a: ¬e.kind=2)(b: ¬e.kind=3):fQ e.index=true/\hV e.read=true:=by unfold eS at h;rw[br a,br b] at h;split at h<;>simp only[Bool.and_eq_true] at h<;>exact⟨h.2.1,h.2.2⟩
theorem qY(h:fQ a=true):a=⟨[],0⟩:=by obtain⟨c,k⟩:=a;simp only[fQ,Bool.and_eq_true,decide_eq_true_eq] at h;obtain⟨b,rfl⟩:=h;rw[iW b]
theorem qZ{a:bR}(h:hV a=true):a=⟨[],[]⟩:=by obtain⟨c,k⟩:=a;simp only[hV,Bool.and_eq_true,decide_eq_true_eq] at h;obtain⟨rfl,b⟩:=h;rw[iW b]
theorem Js(b:5500000<=n){a:bR}(c:eU a d=true)(e: ∀x,cU x=true->F x=some (f x)):oP n a F=some (nB f a):=by obtain⟨l,m,h⟩:=ki c;refine ah.eq ?_;unfold oP;exact o7 (K:=λi=>some (⟨a.array,i⟩:bR)) (λx k=>e x (h x k)) O b (ah.some rfl)
theorem CP{d:Int}{F:az->Option az}{f:az->az}(c: ∀x,cU x=true->F x=some (f x)): ∀(L n:Nat) (e:Expr),5500000+L<=n->dR L e d=true->js (n+1) e F=some (mD f L e)
 |0,_,_,_,h=>by cases h
 |L+1,n,e,B,h=>by
  obtain⟨C,k,o⟩:=jq h;obtain⟨n,rfl⟩: ∃j,n=j+1:=⟨n-1,O⟩
  have p:e.aJ.length<=2:=by have:=l8 e.kind;omega
  unfold js;refine ah.eq (ah.aY (λz=>(⟨z.1,z.2.1⟩:az)=(if e.kind=2 then f e.index else⟨[],0⟩)/\(⟨z.2.2.1,z.2.2.2⟩:bR)=(if e.kind=3 then nB f e.read else⟨[],[]⟩)) (λj i=>?_) λz q=>?_)
  ·refine bc (λa=>?_) λa=>bc (λb=>?_) λb=>?_
   ·exact ai (c _ (ny k a).1) (i _ ⟨by rw[bn a],by rw[br O]⟩)
   ·exact ai (Js O (nx k b).1 c) (i _ ⟨by rw[br a],by rw[bn b]⟩)
   exact i _ ⟨by rw[br a],by rw[br b]⟩
  obtain⟨r,s,v,w⟩:=z;obtain⟨l,m⟩:=q;dsimp only at l m⊢;refine o7 (K:=λy=>some (⟨e.kind,e.num,(⟨r,s⟩:az),(⟨v,w⟩:bR),y⟩:Expr)) (λx A=>CP c L n x O (o x A)) O O (ah.some ?_);rw[l,m];rfl
theorem CN(h:6600000<=n)(b:eK s d=true)(a: ∀x,cU x=true->F x=some (f x)):i8 n s F=some (jK f s):=by
 obtain⟨c,e,_⟩:=j7 b;obtain⟨n,rfl⟩: ∃j,n=j+1:=⟨n-1,O⟩
 unfold i8;rw[Js O c a,CP a 5 n s.value O e];rfl
theorem zC{k:Type}{f:k->k}: ∀{l:List k},(∀x∈l,f x=x)->l.map f=l
 | [],_=>rfl
 |x::l,h=>by rw[List.map_cons,h x ep,zC λy a=>h y (dU _ a)]
theorem Ei{a:bR}(b:eU a d=true)(c: ∀x,cU x=true->f x=x):nB f a=a:=by obtain⟨i,k,e⟩:=ki b;unfold nB;rw[zC λx h=>c x (e x h)]
theorem Fj{d:Int}{f:az->az}(k: ∀x,cU x=true->f x=x): ∀{L:Nat} {e:Expr},dR L e d=true->mD f L e=e
 |0,_,_=>rfl
 |L+1,e,h=>by
  obtain⟨n,c,l⟩:=jq h;obtain⟨kind,num,index,read,m⟩:=e;unfold mD;dsimp only at n c l⊢;rw[zC λx o=>Fj k (l x o)];by_cases b:kind=2
  ·have a:=ny c b;dsimp only at a;rw[bn b,br O,k _ a.1,qZ a.2]
  by_cases i:kind=3
  ·have a:=nx c i;dsimp only at a;rw[br b,bn i,Ei a.1 k,qY a.2]
  have a:=rJ c b i;dsimp only at a;rw[br b,br i,qY a.1,qZ a.2]
theorem RT(a: ∀x,cU x=true->f x=x)(b:eK s d=true):jK f s=s:=by obtain⟨c,e,_⟩:=j7 b;unfold jK;rw[Ei c a,Fj a e]
def jL(l:Loop):Prop:=(l.bg.length<=2/\ ∀x∈l.bg,cU x=true)/\l.aD.length<=2/\ ∀x∈l.aD,cU x=true
theorem Tf{o:List Loop}(h:Fit o): ∀l∈o,jL l:=λl a=>by
 obtain⟨i,b⟩:=hz.1 a
 have:=h.2 i l b;exact⟨(nv this.1).2,(nv this.2).2⟩
theorem nh(h:eB r x=true):x.nest.length<=4/\ ∀l∈x.nest,jL l:=by have:=(oi (kI h).1).1;exact⟨this.1,Tf this⟩
theorem GG(h:cU a=true):hb 4 a:=by have:=(jt h).1;unfold hb;omega
theorem u0(d:l.length<=2)(b: ∀x∈l,cU x=true):h8 4 l:=⟨O,λa c=>GG (b a c)⟩
theorem Gw{d:Int}: ∀{L:Nat} {e:Expr},dR L e d=true->h' 4 L e
 |0,_,h=>by cases h
 |L+1,e,h=>by
  obtain⟨l,a,m⟩:=jq h
  have:=l8 e.kind;refine⟨O,?_,?_,λk l=>Gw (m k l)⟩
  ·by_cases b:e.kind=2
   ·exact GG (ny a b).1
   by_cases c:e.kind=3
   ·rw[qY (nx a c).2];unfold hb;simp
   rw[qY (rJ a b c).1];unfold hb;simp
  by_cases c:e.kind=3
  ·have:=ki (nx a c).1;exact u0 this.2.1 this.2.2
  by_cases b:e.kind=2
  ·rw[qZ (ny a b).2];exact⟨aV,λx i=>by cases i⟩
  rw[qZ (rJ a b c).2];exact⟨aV,λx i=>by cases i⟩
theorem Ty(a:eK s d=true):kV 4 s:=by
 obtain⟨b,c,_⟩:=j7 a
 have:=ki b;exact⟨u0 this.2.1 this.2.2,Gw c⟩
theorem Gb(h:eB r x=true):kq 4 x:=by obtain⟨c,a⟩:=nh h;obtain⟨_,d,e,_⟩:=kI h;exact⟨⟨c,λl b=>⟨u0 (a l b).1.1 (a l b).1.2,u0 (a l b).2.1 (a l b).2.2⟩⟩,d.2,λs i=>Ty (e s i)⟩
theorem Gu{l:List bW}(a:l.length<=4)(b:kM l):rz 4 l:=⟨a,λx c=>by have:=b x c;simp only[ho,Bool.and_eq_true,decide_eq_true_eq] at this;omega⟩
theorem Gv(h:da p=true):gM 4 p:=by obtain⟨a,b,c,d,_⟩:=gS h;exact⟨Gu a b,c,λx e=>Gb (d x e)⟩
theorem uD{B:Nat}(h:l.length<=B)(b: ∀x∈l,hb B (f x)):h8 B (l.map f):=⟨by rw[dL];exact h,λa c=>by obtain⟨x,d,rfl⟩:=fY.1 c;exact b x d⟩
theorem Gd{d:Int}{f:az->az}(b: ∀x,cU x=true->hb 4 (f x)): ∀{L:Nat} {e:Expr},dR L e d=true->h' 4 L (mD f L e)
 |0,_,h=>by cases h
 |L+1,e,h=>by
  obtain⟨l,m,n⟩:=jq h
  have:=l8 e.kind;unfold mD h';refine⟨by dsimp only;rw[dL];omega,?_,?_,λk l=>?_⟩
  ·dsimp only;by_cases c:e.kind=2
   ·rw[bn c];exact b _ (ny m c).1
   rw[br c];unfold hb;simp
  ·dsimp only;by_cases i:e.kind=3
   ·rw[bn i]
    have:=ki (nx m i).1;exact uD O λx a=>b x (this.2.2 x a)
   rw[br i];exact⟨aV,λx a=>by cases a⟩
  obtain⟨x,a,rfl⟩:=fY.1 l;exact Gd b (n x a)
theorem Tl(a: ∀x,cU x=true->hb 4 (f x))(b:eK s d=true):kV 4 (jK f s):=by
 obtain⟨c,e,_⟩:=j7 b
 have:=ki c;exact⟨uD O λx h=>a x (this.2.2 x h),Gd a e⟩
theorem RJ(b: ∀x,cU x=true->hb 4 (f x)){l:Loop}(h:jL l):h8 4 (iP f l).bg/\h8 4 (iP f l).aD:=
 ⟨uD (by have:=h.1.1;omega) λx a=>b x (h.1.2 x a),uD (by have:=h.2.1;omega) λx a=>b x (h.2.2 x a)⟩
theorem Ec(n:Nat)(h:a.ak.length<=1100000):jP n a=some a:=by unfold jP ht;rw[bn O];rfl
theorem Eb(n:Nat): ∀x,cU x=true->jP n x=some x:=λx a=>Ec n (by have:=(jt a).1;omega)
theorem Ds(a:5500000<=n)(e:l.length<=2)(b: ∀x∈l,cU x=true):mN n l=some l:=by unfold mN;refine ah.eq (o7 (g:=λx=>x) (K:=λc=>some c) (λx d=>Eb n x (b x d)) O a (ah.some ?_));simp
theorem Na(c:5500000<=n)(o:nest.length<=4)(a: ∀l∈nest,jL l):tt n nest=some nest:=by unfold tt;refine ah.eq ?_;refine tN (β:=Loop) (l:=nest) (n:=n) (F:=λd k=>Option.bind (mN n d.bg) λe=>Option.bind (mN n d.aD) λh=>k (⟨e,h⟩:Loop)) (g:=λx=>x) (s:=0) (pre:=[]) (K:=λi=>some i) ?_ O aV O c (ah.some aV);exact λx b k m=>ai (Ds c (a x b).1.1 (a x b).1.2) (ai (Ds c (a x b).2.1 (a x b).2.2) m)
theorem M9(b:6600000<=n)(a:eK s d=true):ts n s=some s:=by unfold ts;rw[CN b a (F:=λc=>jP n c) (f:=λx=>x) (Eb n),RT (λ_ _=>rfl) a];rfl
theorem M'(a:6600000<=n)(h:eB r x=true):qN n x=some x:=by obtain⟨b,c⟩:=nh h;obtain⟨_,k,d,_⟩:=kI h;unfold qN;refine ah.eq (ai (Na O b c) (o7 (g:=λx=>x) (K:=λe=>some (⟨x.nest,e⟩:Part)) (λs i=>M9 a (d s i)) O O (ah.some ?_)));simp
theorem zz(o:6600000<=n)(h:da p=true):qm n p=some p:=by
 obtain⟨q,r,A,v,_⟩:=gS h;unfold qm;refine ah.eq (tN (F:=λm k=>Option.bind (ht m.bp) λw=>k (⟨m.name,w⟩:bW)) (g:=λx=>x) (s:=0) (pre:=[]) (K:=λy=>ba (λa ((b,c):(List Part)×Int)=>
    bif decide (c<(p.parts.length:Int)) then(
     Option.bind (aH p.parts c) λd=>
     Option.bind (qN n d) λe=>
     Option.bind (app b [e]) λi=>
     a (i,wr (c+1))
    ) else(
     some (⟨y,b⟩:Prog)
    )
   ) n ([],0)) (λx l k z=>ai (x:=x.bp) ?_ z) O aV O O ?_)
 ·have:=(Gu q r).2 x l;unfold ht;rw[bn O]
 refine o7 (g:=λx=>x) (K:=λb=>some (⟨_,b⟩:Prog)) (λx l=>M' o (v x l)) O O (ah.some ?_);simp
theorem fh{k:Type}{a b:List k}(h:b.length=a.length):er a b=some ():=by unfold er;rw[bn h]
theorem Lo(e:5500000<=n){l:Loop}(r:jL l)(p: ∀x,cU x=true->F x=some (f x)):vQ n l F=some (iP f l):=by
 obtain⟨⟨ay,a2⟩,w,v⟩:=r;unfold vQ;refine ah.eq (ah.loop (λz:Loop×Int=>(z.2=0/\z.1=l)\/(z.2=1/\z.1=⟨l.bg.map f,l.aD⟩)\/(z.2=2/\z.1=iP f l)) (λz=>3-z.2.toNat) ?_ n _ (.inl ⟨rfl,rfl⟩) Z);rintro a ⟨x,i⟩ q b;dsimp only at q b⊢;rcases q with ⟨rfl,rfl⟩|⟨rfl,rfl⟩|⟨rfl,rfl⟩
 ·refine ai (fh rfl) (ai (fh rfl) (bc (λ_=>bc (λ_=>?_) λh=>(h rfl).elim) λh=>a7 h O));refine zh (F:=λx k=>Option.bind (F x) k) (W:=λ_ o=>o) (m:=λ_=>(x.bg.length:Int)) (g:=f) (s:=0) (K:=λy=>a ((⟨y,x.aD⟩:Loop),wr (0+1))) (λ_ _ _ h=>h) (λ_ _=>rfl) O (λx c k d=>ai (p x (a2 x c)) d) O e ?_;rw[a' O];exact b _ (.inr (.inl ⟨Z,aV⟩)) Z
 ·refine ai (fh aV) (ai (fh rfl) (bc (λ_=>bc (λh=>a7 h O) λ_=>bc (λ_=>?_) λh=>(h rfl).elim) λh=>a7 h O));refine zh (F:=λx k=>Option.bind (F x) k) (W:=λ_ o=>o) (m:=λ_=>(l.aD.length:Int)) (g:=f) (s:=0) (K:=λy=>a ((⟨l.bg.map f,y⟩:Loop),wr (1+1))) (λ_ _ _ h=>h) (λ_ _=>rfl) O (λx c k d=>ai (p x (v x c)) d) O e ?_;rw[a' O];exact b _ (.inr (.inr ⟨Z,by simp[iP]⟩)) Z
 refine ai (fh (by simp[iP])) (ai (fh (by simp[iP])) (bc (λh=>a7 h O) λ_=>ah.some rfl))
theorem Ln(G:6600000<=n){body:List Stmt}{s:Nat}(S:s<=nest.length)(T:nest.length<=4)(H: ∀l∈nest.drop s,jL l)(U:body.length<=4)(L: ∀s∈body,eK s d=true)(C: ∀x,cU x=true->F x=some (f x)):
  vP n ⟨nest,body⟩ (s:Int) F=some ⟨nest.take s++(nest.drop s).map (iP f),body.map (jK f)⟩:=by
 have v: ∀(a:List Loop),ah (ba (λb ((y,j):(List Stmt)×Int)=>
    Option.bind (er body y) λV=>
    bif decide (j<(body.length:Int)) then(
     Option.bind (aH y j) λQ=>
     Option.bind (i8 n Q F) λR=>
     Option.bind (dh y j R) λX=>
     b (X,wr (j+1))
    ) else(
     some (⟨a,y⟩:Part)
    )
   ) n (body,0)) (λr=>r=⟨a,body.map (jK f)⟩):=λa=>
  zh (F:=λx k=>Option.bind (i8 n x F) k) (W:=λy o=>Option.bind (er body y) λ_=>o) (m:=λ_=>(body.length:Int)) (g:=jK f) (s:=0) (K:=λy=>some (⟨a,y⟩:Part)) (λy o h t=>ai (fh h) t) (λ_ _=>rfl) O (λx c k u=>ai (CN G (L x c) C) u) O O (ah.some aV)
 unfold vP;refine ah.eq ?_
 -- the loops ahead stay: only those behind are changed
 refine ah.loop (λz:List Loop×Int=> ∃i:Nat,z.2=i/\s<=i/\i<=nest.length/\z.1=nest.take s++((nest.drop s).take (i-s)).map (iP f)++nest.drop i) (λz=>nest.length-z.2.toNat) ?_ n _ ⟨s,rfl,O,O,aV⟩ Z;rintro w ⟨x,z⟩ ⟨i,D,E,Y,c⟩ I;dsimp only at D c⊢;subst D;have p:(nest.take s++((nest.drop s).take (i-s)).map (iP f)).length=i:=by rw[dw,dL,dP,dP,iV];omega
 have A:x.length=nest.length:=by rw[c,dw,p,iV];omega
 refine ai (fh A) (bc (λM=>?_) λN=>?_)
 ·obtain⟨e,q⟩: ∃e,nest[i]? =some e:=⟨_,bh (O:i<nest.length)⟩
  have B:x[i]? =some e:=by
   rw[c,gK O,p,nI,ga];exact q
  have P:e∈nest.drop s:=hz.2 ⟨i-s,by rw[ga,show s+(i-s)=i by omega];exact q⟩;refine ai (bI B) (ai (Lo O (H _ P) C) (ai (hQ O _) ?_));rw[a' O];refine I _ ⟨i+1,Z,O,O,?_⟩ Z;dsimp only;rw[c,fX,xd _ _ O,p,nI,nf q,List.set_cons_zero,show i+1-s=(i-s)+1 by omega,eF,ga,show s+(i-s)=i by omega,q];simp
 have:i=nest.length:=O
 subst this;rw[c,mi (l:=nest.drop s) (by rw[iV];omega),nL,kn];exact v _
theorem zm(c:5500000<=n)(k:l.length<=2)(d: ∀x∈l,cU x=true){a:Int}(e: ∀x,cU x=true->kH n x a v b=some (f x)):qV n l a v b=some (l.map f):=by unfold qV;exact ah.eq (o7 (K:=λh=>some h) (λx i=>e x (d x i)) O c (ah.some rfl))
theorem Ou(d:5500000<=n){l:Loop}(c:jL l){a:Int}(e: ∀x,cU x=true->kH n x a v b=some (f x)):tG n l a v b=some (iP f l):=by unfold tG;rw[zm d c.1.1 c.1.2 e,zm d c.2.1 c.2.2 e];rfl
theorem Da(e:5500000<=n){a:bR}(h:eU a d=true){c:Int}(i: ∀x,cU x=true->kH n x c v b=some (f x)):qD n a c v b=some (nB f a):=by have:=ki h;unfold qD;rw[zm e this.2.1 this.2.2 i];rfl
theorem DQ{d a v:Int}{b:az}{f:az->az}(l: ∀n,5500000<=n-> ∀x,cU x=true->kH n x a v b=some (f x)): ∀(L n:Nat) (e:Expr),5500000+L<=n->dR L e d=true->ns (n+1) e a v b=some (mD f L e)
 |0,_,_,_,h=>by cases h
 |L+1,n,e,F,h=>by
  obtain⟨G,m,q⟩:=jq h;obtain⟨n,rfl⟩: ∃j,n=j+1:=⟨n-1,O⟩
  have r:e.aJ.length<=2:=by have:=l8 e.kind;omega
  unfold ns;refine ah.eq (ah.aY (λz=>(⟨z.1,z.2⟩:az)=(if e.kind=2 then f e.index else⟨[],0⟩)) (λj c=>?_) λz o=>ah.aY (λy=>(⟨y.1,y.2⟩:bR)=(if e.kind=3 then nB f e.read else⟨[],[]⟩)) (λj c=>?_) λy p=>?_)
  ·exact bc (λi=>ai (l _ O _ (ny m i).1) (c _ (by rw[bn i]))) λi=>c _ (by rw[br i])
  ·exact bc (λk=>ai (Da O (nx m k).1 (l _ O)) (c _ (by rw[bn k]))) λk=>c _ (by rw[br k])
  obtain⟨s,w⟩:=z;obtain⟨A,B⟩:=y;dsimp only at o p⊢;refine o7 (K:=λC=>some (⟨e.kind,e.num,(⟨s,w⟩:az),(⟨A,B⟩:bR),C⟩:Expr)) (λx D=>DQ l L n x O (q x D)) O O (ah.some ?_);rw[o,p];rfl
theorem Ov(w:6600000<=n){l:List Stmt}(e:l.length<=4)(c: ∀s∈l,eK s d=true){a:Int}(h: ∀n,5500000<=n-> ∀x,cU x=true->kH n x a v b=some (f x)):xS n l a v b=some (l.map (jK f)):=by
 obtain⟨n,rfl⟩: ∃j,n=j+1:=⟨n-1,O⟩
 unfold xS;refine ah.eq ?_;refine tN (β:=Stmt) (l:=l) (n:=n+1) (F:=λi k=>Option.bind (qD (n+1) i.write a v b) λm=>Option.bind (ns (n+1) i.value a v b) λo=>k (⟨m,o⟩:Stmt)) (g:=jK f) (s:=0) (pre:=[]) (K:=λp=>some p) (λx q k r=>?_) O aV O O (ah.some aV);obtain⟨e,c,_⟩:=j7 (c x q);exact ai (Da O e (h _ O)) (ai (DQ h 5 n x.value O c) r)
theorem Ni(c:6600000<=n){s:Nat}(r:s+1<=x.nest.length)(w:x.nest.length<=4)(e: ∀l∈x.nest,jL l)(h:x.body.length<=4)(i: ∀s∈x.body,eK s d=true){way:Int}(a: ∀n,5500000<=n-> ∀x,cU x=true->kH n x way v b=some (f x)):
  xj n x (s:Int) way v b=some ⟨x.nest.take (s+1)++(x.nest.drop (s+1)).map (iP f),x.body.map (jK f)⟩:=by unfold xj;rw[a' O];refine ah.eq (ai (zG O O O) ?_);rw[show((s:Int)+1).toNat=s+1 by omega,show(0:Int).toNat=0 from rfl,List.drop_zero];refine ai (x:=x.nest.take (s+1)) (ek b1) (ai (Ov c h i a) ?_);exact tN (F:=λm k=>Option.bind (tG n m way v b) k) (g:=iP f) (s:=s+1) (pre:=x.nest.take (s+1)) (K:=λo=>some (⟨o,x.body.map (jK f)⟩:Part)) (λl p k q=>ai (Ou O (e l p) (a _ O)) q) O b1 O O (ah.some rfl)
theorem Ee(n:Nat)(h:hb 1100000 a):sK n a=some a:=by unfold sK;rw[jQ _ h];rfl
theorem wO(a:5500000<=n)(h:h8 1100000 l):om n l=some l:=by unfold om;exact ah.eq (jX (K:=λb=>some b) (λx c=>Ee n (h.2 x c)) h.1 a (ah.some rfl))
theorem Ef(b:5500000<=n){a:bR}(h:h8 1100000 a.al):d5 n a=some a:=by unfold d5;rw[wO b h];rfl
theorem Cw: ∀(L n:Nat) (e:Expr),5500000+L<=n->h' 1100000 L e->ls (n+1) e=some e
 |0,_,_,_,h=>h.elim
 |L+1,n,e,l,h=>by
  obtain⟨a,b,c,d⟩:=h;obtain⟨n,rfl⟩: ∃j,n=j+1:=⟨n-1,O⟩
  unfold ls BA;rw[Ee _ b,Ef O c];refine ah.eq (ai rfl (ai rfl (ai (x:=e.aJ) ?_ (ah.some (by cases e;rfl)))));exact ah.eq (jX (f:=ls (n+1)) (K:=λi=>some i) (λx k=>Cw L n x O (d x k)) a O (ah.some rfl))
theorem Nf(a:6600000<=n)(h:kV 1100000 s):sR n s=some s:=by
 obtain⟨n,rfl⟩: ∃j,n=j+1:=⟨n-1,O⟩
 unfold sR;rw[Ef O h.1,Cw 5 n s.value O h.2];rfl
theorem Nh(d:6600000<=n)(h:kq 1100000 x):sS n x=some x:=by
 obtain⟨⟨e,c⟩,i,k⟩:=h;have m:qb n x.nest=some x.nest:=by
  unfold qb;refine ah.eq (jX (K:=λb=>some b) (λl a=>?_) e O (ah.some rfl));unfold vZ;rw[wO O (c l a).1,wO O (c l a).2];rfl
 have o:p' n x.body=some x.body:=by
  unfold p';exact ah.eq (jX (K:=λb=>some b) (λl a=>Nf d (k l a)) i O (ah.some rfl))
 unfold sS;rw[m,o];rfl
theorem Ng(c:6600000<=n)(h:gM 1100000 p):qd n p=some p:=by
 obtain⟨⟨d,e⟩,i,k⟩:=h;have m:p9 n p.bb=some p.bb:=by
  unfold p9;refine ah.eq (jX (K:=λa=>some a) (λl b=>?_) d O (ah.some rfl));unfold vU;rw[jQ _ (e l b)];rfl
 have o:qa n p.parts=some p.parts:=by
  unfold qa;exact ah.eq (jX (K:=λa=>some a) (λl b=>Nh c (k l b)) i O (ah.some rfl))
 unfold qd;rw[m,o];rfl
def eM(p:Prog)(b a:Int):Bool:=da p&&match aH p.parts b with
 |some x=>decide (0<=a/\a<(x.nest.length:Int))
 |none=>false
theorem z7{k:Type}{l:List k}(h: ¬(0<=i/\i<(l.length:Int))):aH l i=none:=by
 cases a:aH l i with
 |none=>rfl
 |some x=>
  obtain⟨b,c⟩:=o3 a
  have:=(bt.1 c).1;exact a7 ⟨b,O⟩ h
theorem R9{l:List R}{x:R}(h:aH l i=some x): ∃k:Nat,i=k/\k<l.length/\l[k]? =some x:=by obtain⟨b,a⟩:=o3 h;exact⟨i.toNat,O,(bt.1 a).1,a⟩
theorem xw(n:Nat)(h:p.parts.length<=1100000)(a:Int):mK n p a=some (decide (0<=a/\a<(p.parts.length:Int))):=by unfold mK;rw[jT,a' O];exact congrArg some (decide_eq_decide.2 O)
theorem Qz(q:7700000<=n)(k:gM 1100000 p)(a b:Int)(r:b≠ -1):m8 n p a b=some (if eM p a b=true then(p,true) else(⟨[],[]⟩,false)):=by
 unfold m8;refine ah.eq (ah.aY (λz=>z= !eM p a b) (λj i=>?_) λz l=>?_)
 ·refine ai (vI q k.sm) (ah.cond (λh=>?_) λh=>?_)
  ·refine i _ ?_;unfold eM;rw[show da p=false by simpa using h];rfl
  have m:da p=true:=by simpa using h
  refine ai (xw n k.2.1 a) ?_;by_cases d:0<=a/\a<(p.parts.length:Int)
  ·obtain⟨x,e,o⟩:=rS d.1 d.2;rw[bN d];refine cj (dD (λ_=>ai (x:=eM p a b) ?_ (i _ rfl)) λh=>a7 h r);unfold BD;refine ah.eq (ah.aY (λz=>z=eM p a b) (λj i=>?_) λz l=>ah.some l);rw[xw n k.2.1 a,bN d];refine ai rfl (dt (ai e ?_))
   have:=(k.2.2 x (bA o)).1.1;rw[a' O,jT];refine ai rfl (i _ ?_);unfold eM;rw[m,e];exact decide_eq_decide.2 O
  rw[bs d];refine dt (i _ ?_);unfold eM;rw[z7 d,kT];rfl
 subst l;by_cases c:eM p a b=true
 ·rw[c];have m:da p=true:=by unfold eM at c;rw[ra] at c;exact c.1
  obtain⟨x,e⟩: ∃x,aH p.parts a=some x:=by
   cases e:aH p.parts a with
   |some x=>exact⟨x,rfl⟩
   |none=>unfold eM at c;rw[e,kT] at c;cases c
  exact cj (ai (zz O m) (ai e (ah.some rfl)))
 rw[show eM p a b=false by simpa using c];exact dt (ah.some rfl)
def mI(q:Prog):Prog×Bool:=if da q=true then(q,true) else(⟨[],[]⟩,false)
theorem MO(b:7700000<=n)(c:gM 1100000 p):wF n p=some (mI p):=by
 unfold wF mI;refine ah.eq (ai (vI b c.sm) (ah.cond (λh=>ah.some ?_) λh=>?_))
 ·rw[br (by simpa using h)]
 have a:da p=true:=by simpa using h
 rw[bn a];exact ai (zz O a) (ah.some rfl)
theorem Sb(k:7700000<=n)(l:gM 1100000 p)(a b:Int):rm n p a b=some (eM p a b):=by
 unfold rm;refine ah.eq (ah.aY (λz=>z=eM p a b) (λj c=>?_) λz m=>ah.some m);refine ai (Bx k l.sm) (ah.cond (λd=>?_) λd=>c _ (by unfold eM;rw[d];rfl));refine bc (λh=>bc (λi=>?_) λi=>?_) λh=>?_
 ·obtain⟨x,e,o⟩:=rS h i;refine bc (λq=>ai e (c _ ?_)) λq=>c _ ?_
  ·unfold eM;rw[d,e];exact decide_eq_decide.2 O
  unfold eM;rw[d,e];exact(bs O).symm
 ·exact c _ (by unfold eM;rw[z7 O,kT])
 exact c _ (by unfold eM;rw[z7 O,kT])
theorem Rq(d:7700000<=n)(a:gM 1100000 p){i:Nat}(e:i<p.parts.length)(k:kq 1100000 y):xQ n p (i:Int) 1 [y]=some (mI ⟨p.bb,p.parts.set i y⟩):=by
 have b:=a.2.1;have c:gM 1100000 ⟨p.bb,p.parts.set i y⟩:=⟨a.1,by dsimp only;rw[pg];exact b,zn a.2.2 k⟩
 unfold xQ mI;refine ah.eq (ai (Dd O a) (ai (zG O O O) ?_));rw[fX,show(0:Int).toNat=0 from rfl,List.drop_zero];refine ai (x:=p.parts.take i) (ek b1) (ai (x:=p.parts.take i++[y]) (ek b1) ?_);rw[a' O];refine ai (zG O O O) ?_;rw[fX,dA,show((i:Int)+1).toNat=i+1 by omega];refine ai (x:=p.parts.set i y) ?_ (ai (Bx d c.sm) (ah.cond (λh=>ah.some ?_) λh=>?_))
 ·rw[ek b1,List.set_eq_take_append_cons_drop,bn e,ix];rfl
 ·rw[br (by simpa using h)]
 rw[bn (by simpa using h)];exact ai (Dd O c) (ah.some rfl)
def pX(a:az)(k:Int)(b:az):az:=⟨List.zipWith (λx y=>x+k*y) a.ak b.ak,a.const+k*b.const⟩
def rT(k:Nat):az:=⟨[0,0,0,0].set k 1,0⟩
def gh(m:Int)(a:az):Prop:=a.ak.length=4/\cM m a.const/\ ∀c∈a.ak,cM m c
theorem gh.mono{m b:Int}(h:gh m a)(e:m<=b):gh b a:=⟨h.1,⟨by have:=h.2.1.1;omega,by have:=h.2.1.2;omega⟩,λc d=>⟨by have:=(h.2.2 c d).1;omega,by have:=(h.2.2 c d).2;omega⟩⟩
theorem vf{l:List Int}(h:l.length=4): ∃a b c d,l=[a,b,c,d]:=by
 match l,h with
 | [a,b,c,d],_=>exact⟨a,b,c,d,rfl⟩
theorem Ge(h:cU a=true):gh 99 a:=by obtain⟨e,i,b⟩:=jt h;exact⟨e,i,λc d=>⟨by have:=(b c d).1;omega,by have:=(b c d).2;omega⟩⟩
theorem Rw(a:k<4):gh 6 (rT k):=by rcases(O:k=0\/k=1\/k=2\/k=3) with rfl|rfl|rfl|rfl<;>(unfold gh cM rT;simp)
theorem iA{k b:Int}(a:cM 1000 k)(c:cM 1000 b):cM 1000000 (k*b):=u2 O O a c
theorem tR{a x:Int}(b:cM 1000 a)(c:cM 1000000 x):wr (a+wr x)=a+x:=by unfold cM at b c;rw[a' (n:=x) O,a' O]
theorem Sa(m:Nat)(a b c d ac k e h i l n:Int):u6 (m+6) ⟨[a,b,c,d],ac⟩ k ⟨[e,h,i,l],n⟩=
  some ⟨[wr (a+wr (k*e)),wr (b+wr (k*h)),wr (c+wr (k*i)),wr (d+wr (k*l))],wr (ac+wr (k*n))⟩:=J
theorem P5(x:5500000<=n)(p:gh 1000 a)(q:gh 1000 b){k:Int}(c:cM 1000 k):u6 n a k b=some (pX a k b):=by
 obtain⟨m,rfl⟩: ∃m,n=m+6:=⟨n-6,O⟩
 obtain⟨ac,a⟩:=a;obtain⟨y,b⟩:=b;obtain⟨h,i,d⟩:=p;obtain⟨l,o,e⟩:=q;dsimp only at h i d l o e;obtain⟨a0,ay,a2,a3,rfl⟩:=vf h;obtain⟨r,s,v,w,rfl⟩:=vf l;rw[Sa,tR (d a0 aV) (iA c (e r aV)),tR (d ay aV) (iA c (e s aV)),tR (d a2 aV) (iA c (e v aV)),tR (d a3 aV) (iA c (e w aV)),tR i (iA c o)];rfl
def vk(a:az)(x:Int)(b:az)(y:Int):az:=⟨List.zipWith (λp q=>x*p+y*q) a.ak b.ak,x*a.const+y*b.const⟩
theorem Su(m:Nat)(a b c d ac x e h i k l y:Int):qA (m+6) ⟨[a,b,c,d],ac⟩ x ⟨[e,h,i,k],l⟩ y=
  some ⟨[wr (wr (x*a)+wr (y*e)),wr (wr (x*b)+wr (y*h)),wr (wr (x*c)+wr (y*i)),wr (wr (x*d)+wr (y*k))],wr (wr (x*ac)+wr (y*l))⟩:=J
theorem tS{a x:Int}(b:cM 1000000 a)(c:cM 1000000 x):wr (wr a+wr x)=a+x:=by unfold cM at b c;rw[a' (n:=x) O,a' (n:=a) O,a' O]
theorem EB(z:5500000<=n)(p:gh 1000 a)(q:gh 1000 b){x y:Int}(c:cM 1000 x)(d:cM 1000 y):qA n a x b y=some (vk a x b y):=by
 obtain⟨m,rfl⟩: ∃m,n=m+6:=⟨n-6,O⟩
 obtain⟨ac,a⟩:=a;obtain⟨A,b⟩:=b;obtain⟨i,k,e⟩:=p;obtain⟨l,o,h⟩:=q;dsimp only at i k e l o h;obtain⟨a0,ay,a2,a3,rfl⟩:=vf i;obtain⟨r,s,v,w,rfl⟩:=vf l;rw[Su,tS (iA c (e a0 aV)) (iA d (h r aV)),tS (iA c (e ay aV)) (iA d (h s aV)),tS (iA c (e a2 aV)) (iA d (h v aV)),tS (iA c (e a3 aV)) (iA d (h w aV)),tS (iA c k) (iA d o)];rfl
theorem R5(a b:az)(k:Int):vk a 1 b k=pX a k b:=by unfold vk pX;simp only[Int.one_mul]
theorem To(a b:az)(k:Int)(c:a.ak.length=4)(d:b.ak.length=4):(pX a k b).ak.length=4:=by unfold pX;rw[rh];omega
def vd(a:az)(k:Nat)(b:az):az:=pX ⟨a.ak.set k 0,a.const⟩ (a.ak.getD k 0) b
theorem FD(h:gh 1000 a)(k:Nat):gh 1000 ⟨a.ak.set k 0,a.const⟩:=⟨by dsimp only;rw[pg];exact h.1,h.2.1,zn h.2.2 ⟨O,O⟩⟩
theorem E7(h:gh 1000 a)(c:k<4):a.ak[k]? =some (a.ak.getD k 0)/\cM 1000 (a.ak.getD k 0):=by
 have b:k<a.ak.length:=by rw[h.1];exact c
 have e:=bh b;have d:a.ak.getD k 0=a.ak[k]:=by rw[fs,e];rfl
 rw[d];exact⟨e,h.2.2 _ (ft b)⟩
theorem M1(e:5500000<=n)(c:gh 1000 a)(h:gh 1000 b)(d:k<4):ux n a (k:Int) b=some (vd a k b):=by
 obtain⟨i,l⟩:=E7 c d;have m:k<a.ak.length:=by rw[c.1];exact d
 unfold ux;rw[Ec n (by have:=c.1;omega)];refine ah.eq (ai rfl (ai (bI i) (ai (hQ O _) (ai (P5 e (FD c k) h l) (ah.some rfl)))))
theorem Nx(h:5500000<=n)(c:gh 1000 a)(i:gh 1000 b)(d:k<4):w7 n a (k:Int) b=some (vd a k b):=by
 obtain⟨e,l⟩:=E7 c d;have m:k<a.ak.length:=by rw[c.1];exact d
 unfold w7;rw[jQ _ (by have:=c.1;omega)];refine ah.eq (ai rfl (ai (bI e) (ai (hQ O _) (ai (bI e) (ai (EB h (FD c k) i ⟨O,O⟩ l) (ah.some ?_))))));rw[R5];rfl
theorem P9(n:Nat)(a:k<4):zo n (k:Int)=some (rT k):=by rcases(O:k=0\/k=1\/k=2\/k=3) with rfl|rfl|rfl|rfl<;>rfl
def qR:Prog×Bool:=(⟨[],[]⟩,false)
theorem zK{a b:Int}(h:eM p a b=true):da p=true/\ ∃(i k:Nat) (P:Part) (l:Loop),a=i/\b=k/\p.parts[i]? =some P/\P.nest[k]? =some l/\i<p.parts.length/\k<P.nest.length/\eB p.bb P=true/\k<4:=by
 unfold eM at h;rw[ra] at h;obtain⟨m,h⟩:=h;refine⟨m,?_⟩;cases d:aH p.parts a with
 |none=>rw[d] at h;cases h
 |some P=>
  rw[d] at h;obtain⟨i,rfl,o,n⟩:=R9 d;obtain⟨q,r⟩:=xT h;obtain⟨l,s,e⟩:=rS q r;have c:=(gS m).2.2.2.1 P (bA n)
  have:=(nh c).1;exact⟨i,b.toNat,P,l,rfl,O,n,e,o,O,c,O⟩
theorem Tm(a:gM 1100000 p)(i:Nat)(b:kq 4 y):gM 1100000 ⟨p.bb,p.parts.set i y⟩:=⟨a.1,by dsimp only;rw[pg];exact a.2.1,zn a.2.2 (b.mono O)⟩
def nm(s:Int):az:=⟨[0,0,0,0],s⟩
theorem ES{b a:Int}(h:a<0):eM p b a=false:=by
 cases c:eM p b a with
 |false=>rfl
 |true=>obtain⟨_,i,k,P,l,_,d,_⟩:=zK c;omega
theorem Oq(e:7700000<=n)(d:gM 1100000 p)(a:Int):ah (m8 n p a (-1)) (λr=>r.2=false->r=qR):=by
 unfold m8;refine ah.aY (λz=>z=false->da p=true/\(0<=a/\a<(p.parts.length:Int))) (λj b=>?_) λz i=>?_
 ·refine ai (vI e d.sm) (ah.cond (λh=>b _ λh=>by cases h) λh=>?_);refine ai (xw n d.2.1 a) (ah.cond (λh=>b _ λh=>by cases h) λc=>dD (λh=>(h rfl).elim) λ_=>b _ λ_=>⟨by simpa using h,by simpa using c⟩)
 refine ah.cond (λ_=>ah.some λ_=>rfl) λh=>?_;obtain⟨k,l,c⟩:=i h;obtain⟨x,m,o⟩:=rS l c;exact ai (zz O k) (ai m (ah.some λh=>by cases h))
def H2(k:Nat)(s:Int):az:=⟨[0,0,0,0].set k s,0⟩
def low(k:Nat)(b:az):Prop:= ∀j,k<=j->b.ak.getD j 0=0
theorem Gc{p:Prog}(c:da p=true){x:cy}(i:fO p x): ∀{a:List cy} {m:List Int},(∀y∈a,fO p y)->(∀y∈a,Ax p x y)->oc p.bb m->j8 p (hv p m x) a=hv p (j8 p m a) x
 | [],m,_,_,_=>rfl
 |y::a,m,d,e,h=>by show j8 p (hv p (hv p m x) y) a=hv p (j8 p (hv p m y) a) x;rw[e y ep m h];exact Gc c i (λz b=>d z (dU _ b)) (λz b=>e z (dU _ b)) (FF c h (d y ep))
theorem block{p:Prog}(b:da p=true): ∀{X a:List cy} {m:List Int},(∀x∈X,fO p x)->(∀y∈a,fO p y)->(∀x∈X,∀y∈a,Ax p x y)->oc p.bb m->j8 p (j8 p m X) a=j8 p (j8 p m a) X
 | [],a,m,_,_,_,_=>rfl
 |x::X,a,m,c,e,h,i=>by show j8 p (j8 p (hv p m x) X) a=j8 p (hv p (j8 p m a) x) X;rw[block b (λz d=>c z (dU _ d)) e (λz d=>h z (dU _ d)) (FF b i (c x ep)),Gc b (c x ep) e (h x ep) i]
def kv:List Int->List Int->Bool
 |a::as,b::c=>if a=b then kv as c else decide (a<b)
 | [],_::_=>true
 |_,[]=>false
theorem Qc{p q:List Int}(y:p.length<n)(A:p.length<=1100000)(B:q.length<=1100000):xn n p q=some (kv p q):=by
 unfold xn;refine ah.eq (ah.loop (λx:Int=> ∃i:Nat,x=i/\i<=p.length/\i<=q.length/\kv (p.drop i) (q.drop i)=kv p q) (λx=>p.length-x.toNat) ?_ n 0 ⟨0,rfl,O,O,rfl⟩ O);rintro b x ⟨i,rfl,C,D,a⟩ m;refine ah.aY (λz=>z=decide (i<p.length/\i<q.length)) (λj l=>bc (λh=>l _ ?_) λh=>l _ ?_) λz o=>?_
 ·rw[Bool.eq_iff_iff];simp only[decide_eq_true_eq];omega
 ·exact(bs O).symm
 subst o;refine bc (λh=>?_) λh=>ah.some ?_
 ·have c:=bh h.1;have d:=bh h.2;rw[nF h.1,nF h.2] at a;simp only[kv] at a;refine ai (bI c) (ai (bI d) (dD (λk=>ah.some ?_) λr=>?_))
  ·rw[br k] at a;exact a
  rw[bn r] at a;rw[a' O];exact m _ ⟨i+1,O,O,O,a⟩ O
 rw[<-a];by_cases e:i<p.length
 ·have s:q.drop i=[]:=xa O;rw[s,nF e];simp only[kv];exact bs O
 have v:p.drop i=[]:=xa O;rw[v];by_cases w:i<q.length
 ·rw[nF w];simp only[kv];exact bN O
 rw[xa (O:q.length<=i)];simp only[kv];exact bs O
def ir(l:List az):Bool:=l.all λa=>decide (fj a.ak=0)
def eN(l:Loop):Bool:=decide (l.bg.length=1)&&(decide (l.aD.length=1)&&(ir l.bg&&ir l.aD))
def fI(l:List az):Int:=(l.headD ⟨[],0⟩).const
theorem Dw(b:5500000<=n)(e:l.length<=2)(c: ∀x∈l,cU x=true):tu n l=some (ir l):=by
 unfold tu;rw[BI (p:=λa=>decide (0<(fj a.ak:Int))) (λx d=>by
  unfold wz;rw[CB b (show x.ak.length<=1100000 by have:=(jt (c x d)).1;omega)];rfl) O O]
 show some (!l.any _)=_;congr 1;unfold ir;rw[List.not_any_eq_all_not];congr 1;funext a;by_cases h:fj a.ak=0
 ·simp[h]
 have:0<(fj a.ak:Int):=O
 simp[h];omega
theorem PS(d:5500000<=n){l:Loop}(h:jL l):v8 n l=some (if eN l=true then(fI l.bg,fI l.aD,true) else(0,0,false)):=by
 obtain⟨⟨e,i⟩,k,m⟩:=h;unfold v8;refine ah.eq (ah.aY (λz=>z= !eN l) (λj a=>?_) λz o=>?_)
 ·refine dD (λh=>a _ ?_) λh=>dD (λp=>a _ ?_) λp=>ai (Dw d e i) (ah.cond (λb=>a _ ?_) λb=>ai (Dw d k m) (a _ ?_))
  ·unfold eN;rw[bs (show¬l.bg.length=1 by omega)];rfl
  ·unfold eN;rw[bs (show¬l.aD.length=1 by omega),Bool.false_and,kT];rfl
  ·unfold eN;rw[show ir l.bg=false by simpa using b];simp
  unfold eN;rw[show ir l.bg=true by simpa using b,bN (O:l.bg.length=1),bN (O:l.aD.length=1)];rfl
 subst o;cases c:eN l with
 |false=>exact dt (ah.some rfl)
 |true=>
  refine cj ?_;unfold eN at c;simp only[Bool.and_eq_true,decide_eq_true_eq] at c;obtain⟨q,r,_⟩:=c;obtain⟨x,s⟩:=xb.1 q;obtain⟨y,v⟩:=xb.1 r;rw[s,v];exact ai (x:=x) rfl (ai (x:=y) rfl (ah.some rfl))
theorem RY(s:5500000<=n){l:Loop}(h:jL l):xZ n l=some (ir l.bg&&ir l.aD):=by
 obtain⟨⟨A,v⟩,B,w⟩:=h;have r: ∀x,cU x=true->l3 n x=some (fj x.ak:Int):=λx b=>wK s (show x.ak.length<=1100000 by have:=(jt b).1;omega);have d: ∀(l:List az) (i:Nat) (x:az),l[i]? =some x->fj x.ak=0->ir (l.take i)=true->ir (l.take (i+1))=true:=λl i x b k c=>by
  unfold ir at c⊢;rw[eF,b,List.all_append,c];simp[k]
 have o: ∀(l:List az) (i:Nat) (x:az),l[i]? =some x-> ¬fj x.ak=0->ir l=false:=λl i x b k=>by
  unfold ir;rw[ha];exact⟨x,bA b,by simp[k]⟩
 unfold xZ;refine ah.eq (ah.loop (λz:Int=> ∃i:Nat,z=i/\i<=l.bg.length/\ir (l.bg.take i)=true) (λz=>l.bg.length-z.toNat) ?_ n _ ⟨0,rfl,O,rfl⟩ O);rintro m z ⟨i,rfl,y,c⟩ p;refine bc (λa=>?_) λq=>?_
 ·have a:i<l.bg.length:=O
  have b:=bh a;refine ai (bI b) (ai (r _ (v _ (ft a))) (bc (λk=>ah.some ?_) λk=>?_))
  ·rw[o l.bg i _ b O];rfl
  rw[a' O];exact p _ ⟨i+1,O,O,d _ _ _ b O c⟩ O
 have e:i=l.bg.length:=O
 subst e;rw[dA] at c;rw[c,hB];refine ah.loop (λz:Int=> ∃i:Nat,z=i/\i<=l.aD.length/\ir (l.aD.take i)=true) (λz=>l.aD.length-z.toNat) ?_ n _ ⟨0,rfl,O,rfl⟩ O;rintro m z ⟨i,rfl,y,c⟩ p;refine bc (λa=>?_) λq=>ah.some ?_
 ·have a:i<l.aD.length:=O
  have b:=bh a;refine ai (bI b) (ai (r _ (w _ (ft a))) (bc (λk=>ah.some ?_) λk=>?_))
  ·exact(o l.aD i _ b O).symm
  rw[a' O];exact p _ ⟨i+1,O,O,d _ _ _ b O c⟩ O
 have e:i=l.aD.length:=O
 subst e;rw[dA] at c;exact c.symm
theorem OQ(c:5500000<=n){l:Loop}(h:jL l):xk n l=some (if eN l=true then(fI l.bg,fI l.aD,true) else(0,0,false)):=by
 unfold xk;refine ah.eq (ah.aY (λz=>z= !eN l) (λj a=>?_) λz d=>?_)
 ·refine dD (λe=>a _ ?_) λe=>dD (λi=>a _ ?_) λi=>ai (RY c h) (a _ ?_)
  ·unfold eN;rw[bs (show¬l.bg.length=1 by omega)];rfl
  ·unfold eN;rw[bs (show¬l.aD.length=1 by omega),Bool.false_and,kT];rfl
  unfold eN;rw[bN (O:l.bg.length=1),bN (O:l.aD.length=1)];rfl
 subst d;cases b:eN l with
 |false=>exact dt (ah.some rfl)
 |true=>
  refine cj ?_;unfold eN at b;simp only[Bool.and_eq_true,decide_eq_true_eq] at b;obtain⟨k,m,_⟩:=b;obtain⟨x,o⟩:=xb.1 k;obtain⟨y,p⟩:=xb.1 m;rw[o,p];exact ai (x:=x) rfl (ai (x:=y) rfl (ah.some rfl))
end
section
theorem xC: ∀a,cmpL a a=0
 | []=>rfl
 |x::a=>by unfold cmpL;rw[br O,br O];exact xC a
theorem oY: ∀a b,cmpL b a= -cmpL a b
 | [],[]=>by simp[cmpL]
 | [],_::_=>by simp[cmpL]
 |_::_,[]=>by simp[cmpL]
 |x::a,y::b=>by
  unfold cmpL;by_cases c:x<y
  ·simp[c,show¬y<x by omega]
  by_cases d:y<x
  ·simp[c,d]
  rw[br c,br d,br d,br c];exact oY a b
theorem tO: ∀{a b},cmpL a b=0->a=b
 | [],[],_=>rfl
 | [],_::_,h=>by simp[cmpL] at h
 |_::_,[],h=>by simp[cmpL] at h
 |x::a,y::b,h=>by
  unfold cmpL at h;by_cases c:x<y
  ·rw[bn c] at h;omega
  by_cases d:y<x
  ·rw[br c,bn d] at h;omega
  rw[br c,br d] at h;rw[tO h,show x=y by omega]
theorem ry: ∀{k l m},cmpL k l<0->cmpL l m<0->cmpL k m<0
 | [],[],_,h,_=>by simp[cmpL] at h
 | [],_::_,[],_,h=>by simp[cmpL] at h
 | [],_::_,_::_,_,_=>by simp[cmpL]
 |_::_,[],_,h,_=>by simp[cmpL] at h
 |_::_,_::_,[],_,h=>by simp[cmpL] at h
 |x::k,y::l,z::m,i,e=>by
  unfold cmpL at i e⊢;by_cases a:x<y
  ·by_cases b:y<z
   ·rw[bn O];omega
   by_cases c:z<y
   ·rw[br b,bn c] at e;omega
   rw[bn O];omega
  by_cases b:y<x
  ·rw[br a,bn b] at i;omega
  by_cases c:y<z
  ·rw[bn O];omega
  by_cases d:z<y
  ·rw[br c,bn d] at e;omega
  rw[br O,br O];rw[br a,br b] at i;rw[br c,br d] at e;exact ry i e
theorem Er: ∀a b,kv a b=decide (cmpL a b<0)
 | [],[]=>rfl
 | [],_::_=>rfl
 |_::_,[]=>rfl
 |x::a,y::b=>by
  unfold kv cmpL;by_cases h:x=y
  ·subst h;simp only[if_true,Int.lt_irrefl,if_false];exact Er a b
  by_cases c:x<y
  ·simp[h,c]
  have:y<x:=O
  simp[h,c,this]
abbrev gg(l:List (List Int)):Prop:=l.Pairwise λa b=>cmpL a b<0
theorem Gx: ∀{l m:List (List Int)},gg l->gg m->(∀x,x∈l↔x∈m)->l=m
 | [],[],_,_,_=>rfl
 | [],y::m,_,_,h=>by have:=(h y).2 aV;simp at this
 |x::l,[],_,_,h=>by have:=(h x).1 aV;simp at this
 |x::l,y::m,s,v,h=>by
  obtain⟨q,w⟩:=nK.1 s;obtain⟨r,A⟩:=nK.1 v;have e:x=y:=by
   rcases dz.1 ((h x).1 aV) with d|d
   ·exact d
   rcases dz.1 ((h y).2 aV) with i|i
   ·exact i.symm
   have a:=r x d;have b:=q y i
   have:=ry a b;rw[xC] at this;omega
  subst e;have k:x∉l:=λn=>by have:=q x n;rw[xC] at this;omega
  have o:x∉m:=λn=>by have:=r x n;rw[xC] at this;omega
  rw[Gx w A (λz=>⟨λc=>by
   rcases dz.1 ((h z).1 (dU _ c)) with rfl|p
   ·exact a7 c k
   ·exact p,λc=>by
   rcases dz.1 ((h z).2 (dU _ c)) with rfl|p
   ·exact a7 c o
   exact p⟩)]
def gp:List (List Int)->List Int->List (List Int)
 | [],d=>[d]
 |x::a,d=>if cmpL d x<0 then d::x::a else x::gp a d
theorem yY{d z:List Int}: ∀{l:List (List Int)},z∈gp l d↔z=d\/z∈l
 | []=>by simp[gp]
 |x::a=>by
  unfold gp;split
  ·simp
  simp only[List.mem_cons,yY (l:=a)];constructor
  ·rintro(h|h|h)
   ·exact .inr (.inl h)
   ·exact .inl h
   exact .inr (.inr h)
  rintro(h|h|h)
  ·exact .inr (.inl h)
  ·exact .inl h
  exact .inr (.inr h)
theorem Fo{d:List Int}: ∀{l:List (List Int)},gg l->d∉l->gg (gp l d)
 | [],_,_=>by simp[gp]
 |x::m,a,b=>by
  obtain⟨c,i⟩:=nK.1 a;unfold gp;split
  ·rename_i h;refine nK.2 ⟨λz db=>?_,a⟩;rcases dz.1 db with rfl|db
   ·exact h
   exact ry h (c z db)
  rename_i h;refine nK.2 ⟨λz db=>?_,Fo i λk=>b (dU _ k)⟩;rcases yY.1 db with rfl|db
  ·have n:=oY z x;have o:cmpL z x≠0:=λe=>b (by rw[tO e];simp);omega
  exact c z db
def fU(l:List (List Int))(d:List Int):List (List Int):=if d∈l then l else gp l d
variable {l:List (List Int)}{d a b:List Int}{R:Type}{n k i:Nat}{p:Prog}{c:Int}{P:Part}
theorem RM(h:gg l)(d:List Int):gg (fU l d):=by
 unfold fU;split
 ·exact h
 exact Fo h ‹_›
theorem EJ{z:List Int}:z∈fU l d↔z=d\/z∈l:=by
 unfold fU;split
 ·rename_i h;exact⟨.inr,λdb=>by rcases db with rfl|db;exact h;exact db⟩
 exact yY
theorem y6: ∀(a l:List (List Int)),gg l->gg (a.foldl fU l)/\ ∀z,z∈a.foldl fU l↔z∈l\/z∈a
 | [],l,h=>⟨h,λz=>aV⟩
 |d::a,l,h=>by
  obtain⟨b,c⟩:=y6 a (fU l d) (RM h d);refine⟨b,λz=>?_⟩;rw[List.foldl_cons,c z,EJ,dz];constructor
  ·rintro((h|h)|h)
   ·exact .inr (.inl h)
   ·exact .inl h
   exact .inr (.inr h)
  rintro(h|h|h)
  ·exact .inl (.inr h)
  ·exact .inl (.inl h)
  exact .inr h
def e5:List (List Int)->List (List Int)
 | []=>[]
 | [x]=>[x]
 |x::y::r=>if x=y then e5 (y::r) else x::e5 (y::r)
theorem B2{z:List Int}: ∀{l:List (List Int)},z∈e5 l↔z∈l
 | []=>by simp[e5]
 | [x]=>by simp[e5]
 |x::y::r=>by
  have a:=B2 (z:=z) (l:=y::r);unfold e5;split
  ·rename_i h;subst h;rw[a];simp
  rw[dz,a];simp
theorem Cf: ∀{l:List (List Int)},l.Pairwise (λa b=> ¬cmpL b a<0)->gg (e5 l)
 | [],_=>by simp[e5]
 | [x],_=>by simp[e5]
 |x::y::r,h=>by
  obtain⟨m,i⟩:=nK.1 h;obtain⟨n,_⟩:=nK.1 i;unfold e5;split
  ·exact Cf i
  rename_i k;refine nK.2 ⟨λz db=>?_,Cf i⟩;have d:cmpL x y<0:=by
   have a:=m y aV;have b:=oY x y;have c:cmpL x y≠0:=λe=>k (tO e);omega
  rcases dz.1 (B2.1 db) with rfl|db
  ·exact d
  have a:=n z db;have b:=oY y z;by_cases e:cmpL y z=0
  ·rw[<-tO e];exact d
  exact ry d O
theorem LQ(l:List (List Int)):(d0 l).Pairwise (λa b=> ¬cmpL b a<0):=by
 have:=List.pairwise_mergeSort (le:=λx y=> !decide (cmpL y x<0)) (λa b c k d=>by
  simp only[Bool.not_eq_true',decide_eq_false_iff_not] at*;intro h;have i:=oY a b;have m:=oY b c;by_cases e:cmpL b a=0
  ·rw[tO e] at d;exact d h
  ·exact d (ry h O)) (λa b=>by
  have i:=oY a b;by_cases h:cmpL b a<0
  ·have: ¬cmpL a b<0:=O
   simp[h,this]
  simp[h]) l
 refine this.imp λh=>?_;simpa using h
theorem R3(a:List (List Int)):e5 (d0 a)=a.foldl fU []:=by obtain⟨b,c⟩:=y6 a [] List.Pairwise.nil;refine Gx (Cf (LQ a)) b λz=>?_;rw[B2,c z];unfold d0;rw[List.mem_mergeSort];simp
def iM(b a:List Int):List Int:=List.zipWith (λx y=>x-y) b a
theorem Ep{Q:R->Prop}(D:a.length=b.length)(F:b.length<=1100000)(G:1100000<n)(m: ∀x∈a,cM 9999 x)(o: ∀x∈b,cM 9999 x){K:List Int->Option R}(z:ah (K (iM b a)) Q):
  ah (ba (λc ((h,d):(List Int)×Int)=>
   bif decide (d<(b.length:Int)) then(
    Option.bind (aH b d) λp=>
    Option.bind (aH a d) λq=>
    Option.bind (app h [wr (p-q)]) λr=>
    c (r,wr (d+1))
   ) else(
    K h
   )) n ([],0)) Q:=by
 refine ah.loop (λx:List Int×Int=> ∃i:Nat,x.2=i/\i<=b.length/\x.1=(iM b a).take i) (λx=>b.length-x.2.toNat) ?_ n _ ⟨0,rfl,O,aV⟩ Z;rintro s ⟨x,k⟩ ⟨i,v,H,l⟩ A;dsimp only at v l⊢;subst v;have B:(iM b a).length=b.length:=by unfold iM;rw[rh];omega
 refine bc (λe=>?_) λC=>?_
 ·have e:i<b.length:=O
  have w:=bh e;have y:=bh (O:i<a.length);have cF:=o _ (ft e);have b2:=m _ (ft (O:i<a.length));unfold cM at cF b2;refine ai (bI w) (ai (bI y) (ai (ek (by rw[l,dP];simp;omega)) ?_));rw[a' (n:=b[i]-a[i]) O,a' O];refine A _ ⟨i+1,Z,O,?_⟩ Z;dsimp only;rw[eF,<-l];congr 1;unfold iM;rw[List.getElem?_zipWith,w,y];rfl
 have:i=b.length:=O
 subst this;rw[mi O] at l;rw[l];exact z
theorem M5(e:a.length=b.length)(h:b.length<=1100000)(i:1100000<n)(c: ∀x∈a,cM 9999 x)(d: ∀x∈b,cM 9999 x):xl n b a=some (iM b a):=by unfold xl;exact ah.eq (Ep e h i c d (ah.some rfl))
theorem Qd(E:22000000<=n)(I:l.length<=15000)(Q: ∀x∈l,x.length<=1100000)(R:d.length<=1100000):um n l d=some (fU l d):=by
 unfold um;refine ah.eq (ah.loop (λx:List (List Int)×Bool×Int=> ∃i:Nat,x.2.2=i/\i<=l.length/\d∉l.take i/\(x.2.1=true->x.1.length<=i+1/\gp l d=x.1++l.drop i)/\(x.2.1=false->x.1.length<=i/\gp l d=x.1++gp (l.drop i) d)) (λx=>l.length-x.2.2.toNat) ?_ n _ ⟨0,rfl,O,aV,(λh=>by cases h),λ_=>⟨aV,aV⟩⟩ Z);rintro w ⟨M,e,k⟩ ⟨i,K,N,c,y,A⟩ W;dsimp only at K y A⊢;subst K;refine bc (λb=>?_) λX=>?_
 ·have b:i<l.length:=O
  have L:=bh b;have B:l[i].length<=1100000:=Q _ (ft b);refine ai (bI L) (ai (L3 O O) (bc (λC=>ah.some ?_) λD=>?_))
  ·unfold fU;rw[bn (by rw[<-C];exact ft b)]
  have a:=nF b;have o:d∉l.take (i+1):=by
   rw[eF,L];simp only[List.mem_append,Option.toList_some,List.mem_singleton];rintro(h|h)
   ·exact c h
   exact D h.symm
  refine ah.aY (λz:List (List Int)×Bool=>(z.2=true->z.1.length<=i+1/\gp l d=z.1++l.drop i)/\(z.2=false->z.1.length<=i/\gp l d=z.1++l[i]::gp (l.drop (i+1)) d)) (λj m=>?_) λz p=>?_
  ·refine ah.aY (λz:Bool=>z=(!e&&kv d l[i])) (λP q=>ah.cond (λh=>?_) λh=>q _ ?_) λz p=>?_
   ·have h:e=false:=by simpa using h
    exact ai (Qc O R B) (q _ (by rw[h];rfl))
   ·have h:e=true:=by simpa using h
    rw[h];rfl
   subst p;cases r:e with
   |true=>exact cj (m _ ⟨λ_=>y r,λh=>by cases h⟩)
   |false=>
    obtain⟨f,F⟩:=A r;rw[a] at F;rw[Er];by_cases v:cmpL d l[i]<0
    ·rw[bN v];refine dt (ai (ek b1) (m _ ⟨λ_=>⟨b1,?_⟩,λh=>by cases h⟩));rw[F,a];unfold gp;rw[bn v];simp
    rw[bs v];refine cj (m _ ⟨(λh=>by cases h),λ_=>⟨f,?_⟩⟩);rw[F]
    conv=>lhs;rw[gp]
    rw[br v]
  obtain⟨g,t⟩:=z;obtain⟨G,H⟩:=p;dsimp only at G H⊢;have u:g.length<=i+1:=by
   cases t with
   |true=>exact(G rfl).1
   |false=>have:=(H rfl).1;omega
  refine ai (ek b1) ?_;rw[a' O];refine W _ ⟨i+1,Z,O,o,λh=>?_,λh=>?_⟩ Z
  ·obtain⟨ay,a2⟩:=G h;refine⟨b1,?_⟩;rw[a2,a];simp
  obtain⟨ay,a2⟩:=H h;refine⟨b1,?_⟩;rw[a2];simp
 have:i=l.length:=O
 subst this;rw[dA] at c;have s:fU l d=gp l d:=by unfold fU;rw[br c]
 rw[s];refine ah.aY (λz=>z=gp l d) (λj m=>ah.cond (λh=>?_) λh=>m _ ?_) λz p=>ah.some p
 ·have h:e=false:=by simpa using h
  obtain⟨ay,a2⟩:=A h;refine ai (ek b1) (m _ ?_);rw[a2,nL];rfl
 have h:e=true:=by simpa using h
 obtain⟨ay,a2⟩:=y h;rw[a2,nL,kn]
theorem ER(d:List Int): ∀l:List (List Int),(gp l d).length=l.length+1
 | []=>rfl
 |x::a=>by
  unfold gp;split
  ·rfl
  rw[List.length_cons,ER d a];rfl
theorem EK(l:List (List Int))(d:List Int):(fU l d).length<=l.length+1:=by
 unfold fU;split
 ·omega
 rw[ER];omega
def ik(I:List cy)(c:Int)(d:fb):Option (List Int):=match I[d.eG.toNat]?,I[d.eI.toNat]? with
 |some a,some b=>if a.part=c/\b.part=c then some (iM b.cP a.cP) else none
 |_,_=>none
def ky(p:Prog)(a:Int):List (List Int):=(fR p (cB p.parts) (cB p.parts).length).filterMap (ik (cB p.parts) a)
theorem mY(h:da p=true){x:cy}(l:fO p x): ∃P,p.parts[x.part.toNat]? =some P/\0<=x.part/\x.cP.length=P.nest.length/\x.cP.length<=4/\ ∀y∈x.cP,cM 9999 y:=by obtain⟨B,C,D,b,m⟩:=gS h;obtain⟨i,k,P,s,n,F,d,o,e⟩:=l;obtain⟨q,G,H,r⟩:=kI (b P (bA d));obtain⟨K,v,c,w,z⟩:=oi q;have hs:=bA o;have a:=(r s hs _ e).2;unfold hX at a;simp only[Bool.and_eq_true,decide_eq_true_eq,List.all_eq_true] at a;exact⟨P,by rw[n,fX];exact d,O,(c _ e).1,a.1,λy A=>a.2 y A⟩
theorem R4{I:List cy}(h: ∀x∈I,x.cP.length<=4){d:fb}{v:List Int}(e:ik I c d=some v):v.length<=4:=by
 unfold ik at e;split at e
 ·rename_i a b k i;split at e
  ·cases e;unfold iM;rw[rh]
   have:=h b (bA i);omega
  cases e
 cases e
theorem Jt{k:Type}{f:k->Option R}{l:List k}{x:k}(h:l[i]? =some x):(l.take (i+1)).filterMap f=(l.take i).filterMap f++(f x).toList:=by rw[eF,h,List.filterMap_append];cases a:f x<;>simp[a]
theorem M6(t:22000000<=n)(hp:jc p)(r:da p=true)(a:Int):vT n p a=some ((ky p a).foldl fU []):=by
 have C:=(gS r).2.2.2.2;unfold vT;refine ah.eq (ai (t8 O r) (ai (O0 O r) ?_));have e: ∀x∈cB p.parts,fO p x:=λx m=>lf m;have Uu:=y4 (p:=p) C;have aQ:=F9 (p:=p) (l:=cB p.parts);unfold ky;generalize fR p (cB p.parts) (cB p.parts).length=D at*;generalize cB p.parts=I at*;have u: ∀x∈I,x.cP.length<=4:=λx m=>(mY r (e x m)).choose_spec.2.2.2.1;refine ah.loop (λx:List (List Int)×Int=> ∃i:Nat,x.2=i/\i<=D.length/\x.1=((D.take i).filterMap (ik I a)).foldl fU []/\x.1.length<=i/\ ∀y∈x.1,y.length<=4) (λx=>D.length-x.2.toNat) ?_ n _ ⟨0,rfl,O,aV,aV,aV⟩ Z;rintro F ⟨E,k⟩ ⟨i,f,aD,m,s,b⟩ M;dsimp only at f m s b⊢;subst f;refine bc (λo=>?_) λN=>ah.some ?_
 ·have o:i<D.length:=O
  have g:=bh o;obtain⟨P,d2,d3⟩:=aQ _ (ft o);have S:=u5 (l:=I) (c:=D[i].eG) P O;have T:=u5 (l:=I) (c:=D[i].eI) O O;have U:=ft (O:D[i].eG.toNat<I.length);have G:=ft (O:D[i].eI.toNat<I.length);have H:I[D[i].eG.toNat]? =some I[D[i].eG.toNat]:=bh _;have K:I[D[i].eI.toNat]? =some I[D[i].eI.toNat]:=bh _;obtain⟨V,v,Y,WD,WE,L⟩:=mY r (e _ U);obtain⟨yF,q,WG,WH,WI,Q⟩:=mY r (e _ G);refine ah.aY (λz=>z.2.2.2.2.2.2=((D.take (i+1)).filterMap (ik I a)).foldl fU []/\z.2.2.2.2.2.2.length<=i+1/\ ∀y∈z.2.2.2.2.2.2,y.length<=4) (λj R=>ai (bI g) (ai S (ai T ?_))) λz W=>?_
  ·rw[Jt g,List.foldl_append,<-m] at R;refine ah.aY (λz:Bool=>z=decide (I[D[i].eG.toNat].part=a/\I[D[i].eI.toNat].part=a)) (λBv w=>bc (λh=>w _ ?_) λh=>w _ ?_) λz W=>?_
   ·exact decide_eq_decide.2 ⟨λA=>⟨h,A⟩,λA=>A.2⟩
   ·exact(bs λA=>h A.1).symm
   subst W;have d:ik I a D[i]=if I[D[i].eG.toNat].part=a/\I[D[i].eI.toNat].part=a then some (iM I[D[i].eI.toNat].cP I[D[i].eG.toNat].cP) else none:=by
    unfold ik;rw[H,K]
   refine bc (λh=>?_) λh=>R _ ?_
   ·have X:V=yF:=by
     rw[h.1] at v;rw[h.2] at q;rw[v] at q;cases q;rfl
    subst X;refine ai (M5 O O O L Q) (ai (Qd t O (λy B=>by have:=b y B;omega) (by unfold iM;rw[rh];omega)) (R _ ?_));rw[d,bn h];dsimp only[Option.toList,List.foldl];refine⟨rfl,?_,λy B=>?_⟩
    ·have:=EK E (iM I[D[i].eI.toNat].cP I[D[i].eG.toNat].cP);omega
    rcases EJ.1 B with rfl|B
    ·unfold iM;rw[rh];omega
    exact b y B
   rw[d,br h];exact⟨rfl,Z,b⟩
  obtain⟨XE,z2,z3⟩:=W;rw[a' O];exact M _ ⟨i+1,Z,O,XE,z2,z3⟩ Z
 have:i=D.length:=O
 subst this;rw[m,dA]
theorem CR(x:List Int): ∀(y:List Int) (a:List (List Int)),e5 ((y::a)++[x])=if(y::a).getLast aV=x then e5 (y::a) else e5 (y::a)++[x]
 |y,[]=>by
  by_cases h:y=x
  ·subst h;simp[e5]
  simp[e5,h]
 |y,z::a=>by
  have c:=CR x z a;rw[List.getLast_cons aV];show e5 (y::z::(a++[x]))=_;unfold e5;by_cases h:y=z
  ·rw[bn h,bn h];exact c
  rw[br h,br h];have b:e5 (z::(a++[x]))=_:=c;rw[b];split<;>simp
theorem LP{s:List (List Int)}{m:Nat}(l:1<=m)(k:m<s.length):e5 (s.take (m+1))=if s[m-1]=s[m] then e5 (s.take m) else e5 (s.take m)++[s[m]]:=by
 have e:s.take (m+1)=s.take m++[s[m]]:=by rw[eF,bh k];rfl
 have c:s.take m≠[]:=by
  intro h
  have:=congrArg List.length h;rw[dP,Nat.min_eq_left O,List.length_nil] at this;omega
 have b: ∀h,(s.take m).getLast h=s[m-1]:=λh=>by
  rw[List.getLast_eq_getElem,List.getElem_take];congr 1;rw[dP];omega
 rw[e];obtain⟨y,a,i⟩: ∃y a,s.take m=y::a:=by
  cases h:s.take m with
  |nil=>exact a7 h c
  |cons y a=>exact⟨y,a,rfl⟩
 have d:=b c;simp only[i] at d⊢;rw[CR,d]
def iO(d:List Int):Option Nat:=d.findIdx? λx=> !decide (x=0)
def lM(d:List Int):Int:=match iO d with
 |some i=>(i:Int)
 |none=> -1
theorem M3(v:d.length<=1100000)(w:1100000<n):v' n d=some (lM d):=by
 unfold v';refine ah.eq (ai (x:=lM d) ?_ (ah.some rfl));unfold si;refine ah.eq (ah.loop (λx:Int=> ∃i:Nat,x=i/\i<=d.length/\ ∀j,j<i->d.getD j 0=0) (λx=>d.length-x.toNat) ?_ n _ ⟨0,rfl,O,λj a=>a7 a (lA _)⟩ O);rintro e z ⟨i,rfl,y,l⟩ p;have m: ∀j (a:j<d.length),j<i->d[j]=0:=λj a b=>by
  have:=l j b
  rwa [fs,bh a] at this
 refine bc (λc=>?_) λq=>ah.some ?_
 ·have c:i<d.length:=O
  have o:=bh c;refine ai (bI o) (ai (x:= !decide (d[i]=0)) rfl (dD (λh=>ah.some ?_) λr=>?_))
  ·have:iO d=some i:=by
    unfold iO;rw[Cg];exact⟨c,by simp[h],λj a=>by simp[m j O a]⟩
   unfold lM;rw[this]
  rw[a' O];refine p _ ⟨i+1,O,O,λj a=>?_⟩ O;by_cases b:j=i
  ·subst b;rw[fs,o];exact r
  exact l j O
 have:iO d=none:=by
  unfold iO;rw[List.findIdx?_eq_none_iff];intro x s;obtain⟨j,a⟩:=hz.1 s;obtain⟨k,rfl⟩:=bt.1 a;simp[m j k O]
 unfold lM;rw[this]
theorem P3(a:jc p)(b:p.parts[i]? =some P):mK n p (i:Int)=some true:=by have aD:=(bt.1 b).1;rw[xw n a.2.1,bN O]
theorem Nj(a:Nat->Bool)(m:Nat):dp a (m+1)=dp a m++(if a m then [m] else []):=by unfold dp;rw[pj,List.filter_append];congr 1;by_cases h:a m<;>simp[h]
theorem E4(l:List (List Int)): ∀m,m<=l.length->(dp (iE l) m).map (λj=>l.getD j [])=e5 (l.take m)
 |0,_=>rfl
 |m+1,h=>by
  have n:=E4 l m O;have b:m<l.length:=O
  have c:l.getD m []=l[m]:=by rw[fs,bh b];rfl
  rw[Nj,jC,n];by_cases d:m=0
  ·subst d;have i:iE l 0=true:=by simp[iE]
   rw[i,bn rfl,List.take_zero];show e5 []++[l.getD 0 []]=_;rw[c,eF,bh b];rfl
  rw[LP O b];have i:l.getD (m-1) []=l[m-1]:=by rw[fs,bh O];rfl
  have o:iE l m= !decide (l[m-1]=l[m]):=by
   unfold iE;rw[c,i];by_cases a:l[m-1]=l[m]
   ·simp[d,a]
   have k:l[m]≠l[m-1]:=λe=>a e.symm;simp[d,a,k]
  rw[o];by_cases a:l[m-1]=l[m]
  ·rw[bn a,bN a];simp
  rw[br a,bs a];show _++[l.getD m []]=_;rw[c]
theorem Od(l:List (List Int)):fl l=e5 l:=by have:=E4 l l.length (cL _);rw[dA] at this;exact this
theorem MN(cn:22000000<=n)(r:da p=true)(a:Int):vt n (lu p) a=some ((ky p a).foldl fU []):=by
 have B:=(gS r).2.2.2.2;unfold vt;refine ah.eq (ai (OG O r) ?_);rw[show(lu p).list=cB p.parts from rfl];have m: ∀x∈cB p.parts,fO p x:=λx b=>lf b;have Uu:=y4 (p:=p) B;have aQ:=F9 (p:=p) (l:=cB p.parts);unfold ky;generalize fR p (cB p.parts) (cB p.parts).length=D at*;generalize cB p.parts=I at*;have C: ∀x∈I,x.cP.length<=4:=λx b=>(mY r (m x b)).choose_spec.2.2.2.1;refine ah.loop (λx:List (List Int)×Int=> ∃i:Nat,x.2=i/\i<=D.length/\x.1=(D.take i).filterMap (ik I a)) (λx=>D.length-x.2.toNat) ?_ n _ ⟨0,rfl,O,aV⟩ Z;rintro F ⟨E,k⟩ ⟨i,M,aD,b⟩ S;dsimp only at M b⊢;subst M;have N:E.length<=i:=by
  rw[b];refine dS (List.length_filterMap_le _ _) ?_;rw[dP];omega
 refine bc (λo=>?_) λT=>?_
 ·have o:i<D.length:=O
  have P:=bh o;obtain⟨U,d2,d3⟩:=aQ _ (ft o);have V:=u5 (l:=I) (c:=D[i].eG) U O;have Y:=u5 (l:=I) (c:=D[i].eI) O O;have fE:=ft (O:D[i].eG.toNat<I.length);have G:=ft (O:D[i].eI.toNat<I.length);have H:I[D[i].eG.toNat]? =some I[D[i].eG.toNat]:=bh _;have L:I[D[i].eI.toNat]? =some I[D[i].eI.toNat]:=bh _;obtain⟨Kn,s,Yk,WD,WE,Q⟩:=mY r (m _ fE);obtain⟨yF,q,WG,WH,WI,R⟩:=mY r (m _ G);have e:ik I a D[i]=if I[D[i].eG.toNat].part=a/\I[D[i].eI.toNat].part=a then some (iM I[D[i].eI.toNat].cP I[D[i].eG.toNat].cP) else none:=by
   unfold ik;rw[H,L]
  refine ah.aY (λz=>z.1=(D.take (i+1)).filterMap (ik I a)) (λj W=>ai (bI P) (ai V (ai Y ?_))) λz X=>?_
  ·rw[Jt P,<-b] at W;refine ah.aY (λz:Bool=>z= !decide (I[D[i].eG.toNat].part=a/\I[D[i].eI.toNat].part=a)) (λBv v=>dD (λh=>v _ ?_) λh=>v _ ?_) λz X=>?_
   ·rw[bs λw=>h w.1];rfl
   ·congr 1;exact decide_eq_decide.2 ⟨λw=>⟨h,w⟩,λw=>w.2⟩
   subst X;refine dD (λh=>W _ ?_) λh=>?_
   ·rw[e,br h];simp
   have f:Kn=yF:=by
    rw[h.1] at s;rw[h.2] at q;rw[s] at q;cases q;rfl
   subst f;refine Ep (K:=λg=>Option.bind (app E [g]) λt=>j (t,D[i].eG,D[i].eI,D[i].kinds,I[D[i].eG.toNat].part,I[D[i].eG.toNat].stmt,I[D[i].eG.toNat].cP,I[D[i].eI.toNat].part,I[D[i].eI.toNat].stmt,I[D[i].eI.toNat].cP)) O O O Q R ?_;refine ai (ek b1) (W _ ?_);rw[e,bn h];rfl
  rw[a' O];exact S _ ⟨i+1,Z,O,X⟩ Z
 have:i=D.length:=O
 subst this;rw[dA] at b;subst b;have A: ∀y∈D.filterMap (ik I a),y.length<=4:=λy u=>by
  obtain⟨d,_,cA⟩:=List.mem_filterMap.1 u;exact R4 C cA
 have X9:(d0 (D.filterMap (ik I a))).length<=15000:=by unfold d0;rw[List.length_mergeSort];omega
 refine ai (x:=d0 (D.filterMap (ik I a))) (by unfold ka;rw[bn ⟨O,λy u=>by have:=A y u;omega⟩]) (ah.some ?_);rw[Od];exact R3 _
def jf(p:Prog)(i:Nat):List (List Int):=(ky p i).foldl fU []
theorem M4(c:22000000<=n)(a:jc p)(b:da p=true)(d:p.parts[i]? =some P):vR n p (i:Int)=some (jf p i):=by unfold vR;refine ah.eq (ai (M0 O a) ?_);rw[bn b];refine dt (ah.aY (λz=>z=false) (λj e=>cj (ai (P3 a d) (e _ rfl))) λz h=>?_);rw[h];exact cj (ai (MN c b _) (ah.some rfl))
theorem Tj:d∈jf p i↔d∈ky p i:=by
 unfold jf
 have:=(y6 (ky p i) [] .nil).2 d;simpa using this
theorem DY: ∀(a l:List (List Int)),(a.foldl fU l).length<=l.length+a.length
 | [],l=>aV
 |d::a,l=>by
  rw[List.foldl_cons]
  have:=DY a (fU l d)
  have:=EK l d;rw[List.length_cons];omega
theorem F8(b:da p=true):(jf p i).length<=15000:=by
 have a:=(gS b).2.2.2.2;have c:=y4 (p:=p) a
 have:=DY (ky p i) [];have d:(ky p i).length<=(fR p (cB p.parts) (cB p.parts).length).length:=by unfold ky;exact List.length_filterMap_le _ _
 unfold jf;rw[List.length_nil] at this;omega
theorem uc(r:da p=true)(s:p.parts[i]? =some P)(cA:d∈jf p i):d.length=P.nest.length/\ ∀x∈d,cM 99999 x:=by
 have cA:=Tj.1 cA;unfold ky at cA;obtain⟨e,_,h⟩:=List.mem_filterMap.1 cA;unfold ik at h;split at h
 ·rename_i a b A B;split at h
  ·rename_i w;cases h;have m:fO p a:=lf (bA A);have n:fO p b:=lf (bA B);obtain⟨F,ay,a2,a3,a4,a5⟩:=mY r m;obtain⟨G,y,H,K,L,C⟩:=mY r n;rw[w.1,fX,s] at ay;rw[w.2,fX,s] at y;cases ay;cases y;unfold iM;refine⟨by rw[rh];omega,λx z=>?_⟩;obtain⟨u,v,D,o,rfl⟩: ∃u v,u∈b.cP/\v∈a.cP/\x=u-v:=by
    rw[hz] at z;obtain⟨k,c⟩:=z;rw[List.getElem?_zipWith] at c;cases l:b.cP[k]? with
    |none=>rw[l] at c;cases c
    |some u=>
     cases q:a.cP[k]? with
     |none=>rw[l,q] at c;cases c
     |some v=>
      rw[l,q] at c;cases c;exact⟨u,v,bA l,bA q,rfl⟩
   have Q:=C u D;have R:=a5 v o;unfold cM at*;omega
  cases h
 cases h
def g'(d:List Int):Bool:=match iO d with
 |some k=>decide (0<=d.getD k 0)
 |none=>true
theorem FX(h:iO d=some k):k<d.length/\d.getD k 0≠0:=by unfold iO at h;rw[Cg] at h;obtain⟨a,b,_⟩:=h;refine⟨a,?_⟩;rw[fs,bh a];simpa using b
theorem M2(K:22000000<=n)(L:jc p)(y:da p=true)(A:p.parts[i]? =some P){F:List Int->Option (List Int)}{f:List Int->List Int}(B: ∀d∈jf p i,F d=some (f d))(C: ∀d,(f d).length=d.length):
  uy n p (i:Int) F=some ((jf p i).all λd=>g' (f d)):=by
 unfold uy;refine ah.eq (ai (M4 K L y A) ?_);have s:=F8 y (i:=i);have v:=λd q=>(uc y A (d:=d) q).1;have Q:=(nh ((gS y).2.2.2.1 P (bA A))).1;generalize jf p i=D at B s v;refine ah.loop (λx:List (List Int)×Int=> ∃k:Nat,x.2=k/\k<=D.length/\x.1.length=D.length/\(∀t,k<=t->x.1[t]? =D[t]?)/\ ∀d∈D.take k,g' (f d)=true) (λx=>D.length-x.2.toNat) ?_ n _ ⟨0,rfl,O,rfl,λ_ _=>rfl,λd q=>by simp at q⟩ Z;rintro m ⟨l,E⟩ ⟨k,G,R,w,a,b⟩ W;dsimp only at G w a⊢;subst G;refine bc (λe=>?_) λX=>ah.some ?_
 ·have e:k<D.length:=O
  have g:l[k]? =some D[k]:=by rw[a k (cL _),bh e]
  have hm:=ft e;have j:(f D[k]).length<=4:=by rw[C,v _ hm];exact Q
  refine ai (bI g) (ai (B _ hm) (ai (fh (C _)) (ai (M3 O O) (ai (hQ O _) ?_))));have c: ∀(z:g' (f D[k])=false),D.all (λd=>g' (f d))=false:=λz=>ha.2 ⟨_,hm,by simp[z]⟩;have go:g' (f D[k])=true->ah (m (l.set (k:Int).toNat (f D[k]),wr ((k:Int)+1))) (λr=>r=D.all λd=>g' (f d)):=λz=>by
   rw[a' O,fX];refine W _ ⟨k+1,Z,O,by dsimp only;rw[pg];exact w,λt I=>?_,λd q=>?_⟩ Z
   ·dsimp only;rw[km O];exact a t O
   rw[eF,bh e] at q;rcases ff.1 q with h|h
   ·exact b d h
   have:d=D[k]:=by simpa using h
   subst this;exact z
  unfold lM g' at*;cases o:iO (f D[k]) with
  |none=>
   rw[o] at go c;exact bc (λh=>a7 h (by show¬(0:Int)<= -1;omega)) (λ_=>go rfl)
  |some t=>
   rw[o] at go c;obtain⟨u,M⟩:=FX o;refine bc (λ_=>?_) λh=>a7 (show(0:Int)<=(t:Int) by omega) h;have H:=bh u;have N:(f D[k]).getD t 0=(f D[k])[t]:=by rw[fs,H];rfl
   refine ai (bI H) (bc (λh=>ah.some ?_) λh=>go ?_)
   ·exact(c (bs O)).symm
   exact bN O
 have:k=D.length:=O
 subst this;rw[dA] at b;exact(gv.2 b).symm
theorem L4(v:d.length<=1100000)(w:1100000<n):m0 n d=some (lM d):=by
 unfold m0;refine ah.eq (ah.loop (λx:Int=> ∃i:Nat,x=i/\i<=d.length/\ ∀j,j<i->d.getD j 0=0) (λx=>d.length-x.toNat) ?_ n _ ⟨0,rfl,O,λj a=>a7 a (lA _)⟩ O);rintro e z ⟨i,rfl,y,l⟩ p;have m: ∀j (a:j<d.length),j<i->d[j]=0:=λj a b=>by
  have:=l j b
  rwa [fs,bh a] at this
 refine bc (λc=>?_) λq=>ah.some ?_
 ·have c:i<d.length:=O
  have o:=bh c;refine ai (bI o) (dD (λh=>ah.some ?_) λr=>?_)
  ·have:iO d=some i:=by
    unfold iO;rw[Cg];exact⟨c,by simp[h],λj a=>by simp[m j O a]⟩
   unfold lM;rw[this]
  rw[a' O];refine p _ ⟨i+1,O,O,λj a=>?_⟩ O;by_cases b:j=i
  ·subst b;rw[fs,o];exact r
  exact l j O
 have:iO d=none:=by
  unfold iO;rw[List.findIdx?_eq_none_iff];intro x s;obtain⟨j,a⟩:=hz.1 s;obtain⟨k,rfl⟩:=bt.1 a;simp[m j k O]
 unfold lM;rw[this]
theorem OY(e:d.length<=1100000)(i:1100000<n):xR n d=some (g' d):=by
 unfold xR;refine ah.eq (ai (L4 e i) (ah.aY (λz:Bool=>z=g' d) (λj b=>?_) λz k=>ah.some k));unfold lM g' at*;cases a:iO d with
 |none=>
  rw[a] at b;exact bc (λ_=>b _ rfl) (λh=>a7 (show(-1:Int)<0 by omega) h)
 |some t=>
  rw[a] at b;obtain⟨l,m⟩:=FX a;have c:=bh l;have o:d.getD t 0=d[t]:=by rw[fs,c];rfl
  refine bc (λh=>a7 h (show¬(t:Int)<0 by omega)) λ_=>ai (bI c) (b _ ?_);exact decide_eq_decide.2 ⟨λh=>O,λh=>O⟩
theorem Fq{l:List R}(h:k<l.length)(z:R):l[k]? =some (l.getD k z):=by rw[fs,bh h];rfl
def kt(k:Nat)(c:Int):az:=⟨[0,0,0,0].set k (-1),c⟩
def mE(k:Nat)(c:Int)(x:az):az:=vd x k (kt k c)
def iY(k:Nat)(d:List Int):List Int:=d.set k (0-d.getD k 0)
def ks(l:Loop):Int:=fI l.bg+fI l.aD-1
def r3(k:Nat)(c:Int)(P:Part):Part:=⟨P.nest.take (k+1)++(P.nest.drop (k+1)).map (iP (mE k c)),P.body.map (jK (mE k c))⟩
def nW(p:Prog)(i k:Nat)(l:Loop):Bool:=eN l&&(jf p i).all λd=>g' (iY k d)
def lL(p:Prog)(a b:Int):Prog×Bool:=
 if eM p a b=true then
  match aH p.parts a with
  |some P=>match aH P.nest b with
   |some l=>if nW p a.toNat b.toNat l=true then mI ⟨p.bb,p.parts.set a.toNat (r3 b.toNat (ks l) P)⟩ else qR
   |none=>qR
  |none=>qR
 else qR
theorem EF(k:Nat)(d:List Int):(iY k d).length=d.length:=by simp[iY]
theorem FG{l:Loop}(h:eM p (i:Int) (k:Int)=true)(a:p.parts[i]? =some P)(b:P.nest[k]? =some l):lL p i k=if nW p i k l=true then mI ⟨p.bb,p.parts.set i (r3 k (ks l) P)⟩ else qR:=by unfold lL;rw[bn h,bI a];dsimp only;rw[bI b];simp only[Int.toNat_natCast]
theorem FH(b:k<4)(a:cM 999 c):gh 1000 (kt k c):=by unfold cM at a;rcases(O:k=0\/k=1\/k=2\/k=3) with rfl|rfl|rfl|rfl<;>(unfold gh cM kt;simp;omega)
theorem FI(k:Nat)(c:Int): ∀x,cU x=true->hb 4 (mE k c x):=λx a=>by have:=To ⟨x.ak.set k 0,x.const⟩ (kt k c) (x.ak.getD k 0) (by dsimp only;rw[pg];exact(jt a).1) (by simp[kt]);unfold hb mE vd;omega
theorem pz{l:List az}(h: ∀x∈l,cU x=true):cM 99 (fI l):=by
 unfold fI;cases l with
 |nil=>unfold cM;simp
 |cons x t=>exact(jt (h x ep)).2.1
theorem zw{l:Loop}(h:jL l):cM 999 (ks l):=by have a:=pz h.1.2;have b:=pz h.2.2;unfold cM at*;unfold ks;omega
theorem OD(n:Nat)(a:k<d.length)(b: ∀x∈d,cM 99999 x):qf n d (k:Int)=some (iY k d):=by have e:=Fq a (0:Int);have aQ:=b _ (bA e);unfold cM at aQ;unfold qf;refine ah.eq (ai (bI e) ?_);rw[a' O];refine ai (hQ O _) (ah.some ?_);rw[fX];rfl
theorem Ru(n:Nat)(a:k<4):Cz n (k:Int) (-1)=some ⟨[0,0,0,0].set k (-1),0⟩:=by rcases(O:k=0\/k=1\/k=2\/k=3) with rfl|rfl|rfl|rfl<;>rfl
theorem OC(b:5500000<=n)(a:k<4)(d:cM 999 c): ∀x,cU x=true->qe n x (k:Int) (kt k c)=some (mE k c x):=λx e=>by unfold qe;rw[M1 b ((Ge e).mono O) (FH a d) a];rfl
theorem P'(a:k<4)(b:cM 999 c): ∀n,5500000<=n-> ∀x,cU x=true->kH n x 1 (k:Int) (kt k c)=some (mE k c x):=λn d x e=>by unfold kH;rw[Nx d ((Ge e).mono O) (FH a b) a];rfl
theorem St(a:5500000<=n)(b:k<4)(d:cM 999 c):qA n ⟨[0,0,0,0],c⟩ 1 (rT k) (-1)=some (kt k c):=by unfold cM at d;rw[EB a (by unfold gh cM;simp;omega) ((Rw b).mono O) ⟨O,O⟩ ⟨O,O⟩];rcases(O:k=0\/k=1\/k=2\/k=3) with rfl|rfl|rfl|rfl<;>simp[vk,rT,kt]
theorem F4{r:List bW}(b:eB r P=true)(m:k<P.nest.length)(c:Int):kq 4 (r3 k c P):=by
 obtain⟨n,e⟩:=nh b;obtain⟨_,h,i,_⟩:=kI b;refine⟨⟨by simp only[r3,List.length_append,List.length_map,List.length_take,List.length_drop];omega,λy a=>?_⟩,by simp only[r3,List.length_map];exact h.2,λs l=>?_⟩
 ·rcases ff.1 a with a|a
  ·exact(Gb b).1.2 y (hA a)
  obtain⟨z,d,rfl⟩:=fY.1 a;exact RJ (FI k c) (e z (kl d))
 obtain⟨z,d,rfl⟩:=fY.1 l;exact Tl (FI k c) (i z d)
theorem P7(W:22000000<=n)(v:gM 1100000 p)(a b:Int):mM n p a b=some (lL p a b):=by
 unfold mM;by_cases e:b= -1
 ·subst e;unfold lL;rw[br λh=>by rw[ES O] at h;cases h];exact ah.eq (jY (Oq O v a) λu L=>ah.cond (λ_=>bc (λ_=>ah.some rfl) λh=>a7 (show(-1:Int)<0 by omega) h) λ_=>ah.some rfl)
 refine ah.eq (ai (Qz O v a b e) ?_);by_cases m:eM p a b=true
 ·rw[bn m];refine dt (bc (λh=>by rw[ES h] at m;cases m) λE=>?_);obtain⟨w,i,k,P,l,rfl,rfl,r,z,I,A,o,Q⟩:=zK m;obtain⟨L,R⟩:=nh o;obtain⟨_,X,g,_⟩:=kI o;have c:=R l (bA z);rw[FG m r z];refine ai (bI r) (ai (bI z) (ai (PS O c) ?_));cases B:eN l with
  |false=>exact cj (ah.some (by rw[br (by unfold nW;rw[B];simp)];rfl))
  |true=>
   refine dt (ai (M2 W v.sm w r (F:=λC=>qf n C (k:Int)) (f:=iY k) (λd q=>OD n (by have:=(uc w r q).1;omega) (uc w r q).2) (EF k)) (ah.cond (λq=>?_) λq=>ah.some ?_))
   ·rw[show nW p i k l=true by unfold nW;rw[B,q];rfl];refine ai (Ru n Q) ?_;have bl:=zw c;have D:=pz c.1.2;have G:=pz c.2.2;unfold cM at D G;have H:(⟨([0,0,0,0]:List Int).set k (-1),wr ((wr (fI l.bg+fI l.aD))-1)⟩:az)=kt k (ks l):=by
     rw[a' (n:=fI l.bg+fI l.aD) O,a' O];rfl
    rw[a' (n:=(k:Int)+1) O];have K:=Ln (n:=n) O (nest:=P.nest) (body:=P.body) (s:=k+1) O L (λy j=>R y (kl j)) X.2 g (F:=λC=>qe n C (k:Int) (⟨([0,0,0,0]:List Int).set k (-1),wr ((wr (fI l.bg+fI l.aD))-1)⟩:az)) (f:=mE k (ks l)) λx t=>by rw[H];exact OC O Q bl x t
    rw[show(k:Int)+1=((k+1:Nat):Int) by omega];refine ai K (ai (hQ Z _) ?_);rw[fX];exact ai (MO O (Tm v i (F4 o A (ks l)))) (ah.some rfl)
   rw[br (by unfold nW;rw[B,q];simp)];rfl
 unfold lL;rw[br m,br m];exact cj (ah.some rfl)
theorem Qb(N:22000000<=n)(B:gM 1100000 p)(c e:Int):qj n p c e=some (lL p c e):=by
 unfold qj;refine ah.eq (ai (Ng O B) (ai (Sb O B c e) ?_));by_cases aQ:eM p c e=true;rotate_left
 ·unfold lL;rw[br aQ,show eM p c e=false by simpa using aQ];exact dt (ah.some rfl)
 rw[aQ];refine cj ?_;obtain⟨F,i,k,P,l,rfl,rfl,G,H,S,K,o,L⟩:=zK aQ;obtain⟨T,E⟩:=nh o;obtain⟨_,U,V,_⟩:=kI o;have h:=E l (bA H);rw[FG aQ G H];refine ai (bI G) (ai (bI H) (ai (OQ O h) (ai (x:=jf p i) (M6 N B.sm F _) ?_)));have r:=F8 F (i:=i);have w:=λd Y=>uc F G (d:=d) Y;have Q:nW p i k l=(eN l&&(jf p i).all λd=>g' (iY k d)):=rfl;rw[Q];have h3:(if eN l=true then(fI l.bg,fI l.aD,true) else((0:Int),(0:Int),false)).2.2=eN l:=by cases eN l<;>rfl
 generalize jf p i=D at r w;refine ah.loop (λx:Bool×Int=> ∃m:Nat,x.2=m/\m<=D.length/\x.1=(eN l&&(D.take m).all λd=>g' (iY k d))) (λx=>D.length-x.2.toNat) ?_ n _ ⟨0,rfl,O,by dsimp only;rw[h3,List.take_zero];simp⟩ Z;rintro R ⟨ok,z⟩ ⟨m,C,hm,a⟩ bH;dsimp only at C a⊢;subst C;refine bc (λq=>?_) λj0=>?_
 ·have q:m<D.length:=O
  have I:=bh q;obtain⟨g1,g2⟩:=w _ (ft q);have M:=Fq (l:=D[m]) (k:=k) O 0;have aQ:=g2 _ (bA M);unfold cM at aQ;refine ah.aY (λz=>z.2=(eN l&&(D.take (m+1)).all λd=>g' (iY k d))) (λj W=>?_) λz C=>?_
  ·refine ai (bI I) (ai (ek b1) ?_);rw[List.nil_append];refine ai (bI M) ?_;rw[a' O];refine ai (hQ O _) ?_;rw[fX];have y:(D.take (m+1)).all (λd=>g' (iY k d))=((D.take m).all (λd=>g' (iY k d))&&g' (iY k D[m])):=by
    rw[eF,I,List.all_append];simp
   rw[y,<-jD,<-a] at W;cases ok with
   |true=>exact dt (ai (x:=g' (iY k D[m])) (OY (d:=iY k D[m]) (by rw[EF];omega) O) (W _ (by rw[hB])))
   |false=>exact cj (W _ (by rw[Bool.false_and]))
  rw[a' O];exact bH _ ⟨m+1,Z,O,C⟩ Z
 have:m=D.length:=O
 subst this;rw[dA] at a;rw[<-a];cases A:ok with
 |false=>exact dt (ah.some (by rw[br aV];rfl))
 |true=>
  rw[bn rfl];have X:eN l=true:=by
   rw[A] at a;cases X:eN l with
   |true=>rfl
   |false=>rw[X] at a;cases a
  have g:=pz h.1.2;have t:=pz h.2.2;unfold cM at g t;have u:wr ((wr ((if eN l=true then(fI l.bg,fI l.aD,true) else((0:Int),(0:Int),false)).1+(if eN l=true then(fI l.bg,fI l.aD,true) else((0:Int),(0:Int),false)).2.1))-1)=ks l:=by
   rw[bn X];dsimp only;rw[a' (n:=fI l.bg+fI l.aD) O,a' O];rfl
  rw[u];refine cj (ai (Qw n _) (ai (P9 n L) (ai (St O L (zw h)) (ai (Ni (n:=n) O (x:=P) (s:=k) O T E U.2 V (way:=1) (v:=(k:Int)) (b:=kt k (ks l)) (f:=mE k (ks l)) (P' L (zw h))) ?_))));exact ai (Rq O B S ((F4 o K (ks l)).mono O)) (ah.some rfl)
end
set_option maxRecDepth 100000
def hK(B:Nat)(a:az):Prop:=a.ak.length<=B
def ib(B:Nat)(l:List az):Prop:=l.length<=B/\ ∀a∈l,hK B a
def kW(B:Nat)(a:bR):Prop:=a.array.length<=B/\ib B a.al
def gz(B:Nat):Nat->Expr->Prop
 |0,_=>False
 |m+1,e=>hK B e.index/\kW B e.read/\e.aJ.length<=B/\ ∀k∈e.aJ,gz B m k
def kY(B m:Nat)(s:Stmt):Prop:=kW B s.write/\gz B m s.value
def kX(B:Nat)(l:Loop):Prop:=ib B l.bg/\ib B l.aD
def nV(B m:Nat)(x:Part):Prop:=(x.nest.length<=B/\ ∀l∈x.nest,kX B l)/\x.body.length<=B/\ ∀s∈x.body,kY B m s
def lJ(B:Nat)(x:bW):Prop:=x.name.length<=B/\x.bp.length<=B
def gA(B m:Nat)(p:Prog):Prop:=(p.bb.length<=B/\ ∀x∈p.bb,lJ B x)/\p.parts.length<=B/\ ∀x∈p.parts,nV B m x
theorem GI: ∀{m:Nat} {e:Expr},gz 1048576 m e-> ∀j,pE j e
 |0,e,h,_=>h.elim
 |m+1,e,h,0=>trivial
 |m+1,e,h,j+1=>by
  obtain⟨c,b,n,d⟩:=h;unfold hK at c;refine⟨O,?_,⟨?_,λa i=>?_⟩,λk l=>GI (d k l) j⟩
  ·unfold ku;omega
  ·have:=b.2.1;omega
  have:=b.2.2 a i;unfold hK at this;unfold ku;omega
variable {l:List az}{m C D i n B:Nat}{p:Prog}{w v:Int->Option Int}{P Q:Prop}{k eW:Int}{x:Part}{a:az}{s:Stmt}{R:Type}
theorem zY(h:ib 1048576 l):ja l:=⟨by have:=h.1;omega,λa b=>by have:=h.2 a b;unfold hK at this;unfold ku;omega⟩
theorem GH(h:gA 1048576 m p):jc p:=by obtain⟨⟨n,i⟩,o,k⟩:=h;refine⟨⟨O,λx a=>by have:=(i x a).2;omega⟩,O,λx a=>?_⟩;obtain⟨⟨q,b⟩,r,c⟩:=k x a;exact⟨⟨O,λl d=>⟨zY (b l d).1,zY (b l d).2⟩⟩,O,λs e=>⟨zY (c s e).1.2,GI (c s e).2 _⟩⟩
def ea{k:Type}(c:k->Nat)(l:List k):Nat:=l.length+(l.map c).sum
def ju(a:az):Nat:=a.ak.length
def oT(a:bR):Nat:=ea ju a.al
def kK:Nat->Expr->Nat
 |0,_=>0
 |m+1,e=>ju e.index+(oT e.read+ea (kK m) e.aJ)
def na(m:Nat)(s:Stmt):Nat:=oT s.write+kK m s.value
def m'(l:Loop):Nat:=ea ju l.bg+ea ju l.aD
def oV(m:Nat)(x:Part):Nat:=ea m' x.nest+ea (na m) x.body
def oW(x:bW):Nat:=x.bp.length
def oU(m:Nat)(p:Prog):Nat:=ea oW p.bb+ea (oV m) p.parts
def dQ(w:Int->Option Int)(C:Nat)(P:Prop):Prop:= ∀left:Int,0<=left->left<=1048576-> ∃r,w left=some r/\(r= -1\/(0<=r/\r+C<=left/\P))
theorem dQ.mono(h:dQ w C P)(d:D<=C)(k:P->Q):dQ w D Q:=λleft a b=>by obtain⟨r,e,c⟩:=h left a b;exact⟨r,e,c.imp id λh=>⟨h.1,O,k h.2.2⟩⟩
theorem dQ.two(h:dQ w C P)(k:dQ v D Q):dQ (λleft=>Option.bind (w left) λa=>bif decide (a<0) then some (-1) else v a) (C+D) (P/\Q):=λleft b c=>by
 obtain⟨r,e,d⟩:=h left b c;dsimp only;rw[e];rcases d with rfl|⟨i,q,l⟩
 ·exact⟨-1,rfl,.inl rfl⟩
 obtain⟨s,m,n⟩:=k r i O;refine⟨s,?_,?_⟩
 ·show(bif decide (r<0) then some (-1) else v r)=some s;rw[bs O];exact m
 rcases n with rfl|⟨o,x,p⟩
 ·exact .inl rfl
 exact .inr ⟨o,O,l,p⟩
theorem dQ.end(h:dQ w C P):dQ (λleft=>Option.bind (w left) λa=>bif decide (a<0) then some (-1) else some a) C P:=
 (h.two (v:=λx=>some x) (D:=0) (Q:=True) λleft b _=>⟨left,rfl,.inr ⟨b,O,trivial⟩⟩).mono (cL _) And.left
theorem dQ.len{k:Nat}(i:k<=9223372036854775807)(h:dQ v D Q):dQ (λleft=>bif decide (wr (left-(k:Int))<0) then some (-1) else v (wr (left-(k:Int)))) (k+D) (k<=1048576/\Q):=λleft l m=>by
 dsimp only;rw[a' O];by_cases a:left-(k:Int)<0
 ·rw[bN a];exact⟨-1,rfl,.inl rfl⟩
 rw[bs a];obtain⟨s,e,b⟩:=h (left-(k:Int)) O O;refine⟨s,e,?_⟩;rcases b with rfl|⟨c,n,d⟩
 ·exact .inl rfl
 exact .inr ⟨c,O,O,d⟩
theorem DR{k:Type}{l:List k}{x:k}(c:k->Nat)(h:l[i]? =some x):((l.take (i+1)).map c).sum=((l.take i).map c).sum+c x:=by rw[k3 h];simp
theorem Ss{k:Type}{a:List k}{g:k->Int->Option Int}{c:k->Nat}{P:k->Prop}(W:a.length<=1048576)(X:2000000<=n)(A: ∀x∈a,dQ (g x) (c x) (P x)):
  dQ (λleft=>ba (λb ((v,l):Int×Int)=>
   bif decide (l<(a.length:Int)) then(
    Option.bind (aH a l) λB=>
    Option.bind (g B v) λw=>
    bif decide (w<0) then(
     some (-1)
    ) else(
     b (w,wr (l+1))
    )
   ) else(
    some v
   )
  ) n (left,0)) (a.map c).sum (∀x∈a,P x):=λleft C f=>by
 refine ah.loop (Q:=λr=>r= -1\/(0<=r/\r+((a.map c).sum:Nat)<=left/\ ∀x∈a,P x)) (λz:Int×Int=> ∃j:Nat,z.2=j/\j<=a.length/\0<=z.1/\z.1+(((a.take j).map c).sum:Nat)<=left/\ ∀x∈a.take j,P x) (λz=>a.length-z.2.toNat) ?_ n _ ⟨0,rfl,O,C,aV,λx d=>by simp at d⟩ Z;rintro m ⟨D,t⟩ ⟨j,rfl,u,o,p,q⟩ F;dsimp only at o p⊢;refine bc (λG=>?_) λH=>ah.some (.inr ⟨o,by rw[mi O] at p;exact p,by rw[mi O] at q;exact q⟩);have d:=bh (O:j<a.length);generalize a[j]=x at d;obtain⟨s,e,K⟩:=A x (bA d) D o O;refine ai (bI d) (ai e ?_);rcases K with rfl|⟨L,E,R⟩
 ·exact bc (λ_=>ah.some (.inl rfl)) λh=>a7 h (by decide)
 refine bc (λh=>a7 h O) λ_=>?_;rw[a' O];refine F _ ⟨j+1,Z,O,L,by dsimp only;rw[DR c d];omega,λy i=>?_⟩ Z;rw[k3 d] at i;rcases ff.1 i with i|i
 ·exact q y i
 rw[rj.1 i];exact R
theorem pt{k:Type}{a:List k}{g:k->Int->Option Int}{c:k->Nat}{P:k->Prop}(i:a.length<=9223372036854775807)(l:2000000<=n)(m: ∀x∈a,dQ (g x) (c x) (P x)):
  dQ (λleft=>bif decide (wr (left-(a.length:Int))<0) then some (-1) else ba (λb ((e,d):Int×Int)=>
   bif decide (d<(a.length:Int)) then(
    Option.bind (aH a d) λo=>
    Option.bind (g o e) λh=>
    bif decide (h<0) then(
     some (-1)
    ) else(
     b (h,wr (d+1))
    )
   ) else(
    some e
   )
  ) n (wr (left-(a.length:Int)),0)) (ea c a) (a.length<=1048576/\ ∀x∈a,P x):=λleft p q=>by
 by_cases r:a.length<=1048576
 ·exact(dQ.len i (Ss r l m)) left p q
 dsimp only;rw[a' O,bN O];exact⟨-1,rfl,.inl rfl⟩
theorem FB{a:List Int}(h:a.length<=9223372036854775807):dQ (xK n a) a.length (a.length<=1048576):=by have:=(dQ.len h (v:=λx=>some x) (D:=0) (Q:=True) λleft b _=>⟨left,rfl,.inr ⟨b,O,trivial⟩⟩).mono (cL _) And.left;exact this
theorem Sr{a:bW}(h:lJ 9223372036854775807 a):dQ (yg n a) (oW a) (lJ 1048576 a):=(dQ.len h.1 ((FB h.2).end)).mono (Nat.le_add_left _ _) id
theorem Re(b:2000000<=n){a:List bW}(h:a.length<=9223372036854775807)(c: ∀x∈a,lJ 9223372036854775807 x):dQ (Cs n a) (ea oW a) (a.length<=1048576/\ ∀x∈a,lJ 1048576 x):=pt h b λx d=>Sr (c x d)
theorem FO(h:hK 9223372036854775807 a):dQ (wG n a) (ju a) (hK 1048576 a):=(FB h).end
theorem zk(b:2000000<=n){a:List az}(h:ib 9223372036854775807 a):dQ (sV n a) (ea ju a) (ib 1048576 a):=pt h.1 b λx c=>FO (h.2 x c)
theorem FP(b:2000000<=n){a:bR}(h:kW 9223372036854775807 a):dQ (wH n a) (oT a) (kW 1048576 a):=(dQ.len h.1 ((zk b h.2).end)).mono (Nat.le_add_left _ _) id
theorem FC: ∀(m n:Nat) {e:Expr},2000000+m<=n->gz 9223372036854775807 m e->dQ (nP n e) (kK m e) (gz 1048576 m e)
 |0,n,e,_,h=>h.elim
 |m+1,n,e,r,h=>by
  obtain⟨n,rfl⟩: ∃j,n=j+1:=⟨n-1,O⟩
  obtain⟨l,o,p,q⟩:=h;have i:dQ (ye n (nP n) e.aJ) (ea (kK m) e.aJ) (e.aJ.length<=1048576/\ ∀k∈e.aJ,gz 1048576 m k):=pt p O λk i=>FC m n O (q k i);exact dQ.mono ((FO (n:=n) l).two ((FP (n:=n) O o).two i.end)) (cL _) (λ⟨a,b,c,d⟩=>⟨a,b,c,d⟩)
theorem Ra(a:2000000+m<=n)(h:kY 9223372036854775807 m s):dQ (yH n s) (na m s) (kY 1048576 m s):=(FP O h.1).two ((FC m n a h.2).end)
theorem O6(b:2000000+m<=n){a:List Stmt}(h:a.length<=9223372036854775807)(c: ∀x∈a,kY 9223372036854775807 m x):dQ (yc n a) (ea (na m) a) (a.length<=1048576/\ ∀x∈a,kY 1048576 m x):=pt h O λx d=>Ra b (c x d)
theorem SV(a:2000000<=n){l:Loop}(h:kX 9223372036854775807 l):dQ (yJ n l) (m' l) (kX 1048576 l):=(zk a h.1).two ((zk a h.2).end)
theorem Sq(b:2000000<=n){a:List Loop}(h:a.length<=9223372036854775807)(c: ∀x∈a,kX 9223372036854775807 x):dQ (yd n a) (ea m' a) (a.length<=1048576/\ ∀x∈a,kX 1048576 x):=pt h b λx d=>SV b (c x d)
theorem Rc(a:2000000+m<=n)(h:nV 9223372036854775807 m x):dQ (yI n x) (oV m x) (nV 1048576 m x):=(Sq O h.1.1 h.1.2).two ((O6 a h.2.1 h.2.2).end)
theorem Rb(a:2000000+m<=n)(h:gA 9223372036854775807 m p):dQ (wj n p) (oU m p) (gA 1048576 m p):=
 (Re O h.1.1 h.1.2).two (dQ.end (pt h.2.1 O λx b=>Rc a (h.2.2 x b)))
theorem oX{k:Type}{a:List k}{g:k->Option k}{z:k}(A:a.length<=1048576)(B:2000000<=n)(p: ∀x∈a,g x=some x):
  (Option.bind (mk (a.length:Int) z) λq=>
 ba (λc ((m,h):(List k)×Int)=>
  bif decide (h<(a.length:Int)) then(
   Option.bind (aH a h) λr=>
   Option.bind (g r) λs=>
   Option.bind (aH m h) λC=>
   Option.bind (dh m h s) λv=>
   c (v,wr (h+1))
  ) else(
   some m
  )
 ) n (q,0))=some a:=by
 refine ah.eq (ai (TF ⟨O,O⟩ z) (ah.loop (λx:List k×Int=> ∃j:Nat,x.2=j/\j<=a.length/\x.1=a.take j++List.replicate (a.length-j) z) (λx=>a.length-x.2.toNat) ?_ n _ ⟨0,rfl,O,aV⟩ Z));rintro o ⟨b,i⟩ ⟨j,rfl,D,rfl⟩ w;dsimp only;have d:(a.take j++List.replicate (a.length-j) z).length=a.length:=b1
 refine bc (λe=>?_) λy=>ah.some (by rw[show a.length-j=0 by omega,mi O];simp);have e:j<a.length:=O
 have l:=bh e;generalize a[j]=x at l;refine ai (bI l) (ai (p x (bA l)) (ai (bI (bh (show j<_ by rw[d];exact e))) (ai (hQ (by rw[d];omega) _) ?_)));rw[a' O,fX];refine w _ ⟨j+1,Z,O,?_⟩ Z;dsimp only;rw[k3 l,xd _ _ (by rw[dP];omega),dP,Nat.min_eq_left O,nI,show a.length-j=(a.length-(j+1))+1 by omega,List.replicate_succ,List.set_cons_zero];simp
theorem Fy(b:2000000<=n){a:List Int}(h:a.length<=1048576):tC n a=some a:=by
 unfold tC
 have:=oX (z:=(0:Int)) (g:=λx=>some x) h b λx _=>rfl;exact this
theorem FM(b:2000000<=n)(h:hK 1048576 a):s4 n a=some a:=by unfold s4;rw[Fy b h];rfl
theorem zj(b:2000000<=n){a:List az}(h:ib 1048576 a):sU n a=some a:=oX h.1 b λx c=>FM b (h.2 x c)
theorem FN(b:2000000<=n){a:bR}(h:kW 1048576 a):s6 n a=some a:=by unfold s6;rw[zj b h.2];rfl
theorem Sn(b:2000000<=n){a:bW}(h:lJ 1048576 a):xh n a=some a:=by unfold xh;rw[Fy b h.2];rfl
theorem Fz: ∀(m n:Nat) {e:Expr},2000000+m<=n->gz 1048576 m e->mo n e=some e
 |0,n,e,_,h=>h.elim
 |m+1,n,e,l,h=>by
  obtain⟨n,rfl⟩: ∃j,n=j+1:=⟨n-1,O⟩
  obtain⟨b,c,d,i⟩:=h;have a:yb n (mo n) e.aJ=some e.aJ:=oX d O λk a=>Fz m n O (i k a);unfold mo;rw[FM O b,FN O c,a];cases e;rfl
theorem Q8(a:2000000+m<=n)(h:kY 1048576 m s):xH n s=some s:=by unfold xH;rw[FN O h.1,Fz m n a h.2];rfl
theorem O5(b:2000000+m<=n){a:List Stmt}(h:a.length<=1048576)(c: ∀x∈a,kY 1048576 m x):x9 n a=some a:=oX h O λx d=>Q8 b (c x d)
theorem SS(a:2000000<=n){l:Loop}(h:kX 1048576 l):xJ n l=some l:=by unfold xJ;rw[zj a h.1,zj a h.2];rfl
theorem Sm(b:2000000<=n){a:List Loop}(h:a.length<=1048576)(c: ∀x∈a,kX 1048576 x):ya n a=some a:=oX h b λx d=>SS b (c x d)
theorem Q'(a:2000000+m<=n)(h:nV 1048576 m x):xI n x=some x:=by unfold xI;rw[Sm O h.1.1 h.1.2,O5 a h.2.1 h.2.2];rfl
theorem Q9(b:2000000+m<=n)(h:gA 1048576 m p):kA n p=some p:=by unfold kA;rw[show Cr n p.bb=some p.bb from oX h.1.1 O (λx a=>Sn O (h.1.2 x a)),show x' n p.parts=some p.parts from oX h.2.1 O λx a=>Q' b (h.2.2 x a)];rfl
theorem pD{k:Type}{a:List k}{g:k->k->Option Bool}(r:a.length<=1048576)(s:2000000<=n)(h: ∀x∈a,g x x=some true):
  (bif !decide ((a.length:Int)=(a.length:Int)) then(
  some false
 ) else(
  ba (λb (c:Int)=>
   bif decide (c<(a.length:Int)) then(
    Option.bind (aH a c) λl=>
    Option.bind (aH a c) λm=>
    Option.bind (g l m) λo=>
    bif !o then(
     some false
    ) else(
     b (wr (c+1))
    )
   ) else(
    some true
   )
  ) n 0
 ))=some true:=by rw[bN rfl];refine ah.eq (cj (ah.loop (λx:Int=> ∃j:Nat,x=j/\j<=a.length) (λx=>a.length-x.toNat) ?_ n _ ⟨0,rfl,O⟩ O));rintro d i ⟨j,rfl,v⟩ p;refine bc (λq=>?_) λ_=>ah.some rfl;have e:=bh (O:j<a.length);refine ai (bI e) (ai (bI e) (ai (h _ (bA e)) ?_));rw[a' O];exact cj (p _ ⟨j+1,O,O⟩ O)
theorem E2(k:2000000<=n){a:List Int}(h:a.length<=1048576):tD n a a=some true:=by unfold tD;rw[bN rfl];refine ah.eq (cj (ah.loop (λx:Int=> ∃j:Nat,x=j/\j<=a.length) (λx=>a.length-x.toNat) ?_ n _ ⟨0,rfl,O⟩ O));rintro b i ⟨j,rfl,l⟩ d;refine bc (λe=>?_) λ_=>ah.some rfl;have c:=bh (O:j<a.length);refine ai (bI c) (ai (bI c) (dD (λh=>a7 rfl h) λ_=>?_));rw[a' O];exact d _ ⟨j+1,O,O⟩ O
theorem Gm(b:2000000<=n)(h:hK 1048576 a):s8 n a a=some true:=by unfold s8;rw[E2 b h];exact ah.eq (ai rfl (cj (dD (λh=>a7 rfl h) λ_=>ah.some rfl)))
theorem ze(b:2000000<=n){a:List az}(h:ib 1048576 a):sW n a a=some true:=pD h.1 b λx c=>Gm b (h.2 x c)
theorem F7(b:2000000<=n){a:bR}(h:kW 1048576 a):s9 n a a=some true:=by unfold s9;exact ah.eq (dD (λh=>a7 rfl h) λ_=>ai (ze b h.2) (ah.some rfl))
theorem Ti(b:2000000<=n){a:bW}(h:lJ 1048576 a):xi n a a=some true:=by unfold xi;exact ah.eq (dD (λh=>a7 rfl h) λ_=>ai (E2 b h.2) (ah.some rfl))
theorem E3: ∀(m n:Nat) {e:Expr},2000000+m<=n->gz 1048576 m e->mn n e e=some true
 |0,n,e,_,h=>h.elim
 |m+1,n,e,l,h=>by
  obtain⟨n,rfl⟩: ∃j,n=j+1:=⟨n-1,O⟩
  obtain⟨b,c,d,i⟩:=h;have a:yk n (mn n) e.aJ e.aJ=some true:=pD d O λk a=>E3 m n O (i k a);unfold mn;exact ah.eq (dD (λh=>a7 rfl h) λ_=>dD (λh=>a7 rfl h) λ_=>ai (Gm O b) (cj (ai (F7 O c) (cj (ai a (cj (ah.some rfl)))))))
theorem R1(a:2000000+m<=n)(h:kY 1048576 m s):xL n s s=some true:=by unfold xL;exact ah.eq (ai (F7 O h.1) (cj (ai (E3 m n a h.2) (cj (ah.some rfl)))))
theorem TS(a:2000000<=n){l:Loop}(h:kX 1048576 l):xG n l l=some true:=by unfold xG;exact ah.eq (ai (ze a h.1) (cj (ai (ze a h.2) (cj (ah.some rfl)))))
theorem R2(a:2000000+m<=n)(h:nV 1048576 m x):xM n x x=some true:=by unfold xM;exact ah.eq (ai (show yj n x.nest x.nest=some true from pD h.1.1 O λl b=>TS O (h.1.2 l b)) (cj (ai (show yh n x.body x.body=some true from pD h.2.1 O λs c=>R1 a (h.2.2 s c)) (cj (ah.some rfl)))))
theorem Fv(b:2000000+m<=n)(h:gA 1048576 m p):kB n p p=some true:=by unfold kB;exact ah.eq (ai (show Ct n p.bb p.bb=some true from pD h.1.1 O λx a=>Ti O (h.1.2 x a)) (cj (ai (show yi n p.parts p.parts=some true from pD h.2.1 O λx a=>R2 b (h.2.2 x a)) (cj (ah.some rfl)))))
theorem wv(q:2000000<=n)(l:0<=k)(d:k<=1099511627776): ∃t,hL n k=some t:=by
 have:ah (hL n k) (λ_=>True):=by
  unfold hL;refine bc (λ_=>ah.some trivial) λ_=>?_;refine ah.loop (λz:Int×List UInt8=> ∃j:Nat,z.2.length=j/\0<=z.1/\z.1<=1099511627776/\j<=13/\z.1<10^(13-j)) (λz=>14-z.2.length) ?_ n _ ⟨0,rfl,l,d,O,Int.lt_of_le_of_lt d (by decide)⟩ Z;rintro c ⟨r,s⟩ ⟨j,e,i,m,v,b⟩ o;dsimp only at e i b m⊢;refine bc (λw=>?_) λ_=>ai (Ga b1) (ah.some trivial);have p:j<13:=by
   apply lz;intro h;rw[show 13-j=0 by omega] at b
   have:(10:Int)^0=1:=by decide
   omega
  refine ai (Ga b1) ?_;rw[Int.tdiv_eq_ediv_of_nonneg i,a' O];refine o _ ⟨j+1,by simp[e],Z,Z,O,?_⟩ b1;dsimp only;have a:(10:Int)^(13-j)=10^(13-(j+1))*10:=by rw[<-Int.pow_succ];congr 1;omega
  rw[a] at b;exact Int.ediv_lt_of_lt_mul (by decide) b
 obtain⟨t,h,_⟩:=this;exact⟨t,h⟩
def kj(k:Int)(m:Nat):List Int:=(List.range m).map λi:Nat=>k+i
theorem ng(k:Int)(m:Nat):(kj k m).length=m:=by simp[kj]
theorem Rv(h:i<m):(kj k m)[i]? =some (k+i):=by simp[kj,h]
theorem O'(k:Int)(m:Nat):kj k (m+1)=kj k m++[k+m]:=by simp[kj,List.range_succ]
theorem wx(m:2000000<=n){a:List Int}(o:a.length<=1048576)(p:0<=k)(q:k+a.length<=1099511627776):oQ n a k=some (k+a.length,kj k a.length):=by
 unfold oQ;refine ah.eq (ah.loop (λz:Int×List Int×Int=> ∃j:Nat,z.2.2=j/\j<=a.length/\z.1=k+j/\z.2.1=kj k j++a.drop j) (λz=>a.length-z.2.2.toNat) ?_ n _ ⟨0,rfl,O,aV,by simp[kj]⟩ Z);rintro d ⟨b6,l,i⟩ ⟨j,rfl,r,rfl,rfl⟩ h;dsimp only;have c:(kj k j++a.drop j).length=a.length:=by simp[ng];omega
 refine bc (λb=>?_) λe=>?_
 ·have b:j<a.length:=by rw[c] at b;omega
  refine ai (bI (bh (show j<_ by rw[c];exact b))) (ai (hQ (by rw[c];omega) _) ?_);rw[a' O,a' O,fX];refine h _ ⟨j+1,Z,O,Z,?_⟩ Z;dsimp only;rw[xd _ _ (by rw[ng];omega),ng,nI,nF b,List.set_cons_zero,O',ix];rfl
 have:j=a.length:=by rw[c] at e;omega
 subst this;exact ah.some aV
def jI{R:Type}(B:(Int×Int->Option Int)->R->Int->Int->Option Int)(k:Int)(y:R)(b:Int):Prop:= ∀(a:Int×Int->Option Int) (Q:Int->Prop) (j:Nat),j<=1048576->ah (a (b,(j:Int)+1)) Q->ah (B a y k j) Q
inductive hc {α:Type} (H:Int->α->Int->Prop):Int->List α->Int->Prop
 |nil (k:Int):hc H k [] k
 |cons {k bz eW:Int} {x:α} {l:List α} (h:H k x bz) (t:hc H bz l eW):hc H k (x::l) eW
theorem hc.snoc{H:Int->R->Int->Prop}{a:Int}{x:R}{l:List R}(t:hc H k l a)(h:H a x eW):hc H k (l++[x]) eW:=by
 induction t with
 |nil k=>exact .cons h (.nil _)
 |cons g _ b=>exact .cons g (b h)
theorem qO{B:(Int×Int->Option Int)->R->Int->Int->Option Int}{l:List R}(r:2000000<=n)(s:l.length<=1048576)(b:hc (jI B) k l eW):
  ba (λa ((m,e):Int×Int)=>bif decide (e<(l.length:Int)) then(Option.bind (aH l e) λo=>B a o m e) else(some m)) n (k,0)=some eW:=by
 refine ah.eq (ah.loop (λz:Int×Int=> ∃j:Nat,z.2=j/\j<=l.length/\hc (jI B) z.1 (l.drop j) eW) (λz=>l.length-z.2.toNat) ?_ n _ ⟨0,rfl,O,b⟩ Z);rintro c ⟨b6,i⟩ ⟨j,rfl,v,b⟩ p;dsimp only at b⊢;refine bc (λd=>?_) λq=>?_
 ·have d:j<l.length:=O
  refine ai (bI (bh d)) ?_;rw[nF d] at b;cases b with
  |cons h t=>exact h c _ j O (p _ ⟨j+1,Z,O,t⟩ Z)
 rw[xa O] at b;cases b;exact ah.some rfl
theorem ua(e:2000000<=n)(l:m<=1048576)(o:0<=k)(p:k+m<=1099511627776):kD n (kj k m) k=some (k+m):=by unfold kD;refine ah.eq (ah.loop (λz:Int×Int=> ∃j:Nat,z.2=j/\j<=m/\z.1=k+j) (λz=>m-z.2.toNat) ?_ n _ ⟨0,rfl,O,aV⟩ Z);rintro a ⟨b6,i⟩ ⟨j,rfl,q,rfl⟩ b;dsimp only;rw[ng];refine bc (λc=>?_) λd=>ah.some (O:k+(j:Int)=k+(m:Int));refine ai (bI (Rv O)) (dD (λh=>a7 rfl h) λ_=>?_);rw[a' O,a' O];exact b _ ⟨j+1,Z,O,Z⟩ Z
def Hj(n:Nat)(a:Int×Int->Option Int)(b:bW)(c e:Int):Option Int:=Option.bind (hL n c) λh=>bif !decide (b.name=h) then some (-1) else(Option.bind (kD n b.bp (wr (c+1))) λd=>bif decide (d<0) then some (-1) else(a (d,wr (e+1))))
theorem TL(a:2000000<=n)(l:List bW)(k eW:Int)(b:l.length<=1048576)(c:hc (jI (Hj n)) k l eW):qu n l k=some eW:=by unfold qu;exact qO a b c
def He(n:Nat)(a:Int×Int->Option Int)(c:az)(d e:Int):Option Int:=Option.bind (kD n c.ak d) λb=>bif decide (b<0) then some (-1) else(bif !decide (c.const=b) then some (-1) else(a (wr (b+1),wr (e+1))))
theorem TM(a:2000000<=n)(l:List az)(k eW:Int)(b:l.length<=1048576)(c:hc (jI (He n)) k l eW):ig n l k=some eW:=by unfold ig;exact qO a b c
def Hg(n:Nat)(a:Int×Int->Option Int)(b:Loop)(e h:Int):Option Int:=Option.bind (ig n b.bg e) λc=>bif decide (c<0) then some (-1) else(Option.bind (ig n b.aD c) λd=>bif decide (d<0) then some (-1) else(a (d,wr (h+1))))
theorem Se(a:2000000<=n)(l:List Loop)(k eW:Int)(b:l.length<=1048576)(c:hc (jI (Hg n)) k l eW):oO n l k=some eW:=by unfold oO;exact qO a b c
def Hf(n:Nat)(a:Int×Int->Option Int)(b:Expr)(d i:Int):Option Int:=bif !decide (b.kind=d) then some (-1) else(bif !decide (b.num=wr (d+1)) then some (-1) else(Option.bind (kD n b.index.ak (wr ((wr (d+1))+1))) λc=>bif decide (c<0) then some (-1) else(bif !decide (b.index.const=c) then some (-1) else(Option.bind (hL n (wr (c+1))) λk=>bif !decide (b.read.array=k) then some (-1) else(Option.bind (ig n b.read.al (wr ((wr (c+1))+1))) λe=>bif decide (e<0) then some (-1) else(Option.bind (ko n b.aJ e) λh=>bif decide (h<0) then some (-1) else(a (h,wr (i+1)))))))))
theorem F1(a:2000000<=n)(l:List Expr)(k eW:Int)(b:l.length<=1048576)(c:hc (jI (Hf n)) k l eW):ko (n+1) l k=some eW:=by rw[ko.eq_def];exact qO a b c
def Hk(n:Nat)(a:Int×Int->Option Int)(b:Stmt)(h k:Int):Option Int:=Option.bind (hL n h) λl=>bif !decide (b.write.array=l) then some (-1) else(Option.bind (ig n b.write.al (wr (h+1))) λd=>bif decide (d<0) then some (-1) else(bif !decide (b.value.kind=d) then some (-1) else(bif !decide (b.value.num=wr (d+1)) then some (-1) else(Option.bind (kD n b.value.index.ak (wr ((wr (d+1))+1))) λe=>bif decide (e<0) then some (-1) else(bif !decide (b.value.index.const=e) then some (-1) else(Option.bind (hL n (wr (e+1))) λm=>bif !decide (b.value.read.array=m) then some (-1) else(Option.bind (ig n b.value.read.al (wr ((wr (e+1))+1))) λi=>bif decide (i<0) then some (-1) else(Option.bind (ko n b.value.aJ i) λc=>bif decide (c<0) then some (-1) else(a (c,wr (k+1)))))))))))
theorem Sc(a:2000000<=n)(l:List Stmt)(k eW:Int)(b:l.length<=1048576)(c:hc (jI (Hk n)) k l eW):oN n l k=some eW:=by unfold oN;exact qO a b c
def Hi(n:Nat)(a:Int×Int->Option Int)(b:Part)(e h:Int):Option Int:=Option.bind (oO n b.nest e) λc=>bif decide (c<0) then some (-1) else(Option.bind (oN n b.body c) λd=>bif decide (d<0) then some (-1) else(a (d,wr (h+1))))
theorem Sd(a:2000000<=n)(l:List Part)(k eW:Int)(b:l.length<=1048576)(c:hc (jI (Hi n)) k l eW):qy n l k=some eW:=by unfold qy;exact qO a b c
theorem o6{B:(Int×Int->Option Int)->R->Int->Int->Option Int}{Hh:List R->Int->Option Int}{a:List R}{c:R->Nat}{F:(Int×List R×Int->Option (Int×List R))->Int×List R×Int->Option (Int×List R)}(D: ∀(l:List R) (k d:Int),l.length<=1048576->hc (jI B) k l d->Hh l k=some d)(I:2000000<=n)(G:a.length<=1048576)(M:0<=k)(K:k+5*(ea c a:Nat)<=1099511627776)
  (L: ∀(Q:Int×List R->Prop) (b:Int×List R×Int->Option (Int×List R)) (e:Int) (l:List R) (j:Nat) (x:R),l[j]? =some x->x∈a->j<l.length->j<=1048576->0<=e->e+5*(1+c x:Nat)<=1099511627776->
   (∀(d:Int) (y:R),e<=d->d<=e+5*(1+c x:Nat)->jI B e y d->ah (b (d,l.set j y,(j:Int)+1)) Q)->ah (F b (e,l,j)) Q)
  (W: ∀(b:Int×List R×Int->Option (Int×List R)) (e:Int) (l:List R),F b (e,l,l.length)=some (e,l)):
  ∃r,ba F n (k,a,0)=some r/\k<=r.1/\r.1<=k+5*(ea c a:Nat)/\r.2.length=a.length/\
   Hh r.2 k=some r.1:=by
 suffices H:ah (ba F n (k,a,0)) (λr=>k<=r.1/\r.1<=k+5*(ea c a:Nat)/\r.2.length=a.length/\hc (jI B) k r.2 r.1) by
  obtain⟨r,m,X,f,A,g⟩:=H;exact⟨r,m,X,f,A,D _ _ _ (by rw[A];exact G) g⟩
 refine ah.loop (λz:Int×List R×Int=> ∃j:Nat,z.2.2=j/\j<=a.length/\z.2.1.length=a.length/\z.2.1.drop j=a.drop j/\k<=z.1/\z.1<=k+5*(j+((a.take j).map c).sum:Nat)/\hc (jI B) k (z.2.1.take j) z.1) (λz=>a.length-z.2.2.toNat) ?_ n _ ⟨0,rfl,O,rfl,rfl,fZ _,aV,.nil _⟩ Z;rintro b ⟨b6,l,i⟩ ⟨j,rfl,N,q,s,C,t,o⟩ u;dsimp only at q s C t o;have h: ∀i,((a.take i).map c).sum<=(a.map c).sum:=λi=>by
  have:=congrArg (λl=>(l.map c).sum) (xc i a);simp only[List.map_append,List.sum_append] at this;omega
 by_cases v:j<a.length
 ·have p:=bh v;generalize a[j]=x at p;have w:l[j]? =some x:=by
   have m:(l.drop j)[0]? =(a.drop j)[0]? :=by rw[s]
   rw[ga,ga] at m;simp only[Nat.add_zero] at m;rw[m];exact p
  have hs:=DR c p;have P:=h (j+1);unfold ea at K;refine L _ b b6 l j x w (bA p) O O O O λd y S T E=>?_;refine u _ ⟨j+1,Z,O,by simpa using q,?_,Z,by dsimp only;rw[hs];omega,?_⟩ Z;rotate_left
  ·dsimp only;rw[k3 (hY O),List.take_set_of_le (cL _)];exact o.snoc E
  dsimp only;rw[List.drop_set_of_lt O]
  have:=congrArg (List.drop 1) s;simpa[List.drop_drop,Nat.add_comm] using this
 have:j=l.length:=O
 subst this;rw[W];rw[dA] at o;refine ah.some ⟨C,?_,q,o⟩
 have:=h l.length;dsimp only;unfold ea;omega
theorem Sx(c:2000000<=n){a:List bW}(p:a.length<=1048576)(d: ∀x∈a,lJ 1048576 x)(q:0<=k)(s:k+5*(ea oW a:Nat)<=1099511627776):
  ∃r,vY n a k=some r/\k<=r.1/\r.1<=k+5*(ea oW a:Nat)/\r.2.length=a.length/\qu n r.2 k=some r.1:=by
 unfold vY;refine o6 (Hh:=qu n) (TL O) c p q s (λQ b e l j x v i w y z A m=>?_) λb e l=>by dsimp only;rw[bs O];rfl
 dsimp only;refine bc (λ_=>?_) λh=>a7 w O;unfold oW at A m;obtain⟨t,o⟩:=wv c z O;refine ai (bI v) (ai o ?_);rw[a' O,a' O];refine ai (wx c (d x i).2 O O) (ai (fh (ng _ _)) (ai (hQ O _) ?_));rw[fX];refine m _ _ O O λC Q j y B=>?_;unfold Hj;refine ai o (dD (λh=>a7 rfl h) λ_=>?_);rw[a' (n:=e+1) O];refine ai (ua c (d x i).2 O O) (bc (λh=>a7 h O) λ_=>?_);rw[a' O];exact B
theorem rL(c:2000000<=n){a:List az}(d:ib 1048576 a)(o:0<=k)(p:k+5*(ea ju a:Nat)<=1099511627776):
  ∃r,mL n a k=some r/\k<=r.1/\r.1<=k+5*(ea ju a:Nat)/\r.2.length=a.length/\ig n r.2 k=some r.1:=by
 unfold mL;refine o6 (Hh:=ig n) (TM O) c d.1 o p (λQ b q l j x s e v w i y m=>?_) λb q l=>by dsimp only;rw[bs O];rfl
 dsimp only;refine bc (λ_=>?_) λh=>a7 v O;unfold ju at y m;refine ai (bI s) (ai (wx c (d.2 x e) i O) (ai (fh (ng _ _)) (ai (hQ O _) ?_)));rw[a' Z,a' O,fX];refine m _ _ Z Z λA Q j w z=>?_;unfold He;refine ai (ua c (d.2 x e) i O) (bc (λh=>a7 h O) λ_=>dD (λh=>a7 rfl h) λ_=>?_);rw[a' O,a' O];exact z
theorem RS(c:2000000<=n){a:List Loop}(m:a.length<=1048576)(d: ∀x∈a,kX 1048576 x)(o:0<=k)(p:k+5*(ea m' a:Nat)<=1099511627776):
  ∃r,wm n a k=some r/\k<=r.1/\r.1<=k+5*(ea m' a:Nat)/\r.2.length=a.length/\oO n r.2 k=some r.1:=by
 unfold wm;refine o6 (Hh:=oO n) (Se O) c m o p (λQ b q l j x s e v w y z i=>?_) λb q l=>by dsimp only;rw[bs O];rfl
 dsimp only;refine bc (λ_=>?_) λh=>a7 v O;unfold m' at z i;obtain⟨A,B,L,R,C,D⟩:=rL c (d x e).1 y O;obtain⟨W,F,X,f,G,H⟩:=rL c (d x e).2 (k:=A.1) O O;refine ai (bI s) (ai B (ai (fh C) (ai F (ai (fh G) (ai (hQ O _) ?_)))));rw[a' O,fX];refine i _ _ O O λg Q j w K=>?_;unfold Hg;refine ai D (bc (λh=>a7 h O) λ_=>ai H (bc (λh=>a7 h O) λ_=>?_));rw[a' O];exact K
theorem Fh: ∀(m n:Nat) {a:List Expr},2000001+m<=n->a.length<=1048576->(∀x∈a,gz 1048576 m x)-> ∀{k:Int},0<=k->k+5*(ea (kK m) a:Nat)<=1099511627776->
  ∃r,nN n a k=some r/\k<=r.1/\r.1<=k+5*(ea (kK m) a:Nat)/\r.2.length=a.length/\ko n r.2 k=some r.1
 |0,n,a,C,i,o,k,p,q=>by
  obtain⟨n,rfl⟩: ∃j,n=j+1:=⟨n-1,O⟩
  rw[nN.eq_def];dsimp only;exact o6 (Hh:=ko (n+1)) (F1 O) O i p q (λQ b c l j x w s y z D v e=>(o x s).elim) (λb c l=>by dsimp only;rw[bs O];rfl)
 |m+1,n,a,C,i,o,k,p,q=>by
  obtain⟨n,rfl⟩: ∃j,n=j+1:=⟨n-1,O⟩
  have d:2000000<=n:=O
  rw[nN.eq_def];dsimp only;refine o6 (Hh:=ko (n+1)) (F1 O) O i p q (λQ b c l j x w s y z D v e=>?_) λb c l=>by dsimp only;rw[bs O];rfl
  dsimp only;refine bc (λ_=>?_) λh=>a7 y O;obtain⟨A,F,G,H⟩:=o x s;unfold kK ju oT at v e;refine ai (bI w) ?_;rw[a' (n:=c+1) O,a' (n:=c+1+1) O];refine ai (wx d A O O) (ai (fh (ng _ _)) ?_);dsimp only;generalize K:x.index.ak.length=u at v e;rw[a' (n:=c+1+1+(u:Int)+1) O];obtain⟨t,B⟩:=wv d (k:=c+1+1+(u:Int)+1) O O;refine ai B ?_;rw[a' (n:=c+1+1+(u:Int)+1+1) O];obtain⟨L,R,M,N,W,X⟩:=rL d F.2 (k:=c+1+1+(u:Int)+1+1) O O;obtain⟨P,f,S,T,g,E⟩:=Fh m n O G H (k:=L.1) O O;refine ai R (ai (fh W) (ai f (ai (fh g) (ai (hQ O _) ?_))));rw[a' O,fX];refine e _ _ O O λU Q j z I=>?_;unfold Hf;refine dD (λh=>a7 rfl h) λ_=>?_;rw[a' (n:=c+1) O];refine dD (λh=>a7 rfl h) λ_=>?_;rw[a' (n:=c+1+1) O];refine ai (ua d (K▸A) O O) (bc (λh=>a7 h O) λ_=>dD (λh=>a7 rfl h) λ_=>?_);rw[a' (n:=c+1+1+(u:Int)+1) O];refine ai B (dD (λh=>a7 rfl h) λ_=>?_);rw[a' (n:=c+1+1+(u:Int)+1+1) O];refine ai X (bc (λh=>a7 h O) λ_=>ai E (bc (λh=>a7 h O) λ_=>?_));rw[a' O];exact I
theorem QY(V:2000001+m<=n){a:List Stmt}(w:a.length<=1048576)(y: ∀x∈a,kY 1048576 m x)(z:0<=k)(A:k+5*(ea (na m) a:Nat)<=1099511627776):
  ∃r,wk n a k=some r/\k<=r.1/\r.1<=k+5*(ea (na m) a:Nat)/\r.2.length=a.length/\oN n r.2 k=some r.1:=by
 have b:2000000<=n:=O
 unfold wk;refine o6 (Hh:=oN n) (Sc O) b w z A (λQ d i l j x B C D F G p o=>?_) λd i l=>by dsimp only;rw[bs O];rfl
 dsimp only;refine bc (λ_=>?_) λh=>a7 D O;obtain⟨H,q⟩:=y x C;cases m with
 |zero=>exact q.elim
 |succ m=>
  obtain⟨s,K,L,R⟩:=q;unfold na kK ju oT at p o;obtain⟨t,v⟩:=wv b G O;refine ai (bI B) (ai v ?_);rw[a' (n:=i+1) O];obtain⟨c,W,Y,c2,X,f⟩:=rL b H.2 (k:=i+1) O O;refine ai W (ai (fh X) ?_);rw[a' (n:=c.1+1) O,a' (n:=c.1+1+1) O];refine ai (wx b s O O) (ai (fh (ng _ _)) ?_);dsimp only;generalize g:x.value.index.ak.length=u at p o;rw[a' (n:=c.1+1+1+(u:Int)+1) O];obtain⟨t2,e⟩:=wv b (k:=c.1+1+1+(u:Int)+1) O O;refine ai e ?_;rw[a' (n:=c.1+1+1+(u:Int)+1+1) O];obtain⟨E,I,cF,b2,M,N⟩:=rL b K.2 (k:=c.1+1+1+(u:Int)+1+1) O O;obtain⟨Ic,P,d1,d2,S,T⟩:=Fh m n O L R (k:=E.1) O O;refine ai I (ai (fh M) (ai P (ai (fh S) (ai (hQ O _) ?_))));rw[a' O,fX];refine o _ _ O O λXJ Q j F U=>?_;unfold Hk;refine ai v (dD (λh=>a7 rfl h) λ_=>?_);rw[a' (n:=i+1) O];refine ai f (bc (λh=>a7 h O) λ_=>?_);refine dD (λh=>a7 rfl h) λ_=>?_;rw[a' (n:=c.1+1) O];refine dD (λh=>a7 rfl h) λ_=>?_;rw[a' (n:=c.1+1+1) O];refine ai (ua b (g▸s) O O) (bc (λh=>a7 h O) λ_=>dD (λh=>a7 rfl h) λ_=>?_);rw[a' (n:=c.1+1+1+(u:Int)+1) O];refine ai e (dD (λh=>a7 rfl h) λ_=>?_);rw[a' (n:=c.1+1+1+(u:Int)+1+1) O];refine ai N (bc (λh=>a7 h O) λ_=>ai T (bc (λh=>a7 h O) λ_=>?_));rw[a' O];exact U
theorem RR(i:2000001+m<=n){a:List Part}(o:a.length<=1048576)(c: ∀x∈a,nV 1048576 m x)(p:0<=k)(q:k+5*(ea (oV m) a:Nat)<=1099511627776):
  ∃r,sX n a k=some r/\k<=r.1/\r.1<=k+5*(ea (oV m) a:Nat)/\r.2.length=a.length/\qy n r.2 k=some r.1:=by
 unfold sX;refine o6 (Hh:=qy n) (Sd O) O o p q (λQ b s l j x v d w y z A e=>?_) λb s l=>by dsimp only;rw[bs O];rfl
 dsimp only;refine bc (λ_=>?_) λh=>a7 w O;unfold oV at A e;obtain⟨B,C,R,W,D,F⟩:=RS (n:=n) O (c x d).1.1 (c x d).1.2 z O;obtain⟨X,G,f,g,H,K⟩:=QY i (c x d).2.1 (c x d).2.2 (k:=B.1) O O;refine ai (bI v) (ai C (ai (fh D) (ai G (ai (fh H) (ai (hQ O _) ?_)))));rw[a' O,fX];refine e _ _ O O λt Q j y L=>?_;unfold Hi;refine ai F (bc (λh=>a7 h O) λ_=>ai K (bc (λh=>a7 h O) λ_=>?_));rw[a' O];exact L
theorem FW(c:2000001+m<=n)(h:gA 1048576 m p)(d:0<=k)(e:k+5*(oU m p:Nat)<=1099511627776): ∃r,oz n p k=some r/\k<=r.1/\r.1<=k+5*(oU m p:Nat)/\r.2.1.length=p.bb.length/\r.2.2.length=p.parts.length/\ow n ⟨r.2.1,r.2.2⟩ k=some r.1:=by
 unfold oU at e;obtain⟨a,i,w,x,l,o⟩:=Sx (n:=n) O h.1.1 h.1.2 d O;obtain⟨b,q,y,z,s,v⟩:=RR c h.2.1 h.2.2 (k:=a.1) O O;refine⟨(b.1,a.2,b.2),?_,Z,by dsimp only;unfold oU;omega,l,s,?_⟩;rotate_left
 ·unfold ow;exact ah.eq (ai o (bc (λh=>a7 h O) λ_=>ai v (bc (λh=>a7 h O) λ_=>ah.some rfl)))
 unfold oz;rw[i];show Option.bind (sX n p.parts a.1) _=_;rw[q];rfl
def zL(n:Nat)(e:Prog)(S I:Prog->Option (Prog×Bool)):Option Bool:=(
 Option.bind (wj n e 1048576) λy=>
 bif decide (y<0) then(
  some true
 ) else(
  Option.bind (kA n e) λz=>
  Option.bind (S z) λd=>
  Option.bind (kA n e) λm=>
  Option.bind (I m) λb=>
  aY (fun(A:Bool)=>
   bif A then(
    some false
   ) else(
    Option.bind (kA n e) λB=>
    Option.bind (kB n m B) λo=>
    bif !o then(
     some false
    ) else(
     Option.bind (oz n m 1) λp=>
     aY (fun(q:Bool)=>
      bif q then(
       some false
      ) else(
       Option.bind (oz n b.1 1) λa=>
       Option.bind (er b.1.bb a.2.1) λ_=>
       Option.bind (er b.1.parts a.2.2) λ_=>
       Option.bind (ow n (⟨a.2.1,a.2.2⟩:Prog) 1) λh=>
       bif decide (h<0) then(
        some false
       ) else(
        bif !decide (h=a.1) then(
         some false
        ) else(
         Option.bind (kA n e) λr=>
         Option.bind (I r) λi=>
         aY (fun(s:Bool)=>
          bif s then(
           some false
          ) else(
           Option.bind (ow n (⟨a.2.1,a.2.2⟩:Prog) 1) λk=>
           bif decide (k<0) then(
            some false
           ) else(
            bif !decide (k=a.1) then(
             some false
            ) else(
             some true
            )
           )
          )
         ) (λl=>
          Option.bind (kB n i.1 d.1) λv=>
          bif !v then(
           l true
          ) else(
           l (!(i.2==d.2))
          )
         )
        )
       )
      )
     ) (λc=>
      bif decide (p.1<0) then(
       c true
      ) else(
       Option.bind (kB n b.1 d.1) λw=>
       bif !w then(
        c true
       ) else(
        c (!(b.2==d.2))
       )
      )
     )
    )
   )
  ) (λx=>
   Option.bind (kB n b.1 d.1) λC=>
   bif !C then(
    x true
   ) else(
    x (!(b.2==d.2))
   )
  )
 ))
theorem GB(h:cU a=true):hK 4 a:=by have:=(jt h).1;unfold hK;omega
theorem zy(d:l.length<=2)(b: ∀x∈l,cU x=true):ib 4 l:=⟨O,λa c=>GB (b a c)⟩
theorem GC{s:List UInt8}(h:j' s=true):s.length<=4:=by
 by_cases a:s.length=1
 ·omega
 rw[wP a] at h;cases h
theorem GA{a:bR}{d:Int}(h:eU a d=true):kW 4 a:=⟨GC (by simp only[eU,Bool.and_eq_true] at h;exact h.2.1),zy (ki h).2.1 (ki h).2.2⟩
theorem Gz{d:Int}: ∀{L:Nat} {e:Expr},dR L e d=true->gz 4 L e
 |0,_,h=>by cases h
 |L+1,e,h=>by
  obtain⟨l,a,m⟩:=jq h
  have:=l8 e.kind;refine⟨?_,?_,O,λk l=>Gz (m k l)⟩
  ·by_cases b:e.kind=2
   ·exact GB (ny a b).1
   by_cases c:e.kind=3
   ·rw[qY (nx a c).2];unfold hK;simp
   rw[qY (rJ a b c).1];unfold hK;simp
  by_cases c:e.kind=3
  ·exact GA (nx a c).1
  by_cases b:e.kind=2
  ·rw[qZ (ny a b).2];exact⟨aV,aV,λx i=>by cases i⟩
  rw[qZ (rJ a b c).2];exact⟨aV,aV,λx i=>by cases i⟩
theorem TE(h:da p=true):gA 4 5 p:=by
 have k:f9 p.bb=true:=by
  simp only[da,iS,Bool.and_eq_true] at h;exact h.1.1
 obtain⟨n,o,q,m,_⟩:=gS h;refine⟨⟨n,λx c=>⟨?_,?_⟩⟩,q,λx c=>?_⟩
 ·obtain⟨i,r⟩:=iw c
  have:=Cy (show pA (jN p.bb) p.bb=true by simp only[f9,Bool.and_eq_true] at k;exact k.1) r;simp only[jN,Bool.and_eq_true] at this;exact GC this.1
 ·have:=o x c;simp only[ho,Bool.and_eq_true,decide_eq_true_eq] at this;omega
 obtain⟨v,d⟩:=nh (m x c);obtain⟨_,w,y,_⟩:=kI (m x c);exact⟨⟨v,λl e=>⟨zy (d l e).1.1 (d l e).1.2,zy (d l e).2.1 (d l e).2.2⟩⟩,w.2,λs z=>by obtain⟨a,b,_⟩:=j7 (y s z);exact⟨GA a,Gz b⟩⟩
theorem GK(h:B<=C)(k:hK B a):hK C a:=dS k h
theorem zX(h:B<=C)(k:ib B l):ib C l:=⟨dS k.1 h,λa b=>GK h (k.2 a b)⟩
theorem GJ(h:B<=C){a:bR}(k:kW B a):kW C a:=⟨dS k.1 h,zX h k.2⟩
theorem Gf{B C:Nat}(h:B<=C): ∀{m:Nat} {e:Expr},gz B m e->gz C m e
 |0,_,k=>k.elim
 |m+1,e,⟨a,b,c,d⟩=>⟨GK h a,GJ h b,dS c h,λk i=>Gf h (d k i)⟩
theorem Tz(h:B<=C)(k:gA B m p):gA C m p:=⟨⟨dS k.1.1 h,λx e=>⟨dS (k.1.2 x e).1 h,dS (k.1.2 x e).2 h⟩⟩,dS k.2.1 h,λx e=>by obtain⟨⟨a,b⟩,c,d⟩:=k.2.2 x e;exact⟨⟨dS a h,λl i=>⟨zX h (b l i).1,zX h (b l i).2⟩⟩,dS c h,λs n=>⟨GJ h (d s n).1,Gf h (d s n).2⟩⟩⟩
theorem pI{k:Type}{c:k->Nat}: ∀{l:List k},l.length<=4->(∀x∈l,c x<=C)->ea c l<=4+4*C:=by
 intro l d e
 have: ∀l:List k,(∀x∈l,c x<=C)->(l.map c).sum<=l.length*C:=by
  intro l;induction l with
  |nil=>intro _;simp
  |cons x l i=>
   intro h;have a:=h x ep;have b:=i λy m=>h y (dU _ m);simp only[List.map_cons,List.sum_cons,List.length_cons,Nat.add_mul];omega
 have n:=this l e;have o:l.length*C<=4*C:=dq _ d;unfold ea;omega
theorem u3(h:ib 4 l):ea ju l<=20:=pI (C:=4) h.1 h.2
theorem Gn: ∀{m:Nat} {e:Expr},gz 4 m e->kK m e<=100*5^m
 |0,_,h=>h.elim
 |m+1,e,⟨a,b,c,d⟩=>by have l:=u3 b.2;have n:ea (kK m) e.aJ<=4+4*(100*5^m):=pI c λk i=>Gn (d k i);have o:0<5^m:=Nat.pow_pos O;have p:ju e.index<=4:=a;unfold kK oT;rw[Nat.pow_succ];omega
theorem TH(h:gA 4 5 p):oU 5 p<=1000000000:=by
 have n:=pI (c:=oW) (C:=4) h.1.1 λx i=>(h.1.2 x i).2;have o:=pI (c:=oV 5) (C:=4+4*40+(4+4*312520)) h.2.1 (λx i=>by
  obtain⟨⟨a,b⟩,c,d⟩:=h.2.2 x i;have q:=pI (c:=m') (C:=40) a (λl k=>by
   have:=u3 (b l k).1
   have:=u3 (b l k).2;unfold m';omega)
  have r:=pI (c:=na 5) (C:=312520) c (λs m=>by
   have:=u3 (d s m).1.2
   have:=Gn (d s m).2;have e:100*5^5=312500:=by decide
   unfold na oT;omega)
  unfold oV;omega)
 unfold oU;omega
theorem TC{e:Expr}(p:6600000+m<=n)(h:gz 1048576 m e):ls n e=some e:=by
 obtain⟨n,rfl⟩: ∃j,n=j+1:=⟨n-1,O⟩
 have: ∀{m:Nat} {e:Expr},gz 1048576 m e->h' 1100000 m e:=by
  intro m;induction m with
  |zero=>intro e h;exact h.elim
  |succ m i=>
   rintro e ⟨a,b,c,d⟩;exact⟨O,dS a O,⟨dS b.2.1 O,λx l=>dS (b.2.2 x l) O⟩,λk o=>i (d k o)⟩
 exact Cw m n e O (this h)
theorem TB(r:6600000+m<=n)(h:gA 1048576 m p):qd n p=some p:=by
 obtain⟨⟨C,v⟩,D,w⟩:=h;have k: ∀{l:List az},ib 1048576 l->om n l=some l:=λh=>wO O ⟨dS h.1 O,λx o=>dS (h.2 x o) O⟩;have y:p9 n p.bb=some p.bb:=by
  unfold p9;refine ah.eq (jX (K:=λe=>some e) (λl i=>?_) O O (ah.some rfl));unfold vU;rw[jQ _ (by have:=(v l i).2;omega)];rfl
 have z:qa n p.parts=some p.parts:=by
  unfold qa;refine ah.eq (jX (K:=λe=>some e) (λx o=>?_) O O (ah.some rfl));obtain⟨⟨a,b⟩,c,d⟩:=w x o;have A:qb n x.nest=some x.nest:=by
   unfold qb;refine ah.eq (jX (K:=λe=>some e) (λl i=>?_) O O (ah.some rfl));unfold vZ;rw[k (b l i).1,k (b l i).2];rfl
  have B:p' n x.body=some x.body:=by
   unfold p';refine ah.eq (jX (K:=λe=>some e) (λs q=>?_) O O (ah.some rfl));have g:d5 n s.write=some s.write:=by
    unfold d5;rw[k (d s q).1.2];rfl
   unfold sR;rw[g,TC r (d s q).2];rfl
  unfold sS;rw[A,B];rfl
 unfold qd;rw[y,z];rfl
theorem Ot(c:7700000<=n)(d:jc p)(e:da p=false)(a b:Int):m8 n p a b=some (⟨[],[]⟩,false):=by unfold m8;refine ah.eq (ah.aY (λz=>z=true) (λj h=>ai (vI c d) ?_) λz i=>by subst i;exact dt (ah.some rfl));rw[e];exact dt (h _ rfl)
theorem RX(c:7700000<=n)(d:jc p)(e:da p=false)(a b:Int):rm n p a b=some false:=by unfold rm;refine ah.eq (ah.aY (λz=>z=false) (λj h=>ai (Bx c d) ?_) λz i=>ah.some i);rw[e];exact cj (h _ rfl)
def ui(r:Prog×Bool):Prop:=r=(⟨[],[]⟩,false)\/ ∃q,r=mI q
theorem ui.Io{r:Prog×Bool}(h:ui r):gA 4 5 r.1:=by
 have b:gA 4 5 ⟨[],[]⟩:=⟨⟨aV,λx a=>by cases a⟩,aV,λx a=>by cases a⟩
 rcases h with rfl|⟨q,rfl⟩
 ·exact b
 unfold mI;split
 ·rename_i c;exact TE c
 exact b
theorem DB(H:20000001+m<=n)(w:gA 9223372036854775807 m p){S I:Prog->Option (Prog×Bool)}{G:Prog×Bool}(i:ui G)(x:gA 1048576 m p->S p=some G)(y:gA 1048576 m p->I p=some G):zL n p S I=some true:=by
 have s:=Tz (C:=1048576) O i.Io;have A:=TH i.Io;obtain⟨r,e,i⟩:=Rb (n:=n) O w 1048576 O O;unfold zL;refine ah.eq (ai e ?_);rcases i with rfl|⟨K,L,b⟩
 ·exact bc (λ_=>ah.some rfl) λh=>a7 h (by decide)
 have l:=Q9 (n:=n) O b;have hs:=x b;have aD:=y b;obtain⟨q,o,Q,R,_,_,_⟩:=FW (n:=n) (m:=m) O b (k:=1) O O;obtain⟨u,B,W,X,D,F,v⟩:=FW (n:=n) (m:=5) O s (k:=1) O O;have a:=Fv (n:=n) (m:=5) O s;refine bc (λh=>a7 h O) λ_=>ai l (ai hs (ai l (ai aD ?_)));refine ah.aY (λz=>z=false) (λj c=>ai a (cj (c _ aV))) λz d=>?_;subst d;refine cj (ai l (ai (Fv O b) (cj (ai o ?_))));refine ah.aY (λz=>z=false) (λj c=>bc (λh=>a7 h O) λ_=>ai a (cj (c _ aV))) λz d=>?_;subst d;refine cj (ai B (ai (fh D) (ai (fh F) (ai v (bc (λh=>a7 h O) λ_=>dD (λh=>a7 rfl h) λ_=>ai l (ai aD ?_))))));refine ah.aY (λz=>z=false) (λj c=>ai a (cj (c _ aV))) λz d=>?_;subst d;exact cj (ai v (bc (λh=>a7 h O) λ_=>dD (λh=>a7 rfl h) λ_=>ah.some rfl))
theorem Qe(p:Prog)(a b:Int):ui (lL p a b):=by
 unfold lL
 repeat' split
 all_goals first|exact .inl rfl|exact .inr ⟨_,rfl⟩
theorem W9(e:gA 9223372036854775807 m p)(a b:Int):H7 (30000000+m) p a b=some true:=by
 show zL (30000000+m) p (λx=>qj (30000000+m) x a b) (λx=>mM (30000000+m) x a b)=some true;cases d:da p with
 |true=>exact DB O e (Qe p a b) (λc=>Qb O ((Gv d).mono O) a b) (λc=>P7 O ((Gv d).mono O) a b)
 |false=>
  refine DB O e (.inl rfl) (λc=>?_) λc=>?_
  ·have hs:=GH c;unfold qj;exact ah.eq (ai (TB O c) (ai (RX O hs d _ _) (dt (ah.some rfl))))
  have hs:=GH c;unfold mM;exact ah.eq (ai (Ot O hs d _ _) (cj (ah.some rfl)))
end Go.Lift
