/- Tools. -/
import Derived.Test.YtlbojjldejlgaabGreatEDrawD
set_option maxRecDepth 110000000
set_option linter.unusedVariables false
namespace Go.Lift
open Go
section
theorem GX{a:Type}{n:Int}(h:0<=n/\n<=1000000000)(x:a):mk n x=some (List.replicate n.toNat x):=by unfold mk;rw[aW h]
variable {a s d v c y:Int}{n i k L many:Nat}{p:Prog}{x P:Part}{R:Type}{l:Loop}{F:az->Option az}{Q:R->Prop}{f:az->az}{e:Expr}{r:List cx}{nest:List Loop}{b:az}{q:List Int}{ys:List Part}
theorem aaa(a:bU p=true):0<=fQ p.aY/\fQ p.aY<=144:=by
 obtain⟨c,b,_⟩:=eg a
 have:=abY b;omega
theorem QJ(b:bU p=true){x:cb}(c:f9 p x):x.cF.length<=4:=by
 obtain⟨i,k,P,s,d,e,h,l,m,n,o,a,q⟩:=uF b c
 have:=a.1;have:=a.2.1;omega
theorem wh{a β:Type}{l:List a}{F:a->(β->Option R)->Option R}{g:a->β}{K:List β->Option R}(e: ∀x∈l,∀k:β->Option R,aa (k (g x)) Q->aa (F x k) Q)
  {s:Nat} (A:s<=l.length) {pre:List β} (B:pre.length<=1100000) (C:l.length<=1100000) (D:5500000<=n) (h:aa (K (pre++(l.drop s).map g)) Q):
  aa (bc (λb ((x,i):List β×Int)=>bif decide (i<(l.length:Int)) then(Option.bind (av l i) λy=>F y λz=>Option.bind (app x [z]) λw=>b (w,wr (i+1))) else K x) n (pre,(s:Int))) Q:=by
 refine aa.loop (λz:List β×Int=> ∃i:Nat,z.2=i/\s<=i/\i<=l.length/\z.1=pre++((l.drop s).take (i-s)).map g) (λz=>l.length-z.2.toNat) ?_ n _ ⟨s,rfl,O,O,a1⟩ Z;rintro b ⟨x,z⟩ ⟨i,d,m,G,c⟩ o;dsimp only at d c⊢;subst d;refine aR (λp=>?_) λq=>?_
 ·have bE:=bg (O:i<l.length);have r:x.length<=2200000:=by rw[c,cP,dj,cq,eX];omega
  refine ag (a' bE) (e _ (bC bE) _ (ag (cW bX) ?_));rw[bf O];refine o _ ⟨i+1,Z,O,O,?_⟩ Z;dsimp only;rw[show i+1-s=(i-s)+1 by omega,dV,fS,show s+(i-s)=i by omega,bE,c,gJ,fs];rfl
 have:i=l.length:=O
 subst this;rw[c,fG (by rw[eX];omega)];exact h
theorem nW{h a:Type}{l:List h}{f:h->Option a}{g:h->a}{K:List a->Option R}(c: ∀x∈l,f x=some (g x))(d:l.length<=1100000)(e:5500000<=n)(m:aa (K (l.map g)) Q):
  aa (bc (λb ((x,i):List a×Int)=>bif decide (i<(l.length:Int)) then(Option.bind (av l i) λy=>Option.bind (f y) λz=>Option.bind (app x [z]) λw=>b (w,wr (i+1))) else K x) n ([],0)) Q:=
 wh (F:=λy k=>Option.bind (f y) k) (g:=g) (s:=0) (pre:=[]) (λx o k p=>ag (c x o) p) O a1 d e (by simpa using m)
theorem wB{a:Type}{l:List a}{F:a->(a->Option R)->Option R}{W:List a->Option R->Option R}{m:List a->Int}{g:a->a}{K:List a->Option R}
  (A: ∀y o,y.length=l.length->aa o Q->aa (W y o) Q) (B: ∀y:List a,y.length=l.length->m y=(l.length:Int))
  {s:Nat} (f:s<=l.length) (C: ∀x∈l,∀k:a->Option R,aa (k (g x)) Q->aa (F x k) Q) (j:l.length<=1100000) (t:5500000<=n) (D:aa (K (l.take s++(l.drop s).map g)) Q):
  aa (bc (λb ((y,i):List a×Int)=>W y (bif decide (i<m y) then(Option.bind (av y i) λx=>F x λz=>Option.bind (ca y i z) λw=>b (w,wr (i+1))) else K y)) n (l,(s:Int))) Q:=by
 refine aa.loop (λz:List a×Int=> ∃i:Nat,z.2=i/\s<=i/\i<=l.length/\z.1=l.take s++((l.drop s).take (i-s)).map g++l.drop i) (λz=>l.length-z.2.toNat) ?_ n _ ⟨s,rfl,O,O,a1⟩ Z;rintro b ⟨x,z⟩ ⟨i,r,G,u,d⟩ H;dsimp only at r d⊢;subst r;have c:(l.take s++((l.drop s).take (i-s)).map g).length=i:=by rw[cP,dj,cq,cq,eX];omega
 have h:x.length=l.length:=by rw[d,cP,c,eX];omega
 refine A _ _ h ?_;rw[B _ h];refine aR (λL=>?_) λX=>?_
 ·obtain⟨e,p⟩: ∃e,l[i]? =some e:=⟨_,bg (O:i<l.length)⟩
  have q:x[i]? =some e:=by
   rw[d,hi O,c,kp,fS];exact p
  refine ag (a' q) (C _ (bC p) _ (ag (dS O _) ?_));rw[bf O];refine H _ ⟨i+1,Z,O,O,?_⟩ Z;dsimp only;rw[d,cV,mn _ _ O,c,kp,j7 p,sI,show i+1-s=(i-s)+1 by omega,dV,fS,show s+(i-s)=i by omega,p];simp
 have:i=l.length:=O
 subst this;rw[d,fG (l:=l.drop s) (by rw[eX];omega),od,jU];exact D
def pC(f:az->az)(a:b7):b7:=⟨a.array,a.bD.map f⟩
def pP(f:az->az):Nat->Expr->Expr
 |0,e=>e
 |L+1,e=>⟨e.kind,e.num,if e.kind=2 then f e.index else⟨[],0⟩,if e.kind=3 then pC f e.read else⟨[],[]⟩,e.bj.map (pP f L)⟩
def hZ(f:az->az)(s:Stmt):Stmt:=⟨pC f s.write,pP f 5 s.value⟩
def dW(f:az->az)(l:Loop):Loop:=⟨l.lo.map f,l.aD.map f⟩
theorem py(h:ei e d=true)(a:e.kind=2):cN e.index=true/\jj e.read=true:=by unfold ei eI at h;rw[aW a] at h;simp only[Bool.and_eq_true] at h;exact⟨h.2.2.1,h.2.1⟩
theorem q'(h:ei e d=true)(a:e.kind=3):fK e.read d=true/\gS e.index=true:=by unfold ei at h;rw[aT O,aW a] at h;simp only[Bool.and_eq_true] at h;exact⟨h.2.2,h.2.1⟩
theorem wL(h:ei e d=true)(a: ¬e.kind=2)(b: ¬e.kind=3):gS e.index=true/\jj e.read=true:=by unfold ei at h;rw[aT a,aT b] at h;split at h<;>simp only[Bool.and_eq_true] at h<;>exact⟨h.2.1,h.2.2⟩
theorem sC{a:az}(h:gS a=true):a=⟨[],0⟩:=by obtain⟨c,k⟩:=a;simp only[gS,Bool.and_eq_true,decide_eq_true_eq] at h;obtain⟨b,rfl⟩:=h;rw[km b]
theorem sD{a:b7}(h:jj a=true):a=⟨[],[]⟩:=by obtain⟨c,k⟩:=a;simp only[jj,Bool.and_eq_true,decide_eq_true_eq] at h;obtain⟨rfl,b⟩:=h;rw[km b]
theorem J5(b:5500000<=n){a:b7}(c:fK a d=true)(e: ∀x,cN x=true->F x=some (f x)):sc n a F=some (pC f a):=by obtain⟨l,m,h⟩:=mw c;refine aa.eq ?_;unfold sc;exact nW (K:=λi=>some (⟨a.array,i⟩:b7)) (λx k=>e x (h x k)) O b (aa.some rfl)
theorem Ku{d:Int}{F:az->Option az}{f:az->az}(c: ∀x,cN x=true->F x=some (f x)): ∀(L n:Nat) (e:Expr),5500000+L<=n->dr L e d=true->lp (n+1) e F=some (pP f L e)
 |0,_,_,_,h=>by cases h
 |L+1,n,e,C,h=>by
  obtain⟨D,k,o⟩:=gM h;obtain⟨n,rfl⟩: ∃j,n=j+1:=⟨n-1,O⟩
  have p:e.bj.length<=2:=by have:=o4 e.kind;omega
  unfold lp;refine aa.eq (aa.aI (λz=>(⟨z.1,z.2.1⟩:az)=(if e.kind=2 then f e.index else⟨[],0⟩)/\(⟨z.2.2.1,z.2.2.2⟩:b7)=(if e.kind=3 then pC f e.read else⟨[],[]⟩)) (λj i=>?_) λz q=>?_)
  ·refine aR (λa=>?_) λa=>aR (λb=>?_) λb=>?_
   ·exact ag (c _ (py k a).1) (i _ ⟨by rw[aW a],by rw[aT O]⟩)
   ·exact ag (J5 O (q' k b).1 c) (i _ ⟨by rw[aT a],by rw[aW b]⟩)
   exact i _ ⟨by rw[aT a],by rw[aT b]⟩
  obtain⟨r,s,w,y⟩:=z;obtain⟨l,m⟩:=q;dsimp only at l m⊢;refine nW (K:=λA=>some (⟨e.kind,e.num,(⟨r,s⟩:az),(⟨w,y⟩:b7),A⟩:Expr)) (λx B=>Ku c L n x O (o x B)) O O (aa.some ?_);rw[l,m];rfl
theorem Ks(h:6600000<=n){s:Stmt}(b:ep s d=true)(a: ∀x,cN x=true->F x=some (f x)):o0 n s F=some (hZ f s):=by
 obtain⟨c,e,_⟩:=kd b;obtain⟨n,rfl⟩: ∃j,n=j+1:=⟨n-1,O⟩
 unfold o0;rw[J5 O c a,Ku a 5 n s.value O e];rfl
theorem GY{a:Type}{f:a->a}: ∀{l:List a},(∀x∈l,f x=x)->l.map f=l
 | [],_=>rfl
 |x::l,h=>by rw[List.map_cons,h x eH,GY λy b=>h y (eu _ b)]
theorem L0{a:b7}(b:fK a d=true)(c: ∀x,cN x=true->f x=x):pC f a=a:=by obtain⟨i,k,e⟩:=mw b;unfold pC;rw[GY λx h=>c x (e x h)]
theorem On{d:Int}{f:az->az}(k: ∀x,cN x=true->f x=x): ∀{L:Nat} {e:Expr},dr L e d=true->pP f L e=e
 |0,_,_=>rfl
 |L+1,e,h=>by
  obtain⟨n,c,l⟩:=gM h;obtain⟨kind,num,index,read,m⟩:=e;unfold pP;dsimp only at n c l⊢;rw[GY λx o=>On k (l x o)];by_cases b:kind=2
  ·have a:=py c b;dsimp only at a;rw[aW b,aT O,k _ a.1,sD a.2]
  by_cases i:kind=3
  ·have a:=q' c i;dsimp only at a;rw[aT b,aW i,L0 a.1 k,sC a.2]
  have a:=wL c b i;dsimp only at a;rw[aT b,aT i,sC a.1,sD a.2]
theorem abN(a: ∀x,cN x=true->f x=x){s:Stmt}(b:ep s d=true):hZ f s=s:=by obtain⟨c,e,_⟩:=kd b;unfold hZ;rw[L0 c a,On a e]
def j1(l:Loop):Prop:=(l.lo.length<=2/\ ∀x∈l.lo,cN x=true)/\l.aD.length<=2/\ ∀x∈l.aD,cN x=true
theorem ac7{o:List Loop}(h:Fit o): ∀l∈o,j1 l:=λl a=>by
 obtain⟨i,b⟩:=iQ.1 a
 have:=h.2 i l b;exact⟨(px this.1).2,(px this.2).2⟩
theorem f5(h:eh r x=true):x.nest.length<=4/\ ∀l∈x.nest,j1 l:=by have:=(rH (fX h).1).1;exact⟨this.1,ac7 this⟩
theorem Pt{a:az}(h:cN a=true):eR 4 a:=by have:=(fx h).1;unfold eR;omega
theorem AW{l:List az}(d:l.length<=2)(b: ∀x∈l,cN x=true):jV 4 l:=⟨O,λa c=>Pt (b a c)⟩
theorem Ps{d:Int}: ∀{L:Nat} {e:Expr},dr L e d=true->kr 4 L e
 |0,_,h=>by cases h
 |L+1,e,h=>by
  obtain⟨l,a,m⟩:=gM h
  have:=o4 e.kind;refine⟨O,?_,?_,λk l=>Ps (m k l)⟩
  ·by_cases b:e.kind=2
   ·exact Pt (py a b).1
   by_cases c:e.kind=3
   ·rw[sC (q' a c).2];unfold eR;simp
   rw[sC (wL a b c).1];unfold eR;simp
  by_cases c:e.kind=3
  ·have:=mw (q' a c).1;exact AW this.2.1 this.2.2
  by_cases b:e.kind=2
  ·rw[sD (py a b).2];exact⟨a1,λx i=>by cases i⟩
  rw[sD (wL a b c).2];exact⟨a1,λx i=>by cases i⟩
theorem Pq{s:Stmt}(a:ep s d=true):mu 4 s:=by
 obtain⟨b,c,_⟩:=kd a
 have:=mw b;exact⟨AW this.2.1 this.2.2,Ps c⟩
theorem tl(h:eh r x=true):hB 4 x:=by obtain⟨c,a⟩:=f5 h;obtain⟨_,d,e,_⟩:=fX h;exact⟨⟨c,λl b=>⟨AW (a l b).1.1 (a l b).1.2,AW (a l b).2.1 (a l b).2.2⟩⟩,d.2,λs i=>Pq (e s i)⟩
theorem Pr{l:List cx}(a:l.length<=4)(b:kK l):vP 4 l:=⟨a,λx c=>by have:=b x c;simp only[jM,Bool.and_eq_true,decide_eq_true_eq] at this;omega⟩
theorem kZ(h:bU p=true):dK 4 p:=by obtain⟨a,b,c,d,_⟩:=eg h;exact⟨Pr a b,c,λx e=>tl (d x e)⟩
theorem AL{B:Nat}{l:List az}(h:l.length<=B)(b: ∀x∈l,eR B (f x)):jV B (l.map f):=⟨by rw[dj];exact h,λa c=>by obtain⟨x,d,rfl⟩:=et.1 c;exact b x d⟩
theorem O4{d:Int}{f:az->az}(b: ∀x,cN x=true->eR 4 (f x)): ∀{L:Nat} {e:Expr},dr L e d=true->kr 4 L (pP f L e)
 |0,_,h=>by cases h
 |L+1,e,h=>by
  obtain⟨l,m,n⟩:=gM h
  have:=o4 e.kind;unfold pP kr;refine⟨by dsimp only;rw[dj];omega,?_,?_,λk l=>?_⟩
  ·dsimp only;by_cases c:e.kind=2
   ·rw[aW c];exact b _ (py m c).1
   rw[aT c];unfold eR;simp
  ·dsimp only;by_cases i:e.kind=3
   ·rw[aW i]
    have:=mw (q' m i).1;exact AL O λx a=>b x (this.2.2 x a)
   rw[aT i];exact⟨a1,λx a=>by cases a⟩
  obtain⟨x,a,rfl⟩:=et.1 l;exact O4 b (n x a)
theorem AV(a: ∀x,cN x=true->eR 4 (f x)){s:Stmt}(b:ep s d=true):mu 4 (hZ f s):=by
 obtain⟨c,e,_⟩:=kd b
 have:=mw c;exact⟨AL O λx h=>a x (this.2.2 x h),O4 a e⟩
theorem wG(b: ∀x,cN x=true->eR 4 (f x))(h:j1 l):jV 4 (dW f l).lo/\jV 4 (dW f l).aD:=
 ⟨AL (by have:=h.1.1;omega) λx a=>b x (h.1.2 x a),AL (by have:=h.2.1;omega) λx a=>b x (h.2.2 x a)⟩
theorem Mg(n:Nat){a:az}(h:a.aU.length<=1100000):d6 n a=some a:=by unfold d6 jh;rw[aW O];rfl
theorem zh(n:Nat): ∀x,cN x=true->d6 n x=some x:=λx a=>Mg n (by have:=(fx a).1;omega)
theorem Lg(a:5500000<=n){l:List az}(e:l.length<=2)(b: ∀x∈l,cN x=true):qc n l=some l:=by unfold qc;refine aa.eq (nW (g:=λx=>x) (K:=λc=>some c) (λx d=>zh n x (b x d)) O a (aa.some ?_));simp
theorem Lf(c:5500000<=n)(o:nest.length<=4)(a: ∀l∈nest,j1 l):sn n nest=some nest:=by unfold sn;refine aa.eq ?_;refine wh (β:=Loop) (l:=nest) (n:=n) (F:=λd k=>Option.bind (qc n d.lo) λe=>Option.bind (qc n d.aD) λh=>k (⟨e,h⟩:Loop)) (g:=λx=>x) (s:=0) (pre:=[]) (K:=λi=>some i) ?_ O a1 O c (aa.some a1);exact λx b k m=>ag (Lg c (a x b).1.1 (a x b).1.2) (ag (Lg c (a x b).2.1 (a x b).2.2) m)
theorem Ld(b:6600000<=n){s:Stmt}(a:ep s d=true):yR n s=some s:=by unfold yR;rw[Ks b a (F:=λc=>d6 n c) (f:=λx=>x) (zh n),abN (λ_ _=>rfl) a];rfl
theorem Le(a:6600000<=n)(h:eh r x=true):qt n x=some x:=by obtain⟨b,c⟩:=f5 h;obtain⟨_,k,d,_⟩:=fX h;unfold qt;refine aa.eq (ag (Lf O b c) (nW (g:=λx=>x) (K:=λe=>some (⟨x.nest,e⟩:Part)) (λs i=>Ld a (d s i)) O O (aa.some ?_)));simp
theorem q9(o:6600000<=n)(h:bU p=true):oJ n p=some p:=by
 obtain⟨q,r,B,w,_⟩:=eg h;unfold oJ;refine aa.eq (wh (F:=λm k=>Option.bind (jh m.bT) λy=>k (⟨m.name,y⟩:cx)) (g:=λx=>x) (s:=0) (pre:=[]) (K:=λz=>bc (λa ((b,c):(List Part)×Int)=>
    bif decide (c<(p.parts.length:Int)) then(
     Option.bind (av p.parts c) λd=>
     Option.bind (qt n d) λe=>
     Option.bind (app b [e]) λi=>
     a (i,wr (c+1))
    ) else(
     some (⟨z,b⟩:Prog)
    )
   ) n ([],0)) (λx l k A=>ag (x:=x.bT) ?_ A) O a1 O O ?_)
 ·have:=(Pr q r).2 x l;unfold jh;rw[aW O]
 refine nW (g:=λx=>x) (K:=λb=>some (⟨_,b⟩:Prog)) (λx l=>Le o (w x l)) O O (aa.some ?_);simp
theorem nM{a b:List R}(h:b.length=a.length):jF a b=some ():=by unfold jF;rw[aW h]
theorem JB(e:5500000<=n)(r:j1 l)(p: ∀x,cN x=true->F x=some (f x)):r' n l F=some (dW f l):=by
 obtain⟨⟨aH,a2⟩,A,w⟩:=r;unfold r';refine aa.eq (aa.loop (λz:Loop×Int=>(z.2=0/\z.1=l)\/(z.2=1/\z.1=⟨l.lo.map f,l.aD⟩)\/(z.2=2/\z.1=dW f l)) (λz=>3-z.2.toNat) ?_ n _ (.inl ⟨rfl,rfl⟩) Z);rintro a ⟨x,i⟩ q b;dsimp only at q b⊢;rcases q with ⟨rfl,rfl⟩|⟨rfl,rfl⟩|⟨rfl,rfl⟩
 ·refine ag (nM rfl) (ag (nM rfl) (aR (λ_=>aR (λ_=>?_) λh=>(h rfl).elim) λh=>bt h O));refine wB (F:=λx k=>Option.bind (F x) k) (W:=λ_ o=>o) (m:=λ_=>(x.lo.length:Int)) (g:=f) (s:=0) (K:=λy=>a ((⟨y,x.aD⟩:Loop),wr (0+1))) (λ_ _ _ h=>h) (λ_ _=>rfl) O (λx c k d=>ag (p x (a2 x c)) d) O e ?_;rw[bf O];exact b _ (.inr (.inl ⟨Z,a1⟩)) Z
 ·refine ag (nM a1) (ag (nM rfl) (aR (λ_=>aR (λh=>bt h O) λ_=>aR (λ_=>?_) λh=>(h rfl).elim) λh=>bt h O));refine wB (F:=λx k=>Option.bind (F x) k) (W:=λ_ o=>o) (m:=λ_=>(l.aD.length:Int)) (g:=f) (s:=0) (K:=λy=>a ((⟨l.lo.map f,y⟩:Loop),wr (1+1))) (λ_ _ _ h=>h) (λ_ _=>rfl) O (λx c k d=>ag (p x (w x c)) d) O e ?_;rw[bf O];exact b _ (.inr (.inr ⟨Z,by simp[dW]⟩)) Z
 refine ag (nM (by simp[dW])) (ag (nM (by simp[dW])) (aR (λh=>bt h O) λ_=>aa.some rfl))
def pO(k:Nat)(g f:az->az)(x:Part)(l:Loop):Part:=⟨x.nest.take k++dW g l::(x.nest.drop (k+1)).map (dW f),x.body.map (hZ f)⟩
theorem m7(H:6600000<=n){body:List Stmt}{s:Nat}(S:s<=nest.length)(T:nest.length<=4)(L: ∀l∈nest.drop s,j1 l)(U:body.length<=4)(Q: ∀s∈body,ep s d=true)(D: ∀x,cN x=true->F x=some (f x)):
  oK n ⟨nest,body⟩ (s:Int) F=some ⟨nest.take s++(nest.drop s).map (dW f),body.map (hZ f)⟩:=by
 have w: ∀(a:List Loop),aa (bc (λb ((y,j):(List Stmt)×Int)=>
    Option.bind (jF body y) λV=>
    bif decide (j<(body.length:Int)) then(
     Option.bind (av y j) λR=>
     Option.bind (o0 n R F) λX=>
     Option.bind (ca y j X) λt=>
     b (t,wr (j+1))
    ) else(
     some (⟨a,y⟩:Part)
    )
   ) n (body,0)) (λr=>r=⟨a,body.map (hZ f)⟩):=λa=>
  wB (F:=λx k=>Option.bind (o0 n x F) k) (W:=λy o=>Option.bind (jF body y) λ_=>o) (m:=λ_=>(body.length:Int)) (g:=hZ f) (s:=0) (K:=λy=>some (⟨a,y⟩:Part)) (λy o h u=>ag (nM h) u) (λ_ _=>rfl) O (λx c k v=>ag (Ks H (Q x c) D) v) O O (aa.some a1)
 unfold oK;refine aa.eq ?_
 -- the loops ahead stay: only those behind are changed
 refine aa.loop (λz:List Loop×Int=> ∃i:Nat,z.2=i/\s<=i/\i<=nest.length/\z.1=nest.take s++((nest.drop s).take (i-s)).map (dW f)++nest.drop i) (λz=>nest.length-z.2.toNat) ?_ n _ ⟨s,rfl,O,O,a1⟩ Z;rintro A ⟨x,z⟩ ⟨i,G,E,Y,c⟩ I;dsimp only at G c⊢;subst G;have p:(nest.take s++((nest.drop s).take (i-s)).map (dW f)).length=i:=by rw[cP,dj,cq,cq,eX];omega
 have B:x.length=nest.length:=by rw[c,cP,p,eX];omega
 refine ag (nM B) (aR (λM=>?_) λN=>?_)
 ·obtain⟨e,q⟩: ∃e,nest[i]? =some e:=⟨_,bg (O:i<nest.length)⟩
  have C:x[i]? =some e:=by
   rw[c,hi O,p,kp,fS];exact q
  have P:e∈nest.drop s:=iQ.2 ⟨i-s,by rw[fS,show s+(i-s)=i by omega];exact q⟩;refine ag (a' C) (ag (JB O (L _ P) D) (ag (dS O _) ?_));rw[bf O];refine I _ ⟨i+1,Z,O,O,?_⟩ Z;dsimp only;rw[c,cV,mn _ _ O,p,kp,j7 q,sI,show i+1-s=(i-s)+1 by omega,dV,fS,show s+(i-s)=i by omega,q];simp
 have:i=nest.length:=O
 subst this;rw[c,fG (l:=nest.drop s) (by rw[eX];omega),od,jU];exact w _
theorem Gc(c:5500000<=n){l:List az}(k:l.length<=2)(d: ∀x∈l,cN x=true)(e: ∀x,cN x=true->jb n x a v b=some (f x)):vz n l a v b=some (l.map f):=by unfold vz;exact aa.eq (nW (K:=λh=>some h) (λx i=>e x (d x i)) O c (aa.some rfl))
theorem Yl(d:5500000<=n)(c:j1 l)(e: ∀x,cN x=true->jb n x a v b=some (f x)):vX n l a v b=some (dW f l):=by unfold vX;rw[Gc d c.1.1 c.1.2 e,Gc d c.2.1 c.2.2 e];rfl
theorem K1(e:5500000<=n){a:b7}(h:fK a d=true)(i: ∀x,cN x=true->jb n x c v b=some (f x)):u4 n a c v b=some (pC f a):=by have:=mw h;unfold u4;rw[Gc e this.2.1 this.2.2 i];rfl
theorem L5{d a v:Int}{b:az}{f:az->az}(l: ∀n,5500000<=n-> ∀x,cN x=true->jb n x a v b=some (f x)): ∀(L n:Nat) (e:Expr),5500000+L<=n->dr L e d=true->qE (n+1) e a v b=some (pP f L e)
 |0,_,_,_,h=>by cases h
 |L+1,n,e,F,h=>by
  obtain⟨G,m,q⟩:=gM h;obtain⟨n,rfl⟩: ∃j,n=j+1:=⟨n-1,O⟩
  have r:e.bj.length<=2:=by have:=o4 e.kind;omega
  unfold qE;refine aa.eq (aa.aI (λz=>(⟨z.1,z.2⟩:az)=(if e.kind=2 then f e.index else⟨[],0⟩)) (λj c=>?_) λz o=>aa.aI (λy=>(⟨y.1,y.2⟩:b7)=(if e.kind=3 then pC f e.read else⟨[],[]⟩)) (λj c=>?_) λy p=>?_)
  ·exact aR (λi=>ag (l _ O _ (py m i).1) (c _ (by rw[aW i]))) λi=>c _ (by rw[aT i])
  ·exact aR (λk=>ag (K1 O (q' m k).1 (l _ O)) (c _ (by rw[aW k]))) λk=>c _ (by rw[aT k])
  obtain⟨s,w⟩:=z;obtain⟨A,B⟩:=y;dsimp only at o p⊢;refine nW (K:=λC=>some (⟨e.kind,e.num,(⟨s,w⟩:az),(⟨A,B⟩:b7),C⟩:Expr)) (λx D=>L5 l L n x O (q x D)) O O (aa.some ?_);rw[o,p];rfl
theorem Ym(w:6600000<=n){l:List Stmt}(e:l.length<=4)(c: ∀s∈l,ep s d=true)(h: ∀n,5500000<=n-> ∀x,cN x=true->jb n x a v b=some (f x)):Ae n l a v b=some (l.map (hZ f)):=by
 obtain⟨n,rfl⟩: ∃j,n=j+1:=⟨n-1,O⟩
 unfold Ae;refine aa.eq ?_;refine wh (β:=Stmt) (l:=l) (n:=n+1) (F:=λi k=>Option.bind (u4 (n+1) i.write a v b) λm=>Option.bind (qE (n+1) i.value a v b) λo=>k (⟨m,o⟩:Stmt)) (g:=hZ f) (s:=0) (pre:=[]) (K:=λp=>some p) (λx q k r=>?_) O a1 O O (aa.some a1);obtain⟨e,c,_⟩:=kd (c x q);exact ag (K1 O e (h _ O)) (ag (L5 h 5 n x.value O c) r)
theorem DQ(c:6600000<=n){s:Nat}(r:s+1<=x.nest.length)(w:x.nest.length<=4)(e: ∀l∈x.nest,j1 l)(h:x.body.length<=4)(i: ∀s∈x.body,ep s d=true){way:Int}(a: ∀n,5500000<=n-> ∀x,cN x=true->jb n x way v b=some (f x)):
  sk n x (s:Int) way v b=some ⟨x.nest.take (s+1)++(x.nest.drop (s+1)).map (dW f),x.body.map (hZ f)⟩:=by unfold sk;rw[bf O];refine aa.eq (ag (gQ O O O) ?_);rw[show((s:Int)+1).toNat=s+1 by omega,show(0:Int).toNat=0 from rfl,mq];refine ag (x:=x.nest.take (s+1)) (cW bX) (ag (Ym c h i a) ?_);exact wh (F:=λm k=>Option.bind (vX n m way v b) k) (g:=dW f) (s:=s+1) (pre:=x.nest.take (s+1)) (K:=λo=>some (⟨o,x.body.map (hZ f)⟩:Part)) (λl p k q=>ag (Yl O (e l p) (a _ O)) q) O bX O O (aa.some rfl)
theorem Mj(n:Nat){a:az}(h:eR 1100000 a):xS n a=some a:=by unfold xS;rw[mL _ h];rfl
theorem Ew(a:5500000<=n){l:List az}(h:jV 1100000 l):ue n l=some l:=by unfold ue;exact aa.eq (qz (K:=λb=>some b) (λx c=>Mj n (h.2 x c)) h.1 a (aa.some rfl))
theorem Mk(b:5500000<=n){a:b7}(h:jV 1100000 a.bD):xT n a=some a:=by unfold xT;rw[Ew b h];rfl
theorem Li: ∀(L n:Nat) (e:Expr),5500000+L<=n->kr 1100000 L e->pa (n+1) e=some e
 |0,_,_,_,h=>h.elim
 |L+1,n,e,l,h=>by
  obtain⟨a,b,c,d⟩:=h;obtain⟨n,rfl⟩: ∃j,n=j+1:=⟨n-1,O⟩
  unfold pa Jg;rw[Mj _ b,Mk O c];refine aa.eq (ag rfl (ag rfl (ag (x:=e.bj) ?_ (aa.some (by cases e;rfl)))));exact aa.eq (qz (f:=pa (n+1)) (K:=λi=>some i) (λx k=>Li L n x O (d x k)) a O (aa.some rfl))
theorem Xp(a:6600000<=n){s:Stmt}(h:mu 1100000 s):Cz n s=some s:=by
 obtain⟨n,rfl⟩: ∃j,n=j+1:=⟨n-1,O⟩
 unfold Cz;rw[Mk O h.1,Li 5 n s.value O h.2];rfl
theorem Xq(d:6600000<=n)(h:hB 1100000 x):CA n x=some x:=by
 obtain⟨⟨e,c⟩,i,k⟩:=h;have m:B4 n x.nest=some x.nest:=by
  unfold B4;refine aa.eq (qz (K:=λb=>some b) (λl a=>?_) e O (aa.some rfl));unfold JR;rw[Ew O (c l a).1,Ew O (c l a).2];rfl
 have o:BW n x.body=some x.body:=by
  unfold BW;exact aa.eq (qz (K:=λb=>some b) (λl a=>Xp d (k l a)) i O (aa.some rfl))
 unfold CA;rw[m,o];rfl
theorem kA(c:6600000<=n)(h:dK 1100000 p):j3 n p=some p:=by
 obtain⟨⟨d,e⟩,i,k⟩:=h;have m:B0 n p.aY=some p.aY:=by
  unfold B0;refine aa.eq (qz (K:=λa=>some a) (λl b=>?_) d O (aa.some rfl));unfold JA;rw[mL _ (e l b)];rfl
 have o:BX n p.parts=some p.parts:=by
  unfold BX;exact aa.eq (qz (K:=λa=>some a) (λl b=>Xq c (k l b)) i O (aa.some rfl))
 unfold j3;rw[m,o];rfl
def cO(p:Prog)(b a:Int):Bool:=bU p&&match av p.parts b with
 |some x=>decide (0<=a/\a<(x.nest.length:Int))
 |none=>false
theorem wW{a:Type}{l:List a}{i:Int}(h: ¬(0<=i/\i<(l.length:Int))):av l i=none:=by
 cases b:av l i with
 |none=>rfl
 |some x=>
  obtain⟨c,d⟩:=l9 b
  have:=(bM.1 d).1;exact bt ⟨c,O⟩ h
theorem ac0{a:Type}{l:List a}{i:Int}{x:a}(h:av l i=some x): ∃k:Nat,i=k/\k<l.length/\l[k]? =some x:=by obtain⟨c,b⟩:=l9 h;exact⟨i.toNat,O,(bM.1 b).1,b⟩
theorem qs(n:Nat)(h:p.parts.length<=1100000)(a:Int):kx n p a=some (decide (0<=a/\a<(p.parts.length:Int))):=by unfold kx;rw[iC,bf O];exact congrArg some (decide_eq_decide.2 O)
theorem wm(q:7700000<=n)(k:dK 1100000 p)(a b:Int)(r:b≠ -1):jH n p a b=some (if cO p a b=true then(p,true) else(⟨[],[]⟩,false)):=by
 unfold jH;refine aa.eq (aa.aI (λz=>z= !cO p a b) (λj i=>?_) λz l=>?_)
 ·refine ag (rK q k.sm) (aa.cond (λh=>?_) λh=>?_)
  ·refine i _ ?_;unfold cO;rw[show bU p=false by simpa using h];rfl
  have m:bU p=true:=by simpa using h
  refine ag (qs n k.2.1 a) ?_;by_cases d:0<=a/\a<(p.parts.length:Int)
  ·obtain⟨x,e,o⟩:=oC d.1 d.2;rw[bp d];refine bS (dZ (λ_=>ag (x:=cO p a b) ?_ (i _ rfl)) λh=>bt h r);unfold Jk;refine aa.eq (aa.aI (λz=>z=cO p a b) (λj i=>?_) λz l=>aa.some l);rw[qs n k.2.1 a,bp d];refine ag rfl (bY (ag e ?_))
   have:=(k.2.2 x (bC o)).1.1;rw[bf O,iC];refine ag rfl (i _ ?_);unfold cO;rw[m,e];exact decide_eq_decide.2 O
  rw[bs d];refine bY (i _ ?_);unfold cO;rw[wW d,iS];rfl
 subst l;by_cases c:cO p a b=true
 ·rw[c];have m:bU p=true:=by unfold cO at c;rw[oc] at c;exact c.1
  obtain⟨x,e⟩: ∃x,av p.parts a=some x:=by
   cases e:av p.parts a with
   |some x=>exact⟨x,rfl⟩
   |none=>unfold cO at c;rw[e,iS] at c;cases c
  exact bS (ag (q9 O m) (ag e (aa.some rfl)))
 rw[show cO p a b=false by simpa using c];exact bY (aa.some rfl)
def hr(q:Prog):Prog×Bool:=if bU q=true then(q,true) else(⟨[],[]⟩,false)
theorem qk(b:7700000<=n)(c:dK 1100000 p):k9 n p=some (hr p):=by
 unfold k9 hr;refine aa.eq (ag (rK b c.sm) (aa.cond (λh=>aa.some ?_) λh=>?_))
 ·rw[aT (by simpa using h)]
 have a:bU p=true:=by simpa using h
 rw[aW a];exact ag (q9 O a) (aa.some rfl)
theorem mf(k:7700000<=n)(l:dK 1100000 p)(a b:Int):mZ n p a b=some (cO p a b):=by
 unfold mZ;refine aa.eq (aa.aI (λz=>z=cO p a b) (λj c=>?_) λz m=>aa.some m);refine ag (jw k l.sm) (aa.cond (λd=>?_) λd=>c _ (by unfold cO;rw[d];rfl));refine aR (λh=>aR (λi=>?_) λi=>?_) λh=>?_
 ·obtain⟨x,e,o⟩:=oC h i;refine aR (λq=>ag e (c _ ?_)) λq=>c _ ?_
  ·unfold cO;rw[d,e];exact decide_eq_decide.2 O
  unfold cO;rw[d,e];exact(bs O).symm
 ·exact c _ (by unfold cO;rw[wW O,iS])
 exact c _ (by unfold cO;rw[wW O,iS])
theorem wq(d:7700000<=n)(a:dK 1100000 p)(e:i<p.parts.length){y:Part}(k:hB 1100000 y):ja n p (i:Int) 1 [y]=some (hr ⟨p.aY,p.parts.set i y⟩):=by
 have b:=a.2.1;have c:dK 1100000 ⟨p.aY,p.parts.set i y⟩:=⟨a.1,by dsimp only;rw[fE];exact b,wD a.2.2 k⟩
 unfold ja hr;refine aa.eq (ag (oV O a) (ag (gQ O O O) ?_));rw[cV,show(0:Int).toNat=0 from rfl,mq];refine ag (x:=p.parts.take i) (cW bX) (ag (x:=p.parts.take i++[y]) (cW bX) ?_);rw[bf O];refine ag (gQ O O O) ?_;rw[cV,cT,show((i:Int)+1).toNat=i+1 by omega];refine ag (x:=p.parts.set i y) ?_ (ag (jw d c.sm) (aa.cond (λh=>aa.some ?_) λh=>?_))
 ·rw[cW bX,List.set_eq_take_append_cons_drop,aW e,fs];rfl
 ·rw[aT (by simpa using h)]
 rw[aW (by simpa using h)];exact ag (oV O c) (aa.some rfl)
def eL(a:az)(k:Int)(b:az):az:=⟨List.zipWith (λx y=>x+k*y) a.aU b.aU,a.const+k*b.const⟩
def gD(k:Nat):az:=⟨[0,0,0,0].set k 1,0⟩
def gP(k:Nat)(b x:az):az:=eL x (-(x.aU.getD k 0)) b
def eZ(m:Int)(a:az):Prop:=a.aU.length=4/\cB m a.const/\ ∀c∈a.aU,cB m c
theorem eZ.mono{m b:Int}{a:az}(h:eZ m a)(e:m<=b):eZ b a:=⟨h.1,⟨by have:=h.2.1.1;omega,by have:=h.2.1.2;omega⟩,λc d=>⟨by have:=(h.2.2 c d).1;omega,by have:=(h.2.2 c d).2;omega⟩⟩
theorem lR{l:List Int}(h:l.length=4): ∃a b c d,l=[a,b,c,d]:=by
 match l,h with
 | [a,b,c,d],_=>exact⟨a,b,c,d,rfl⟩
theorem nd{a:az}(h:cN a=true):eZ 99 a:=by obtain⟨e,i,b⟩:=fx h;exact⟨e,i,λc d=>⟨by have:=(b c d).1;omega,by have:=(b c d).2;omega⟩⟩
theorem sU(a:k<4):eZ 6 (gD k):=by rcases(O:k=0\/k=1\/k=2\/k=3) with rfl|rfl|rfl|rfl<;>(unfold eZ cB gD;simp)
theorem jZ{k b:Int}(a:cB 1000 k)(c:cB 1000 b):cB 1000000 (k*b):=Bc O O a c
theorem yH{x:Int}(b:cB 1000 a)(c:cB 1000000 x):wr (a+wr x)=a+x:=by unfold cB at b c;rw[bf (n:=x) O,bf O]
theorem ac5(m:Nat)(a b c d ac k e h i l n:Int):rv (m+6) ⟨[a,b,c,d],ac⟩ k ⟨[e,h,i,l],n⟩=
  some ⟨[wr (a+wr (k*e)),wr (b+wr (k*h)),wr (c+wr (k*i)),wr (d+wr (k*l))],wr (ac+wr (k*n))⟩:=J
theorem z6(y:5500000<=n){a:az}(p:eZ 1000 a)(q:eZ 1000 b){k:Int}(c:cB 1000 k):rv n a k b=some (eL a k b):=by
 obtain⟨m,rfl⟩: ∃m,n=m+6:=⟨n-6,O⟩
 obtain⟨ac,a⟩:=a;obtain⟨z,b⟩:=b;obtain⟨h,i,d⟩:=p;obtain⟨l,o,e⟩:=q;dsimp only at h i d l o e;obtain⟨a0,aH,a2,a3,rfl⟩:=lR h;obtain⟨r,s,w,x,rfl⟩:=lR l;rw[ac5,yH (d a0 a1) (jZ c (e r a1)),yH (d aH a1) (jZ c (e s a1)),yH (d a2 a1) (jZ c (e w a1)),yH (d a3 a1) (jZ c (e x a1)),yH i (jZ c o)];rfl
def nC(a:az)(x:Int)(b:az)(y:Int):az:=⟨List.zipWith (λp q=>x*p+y*q) a.aU b.aU,x*a.const+y*b.const⟩
theorem acQ(m:Nat)(a b c d ac x e h i k l y:Int):jz (m+6) ⟨[a,b,c,d],ac⟩ x ⟨[e,h,i,k],l⟩ y=
  some ⟨[wr (wr (x*a)+wr (y*e)),wr (wr (x*b)+wr (y*h)),wr (wr (x*c)+wr (y*i)),wr (wr (x*d)+wr (y*k))],wr (wr (x*ac)+wr (y*l))⟩:=J
theorem yI{x:Int}(b:cB 1000000 a)(c:cB 1000000 x):wr (wr a+wr x)=a+x:=by unfold cB at b c;rw[bf (n:=x) O,bf (n:=a) O,bf O]
theorem sA(A:5500000<=n){a:az}(p:eZ 1000 a)(q:eZ 1000 b){x:Int}(c:cB 1000 x)(d:cB 1000 y):jz n a x b y=some (nC a x b y):=by
 obtain⟨m,rfl⟩: ∃m,n=m+6:=⟨n-6,O⟩
 obtain⟨ac,a⟩:=a;obtain⟨B,b⟩:=b;obtain⟨i,k,e⟩:=p;obtain⟨l,o,h⟩:=q;dsimp only at i k e l o h;obtain⟨a0,aH,a2,a3,rfl⟩:=lR i;obtain⟨r,s,w,z,rfl⟩:=lR l;rw[acQ,yI (jZ c (e a0 a1)) (jZ d (h r a1)),yI (jZ c (e aH a1)) (jZ d (h s a1)),yI (jZ c (e a2 a1)) (jZ d (h w a1)),yI (jZ c (e a3 a1)) (jZ d (h z a1)),yI (jZ c k) (jZ d o)];rfl
theorem Gg(a b:az)(k:Int):nC a 1 b k=eL a k b:=by unfold nC eL;simp only[Int.one_mul]
theorem O5(a b:az)(k:Int)(c:a.aU.length=4)(d:b.aU.length=4):(eL a k b).aU.length=4:=by unfold eL;rw[vp];omega
def tV(a:az)(k:Nat)(b:az):az:=eL ⟨a.aU.set k 0,a.const⟩ (a.aU.getD k 0) b
theorem NH{a:az}(h:eZ 1000 a)(k:Nat):eZ 1000 ⟨a.aU.set k 0,a.const⟩:=⟨by dsimp only;rw[fE];exact h.1,h.2.1,wD h.2.2 ⟨O,O⟩⟩
theorem NZ{a:az}(h:eZ 1000 a)(c:k<4):a.aU[k]? =some (a.aU.getD k 0)/\cB 1000 (a.aU.getD k 0):=by
 have b:k<a.aU.length:=by rw[h.1];exact c
 have e:=bg b;have d:a.aU.getD k 0=a.aU[k]:=by rw[ek,e];rfl
 rw[d];exact⟨e,h.2.2 _ (ft b)⟩
theorem Ez(e:5500000<=n){a:az}(c:eZ 1000 a)(h:eZ 1000 b)(d:k<4):ta n a (k:Int) b=some (tV a k b):=by
 obtain⟨i,l⟩:=NZ c d;have m:k<a.aU.length:=by rw[c.1];exact d
 unfold ta;rw[Mg n (by have:=c.1;omega)];refine aa.eq (ag rfl (ag (a' i) (ag (dS O _) (ag (z6 e (NH c k) h l) (aa.some rfl)))))
theorem Lq(h:5500000<=n){a:az}(c:eZ 1000 a)(i:eZ 1000 b)(d:k<4):za n a (k:Int) b=some (tV a k b):=by
 obtain⟨e,l⟩:=NZ c d;have m:k<a.aU.length:=by rw[c.1];exact d
 unfold za;rw[mL _ (by have:=c.1;omega)];refine aa.eq (ag rfl (ag (a' e) (ag (dS O _) (ag (a' e) (ag (sA h (NH c k) i ⟨O,O⟩ l) (aa.some ?_))))));rw[Gg];rfl
theorem z1(n:Nat)(a:k<4):mO n (k:Int) 1=some (gD k):=by rcases(O:k=0\/k=1\/k=2\/k=3) with rfl|rfl|rfl|rfl<;>rfl
theorem Ac(n:Nat)(a:k<4):s8 n (k:Int)=some (gD k):=by rcases(O:k=0\/k=1\/k=2\/k=3) with rfl|rfl|rfl|rfl<;>rfl
def nc(k:Nat)(b:az):az:=eL (gD k) (-1) b
theorem GC{a:az}(d:a.aU.length=4)(e:b.aU.length=4)(h:k<4)(c:b.aU.getD k 0=0):tV a k (nc k b)=gP k b a:=by
 obtain⟨a,ac⟩:=a;obtain⟨b,i⟩:=b;dsimp only at d e c;obtain⟨a0,aH,a2,a3,rfl⟩:=lR d;obtain⟨l,m,n,o,rfl⟩:=lR e;rcases(O:k=0\/k=1\/k=2\/k=3) with rfl|rfl|rfl|rfl<;>
  (simp only[List.getD_cons_zero,List.getD_cons_succ] at c;subst c;simp[tV,nc,gP,eL,gD,Int.mul_neg,Int.neg_mul])
def d':Prog×Bool:=(⟨[],[]⟩,false)
def tp(p:Prog)(a b:Int)(g f:az->az):Prog×Bool:=
 match av p.parts a with
 |some P=>match av P.nest b with
  |some l=>hr ⟨p.aY,p.parts.set a.toNat (pO b.toNat g f P l)⟩
  |none=>d'
 |none=>d'
theorem jK{b:Int}(h:cO p a b=true):bU p=true/\ ∃(i k:Nat) (P:Part) (l:Loop),a=i/\b=k/\p.parts[i]? =some P/\P.nest[k]? =some l/\i<p.parts.length/\k<P.nest.length/\eh p.aY P=true/\k<4:=by
 unfold cO at h;rw[oc] at h;obtain⟨m,h⟩:=h;refine⟨m,?_⟩;cases d:av p.parts a with
 |none=>rw[d] at h;cases h
 |some P=>
  rw[d] at h;obtain⟨i,rfl,o,n⟩:=ac0 d;obtain⟨q,r⟩:=eQ h;obtain⟨l,s,e⟩:=oC q r;have c:=(eg m).2.2.2.1 P (bC n)
  have:=(f5 c).1;exact⟨i,b.toNat,P,l,rfl,O,n,e,o,O,c,O⟩
theorem AB(b:eh r P=true)(d:P.nest[k]? =some l){g:az->az}(i: ∀x,cN x=true->eR 4 (g x))(e: ∀x,cN x=true->eR 4 (f x)):hB 4 (pO k g f P l):=by
 obtain⟨p,h⟩:=f5 b;obtain⟨_,m,n,_⟩:=fX b;have q:=(bM.1 d).1;refine⟨⟨by simp only[pO,List.length_append,List.length_cons,List.length_map,List.length_take,List.length_drop];omega,λy a=>?_⟩,by simp only[pO,List.length_map];exact m.2,λs o=>?_⟩
 ·rcases ef.1 a with a|a
  ·exact((tl b).1.2 y (fU a))
  rcases dI.1 a with rfl|a
  ·exact wG i (h l (bC d))
  obtain⟨z,c,rfl⟩:=et.1 a;exact wG e (h z (eV c))
 obtain⟨z,c,rfl⟩:=et.1 o;exact AV e (n z c)
theorem wV(a:dK 1100000 p)(i:Nat){y:Part}(b:hB 4 y):dK 1100000 ⟨p.aY,p.parts.set i y⟩:=⟨a.1,by dsimp only;rw[fE];exact a.2.1,wD a.2.2 (b.mono O)⟩
theorem wH{k:Int}(a:b.aU.length=4): ∀x,cN x=true->eR 4 (eL x k b):=λx c=>by have:=O5 x b k (fx c).1 a;unfold eR;omega
theorem A'(a:b.aU.length=4): ∀x,cN x=true->eR 4 (gP k b x):=λx c=>wH a x c
theorem Gz(s:k<4)(h:eZ 6 b):eZ 1000 (nc k b):=by
 obtain⟨b,w⟩:=b;obtain⟨d,e,a⟩:=h;dsimp only at d e a;obtain⟨i,l,m,n,rfl⟩:=lR d;have o:=a i a1;have p:=a l a1;have q:=a m a1;have r:=a n a1;unfold cB at e o p q r;rcases(O:k=0\/k=1\/k=2\/k=3) with rfl|rfl|rfl|rfl<;>
  (refine⟨rfl,?_,λc x=>?_⟩<;>unfold cB<;>simp[nc,gD,eL] at* <;>omega)
theorem abO(a:k<4)(c:eZ 6 b)(e:b.aU.getD k 0=0): ∀n,5500000<=n-> ∀x,cN x=true->jb n x 1 (k:Int) (nc k b)=some (gP k b x):=λn h x d=>by unfold jb;rw[Lq h ((nd d).mono O) (Gz a c) a,GC (nd d).1 c.1 a e];rfl
theorem take_set{a:Type}{l r:List a}{x y:a}(h:l[k]? =some x):(l.take (k+1)++r).set k y=l.take k++y::r:=by have b:=(bM.1 h).1;rw[dV,h,fs,mn _ _ bX,cq,pe O,kp];rfl
theorem Oi(C:6600000<=n)(z:eh r P=true)(m:P.nest[k]? =some l)(o:k<4)(p:eZ 6 b)(D:b.aU.getD k 0=0):
  vW n P (k:Int) b=some (pO k (λx=>eL x 1 b) (gP k b) P l):=by
 obtain⟨F,A⟩:=f5 z;obtain⟨_,G,H,_⟩:=fX z;have L:=(bM.1 m).1;have c:=A l (bC m);have B: ∀x,cN x=true->jz n x 1 b 1=some (eL x 1 b):=λx e=>by
  rw[sA O ((nd e).mono O) (p.mono O) ⟨O,O⟩ ⟨O,O⟩,Gg]
 unfold vW;simp only[a' m,Option.bind_some];refine aa.eq (ag (Ac n o) (ag (sA O ((sU o).mono O) (p.mono O) ⟨O,O⟩ ⟨O,O⟩) ?_));rw[Gg];refine ag (DQ C O F A G.2 H (abO o p D)) ?_;refine nW (n:=n) (l:=l.lo) (f:=λx=>jz n x 1 b 1) (K:=λQ=>bc (λa ((d,h):(List az)×Int)=>
    bif decide (h<(l.aD.length:Int)) then(
     Option.bind (av l.aD h) λq=>
     Option.bind (jz n q 1 b 1) λs=>
     Option.bind (app d [s]) λw=>
     a (w,wr (h+1))
    ) else(
     Option.bind (av (P.nest.take (k+1)++(P.nest.drop (k+1)).map (dW (gP k b))) (k:Int)) λy=>
     Option.bind (ca (P.nest.take (k+1)++(P.nest.drop (k+1)).map (dW (gP k b))) (k:Int) (⟨Q,d⟩:Loop)) λi=>
     some (⟨i,P.body.map (hZ (gP k b))⟩:Part)
    )
   ) n ([],0)) (λx e=>B x (c.1.2 x e)) (by have:=c.1.1;omega) O ?_
 refine nW (n:=n) (l:=l.aD) (f:=λx=>jz n x 1 b 1) (g:=λx=>eL x 1 b) (K:=λd=>Option.bind (av (P.nest.take (k+1)++(P.nest.drop (k+1)).map (dW (gP k b))) (k:Int)) λy=>Option.bind (ca (P.nest.take (k+1)++(P.nest.drop (k+1)).map (dW (gP k b))) (k:Int) (⟨l.lo.map λx=>eL x 1 b,d⟩:Loop)) λi=>some (⟨i,P.body.map (hZ (gP k b))⟩:Part)) (λx e=>B x (c.2.2 x e)) (by have:=c.2.1;omega) O ?_;have e:(P.nest.take (k+1)++(P.nest.drop (k+1)).map (dW (gP k b)))[k]? =some l:=by
  rw[iu bX,fL,aW O];exact m
 refine ag (a' e) (ag (dS bX _) (aa.some ?_));rw[cV,take_set m];rfl
def gj(s:Int):az:=⟨[0,0,0,0],s⟩
theorem A6(h: -6<=s/\s<=6):eZ 6 (gj s):=by unfold gj eZ cB;simp;omega
theorem PA(s:Int)(a:k<4):(gj s).aU.getD k 0=0:=by rcases(O:k=0\/k=1\/k=2\/k=3) with rfl|rfl|rfl|rfl<;>rfl
def tk(p:Prog)(c a b:Int):Prog×Bool:=
 if cO p c a=true/\(-6<=b/\b<=6) then tp p c a (λx=>eL x 1 (gj b)) (gP a.toNat (gj b)) else d'
theorem L7(n:Nat)(s:Int):wj n s=some (decide (-6<=s/\s<=6)):=by unfold wj;rw[iC];rfl
theorem qv{b:Int}(h:a<0):cO p b a=false:=by
 cases c:cO p b a with
 |false=>rfl
 |true=>obtain⟨_,i,k,P,l,_,d,_⟩:=jK c;omega
theorem zj(a:p.parts[i]? =some P)(b:P.nest[k]? =some l)(g f:az->az):tp p (i:Int) (k:Int) g f=hr ⟨p.aY,p.parts.set i (pO k g f P l)⟩:=by unfold tp;rw[a' a];dsimp only;rw[a' b];rfl
theorem Wy(q:7700000<=n)(m:dK 1100000 p)(a b c:Int):C' n p a b c=some (tk p a b c):=by
 unfold C' tk;refine aa.eq (ag (kA O m) (aa.aI (λz=>z= !(cO p a b&&decide (-6<=c/\c<=6))) (λj r=>?_) λz x=>?_))
 ·refine ag (mf q m a b) (aa.cond (λh=>r _ ?_) λh=>ag (yh n c 6 O) (r _ ?_))
  ·rw[show cO p a b=false by simpa using h];rfl
  rw[show cO p a b=true by simpa using h];rfl
 subst x;by_cases d:cO p a b=true/\(-6<=c/\c<=6)
 ·rw[aW d,d.1,bp d.2];refine bS ?_;obtain⟨D,i,k,P,l,rfl,rfl,s,o,y,A,e,w⟩:=jK d.1;refine ag (a' s) (ag (mW n c) (ag (Oi O e o w (A6 d.2) (PA _ w)) (ag (wq q m y ((AB e o (wH (A6 d.2).1) (A' (A6 d.2).1)).mono O)) (aa.some ?_))));rw[zj s o];rfl
 rw[aT d,show(cO p a b&&decide (-6<=c/\c<=6))=false by
  cases B:cO p a b with
  |false=>rfl
  |true=>exact bs λC=>d ⟨B,C⟩]
 exact bY (aa.some rfl)
theorem YL(c:5500000<=n)(h: -6<=s/\s<=6): ∀x,cN x=true->xZ n x s=some (eL x 1 (gj s)):=λx a=>by unfold xZ;have d:oZ n 1=some ⟨[0,0,0,0],1⟩:=rfl;rw[d];refine aa.eq (ag rfl (ag (z6 c ((nd a).mono O) (b:=⟨[0,0,0,0],1⟩) (by unfold eZ cB;simp) ⟨O,O⟩) (aa.some ?_)));unfold eL gj;obtain⟨a0,aH,a2,a3,e⟩:=lR (fx a).1;rw[e];simp
theorem YK(c:5500000<=n)(a:k<4)(d: -6<=s/\s<=6): ∀x,cN x=true->uO n x (k:Int) (⟨(gD k).aU,wr (0-s)⟩:az)=some (gP k (gj s) x):=λx b=>by
 have e:(⟨(gD k).aU,wr (0-s)⟩:az)=nc k (gj s):=by
  rw[bf O];rcases(O:k=0\/k=1\/k=2\/k=3) with rfl|rfl|rfl|rfl<;>(unfold gD nc gj eL gD;simp)
 unfold uO;rw[e,Ez c ((nd b).mono O) (Gz a (A6 d)) a,GC (nd b).1 rfl a (PA _ a)];rfl
theorem zy(e:7700000<=n)(d:dK 1100000 p)(a:Int):aa (jH n p a (-1)) (λr=>r.2=false->r=d'):=by
 unfold jH;refine aa.aI (λz=>z=false->bU p=true/\(0<=a/\a<(p.parts.length:Int))) (λj b=>?_) λz i=>?_
 ·refine ag (rK e d.sm) (aa.cond (λh=>b _ λh=>by cases h) λh=>?_);refine ag (qs n d.2.1 a) (aa.cond (λh=>b _ λh=>by cases h) λc=>dZ (λh=>(h rfl).elim) λ_=>b _ λ_=>⟨by simpa using h,by simpa using c⟩)
 refine aa.cond (λ_=>aa.some λ_=>rfl) λh=>?_;obtain⟨k,l,c⟩:=i h;obtain⟨x,m,o⟩:=oC l c;exact ag (q9 O k) (ag m (aa.some λh=>by cases h))
theorem W'(r:7700000<=n)(w:dK 1100000 p)(b c a:Int):Dn n p b c a=some (tk p b c a):=by
 unfold Dn tk;by_cases d:c= -1
 ·subst d;rw[aT λh=>by rw[qv O] at h;cases h.1];refine aa.eq (gA (zy r w b) λg L=>aa.cond (λ_=>aa.aI (λz=>z=true) (λj A=>aR (λ_=>A _ rfl) λh=>bt (show(-1:Int)<0 by omega) h) λz B=>by rw[B];exact bY (aa.some rfl)) λ_=>aa.some rfl)
 refine aa.eq (ag (wm r w b c d) ?_);by_cases e:cO p b c=true
 ·rw[aW e];refine bY (aa.aI (λz=>z= !decide (-6<=a/\a<=6)) (λj A=>?_) λz B=>?_)
  ·refine aR (λh=>?_) λ_=>ag (L7 n a) (A _ rfl);rw[qv h] at e;cases e
  subst B;by_cases o: -6<=a/\a<=6
  ·rw[aW ⟨e,o⟩,bp o];refine bS ?_;obtain⟨t,i,k,P,l,rfl,rfl,D,q,u,Q,m,G⟩:=jK e;obtain⟨L,H⟩:=f5 m;obtain⟨_,R,W,_⟩:=fX m;refine ag (a' D) (ag (a' q) (ag (JB O (H l (bC q)) (YL O o)) (ag (dS O _) (ag (dS Z _) (ag (z1 n G) ?_)))));rw[bf (n:=(k:Int)+1) O];have C:=m7 (n:=n) O (nest:=P.nest.set k (dW (λx=>eL x 1 (gj a)) l)) (body:=P.body) (s:=k+1) bX bX (λy K=>by
    rw[pj O] at K;exact H y (eV K)) R.2 W (F:=λX=>uO n X (k:Int) (⟨(gD k).aU,wr (0-a)⟩:az)) (YK O G o)
   rw[cV,cV];refine ag C (ag (dS bX _) ?_);rw[cV,List.set_set];have f:(⟨(P.nest.set k (dW (λx=>eL x 1 (gj a)) l)).take (k+1)++((P.nest.set k (dW (λx=>eL x 1 (gj a)) l)).drop (k+1)).map (dW (gP k (gj a))),P.body.map (hZ (gP k (gj a)))⟩:Part)=pO k (λx=>eL x 1 (gj a)) (gP k (gj a)) P l:=by
    rw[pj O,dV,ir O,List.take_set_of_le (cD k),fs];rfl
   rw[f];refine ag (qk r (wV w i (AB m q (wH rfl) (A' rfl)))) (aa.some ?_);rw[zj D q]
  rw[aT λh=>o h.2,bs o];exact bY (aa.some rfl)
 rw[aT e,aT λh=>e h.1];exact bS (aa.some rfl)
theorem aak{a:Type}{l:List a}{x:a}(h:l[i]? =some x):l.set i x=l:=by
 refine List.ext_getElem? λj=>?_;by_cases b:i=j
 ·subst b;rw[ir (bM.1 h).1,h]
 rw[jT b]
theorem acV:dK 1100000 d'.1:=⟨⟨by simp[d'],λx a=>by cases a⟩,by simp[d'],λx a=>by cases a⟩
def fe(k:Nat)(s:Int):az:=⟨[0,0,0,0].set k s,0⟩
theorem rl(k:Nat)(h: -6<=s/\s<=6):eZ 6 (fe k s):=by refine⟨by simp[fe],⟨by simp[fe],by simp[fe]⟩,wD (λc a=>?_) ⟨h.1,h.2⟩⟩;simp at a;subst a;exact⟨O,O⟩
theorem Pz(s:Int)(a:k+1<4):(fe k s).aU.getD (k+1) 0=0:=by rcases(O:k=0\/k=1\/k=2) with rfl|rfl|rfl<;>rfl
def tx(p:Prog)(b a s:Int):Prog×Bool:=
 if cO p b a=true/\cO p b (a+1)=true/\(-6<=s/\s<=6) then tp p b (a+1) (λx=>eL x 1 (fe a.toNat s)) (gP (a.toNat+1) (fe a.toNat s)) else d'
theorem acM(a:k<4)(s:Int):nC (gD k) s ⟨[0,0,0,0],0⟩ 0=fe k s:=by rcases(O:k=0\/k=1\/k=2\/k=3) with rfl|rfl|rfl|rfl<;>simp[nC,gD,fe]
theorem acP(c:k<4)(s:Int){a:az}(b:a.aU.length=4):eL a s (gD k)=eL a 1 (fe k s):=by obtain⟨a0,aH,a2,a3,e⟩:=lR b;rcases(O:k=0\/k=1\/k=2\/k=3) with rfl|rfl|rfl|rfl<;>simp[eL,gD,fe,e]
theorem adJ(a:k+1<4)(s:Int):eL (gD (k+1)) (-s) (gD k)=nc (k+1) (fe k s):=by rcases(O:k=0\/k=1\/k=2) with rfl|rfl|rfl<;>simp[nc,eL,gD,fe]
theorem YS(q:7700000<=n)(m:dK 1100000 p)(a b s:Int):DH n p a b s=some (tx p a b s):=by
 unfold DH tx;refine aa.eq (ag (kA O m) (aa.aI (λz=>z= !(cO p a b&&(cO p a (b+1)&&decide (-6<=s/\s<=6)))) (λj r=>?_) λz C=>?_))
 ·refine ag (mf q m a b) (aa.cond (λh=>r _ ?_) λh=>?_)
  ·rw[show cO p a b=false by simpa using h];rfl
  have e:cO p a b=true:=by simpa using h
  obtain⟨D,i,k,P,l,rfl,rfl,w,o,B,y,d,A⟩:=jK e;rw[bf O];refine ag (mf q m _ _) (aa.cond (λh=>r _ ?_) λh=>ag (yh n s 6 O) (r _ ?_))
  ·rw[e,show cO p (i:Int) ((k:Int)+1)=false by simpa using h];rfl
  rw[e,show cO p (i:Int) ((k:Int)+1)=true by simpa using h];rfl
 subst C;by_cases c:cO p a b=true/\cO p a (b+1)=true/\(-6<=s/\s<=6)
 ·rw[aW c,c.1,c.2.1,bp c.2.2];refine bS ?_;obtain⟨D,i,ez,P,l,rfl,F,w,o,B,y,d,A⟩:=jK c.2.1;obtain⟨_,L,k,Q,R,G,rfl,_⟩:=jK c.1;obtain rfl:ez=k+1:=O
  refine ag (Ac n O) (ag (x:=⟨[0,0,0,0],0⟩) rfl (ag (sA O ((sU O).mono O) (by unfold eZ cB;simp) ⟨O,O⟩ ⟨O,O⟩) ?_));rw[acM O,bf O];refine ag (a' w) (ag (Oi O d o A (rl k c.2.2) (Pz s A)) (ag (wq q m B ((AB d o (wH (rl k c.2.2).1) (A' (rl k c.2.2).1)).mono O)) (aa.some ?_)));show hr _=_;rw[show((k:Int)+1)=((k+1:Nat):Int) by omega,zj w o];rfl
 rw[aT c,show(cO p a b&&(cO p a (b+1)&&decide (-6<=s/\s<=6)))=false by
  cases e:cO p a b with
  |false=>rfl
  |true=>cases H:cO p a (b+1) with
   |false=>rfl
   |true=>exact bs λK=>c ⟨e,H,K⟩]
 exact bY (aa.some rfl)
theorem aaj(c:5500000<=n)(a:k<4)(d: -6<=s/\s<=6): ∀x,cN x=true->x9 n x s (k:Int)=some (eL x 1 (fe k s)):=λx b=>by unfold x9;rw[z1 n a];refine aa.eq (ag rfl (ag (z6 c ((nd b).mono O) ((sU a).mono O) ⟨O,O⟩) (aa.some (acP a s (fx b).1))))
theorem aai(d:5500000<=n)(a:k+1<4)(b: -6<=s/\s<=6): ∀x,cN x=true->uR n x (k:Int) (nc (k+1) (fe k s))=some (gP (k+1) (fe k s) x):=λx c=>by unfold uR;rw[bf O,show((k:Int)+1)=((k+1:Nat):Int) by omega,Ez d ((nd c).mono O) (Gz a (rl k b)) a,GC (nd c).1 (rl k b).1 a (Pz s a)];rfl
theorem YD(B:7700000<=n)(C:dK 1100000 p)(a b s:Int):DT n p a b s=some (tx p a b s):=by
 unfold DT tx;by_cases d:b= -1
 ·subst d;rw[aT λh=>by rw[qv O] at h;cases h.1];refine aa.eq (gA (zy B C a) λv Q=>aa.cond (λ_=>aa.aI (λz=>z=true) (λj r=>aR (λ_=>r _ rfl) λh=>bt (show(-1:Int)<0 by omega) h) λz D=>by rw[D];exact bY (aa.some rfl)) λ_=>aa.some rfl)
 refine aa.eq (ag (wm B C a b d) ?_);by_cases o:cO p a b=true
 ·rw[aW o];obtain⟨R,i,k,P,E,rfl,rfl,w,W,I,X,m,G⟩:=jK o;obtain⟨Q,K⟩:=f5 m;obtain⟨_,f,g,_⟩:=fX m;have q:cO p (i:Int) ((k:Int)+1)=decide (k+1<P.nest.length):=by
   unfold cO;rw[R,a' w];exact decide_eq_decide.2 O
  refine bY (aa.aI (λz=>z= !(decide (k+1<P.nest.length)&&decide (-6<=s/\s<=6))) (λj r=>?_) λz D=>?_)
  ·refine aR (λh=>bt h O) λ_=>ag (a' w) ?_;rw[bf O];refine aR (λh=>r _ ?_) λh=>ag (L7 n s) (r _ ?_)
   ·rw[bs (show¬k+1<P.nest.length by omega)];rfl
   rw[bp (O:k+1<P.nest.length)];rfl
  subst D;by_cases c:k+1<P.nest.length
  ·by_cases e: -6<=s/\s<=6
   ·rw[aW ⟨o,by rw[q,bp c],e⟩,bp e,bp c];refine bS ?_;obtain⟨l,A⟩: ∃l,P.nest[k+1]? =some l:=⟨_,bg c⟩
    rw[bf (n:=(k:Int)+1) O,bf (n:=(k:Int)+2) O,bf (n:=0-s) O,show((k:Int)+1)=((k+1:Nat):Int) by omega,show((k:Int)+2)=((k+1+1:Nat):Int) by omega,show 0-s= -s by omega];refine ag (a' w) (ag (a' A) (ag (JB O (K l (bC A)) (aaj O G e)) (ag (dS O _) (ag (dS Z _) (ag (z1 n O) (ag (z1 n G) (ag (z6 O ((sU O).mono O) ((sU G).mono O) ⟨O,O⟩) ?_)))))));rw[adJ O];have H:=m7 (n:=n) O (nest:=P.nest.set (k+1) (dW (λx=>eL x 1 (fe k s)) l)) (body:=P.body) (s:=k+1+1) bX bX (λy L=>by
     rw[pj O] at L;exact K y (eV L)) f.2 g (F:=λt=>uR n t (k:Int) (nc (k+1) (fe k s))) (aai O O e)
    rw[cV,cV];refine ag H (ag (dS bX _) ?_);rw[cV,List.set_set];have u:(⟨(P.nest.set (k+1) (dW (λx=>eL x 1 (fe k s)) l)).take (k+1+1)++((P.nest.set (k+1) (dW (λx=>eL x 1 (fe k s)) l)).drop (k+1+1)).map (dW (gP (k+1) (fe k s))),P.body.map (hZ (gP (k+1) (fe k s)))⟩:Part)=pO (k+1) (λx=>eL x 1 (fe k s)) (gP (k+1) (fe k s)) P l:=by
     rw[pj O,dV,ir O,List.take_set_of_le (cD _),fs];rfl
    rw[u];refine ag (qk B (wV C i (AB m A (wH (rl k e).1) (A' (rl k e).1)))) (aa.some ?_);rw[zj w A];rfl
   rw[aT λh=>e h.2.2,bs e,iS];exact bY (aa.some rfl)
  rw[aT (λh=>by rw[q,bs c] at h;cases h.2.1),bs c];exact bY (aa.some rfl)
 rw[aT o,aT λh=>o h.1];exact bS (aa.some rfl)
def low(k:Nat)(b:az):Prop:= ∀j,k<=j->b.aU.getD j 0=0
def ku(n:Int):Expr:=⟨1,n,⟨[],0⟩,⟨[],[]⟩,[]⟩
def gr(e:Expr)(n:Int):Bool:=decide (e.kind=1)&&decide (e.num=n)
def gH(k x y:Int):Int:=if k=5 then x-y else if k=6 then x*y else x+y
def il(e:Expr):Expr:=
 if e.kind=2/\eD e.index.aU=0/\0<=e.index.const then ku e.index.const
 else match e.bj with
  | [a,b]=>
   if a.kind=1/\b.kind=1 then(if 0<=gH e.kind a.num b.num/\gH e.kind a.num b.num<=99 then ku (gH e.kind a.num b.num) else e)
   else if(¬e.kind=6/\gr b 0=true)\/(e.kind=6/\gr b 1=true) then a
   else if(e.kind=4/\gr a 0=true)\/(e.kind=6/\gr a 1=true) then b
   else if e.kind=6/\(gr a 0=true\/gr b 0=true) then ku 0
   else e
  |_=>e
def kR(e:Expr)(a:List Expr):Expr:=⟨e.kind,e.num,e.index,e.read,a⟩
def fz:Nat->Expr->Expr
 |0,e=>e
 |L+1,e=>il (kR e (e.bj.map (fz L)))
theorem MP{d:Int}: ∀{L:Nat} {e:Expr},dr L e d=true->dr (L+1) e d=true
 |0,_,h=>by cases h
 |L+1,e,h=>by obtain⟨b,c,i⟩:=gM h;show(decide (fb e.kind=e.bj.length)&&(ei e d&&e.bj.all λk=>dr (L+1) k d))=true;rw[bp b,c,eW,eW];exact fC.2 λk a=>MP (i k a)
theorem FL(a:fb e.kind=e.bj.length)(b:ei e d=true)(c: ∀k∈e.bj,dr L k d=true):dr (L+1) e d=true:=by show(decide (fb e.kind=e.bj.length)&&(ei e d&&e.bj.all λk=>dr L k d))=true;rw[bp a,b,eW,eW];exact fC.2 c
theorem OS{d:Int}: ∀{L:Nat} {e:Expr},dr L e d=true->dp (L+1) e=dp L e
 |0,_,h=>by cases h
 |L+1,e,h=>by obtain⟨c,i,b⟩:=gM h;show 1+(e.bj.map (dp (L+1))).sum=1+(e.bj.map (dp L)).sum;rw[show e.bj.map (dp (L+1))=e.bj.map (dp L) from List.map_congr_left λk a=>OS (b k a)]
theorem MV{d:Int}: ∀{L:Nat} {e:Expr},dr L e d=true->dN (L+1) e=dN L e
 |0,_,h=>by cases h
 |L+1,e,h=>by obtain⟨c,i,b⟩:=gM h;show(if e.kind=3 then [e.read] else [])++e.bj.flatMap (dN (L+1))=(if e.kind=3 then [e.read] else [])++e.bj.flatMap (dN L);rw[List.flatMap_def,List.flatMap_def,show e.bj.map (dN (L+1))=e.bj.map (dN L) from List.map_congr_left λk a=>MV (b k a)]
theorem F6(l:ei e d=true):il e=e\/(∃n,il e=ku n/\0<=n/\n<=99)\/ ∃k∈e.bj,il e=k:=by
 obtain⟨kind,num,index,read,i⟩:=e;unfold il;dsimp only;split
 ·rename_i h
  have:=(fx (py l h.1).1).2.1;exact .inr (.inl ⟨_,rfl,h.2.2,this.2⟩)
 match i with
 | []=>exact .inl rfl
 | [a]=>exact .inl rfl
 | [a,b]=>
  dsimp only;split
  ·split
   ·rename_i h;exact .inr (.inl ⟨_,rfl,h⟩)
   exact .inl rfl
  split
  ·exact .inr (.inr ⟨a,a1,rfl⟩)
  split
  ·exact .inr (.inr ⟨b,a1,rfl⟩)
  split
  ·exact .inr (.inl ⟨0,rfl,O,O⟩)
  exact .inl rfl
 |a::b::c::r=>exact .inl rfl
theorem Y2(L:Nat){n:Int}(h:0<=n/\n<=99)(d:Int):dr (L+1) (ku n) d=true:=by
 refine FL (by simp[ku,fb]) ?_ λk a=>by cases a
 unfold ei ku gS jj;simp;omega
theorem ET(h:ei e d=true)(a:List Expr):ei (kR e a) d=true:=h
theorem qp{d:Int}: ∀{L:Nat} {e:Expr},dr L e d=true->dr L (fz L e) d=true
 |0,_,h=>by cases h
 |L+1,e,h=>by
  obtain⟨m,i,l⟩:=gM h;have o:dr (L+1) (kR e (e.bj.map (fz L))) d=true:=FL (by simp only[kR,List.length_map];exact m) i (λk a=>by
   obtain⟨y,c,rfl⟩:=et.1 a;exact qp (l y c))
  show dr (L+1) (il (kR e (e.bj.map (fz L)))) d=true;rcases F6 (ET i (e.bj.map (fz L))) with b|⟨n,b,p⟩|⟨k,a,b⟩
  ·rw[b];exact o
  ·rw[b];exact Y2 L p d
  rw[b];obtain⟨y,c,rfl⟩:=et.1 a;exact MP (qp (l y c))
theorem NG{R:Type}(f:R->Int)(b: ∀x,0<=f x): ∀{l:List R} {x:R},x∈l->f x<=(l.map f).sum
 |y::l,x,h=>by
  have c: ∀l:List R,0<=(l.map f).sum:=λl=>by
   induction l with
   |nil=>simp
   |cons a l d=>simp only[List.map_cons,List.sum_cons];have:=b a;omega
  simp only[List.map_cons,List.sum_cons];rcases dI.1 h with rfl|h
  ·have:=c l;omega
  have:=NG f b h;have:=b y;omega
theorem MM{a:Type}(f g:a->Int): ∀{l:List a},(∀x∈l,f x<=g x)->(l.map f).sum<=(l.map g).sum
 | [],_=>gy _
 |x::l,h=>by
  simp only[List.map_cons,List.sum_cons]
  have:=h x eH
  have:=MM f g λy b=>h y (eu _ b);omega
theorem Nk{d:Int}: ∀{L:Nat} {e:Expr},dr L e d=true->dp L (fz L e)<=dp L e
 |0,_,h=>by cases h
 |L+1,e,h=>by
  obtain⟨p,m,c⟩:=gM h;have i:dp (L+1) (kR e (e.bj.map (fz L)))<=dp (L+1) e:=by
   show 1+((e.bj.map (fz L)).map (dp L)).sum<=1+(e.bj.map (dp L)).sum;rw[List.map_map]
   have:=MM (dp L ∘ fz L) (dp L) (l:=e.bj) λk a=>Nk (c k a);omega
  show dp (L+1) (il (kR e (e.bj.map (fz L))))<=dp (L+1) e;rcases F6 (ET m (e.bj.map (fz L))) with b|⟨n,b,q⟩|⟨k,a,b⟩
  ·rw[b];exact i
  ·rw[b];exact qQ (L+1) e
  rw[b];refine Int.le_trans ?_ i;obtain⟨y,o,rfl⟩:=et.1 a;rw[OS (qp (c y o))];have r:dp L (fz L y)<=((e.bj.map (fz L)).map (dp L)).sum:=NG (dp L) (λx=>by have:=qQ L x;omega) a;show _<=1+((e.bj.map (fz L)).map (dp L)).sum;omega
theorem LU{d:Int}: ∀{L:Nat} {e:Expr},dr L e d=true-> ∀a∈dN L (fz L e),a∈dN L e
 |0,_,h=>by cases h
 |L+1,e,h=>by
  obtain⟨s,r,o⟩:=gM h;have p: ∀a∈dN (L+1) (kR e (e.bj.map (fz L))),a∈dN (L+1) e:=λa b=>by
   have b:a∈(if e.kind=3 then [e.read] else [])++(e.bj.map (fz L)).flatMap (dN L):=b;show a∈(if e.kind=3 then [e.read] else [])++e.bj.flatMap (dN L);rcases ef.1 b with b|b
   ·exact lD _ b
   refine oa _ ?_;obtain⟨y,l,m⟩:=sJ.1 b;obtain⟨z,q,rfl⟩:=et.1 l;exact sJ.2 ⟨z,q,LU (o z q) a m⟩
  intro a b;have b:a∈dN (L+1) (il (kR e (e.bj.map (fz L)))):=b;rcases F6 (ET r (e.bj.map (fz L))) with c|⟨n,c,w⟩|⟨k,i,c⟩
  ·rw[c] at b;exact p a b
  ·rw[c] at b;simp[dN,ku] at b
  rw[c] at b;obtain⟨y,l,rfl⟩:=et.1 i;rw[MV (qp (o y l))] at b;refine p a ?_;show a∈(if e.kind=3 then [e.read] else [])++(e.bj.map (fz L)).flatMap (dN L);exact oa _ (sJ.2 ⟨_,i,b⟩)
theorem YM(h:dr L e d=true): ∃K,L=K+1:=by
 cases L with
 |zero=>cases h
 |succ K=>exact⟨K,rfl⟩
theorem Xv(n:Nat)(e:Expr)(k:Int):ie n e k=some (gr e k):=by unfold ie gr;cases decide (e.kind=1)<;>rfl
theorem Wt(n:Nat)(e:Expr)(k:Int):o5 n e k=some (gr e k):=by unfold o5 gr;cases decide (e.kind=1)<;>rfl
def Bf(a:Expr):Prop:=a.kind=1->0<=a.num/\a.num<=99
theorem G7(h:dr L e d=true):Bf e:=λb=>by obtain⟨K,rfl⟩:=YM h;obtain⟨_,a,_⟩:=gM h;unfold ei at a;rw[aT O,aT O,aW b] at a;simp only[Bool.and_eq_true,decide_eq_true_eq] at a;exact a.1
theorem Pf{b:Int}(d:0<=a/\a<=99)(c:0<=b/\b<=99):0<=a*b/\a*b<=9801:=by
 refine⟨mo d.1 c.1,?_⟩
 have:=qK d.2 c.2 c.1 (by omega:(0:Int)<=99);omega
theorem ac4(n:Nat)(Q:c=4\/c=5\/c=6){a b:Expr}(R:Bf a)(W:Bf b):
  aI (fun(s:Bool)=>
      bif s then(
       aI (fun(q:Int)=>
        Option.bind (eY n q 0 99) λd=>
        bif d then(
         Option.bind (ns n q) λe=>
         some e
        ) else(
         some (⟨c,0,(⟨[],0⟩:az),(⟨[],[]⟩:b7),[a,b]⟩:Expr)
        )
       ) (λl=>
        bif decide (c=5) then(
         l (wr (a.num-b.num))
        ) else(
         bif decide (c=6) then(
          l (wr (a.num*b.num))
         ) else(
          l (wr (a.num+b.num))
         )
        )
       )
      ) else(
       aI (fun(w:Bool)=>
        bif w then(
         some a
        ) else(
         aI (fun(x:Bool)=>
          bif x then(
           some b
          ) else(
           aI (fun(y:Bool)=>
            bif y then(
             Option.bind (ns n 0) λA=>
             some A
            ) else(
             some (⟨c,0,(⟨[],0⟩:az),(⟨[],[]⟩:b7),[a,b]⟩:Expr)
            )
           ) (λm=>
            bif decide (c=6) then(
             Option.bind (ie n a 0) λB=>
             bif B then(
              m true
             ) else(
              Option.bind (ie n b 0) λC=>
              m C
             )
            ) else(
             m false
            )
           )
          )
         ) (λi=>
          bif decide (c=4) then(
           Option.bind (ie n a 0) λD=>
           bif D then(
            i true
           ) else(
            bif decide (c=6) then(
             Option.bind (ie n a 1) λF=>
             i F
            ) else(
             i false
            )
           )
          ) else(
           bif decide (c=6) then(
            Option.bind (ie n a 1) λG=>
            i G
           ) else(
            i false
           )
          )
         )
        )
       ) (λk=>
        bif !(decide (c=6)) then(
         Option.bind (ie n b 0) λH=>
         bif H then(
          k true
         ) else(
          bif decide (c=6) then(
           Option.bind (ie n b 1) λK=>
           k K
          ) else(
           k false
          )
         )
        ) else(
         bif decide (c=6) then(
          Option.bind (ie n b 1) λL=>
          k L
         ) else(
          k false
         )
        )
       )
      )
     ) (λr=>
      bif decide (a.kind=1) then(
       r (decide (b.kind=1))
      ) else(
       r false
      )
     )=some (il ⟨c,0,⟨[],0⟩,⟨[],[]⟩,[a,b]⟩):=by
 have X: ¬(c=2/\eD ([]:List Int)=0/\(0:Int)<=0):=λh=>O
 unfold il;dsimp only;rw[aT X];simp only[Xv,Option.bind_some,aI];by_cases o:a.kind=1/\b.kind=1
 ·have g:=R o.1;have j:=W o.2;have M:=Pf g j;rw[aW o,bp o.1,bp o.2];simp only[cond_true];have t:(bif decide (c=5) then(Option.bind (eY n (wr (a.num-b.num)) 0 99) λd=>bif d then(Option.bind (ns n (wr (a.num-b.num))) λe=>some e) else(some (⟨c,0,⟨[],0⟩,⟨[],[]⟩,[a,b]⟩:Expr)))
    else bif decide (c=6) then(Option.bind (eY n (wr (a.num*b.num)) 0 99) λd=>bif d then(Option.bind (ns n (wr (a.num*b.num))) λe=>some e) else(some (⟨c,0,⟨[],0⟩,⟨[],[]⟩,[a,b]⟩:Expr)))
    else(Option.bind (eY n (wr (a.num+b.num)) 0 99) λd=>bif d then(Option.bind (ns n (wr (a.num+b.num))) λe=>some e) else(some (⟨c,0,⟨[],0⟩,⟨[],[]⟩,[a,b]⟩:Expr))))
    =Option.bind (eY n (gH c a.num b.num) 0 99) λd=>bif d then(Option.bind (ns n (gH c a.num b.num)) λe=>some e) else(some (⟨c,0,⟨[],0⟩,⟨[],[]⟩,[a,b]⟩:Expr)):=by
   rw[bf (n:=a.num-b.num) O,bf (n:=a.num*b.num) O,bf (n:=a.num+b.num) O];unfold gH;rcases Q with rfl|rfl|rfl<;>rfl
  refine t.trans ?_;rw[iC,Option.bind_some];by_cases p:0<=gH c a.num b.num/\gH c a.num b.num<=99
  ·rw[aW p,bp p];rfl
  rw[aT p,bs p];rfl
 rw[aT o];have u:(bif decide (a.kind=1) then decide (b.kind=1) else false)=false:=by
  cases v:decide (a.kind=1) with
  |false=>rfl
  |true=>
   have: ¬b.kind=1:=λh=>o ⟨eQ v,h⟩;rw[bs this];rfl
 have p: ∀{f:Bool->Option Expr},(bif decide (a.kind=1) then f (decide (b.kind=1)) else f false)=f false:=fun {f}=>by
  have:(bif decide (a.kind=1) then f (decide (b.kind=1)) else f false)=f (bif decide (a.kind=1) then decide (b.kind=1) else false):=by cases decide (a.kind=1)<;>rfl
  rw[this,u]
 refine(p (f:=λz=>bif z then _ else _)).trans ?_;generalize gr a 0=a0;generalize gr a 1=aH;generalize gr b 0=E;generalize gr b 1=I;rcases Q with rfl|rfl|rfl<;>cases a0<;>cases aH<;>cases E<;>cases I<;>rfl
theorem Yy(n:Nat)(k:Int):rh n k=some (decide (4<=k/\k<=6)):=by unfold rh;rw[iC];rfl
theorem Gj(h:fb e.kind=e.bj.length):((e.kind=1\/e.kind=2\/e.kind=3)/\e.bj=[])\/((e.kind=4\/e.kind=5\/e.kind=6)/\ ∃a b,e.bj=[a,b]):=by
 unfold fb at h;split at h
 ·rename_i d;exact .inl ⟨d,km O⟩
 split at h
 ·rename_i d;refine .inr ⟨d,?_⟩
  match i:e.bj,h with
  | [a,b],_=>exact⟨a,b,rfl⟩
  | [],h=>simp at h
  | [a],h=>simp at h
  |a::b::c::r,h=>simp at h;omega
 omega
theorem acS(a:ei e d=true)(c:e.kind=4\/e.kind=5\/e.kind=6):e.num=0/\e.index=⟨[],0⟩/\e.read=⟨[],[]⟩:=by have b:=wL a O O;unfold ei at a;rw[aT O,aT O,aT O] at a;simp only[Bool.and_eq_true,decide_eq_true_eq] at a;exact⟨a.1,sC b.1,sD b.2⟩
theorem AN(a:ei e d=true):hG e.index/\ju e.read.bD:=by
 by_cases c:e.kind=2
 ·have:=py a c;refine⟨by have:=(fx this.1).1;unfold hG;omega,?_⟩;rw[sD this.2];exact⟨a1,λx b=>by cases b⟩
 by_cases h:e.kind=3
 ·have:=q' a h;have i:=mw this.1;refine⟨?_,N8 i.2.1 i.2.2⟩;rw[sC this.2];unfold hG;simp
 have:=wL a c h;refine⟨?_,?_⟩
 ·rw[sC this.1];unfold hG;simp
 rw[sD this.2];exact⟨a1,λx b=>by cases b⟩
def mg(e:Expr):Bool:=decide (e.kind=2)&&(decide (eD e.index.aU=0)&&decide (0<=e.index.const))
theorem Ly(e:Expr):mg e=true↔e.kind=2/\eD e.index.aU=0/\0<=e.index.const:=by unfold mg;simp
theorem Lj(h:mg e=true):il e=ku e.index.const:=by unfold il;rw[aW ((Ly e).1 h)]
theorem Ml(h:mg e=false)(a:e.bj=[]):il e=e:=by unfold il;rw[aT (λb=>by rw[(Ly e).2 b] at h;cases h),a]
theorem Fk{d:Int}: ∀(L n:Nat) (e:Expr),6600000+L<=n->dr L e d=true->qf (n+1) e=some (fz L e)
 |0,_,_,_,h=>by cases h
 |L+1,n,e,Q,h=>by
  obtain⟨r,s,w⟩:=gM h;obtain⟨n,rfl⟩: ∃j,n=j+1:=⟨n-1,O⟩
  unfold qf;refine aa.eq (aa.aI (λz=>z=mg e) (λj m=>?_) λz B=>?_)
  ·refine aR (λo=>ag (DR O (AN s).1) (aR (λC=>m _ ?_) λC=>m _ ?_)) λo=>m _ ?_
   ·unfold mg;rw[bp o,bp (O:eD e.index.aU=0)];rfl
   ·unfold mg;rw[bs (show¬eD e.index.aU=0 by omega),vu,iS]
   unfold mg;rw[bs o];rfl
  subst B;have p:fz (L+1) e=il (kR e (e.bj.map (fz L))):=rfl;refine aa.cond (λq=>?_) λq=>?_
  ·refine ag (x:=ku e.index.const) rfl (aa.some ?_);rw[p];exact(Lj (e:=kR e (e.bj.map (fz L))) q).symm
  refine ag (Yy _ _) (dZ (λl=>aa.some ?_) λl=>?_)
  ·rcases Gj r with ⟨_,k⟩|⟨i,_⟩
   ·rw[p,k]
    have:kR e []=e:=by cases e;cases k;rfl
    show e=il (kR e []);rw[this];exact(Ml q k).symm
   exact bt O l
  rcases Gj r with ⟨i,_⟩|⟨i,a,b,c⟩
  ·omega
  have y:=w a (by rw[c];simp);have A:=w b (by rw[c];simp);have D:av e.bj 0=some a:=by rw[c];rfl
  have F:av e.bj 1=some b:=by rw[c];rfl
  refine ag D (ag (Fk L n a O y) (ag F (ag (Fk L n b O A) (aa.of (ac4 (n+1) i (G7 (qp y)) (G7 (qp A))) ?_))));obtain⟨G,H,K⟩:=acS s i;rw[p,c];unfold kR;rw[G,H,K];rfl
theorem aal(n:Nat)(m:e.kind=4\/e.kind=5\/e.kind=6){x:Int}(k:0<=x/\x<=99)(l:0<=y/\y<=99):Ai n e x y=some (if 0<=gH e.kind x y/\gH e.kind x y<=99 then ku (gH e.kind x y) else e):=by
 have o:=Pf k l;unfold Ai;refine aa.eq (aa.aI (λz=>z=gH e.kind x y) (λj a=>?_) λz c=>?_)
 ·rw[bf (n:=x+y) O,bf (n:=x-y) O,bf (n:=x*y) O];refine aR (λh=>a _ ?_) λh=>aR (λd=>a _ ?_) λd=>a _ ?_
  ·unfold gH;rw[aT O,aT O]
  ·unfold gH;rw[aW d]
  unfold gH;rw[aT d,aW O]
 subst c;refine aa.aI (λz=>z= !decide (0<=gH e.kind x y/\gH e.kind x y<=99)) (λj a=>aR (λh=>a _ ?_) λh=>a _ ?_) λz c=>?_
 ·rw[bs O];rfl
 ·by_cases i:(99:Int)<gH e.kind x y
  ·rw[bp i,bs O];rfl
  rw[bs i,bp O];rfl
 subst c;by_cases b:0<=gH e.kind x y/\gH e.kind x y<=99
 ·rw[bp b,aW b];exact bS (ag rfl (aa.some rfl))
 rw[bs b,aT b];exact bY (aa.some rfl)
theorem YN(L:5500000<=n)(B:hG e.index)(C:fb e.kind=e.bj.length)(y: ∀k∈e.bj,Bf k):yO n e=some (il e):=by
 unfold yO;refine aa.eq (aa.aI (λz=>z=mg e) (λj l=>?_) λz q=>?_)
 ·refine aR (λr=>ag (yu O B) (aR (λD=>l _ ?_) λD=>l _ ?_)) λr=>l _ ?_
  ·unfold mg;rw[bp r,bp (O:eD e.index.aU=0)];rfl
  ·unfold mg;rw[bs (show¬eD e.index.aU=0 by omega),vu,iS]
  unfold mg;rw[bs r];rfl
 subst q;refine aa.cond (λs=>ag (x:=ku e.index.const) rfl (aa.some (Lj s).symm)) λs=>?_;rcases Gj C with ⟨_,o⟩|⟨d,a,b,c⟩
 ·refine aR (λ_=>aa.some (Ml s o).symm) λh=>bt (by rw[o];rfl) h
 have F:=y a (by rw[c];simp);have G:=y b (by rw[c];simp);refine aR (λh=>by rw[c] at h;simp at h) λ_=>ag (show av e.bj 0=some a by rw[c];rfl) (ag (show av e.bj 1=some b by rw[c];rfl) ?_);have i:il e=(if a.kind=1/\b.kind=1 then(if 0<=gH e.kind a.num b.num/\gH e.kind a.num b.num<=99 then ku (gH e.kind a.num b.num) else e)
   else if(¬e.kind=6/\gr b 0=true)\/(e.kind=6/\gr b 1=true) then a
   else if(e.kind=4/\gr a 0=true)\/(e.kind=6/\gr a 1=true) then b
   else if e.kind=6/\(gr a 0=true\/gr b 0=true) then ku 0
   else e):=by
  unfold il;rw[aT (λh=>O),c]
 rw[i];refine aa.aI (λz=>z=decide (a.kind=1/\b.kind=1)) (λj l=>aR (λh=>l _ ?_) λh=>l _ ?_) λz q=>?_
 ·by_cases p:b.kind=1
  ·rw[bp p,bp ⟨h,p⟩]
  rw[bs p,bs λw=>p w.2]
 ·rw[bs λw=>h w.1]
 subst q;by_cases m:a.kind=1/\b.kind=1
 ·rw[bp m,aW m];exact bY (ag (aal n d (F m.1) (G m.2)) (aa.some rfl))
 rw[bs m,aT m];refine bS ?_;simp only[Wt,Option.bind_some,aI];generalize gr a 0=a0;generalize gr a 1=aH;generalize gr b 0=H;generalize gr b 1=K;obtain⟨kind,num,index,read,A⟩:=e;dsimp only at d⊢;rcases d with rfl|rfl|rfl<;>cases a0<;>cases aH<;>cases H<;>cases K<;>exact aa.some rfl
theorem Mc{d:Int}: ∀(L n:Nat) (e:Expr),6600000+L<=n->dr L e d=true->qA (n+1) e=some (fz L e)
 |0,_,_,_,h=>by cases h
 |L+1,n,e,r,h=>by
  obtain⟨l,a,i⟩:=gM h;obtain⟨n,rfl⟩: ∃j,n=j+1:=⟨n-1,O⟩
  have m:e.bj.length<=2:=by have:=o4 e.kind;omega
  unfold qA;refine aa.eq (ag (DY _ (AN a).1) (ag (t6 O (AN a).2) ?_));refine nW (f:=qA (n+1)) (g:=fz L) (K:=λo=>Option.bind (yO (n+1) (⟨e.kind,e.num,e.index,e.read,o⟩:Expr)) λb=>some b) (λx p=>Mc L n x O (i x p)) O O ?_;refine ag (YN O (AN a).1 (by simpa using l) λk c=>?_) (aa.some rfl);obtain⟨y,q,rfl⟩:=et.1 c;exact G7 (qp (i y q))
def jf(l:List cb)(p:Prog)(a:Int)(c:Nat):Prop:= ∃x∈l,x.part=a/\cZ p x=c
def kc(l:List cb)(p:Prog)(a:Int)(c:Nat):Prop:= ∃x∈l,x.part=a/\(c:Int)∈rc p x
theorem H1{l:List cb}{c:Nat}{x:cb}:jf (l++[x]) p a c↔jf l p a c\/(x.part=a/\cZ p x=c):=by
 unfold jf;constructor
 ·rintro⟨y,b,h⟩;rcases ef.1 b with b|b
  ·exact .inl ⟨y,b,h⟩
  rw[kU] at b;subst b;exact .inr h
 rintro(⟨y,b,h⟩|h)
 ·exact⟨y,lD _ b,h⟩
 exact⟨x,a1,h⟩
theorem wi{l:List cb}{c:Nat}{x:cb}:kc (l++[x]) p a c↔kc l p a c\/(x.part=a/\(c:Int)∈rc p x):=by
 unfold kc;constructor
 ·rintro⟨y,b,h⟩;rcases ef.1 b with b|b
  ·exact .inl ⟨y,b,h⟩
  rw[kU] at b;subst b;exact .inr h
 rintro(⟨y,b,h⟩|h)
 ·exact⟨y,lD _ b,h⟩
 exact⟨x,a1,h⟩
def gZ(T:Nat)(f:List Bool)(S:Nat->Prop):Prop:=f.length=T/\ ∀c,c<T->(f.getD c false=true↔S c)
theorem F2(T:Nat):gZ T (List.replicate T false) (λ_=>False):=⟨Dm,λc a=>by rw[ek,sL];split<;>simp⟩
theorem Gn{T:Nat}{f:List Bool}{S:Nat->Prop}(h:gZ T f S){d:Nat}(a:d<T):gZ T (f.set d true) (λc=>S c\/c=d):=⟨by rw[fE];exact h.1,λc b=>by
 by_cases e:d=c
 ·subst e;rw[ek,ir (by rw[h.1];exact a)];simp
 rw[ek,jT e,<-ek,h.2 c b];constructor
 ·exact .inl
 rintro(h|h)
 ·exact h
 exact bt h.symm e⟩
theorem lr{T:Nat}{f:List Bool}{S X:Nat->Prop}(h:gZ T f S)(b: ∀c,c<T->(S c↔X c)):gZ T f X:=⟨h.1,λc a=>(h.2 c a).trans (b c a)⟩
theorem ri{T:Nat}{f:List Bool}{S:Nat->Prop}(h:gZ T f S){c:Nat}(b:c<T):av f (c:Int)=some (f.getD c false):=by
 have a:c<f.length:=by rw[h.1];exact b
 rw[a' (bg a),ek,bg a];rfl
theorem My(A:5500000<=n){T:Nat}{cs:List Int}(B:cs.length<=1100000)(m: ∀c∈cs,0<=c/\c<(T:Int)){K:List Bool->Option R}{f:List Bool}{S:Nat->Prop}(o:gZ T f S)(p: ∀g,gZ T g (λc=>S c\/(c:Int)∈cs)->aa (K g) Q):
  aa (bc (λa (z:(List Bool)×Int)=>bif decide (z.2<(cs.length:Int)) then(Option.bind (av cs z.2) λx=>Option.bind (av z.1 x) λ_=>Option.bind (ca z.1 x true) λy=>a (y,wr (z.2+1))) else(K z.1)) n (f,0)) Q:=by
 refine aa.loop (λz:List Bool×Int=> ∃i:Nat,z.2=i/\i<=cs.length/\gZ T z.1 λc=>S c\/(c:Int)∈cs.take i) (λz=>cs.length-z.2.toNat) ?_ n _ ⟨0,rfl,O,lr o λc _=>a1⟩ Z;rintro a ⟨x,z⟩ ⟨i,l,C,b⟩ q;dsimp only at l b⊢;subst l;refine aR (λr=>?_) λs=>?_
 ·obtain⟨c,k⟩: ∃c,cs[i]? =some c:=⟨_,bg (O:i<cs.length)⟩
  have aV:=m c (bC k);have w:=b.1;refine ag (a' k) (ag (wX aV.1 O) (ag (FM aV.1 O true) ?_));rw[bf O];refine q _ ⟨i+1,Z,O,lr (Gn b (d:=c.toNat) O) λe D=>?_⟩ Z;rw[fw k,ef,kU];constructor
  ·rintro((h|h)|h)
   ·exact .inl h
   ·exact .inr (.inl h)
   exact .inr (.inr O)
  rintro(h|h|h)
  ·exact .inl (.inl h)
  ·exact .inl (.inr h)
  exact .inr O
 have e:i=cs.length:=O
 refine p x (lr b λc _=>?_);rw[e,cT]
theorem wO(a:bU p=true):((hT p:Nat):Int)=fQ p.aY/\hT p<=144:=by have:=aaa a;show(((fQ p.aY).toNat:Nat):Int)=_/\(fQ p.aY).toNat<=144;omega
theorem LB(cu:7810000<=n)(w:bU p=true)(a:Int):aa (xJ n (fr p) a) (λr=>gZ (hT p) r.1 (kc (bk p.parts) p a)/\gZ (hT p) r.2 (jf (bk p.parts) p a)):=by
 obtain⟨H,L,_,_,W⟩:=eg w;have eO:=wO w;unfold xJ;refine ag (LR (p:=p) O H L) (ag (GX ⟨O,O⟩ false) (ag (LR (p:=p) O H L) (ag (GX ⟨O,O⟩ false) ?_)));show aa (bc _ n (List.replicate (hT p) false,List.replicate (hT p) false,0)) _;refine aa.loop (λz:List Bool×List Bool×Int=> ∃i:Nat,z.2.2=i/\i<=(bk p.parts).length/\gZ (hT p) z.1 (kc ((bk p.parts).take i) p a)/\gZ (hT p) z.2.1 (jf ((bk p.parts).take i) p a)) (λz=>(bk p.parts).length-z.2.2.toNat) ?_ n _ ⟨0,rfl,O,lr (F2 _) (λc _=>by simp[kc]),lr (F2 _) λc _=>by simp[jf]⟩ Z;rintro A ⟨x,y,z⟩ ⟨i,m,aD,o,k⟩ X;dsimp only at m o k⊢;subst m;have l:(fr p).list=bk p.parts:=rfl;rw[l];refine aR (λt=>?_) λv=>aa.some ?_
 ·obtain⟨u,b⟩: ∃u,(bk p.parts)[i]? =some u:=⟨_,bg (O:i<(bk p.parts).length)⟩
  have E:=gR (bC b);obtain⟨fg,I,ajz,_⟩:=mT w E;have B:(fr p).reads[i]? =some (rc p u):=je b;have C:(fr p).db[i]? =some (cZ p u:Int):=je (f:=λx=>(cZ p x:Int)) b;refine aa.aI (λz:List Bool×List Bool×Int×Int×List Int=>gZ (hT p) z.1 (kc ((bk p.parts).take (i+1)) p a)/\gZ (hT p) z.2.1 (jf ((bk p.parts).take (i+1)) p a)) (λj Q=>?_) λz m=>?_
  ·refine ag (a' b) (dZ (λq=>Q _ ⟨lr o λc _=>?_,lr k λc _=>?_⟩) λR=>ag (a' B) ?_)
   ·rw[fw b,wi];exact⟨.inl,λh=>h.elim id λh=>bt h.1 q⟩
   ·rw[fw b,H1];exact⟨.inl,λh=>h.elim id λh=>bt h.1 q⟩
   refine My (T:=hT p) O (cs:=rc p u) O (λc M=>by have:=I c M;omega) (K:=λD=>Option.bind (av (fr p).db (i:Int)) λs=>Option.bind (av y s) λN=>Option.bind (ca y s true) λF=>j (D,F,u.part,u.stmt,u.cF)) o λg G=>?_;refine ag (a' C) (ag (ri k O) (ag (FM O (by rw[k.1];omega) true) (Q _ ⟨lr G λc _=>?_,?_⟩)))
   ·rw[fw b,wi];exact or_congr Iff.rfl ⟨λh=>⟨R,h⟩,λh=>h.2⟩
   refine lr (Gn k (d:=cZ p u) O) λc _=>?_;rw[fw b,H1];exact or_congr Iff.rfl ⟨λh=>⟨R,h.symm⟩,λh=>h.2.symm⟩
  obtain⟨P,S,U,V,Y⟩:=z;dsimp only at m⊢;rw[bf O];exact X _ ⟨i+1,Z,O,m.1,m.2⟩ Z
 have e:i=(bk p.parts).length:=O
 rw[e,cT] at o k;exact⟨o,k⟩
theorem DG(L:7810000<=n)(m:bU p=true)(a:Int)(w:Bool):aa (se n p a w) (λr=>r.length<=144/\ ∀c:Int,c∈r↔0<=c/\c.toNat<hT p/\(if w=true then jf (bk p.parts) p a c.toNat else kc (bk p.parts) p a c.toNat)):=by
 obtain⟨Q,R,_,_,W⟩:=eg m;have M:=wO m;unfold se;refine ag (Lp O Q R) (ag (GX ⟨O,O⟩ false) (ag (uD O m) (ag (y7 L m) ?_)));show aa (bc _ n (List.replicate (hT p) false,0)) _;refine aa.loop (λz:List Bool×Int=> ∃i:Nat,z.2=i/\i<=(bk p.parts).length/\gZ (hT p) z.1 λc=>if w=true then jf ((bk p.parts).take i) p a c else kc ((bk p.parts).take i) p a c) (λz=>(bk p.parts).length-z.2.toNat) ?_ n _ ⟨0,rfl,O,lr (F2 _) λc _=>by simp[kc,jf]⟩ Z;rintro y ⟨x,z⟩ ⟨i,s,N,k⟩ X;dsimp only at s k⊢;subst s;refine aR (λb=>?_) λt=>?_
 ·obtain⟨u,l⟩: ∃u,(bk p.parts)[i]? =some u:=⟨_,bg (O:i<(bk p.parts).length)⟩
  have v:=gR (bC l);obtain⟨P,E,S,_⟩:=mT m v;have o:(jO p)[i]? =some (⟨rc p u,(cZ p u:Int)⟩:jX):=je (f:=λx=>(⟨rc p x,(cZ p x:Int)⟩:jX)) l;refine aa.aI (λz:List Bool=>gZ (hT p) z λc=>if w=true then jf ((bk p.parts).take (i+1)) p a c else kc ((bk p.parts).take (i+1)) p a c) (λj A=>?_) λz s=>?_
  ·refine ag (a' l) (dZ (λB=>A _ (lr k λc _=>?_)) λH=>?_)
   ·rw[fw l,H1,wi];split<;>exact⟨.inl,λh=>h.elim id λh=>bt h.1 B⟩
   cases w with
   |true=>
    refine bY (ag (a' o) (ag (ri k O) (ag (FM (by(try dsimp only);omega) (by rw[k.1];(try dsimp only);omega) true) (A _ ?_))));refine lr (Gn k (d:=cZ p u) O) λc _=>?_;rw[fw l,H1,wi];exact or_congr Iff.rfl ⟨λh=>⟨H,h.symm⟩,λh=>h.2.symm⟩
   |false=>
    refine bS ?_;simp only[a' o,Option.bind_some];refine My (T:=hT p) O (cs:=rc p u) O (λc I=>by have:=E c I;omega) (K:=λC=>j C) k λg D=>A _ (lr D λc _=>?_);rw[fw l,H1,wi];exact or_congr Iff.rfl ⟨λh=>⟨H,h⟩,λh=>h.2⟩
  rw[bf O];exact X _ ⟨i+1,Z,O,s⟩ Z
 have e:i=(bk p.parts).length:=O
 rw[e,cT] at k;have F:=k.1;refine ag (Kz O O) (aa.some ⟨by have:=KM x;omega,λc=>?_⟩);rw[Ed];constructor
 ·rintro⟨G,q⟩;have b:c.toNat<hT p:=by
   rw[<-F];by_cases h:c.toNat<x.length
   ·exact h
   rw[ek,yC O] at q;cases q
  exact⟨G,b,(k.2 _ b).1 q⟩
 rintro⟨G,b,q⟩;exact⟨G,(k.2 _ b).2 q⟩
theorem F8(r:5500000<=n){a b:List Int}(s:a.length<=1100000)(m:b.length<=1100000):vi n a b=some (a.any λc=>decide (c∈b)):=by
 refine aa.eq ?_;unfold vi;refine aa.loop (λz:Int=> ∃i:Nat,z=i/\i<=a.length/\(a.take i).any (λc=>decide (c∈b))=false) (λz=>a.length-z.toNat) ?_ n 0 ⟨0,rfl,O,a1⟩ O;rintro k z ⟨i,rfl,w,d⟩ o;refine aR (λp=>?_) λq=>aa.some ?_
 ·obtain⟨c,l⟩: ∃c,a[i]? =some c:=⟨_,bg (O:i<a.length)⟩
  refine ag (a' l) (ag (FP O m c) (aa.cond (λh=>aa.some ?_) λh=>?_))
  ·exact(hV.2 ⟨c,bC l,h⟩).symm
  rw[bf O];refine o _ ⟨i+1,O,O,?_⟩ O;rw[fw l,sK,d];simpa using h
 have e:i=a.length:=O
 rw[e,cT] at d;exact d.symm
def Bl(p:Prog)(a b:Int):Prop:= ∀x∈bk p.parts,∀y∈bk p.parts,x.part=a->y.part=b-> ¬PF p x y
noncomputable def rG(p:Prog)(a b:Int):Bool:= @decide (Bl p a b) (Classical.propDecidable _)
theorem IM{b:Int}:rG p a b=true↔Bl p a b:=by unfold rG;exact @decide_eq_true_iff _ (Classical.propDecidable _)
theorem LO(n:bU p=true){b:Int}:Bl p a b↔ ∀c,c<hT p-> ¬(jf (bk p.parts) p a c/\(kc (bk p.parts) p b c\/jf (bk p.parts) p b c))/\ ¬(jf (bk p.parts) p b c/\kc (bk p.parts) p a c):=by
 have o:=wO n;constructor
 ·intro h c _;refine⟨?_,?_⟩
  ·rintro⟨⟨x,l,e,m⟩,⟨y,k,d,i⟩|⟨y,k,d,i⟩⟩
   ·exact h x l y k e d (.inl (by rw[m];exact i))
   exact h x l y k e d (.inr (.inr (by rw[m,i])))
  rintro⟨⟨y,k,d,i⟩,⟨x,l,e,m⟩⟩;exact h x l y k e d (.inr (.inl (by rw[i];exact m)))
 intro h x l y k e d bB;have q:=(mT n (gR l)).1;have r:=(mT n (gR k)).1;rcases bB with bB|bB|bB
 ·exact(h (cZ p x) O).1 ⟨⟨x,l,e,rfl⟩,.inl ⟨y,k,d,bB⟩⟩
 ·exact(h (cZ p y) O).2 ⟨⟨y,k,d,rfl⟩,⟨x,l,e,bB⟩⟩
 exact(h (cZ p x) O).1 ⟨⟨x,l,e,rfl⟩,.inr ⟨y,k,d,bB.symm⟩⟩
def ea(p:Prog)(a:Int):Bool:=decide (0<=a/\a<(p.parts.length:Int))
noncomputable def jr(p:Prog)(a b:Int):Bool:=bU p&&(ea p a&&(ea p b&&(!decide (a=b)&&rG p a b)))
theorem re{b:Bool}(h:(!b)=true):b=false:=by cases b with
 |false=>rfl
 |true=>cases h
theorem pA{b:Bool}(h:(!b)=false):b=true:=by cases b with
 |false=>cases h
 |true=>rfl
theorem Xw(cu:5500000<=n){T:Nat}(j9:T<=1000){H N P K:List Bool}{s o p k:Nat->Prop}(D:gZ T H s)(L:gZ T N o)(Q:gZ T P p)(x:gZ T K k){v:Bool}(S:v=true↔ ∀c,c<T-> ¬(o c/\(p c\/k c))/\ ¬(k c/\s c)):
  aa (bc (λl (d:Int)=>
     bif decide (d<(H.length:Int)) then(
      aI (fun(R:Bool)=>
       bif R then(
        some false
       ) else(
        l (wr (d+1))
       )
      ) (λm=>
       Option.bind (av N d) λW=>
       bif W then(
        Option.bind (av P d) λX=>
        bif X then(
         m true
        ) else(
         Option.bind (av K d) λf=>
         bif f then(
          m true
         ) else(
          m false
         )
        )
       ) else(
        Option.bind (av K d) λg=>
        bif g then(
         Option.bind (av H d) λt=>
         m t
        ) else(
         m false
        )
       )
      )
     ) else(
      some true
     )
    ) n 0) (λr=>r=v):=by
 have y: ∀c,c<T->((o c/\(p c\/k c))\/(k c/\s c))->v=false:=λc u h=>by
  cases E:v with
  |false=>rfl
  |true=>
   have:=S.1 E c u;rcases h with h|h
   ·exact bt h this.1
   exact bt h this.2
 have I:=D.1;refine aa.loop (λz:Int=> ∃i:Nat,z=i/\i<=T/\ ∀c,c<i-> ¬(o c/\(p c\/k c))/\ ¬(k c/\s c)) (λz=>T-z.toNat) ?_ n 0 ⟨0,rfl,O,λc h=>O⟩ O;rintro M z ⟨i,rfl,aD,A⟩ Y;rw[I];refine aR (λhlt=>?_) λiI=>aa.some ?_
 ·have a:i<T:=O
  refine aa.aI (λz=>(z=true->(o i/\(p i\/k i))\/(k i/\s i))/\(z=false-> ¬(o i/\(p i\/k i))/\ ¬(k i/\s i))) (λj B=>?_) λz U=>aa.cond (λh=>aa.some (y i a (U.1 h)).symm) λh=>?_
  ·refine ag (ri L a) (aa.cond (λF=>?_) λF=>?_)
   ·have w:=(L.2 i a).1 F;refine ag (ri Q a) (aa.cond (λG=>B _ ⟨λ_=> .inl ⟨w,.inl ((Q.2 i a).1 G)⟩,λh=>(by cases h)⟩) λG=>ag (ri x a) (aa.cond (λb=>B _ ⟨λ_=> .inl ⟨w,.inr ((x.2 i a).1 b)⟩,λh=>(by cases h)⟩) λb=>B _ ⟨λh=>(by cases h),λ_=>?_⟩));have ai': ¬p i:=λh=>by rw[(Q.2 i a).2 h] at G;cases G
    have C: ¬k i:=λh=>by rw[(x.2 i a).2 h] at b;cases b
    exact⟨λh=>h.2.elim ai' C,λh=>C h.1⟩
   have V: ¬o i:=λh=>by rw[(L.2 i a).2 h] at F;cases F
   refine ag (ri x a) (aa.cond (λb=>ag (ri D a) (B _ ⟨λh=> .inr ⟨(x.2 i a).1 b,(D.2 i a).1 h⟩,λh=>⟨λq=>V q.1,λq=>by rw[(D.2 i a).2 q.2] at h;cases h⟩⟩)) λb=>B _ ⟨λh=>(by cases h),λ_=>⟨λq=>V q.1,λq=>by rw[(x.2 i a).2 q.1] at b;cases b⟩⟩)
  rw[bf O];refine Y _ ⟨i+1,O,O,λc u=>?_⟩ O;by_cases e:c=i
  ·subst e;exact U.2 h
  exact A c O
 exact(S.2 λc u=>A c O).symm
theorem aaJ(l:7810000<=n)(q:g' p)(a b:Int):BT n p a b=some (jr p a b):=by
 unfold BT;refine aa.eq (ag (u6 l q) ?_);by_cases c:bU p=true
 ·rw[aW c];have C:=wO c;have d:=q.2.1;refine bY (aa.aI (λz=>z= !(ea p a&&(ea p b&& !decide (a=b)))) (λj e=>bS (ag (qs n d a) (aa.cond (λh=>e _ ?_) λh=>ag (qs n d b) (aa.cond (λm=>e _ ?_) λm=>e _ ?_)))) λz o=>?_)
  ·have:ea p a=false:=re h;rw[this];rfl
  ·have i:ea p a=true:=pA h;have k:ea p b=false:=re m;rw[i,k];rfl
  ·have i:ea p a=true:=pA h;have k:ea p b=true:=pA m;rw[i,k];simp
  subst o;unfold jr;rw[c];cases i:ea p a with
  |false=>exact bY (aa.some rfl)
  |true=>
   cases k:ea p b with
   |false=>exact bY (aa.some rfl)
   |true=>
    cases D:decide (a=b) with
    |true=>exact bY (aa.some rfl)
    |false=>
     refine bS (gA (LB l c a) λr ⟨w,x⟩=>gA (LB l c b) λs ⟨y,A⟩=>?_);exact(Xw O (T:=hT p) O w x y A (v:=rG p a b) (by rw[IM,LO c])).mono λr B=>B
 rw[aT c];refine bS (aa.aI (λz=>z=true) (λj e=>bY (e _ rfl)) λz o=>?_);rw[o];refine bY (aa.some ?_);unfold jr;rw[show bU p=false by simpa using c];rfl
theorem aan(B:7810000<=n)(f:g' p)(a b:Int):BR n p a b=some (jr p a b):=by
 unfold BR;refine aa.eq (aa.aI (λz=>z= !(bU p&&(ea p a&&(ea p b&& !decide (a=b))))) (λj i=>?_) λz F=>?_)
 ·refine ag (jw O f) (aa.cond (λh=>i _ ?_) λh=>?_)
  ·rw[show bU p=false by simpa using h];rfl
  have l:bU p=true:=by simpa using h
  rw[l] at i;refine aR (λQ=>i _ ?_) λQ=>aR (λg=>i _ ?_) λg=>aR (λR=>i _ ?_) λR=>aR (λt=>i _ ?_) λt=>i _ ?_
  ·rw[show ea p a=false from bs O];rfl
  ·rw[show ea p b=false from bs O];simp
  ·rw[show ea p a=false from bs O];rfl
  ·rw[show ea p b=false from bs O];simp
  rw[show ea p a=true from bp O,show ea p b=true from bp O];simp
 subst F;unfold jr;by_cases l:bU p=true
 ·rw[l];have E:=wO l;cases Q:ea p a with
  |false=>exact bY (aa.some rfl)
  |true=>
   cases R:ea p b with
   |false=>exact bY (aa.some rfl)
   |true=>
    cases I:decide (a=b) with
    |true=>exact bY (aa.some rfl)
    |false=>
     have m:=IM.trans (LO l (a:=a) (b:=b));have k: ∀c,c<hT p->((jf (bk p.parts) p a c/\(kc (bk p.parts) p b c\/jf (bk p.parts) p b c))\/(jf (bk p.parts) p b c/\kc (bk p.parts) p a c))->rG p a b=false:=λc o h=>by
      cases G:rG p a b with
      |false=>rfl
      |true=>
       have:=m.1 G c o;rcases h with h|h
       ·exact bt h this.1
       exact bt h this.2
     refine bS (gA (DG B l a true) λq ⟨M,C⟩=>gA (DG B l b true) λr ⟨N,D⟩=>aa.aI (λz=>z=rG p a b) (λj i=>?_) λz F=>aa.some F);refine ag (F8 O O O) (aa.cond (λh=>?_) λh=>i _ ?_)
     ·have u: ∀c,c∈q->c∈r->False:=λc e d=>by
       have:q.any (λc=>decide (c∈r))=true:=hV.2 ⟨c,e,bp d⟩;rw[this] at h;cases h
      refine gA (DG B l b false) λH ⟨P,W⟩=>ag (F8 O O O) (aa.cond (λh=>?_) λh=>i _ ?_)
      ·have v: ∀c,c∈q->c∈H->False:=λc e d=>by
        have:q.any (λc=>decide (c∈H))=true:=hV.2 ⟨c,e,bp d⟩;rw[this] at h;cases h
       refine gA (DG B l a false) λs ⟨l10,w⟩=>ag (F8 O O O) (i _ ?_);cases K:r.any (λc=>decide (c∈s)) with
       |true=>
        obtain⟨c,e,d⟩:=hV.1 K;obtain⟨X,x,y⟩:=(D c).1 e;obtain⟨_,_,A⟩:=(w c).1 (eQ d);exact(k c.toNat x (.inr ⟨y,A⟩)).symm
       |false=>
        refine(m.2 λc o=>⟨?_,?_⟩).symm
        ·rintro⟨e,d|d⟩
         ·exact v (c:Int) ((C _).2 ⟨O,o,e⟩) ((W _).2 ⟨O,o,d⟩)
         exact u (c:Int) ((C _).2 ⟨O,o,e⟩) ((D _).2 ⟨O,o,d⟩)
        rintro⟨e,d⟩
        have:r.any (λc=>decide (c∈s))=true:=hV.2 ⟨(c:Int),(D _).2 ⟨O,o,e⟩,bp ((w _).2 ⟨O,o,d⟩)⟩;rw[this] at K;cases K
      have L:q.any (λc=>decide (c∈H))=true:=by simpa using h
      obtain⟨c,e,d⟩:=hV.1 L;obtain⟨X,x,y⟩:=(C c).1 e;obtain⟨_,_,A⟩:=(W c).1 (eQ d);exact(k c.toNat x (.inl ⟨y,.inl A⟩)).symm
     have L:q.any (λc=>decide (c∈r))=true:=by simpa using h
     obtain⟨c,e,d⟩:=hV.1 L;obtain⟨X,x,y⟩:=(C c).1 e;obtain⟨_,_,A⟩:=(D c).1 (eQ d);exact(k c.toNat x (.inl ⟨y,.inr A⟩)).symm
 rw[show bU p=false by simpa using l];exact bY (aa.some rfl)
def lH{R:Type}(l:List R)(i:Nat)(a b:R):List R:=l.take i++b::a::l.drop (i+2)
theorem Gy{l:List R}{a b:R}(c:l[i]? =some a)(d:l[i+1]? =some b):l=l.take i++a::b::l.drop (i+2):=by have e:l.drop i=a::l.drop (i+1):=j7 c;have h:l.drop (i+1)=b::l.drop (i+2):=j7 d;rw[<-h,<-e,qN]
noncomputable def pM(p:Prog)(a:Int):Prog×Bool:=
 if jr p a (a+1)=true then
  (match av p.parts a,av p.parts (a+1) with
  |some b,some c=>(⟨p.aY,lH p.parts a.toNat b c⟩,true)
  |_,_=>d')
 else d'
theorem ts{b:Int}(h:jr p a b=true):bU p=true/\(0<=a/\a<(p.parts.length:Int))/\(0<=b/\b<(p.parts.length:Int))/\Bl p a b:=by unfold jr at h;simp only[Bool.and_eq_true] at h;exact⟨h.1,eQ h.2.1,eQ h.2.2.1,IM.1 h.2.2.2.2⟩
theorem Gl(h:jr p a (a+1)=true): ∃(i:Nat) (b c:Part),a=i/\p.parts[i]? =some b/\p.parts[i+1]? =some c/\i+1<p.parts.length:=by
 obtain⟨d,e,k,_⟩:=ts h;obtain⟨i,rfl⟩: ∃i:Nat,a=i:=⟨a.toNat,O⟩
 exact⟨i,_,_,rfl,bg O,bg O,O⟩
theorem FK(h:jr p (i:Int) ((i:Int)+1)=true)(a:p.parts[i]? =some x)(b:p.parts[i+1]? =some P):pM p (i:Int)=(⟨p.aY,lH p.parts i x P⟩,true):=by unfold pM;rw[aW h,a' a,show((i:Int)+1)=((i+1:Nat):Int) by omega,a' b];rfl
theorem YH{l:List R}{a b:R}(c:l[i]? =some a)(d:l[i+1]? =some b){x:R}:x∈lH l i a b↔x∈l:=by
 conv=>rhs;rw[Gy c d]
 unfold lH;simp only[List.mem_append,List.mem_cons];constructor
 ·rintro(h|h|h|h)
  ·exact .inl h
  ·exact .inr (.inr (.inl h))
  ·exact .inr (.inl h)
  exact .inr (.inr (.inr h))
 rintro(h|h|h|h)
 ·exact .inl h
 ·exact .inr (.inr (.inl h))
 ·exact .inr (.inl h)
 exact .inr (.inr (.inr h))
theorem YI{l:List R}{a b:R}(h:i+1<l.length):(lH l i a b).length=l.length:=by unfold lH;simp only[List.length_append,List.length_cons,List.length_take,List.length_drop];omega
theorem YG{l:List R}{a b:R}(e:l[i]? =some a)(c:l[i+1]? =some b):(l.set i b).set (i+1) a=lH l i a b:=by
 have aD:=(bM.1 c).1;have d:(l.take i).length=i:=by rw[cq];omega
 conv=>lhs;rw[Gy e c]
 rw[mn _ _ O,d,kp,sI,mn _ _ O,d,show i+1-i=1 by omega];rfl
theorem GA(a:bU p=true){s:Part}(c:p.parts[i]? =some P)(b:p.parts[i+1]? =some s):bU ⟨p.aY,lH p.parts i P s⟩=true:=by
 have aD:=(bM.1 b).1;unfold bU iO at a⊢;simp only[Bool.and_eq_true,decide_eq_true_eq,List.all_eq_true] at a⊢;obtain⟨⟨aH,a2,a3⟩,a4⟩:=a;refine⟨⟨aH,by rw[YI aD];exact a2,λx d=>a3 x ((YH c b).1 d)⟩,?_⟩;have e:=Gy c b
 have:(p.parts.map fo).sum=((lH p.parts i P s).map fo).sum:=by
  conv=>lhs;rw[e]
  unfold lH;simp only[List.map_append,List.map_cons,List.sum_append,List.sum_cons];omega
 rw[<-this];exact a4
theorem NB(a:bU p=true)(b:p.parts[i]? =some x)(c:p.parts[i+1]? =some P):dK 1100000 ⟨p.aY,lH p.parts i x P⟩:=(kZ (GA a b c)).mono O
theorem YB(l:7810000<=n)(m:dK 1100000 p)(r: -1<=a/\a<=9):C1 n p a=some (pM p a):=by
 unfold C1;rw[bf (n:=a+1) O];refine aa.eq (aa.aI (λz=>z= !jr p a (a+1)) (λj d=>?_) λz o=>?_)
 ·refine aR (λh=>d _ ?_) λh=>aR (λc=>d _ ?_) λc=>ag (aaJ l m.sm a (a+1)) (d _ rfl)
  ·cases b:jr p a (a+1) with
   |false=>rfl
   |true=>have:=ts b;omega
  cases b:jr p a (a+1) with
  |false=>rfl
  |true=>have:=ts b;omega
 subst o;cases b:jr p a (a+1) with
 |false=>
  refine bY (aa.some ?_);unfold pM;rw[aT (by rw[b];simp)];rfl
 |true=>
  refine bS ?_;obtain⟨i,s,k,rfl,e,c,w⟩:=Gl b;rw[FK b e c,show((i:Int)+1)=((i+1:Nat):Int) by omega];refine ag (q9 O (ts b).1) (ag (a' c) (ag (a' e) (ag (dS O _) ?_)));rw[cV];have q:(p.parts.set i k)[i+1]? =some k:=by rw[jT O];exact c
  refine ag (a' q) (ag (dS (by rw[fE];omega) _) (aa.some ?_));rw[cV,YG e c]
theorem YQ(l:7810000<=n)(d:dK 1100000 p)(o: -1<=a/\a<=9):C7 n p a=some (pM p a):=by
 unfold C7;rw[bf (n:=a+1) O];refine aa.eq (ag (kA O d) (ag (aan l d.sm a (a+1)) ?_));cases e:jr p a (a+1) with
 |false=>
  refine bY (aa.some ?_);unfold pM;rw[aT (by rw[e];simp)];rfl
 |true=>
  refine bS ?_;obtain⟨i,h,k,rfl,b,c,q⟩:=Gl e;have bI:=(ts e).1;have m:=d.2.1;rw[FK e b c,show((i:Int)+1)=((i+1:Nat):Int) by omega];refine ag (a' c) (ag (a' b) (ag (x:=(⟨p.aY,lH p.parts i h k⟩,true)) (aa.eq ?_) (aa.some rfl)));unfold ja;refine ag (oV O d) (ag (gQ O O O) ?_);rw[cV,show(0:Int).toNat=0 from rfl,mq];refine ag (x:=p.parts.take i) (cW bX) (ag (x:=p.parts.take i++[k,h]) (cW bX) ?_);rw[bf O];refine ag (gQ O O O) ?_;rw[cV,cT,show((i:Int)+2).toNat=i+2 by omega];refine ag (x:=lH p.parts i h k) ?_ (ag (jw O (NB bI b c).sm) ?_)
  ·rw[cW bX,fs];rfl
  rw[GA bI b c];exact bS (ag (oV O (NB bI b c)) (aa.some rfl))
theorem O3{p:Prog}(c:bU p=true){x:cb}(i:f9 p x): ∀{a:List cb} {m:List Int},(∀y∈a,f9 p y)->(∀y∈a,HE p x y)->rB p.aY m->me p (iV p m x) a=iV p (me p m a) x
 | [],m,_,_,_=>rfl
 |y::a,m,d,e,h=>by show me p (iV p (iV p m x) y) a=iV p (me p (iV p m y) a) x;rw[e y eH m h];exact O3 c i (λz b=>d z (eu _ b)) (λz b=>e z (eu _ b)) (N' c h (d y eH))
theorem block{p:Prog}(b:bU p=true): ∀{X a:List cb} {m:List Int},(∀x∈X,f9 p x)->(∀y∈a,f9 p y)->(∀x∈X,∀y∈a,HE p x y)->rB p.aY m->me p (me p m X) a=me p (me p m a) X
 | [],a,m,_,_,_,_=>rfl
 |x::X,a,m,c,e,h,i=>by show me p (me p (iV p m x) X) a=me p (iV p (me p m a) x) X;rw[block b (λz d=>c z (eu _ d)) e (λz d=>h z (eu _ d)) (N' b i (c x eH)),O3 b (c x eH) e (h x eH) i]
def nA(a b:Loop):Bool:=pr a.lo b.lo&&pr a.aD b.aD
def pB(a b:List Loop):Bool:=ki nA a b
theorem Ub(d:5500000<=n){a b:List Loop}(c:pI a):DU n a b=some (pB a b):=by unfold DU Jj;refine aa.eq (ag (FN (p:=nA) (f:=λk l=>x2 n k l) (λx h y _=>?_) (by have:=c.1;omega) (by have:=c.1;omega)) (aa.some rfl));unfold x2 nA;refine aa.eq (aa.aI (λz=>z=(pr x.lo y.lo&&pr x.aD y.aD)) (λj i=>ag (Kb d (c.2 x h).1) (aa.cond (λe=>ag (Kb d (c.2 x h).2) (i _ (by rw[e];rfl))) λe=>i _ (by rw[e];rfl))) λz m=>aa.some m)
theorem TV(m:5500000<=n){a b:List Loop}(o:pI a):DI n a b=some (pB a b):=by
 unfold DI pB;have b9:=o.1;refine aa.eq (dZ (λh=>aa.some ?_) λh=>?_)
 ·cases c:ki nA a b with
  |false=>rfl
  |true=>exact bt (by rw[EO c]) h
 refine aa.loop (λx:Int=> ∃i:Nat,x=i/\i<=a.length/\ki nA (a.drop i) (b.drop i)=ki nA a b) (λx=>a.length-x.toNat) ?_ n 0 ⟨0,rfl,O,rfl⟩ O;rintro k x ⟨i,rfl,G,c⟩ y;refine aR (λA=>?_) λB=>aa.some ?_
 ·have p:i<a.length:=O
  have q:i<b.length:=O
  have d:=bg p;have l:=bg q;have r:=o.2 _ (bC d);rw[kn p,kn q] at c;simp only[ki] at c;refine aa.aI (λz=>z= !nA a[i] b[i]) (λj s=>?_) λz C=>?_
  ·refine ag (a' d) (ag (a' l) (ag (J' m r.1) (aa.cond (λe=>s _ ?_) λe=>ag (J' m r.2) (s _ ?_))))
   ·unfold nA;rw[re e];rfl
   unfold nA;rw[pA e];rfl
  subst C;cases w:nA a[i] b[i] with
  |false=>rw[w] at c;exact bY (aa.some c)
  |true=>
   rw[w,eW] at c;refine bS ?_;rw[bf O];exact y _ ⟨i+1,O,O,c⟩ O
 have D:a.drop i=[]:=ko O;have F:b.drop i=[]:=ko O;rw[D,F] at c;exact c
def h7:List Int->List Int->Bool
 |a::as,b::c=>if a=b then h7 as c else decide (a<b)
 | [],_::_=>true
 |_,[]=>false
theorem MQ{p:List Int}(A:p.length<n)(B:p.length<=1100000)(C:q.length<=1100000):yP n p q=some (h7 p q):=by
 unfold yP;refine aa.eq (aa.loop (λx:Int=> ∃i:Nat,x=i/\i<=p.length/\i<=q.length/\h7 (p.drop i) (q.drop i)=h7 p q) (λx=>p.length-x.toNat) ?_ n 0 ⟨0,rfl,O,O,rfl⟩ O);rintro b x ⟨i,rfl,D,F,a⟩ m;refine aa.aI (λz=>z=decide (i<p.length/\i<q.length)) (λj l=>aR (λh=>l _ ?_) λh=>l _ ?_) λz o=>?_
 ·rw[fD];simp only[decide_eq_true_eq];omega
 ·exact(bs O).symm
 subst o;refine aR (λh=>?_) λh=>aa.some ?_
 ·have c:=bg h.1;have d:=bg h.2;rw[kn h.1,kn h.2] at a;simp only[h7] at a;refine ag (a' c) (ag (a' d) (dZ (λk=>aa.some ?_) λr=>?_))
  ·rw[aT k] at a;exact a
  rw[aW r] at a;rw[bf O];exact m _ ⟨i+1,O,O,O,a⟩ O
 rw[<-a];by_cases e:i<p.length
 ·have s:q.drop i=[]:=ko O;rw[s,kn e];simp only[h7];exact bs O
 have w:p.drop i=[]:=ko O;rw[w];by_cases y:i<q.length
 ·rw[kn y];simp only[h7];exact bp O
 rw[ko (O:q.length<=i)];simp only[h7];exact bs O
theorem W5(n:Nat)(x y:Int):BZ n x y=some (if x<y then-1 else if y<x then 1 else 0):=by
 unfold BZ Ce;simp only[Option.bind,decide_true,Bool.not_true,cond_false];by_cases h:x<y
 ·rw[bp h,aW h];rfl
 rw[bs h,aT h];by_cases a:y<x
 ·rw[bp a,aW a];rfl
 rw[bs a,aT a];rfl
theorem aaN{p:List Int}(C:p.length<n)(D:p.length<=1100000)(F:q.length<=1100000):zp n p q=some (h7 p q):=by
 unfold zp JC;refine aa.eq (gA (P:=λc:Int=>decide (c<0)=h7 p q) ?_ λc w=>aa.some w);refine aa.loop (λx:Int=> ∃i:Nat,x=i/\i<=p.length/\i<=q.length/\h7 (p.drop i) (q.drop i)=h7 p q) (λx=>p.length-x.toNat) ?_ n 0 ⟨0,rfl,O,O,rfl⟩ O;rintro d x ⟨i,rfl,G,H,a⟩ y;refine aR (λz=>?_) λA=>?_
 ·have e:i<p.length:=O
  have k:=bg e;refine ag (a' k) (aR (λh=>aa.some ?_) λh=>?_)
  ·rw[<-a,ko (O:q.length<=i),kn e];simp[h7]
  have r:i<q.length:=O
  have l:=bg r;rw[kn e,kn r] at a;simp only[h7] at a;refine ag (a' l) (ag (W5 n _ _) ?_);by_cases b:p[i]<q[i]
  ·rw[aW b];refine dZ (λ_=>aa.some ?_) λm=>bt m O;rw[aT O] at a;rw[<-a,bp b];rfl
  rw[aT b];by_cases s:q[i]<p[i]
  ·rw[aW s];refine dZ (λ_=>aa.some ?_) λm=>bt m O;rw[aT O] at a;rw[<-a,bs b];rfl
  rw[aT s];refine dZ (λo=>bt rfl o) λ_=>?_;rw[aW O] at a;rw[bf O];exact y _ ⟨i+1,O,O,O,a⟩ O
 have B:p.drop i=[]:=ko O;rw[B] at a;refine aR (λh=>aa.some ?_) λh=>aa.some ?_
 ·rw[<-a,kn (O:i<q.length)];rfl
 rw[<-a,ko (O:q.length<=i)];rfl
def kt(p:Prog)(i many:Nat)(a:List Part):Prog:=⟨p.aY,p.parts.take i++a++p.parts.drop (i+many)⟩
theorem Ay(a:dK 900 p)(e:ys.length<=4)(c: ∀y∈ys,hB 1100000 y):dK 1100000 (kt p i many ys):=by
 have d:=a.2.1;refine⟨(a.mono (O:900<=1100000)).1,?_,λx b=>?_⟩
 ·show(p.parts.take i++ys++p.parts.drop (i+many)).length<=1100000;simp only[List.length_append,List.length_take,List.length_drop];omega
 have b:x∈p.parts.take i++ys++p.parts.drop (i+many):=b;simp only[List.mem_append] at b;rcases b with (h|h)|h
 ·exact(a.mono (O:900<=1100000)).2.2 x (fU h)
 ·exact c x h
 exact(a.mono (O:900<=1100000)).2.2 x (eV h)
theorem Fv(d:7700000<=n)(a:dK 900 p)(m:i+many<=p.parts.length)(e:ys.length<=4)(k: ∀y∈ys,hB 1100000 y):ja n p (i:Int) (many:Int) ys=some (hr (kt p i many ys)):=by
 have l:=a.2.1;have b:=a.mono (O:900<=1100000);have c:=Ay a (i:=i) (many:=many) e k;unfold ja hr;refine aa.eq (ag (oV O b) (ag (gQ O O O) ?_));rw[cV,show(0:Int).toNat=0 from rfl,mq];refine ag (x:=p.parts.take i) (cW bX) (ag (x:=p.parts.take i++ys) (cW bX) ?_);rw[bf O];refine ag (gQ O O O) ?_;rw[cV,cT,show((i:Int)+(many:Int)).toNat=i+many by omega];refine ag (x:=(kt p i many ys).parts) ?_ ?_;rotate_left;show aa (Option.bind (jx n (kt p i many ys)) _) _;refine(ag (jw d c.sm) (aa.cond (λh=>aa.some ?_) λh=>?_))
 ·rw[aT (by simpa using h)]
 ·rw[aW (by simpa using h)];exact ag (oV O c) (aa.some rfl)
 rw[cW bX];rfl
def mG(p:Prog)(c:Int)(d:fu):Bool:=match (bk p.parts)[d.ew.toNat]?,(bk p.parts)[d.eA.toNat]? with
 |some a,some b=>decide (a.part=c)&&(decide (b.part=c+1)&&h7 b.cF a.cF)
 |_,_=>false
def ry(a b:Part):Part:=⟨a.nest,a.body++b.body⟩
abbrev nv(p:Prog):List fu:=fR p (bk p.parts) (bk p.parts).length
def Hk(p:Prog)(a:Int)(b c:Part):Bool:=pB b.nest c.nest&& !(nv p).any (mG p a)
def tL(p:Prog)(a:Int):Prog×Bool:=
 if bU p=true/\ea p a=true then
  (match av p.parts a,av p.parts (a+1) with
  |some b,some c=>if Hk p a b c=true then hr (kt p a.toNat 2 [ry b c]) else d'
  |_,_=>d')
 else d'
theorem AH(c:bU p=true){d:fu}(i:d∈nv p): ∃(s t:Nat) (a b:cb),d.ew=s/\d.eA=t/\(bk p.parts)[s]? =some a/\(bk p.parts)[t]? =some b/\s<t/\a.cF.length<=4/\b.cF.length<=4:=by obtain⟨s,t,k,l,_,rfl⟩:=MI.1 i;have e:=bg (O:s<(bk p.parts).length);have h:=bg l;exact⟨s,t,_,_,rfl,rfl,e,h,k,QJ c (gR (bC e)),QJ c (gR (bC h))⟩
theorem zt(b:bU p=true):(nv p).length<=14400:=by have c:=yV p (bk p.parts) (bk p.parts).length;have a:=(eg b).2.2.2.2;have d:(bk p.parts).length*(bk p.parts).length<=120*120:=nh a a;exact fF c d
theorem zz(l:7700000<=n)(e:dK 1100000 p)(a:Int):jH n p a (-1)=some (if bU p=true/\ea p a=true then(p,true) else d'):=by
 unfold jH;refine aa.eq (aa.aI (λz=>z= !(bU p&&ea p a)) (λj c=>?_) λz m=>?_)
 ·refine ag (rK l e.sm) (aa.cond (λh=>c _ (by rw[re h];rfl)) λh=>?_);have bI:=pA h;refine ag (qs n e.2.1 a) (aa.cond (λd=>c _ ?_) λd=>dZ (λh=>(h rfl).elim) λ_=>c _ ?_)
  ·rw[bI,show ea p a=false from re d];rfl
  rw[bI,show ea p a=true from pA d];rfl
 subst m;refine aa.cond (λh=>aa.some ?_) λh=>?_
 ·have:=re h;rw[aT λi=>by rw[i.1,i.2] at this;cases this];rfl
 have:=pA h;simp only[Bool.and_eq_true] at this;obtain⟨bI,k⟩:=this;rw[aW ⟨bI,k⟩];have b:0<=a/\a<(p.parts.length:Int):=eQ k;obtain⟨x,o,_⟩:=oC b.1 b.2;exact ag (q9 O bI) (ag o (aa.some rfl))
theorem abG{s:List Part}{j:Nat}(b:i<j)(c:j<=s.length): ∃r,uL n s (i:Int) (j:Int)=some r/\r.2.take r.1=s.take i++s.drop j:=by
 refine⟨(eF s i j,jt s i j (⟨[],[]⟩:Part)),?_,?_⟩
 ·unfold uL;rw[bp (show(0:Int)<=(i:Int) by omega),bp (show(i:Int)<=(j:Int) by omega),bp (show(j:Int)<=(s.length:Int) by omega),bs (show¬(i:Int)=(j:Int) by omega)];rfl
 dsimp only;have a:(s.take (i:Int).toNat++s.drop (j:Int).toNat).length=eF s i j:=by
  unfold eF;simp only[List.length_append,List.length_take,List.length_drop];omega
 unfold jt;rw[ng (by rw[a];exact cD _),fG (l:=s.take (i:Int).toNat++s.drop (j:Int).toNat) (by rw[a];exact cD _),cV,cV]
theorem Ng(b:bU p=true)(c:x∈p.parts)(d:P∈p.parts):hB 1100000 (ry x P):=by
 obtain⟨_,_,a⟩:=kZ b;obtain⟨aH,a2,a3⟩:=a x c;obtain⟨k,l,e⟩:=a P d;refine⟨aH.mono O,?_,λs i=>?_⟩
 ·show(x.body++P.body).length<=1100000;rw[cP];omega
 rcases ef.1 (show s∈x.body++P.body from i) with h|h
 ·exact(a3 s h).mono O
 exact(e s h).mono O
theorem YE(cu:22000000<=n)(H:dK 1100000 p)(aV: -1<=c/\c<=9):Ds n p c=some (tL p c):=by
 unfold Ds tL;refine aa.eq (ag (zz O H c) ?_);by_cases A:bU p=true/\ea p c=true
 ·rw[aW A,aW A];obtain⟨o,U⟩:=A;have V:0<=c/\c<(p.parts.length:Int):=eQ U;obtain⟨i,rfl⟩: ∃i:Nat,c=i:=⟨c.toNat,O⟩
  have e:=bg (O:i<p.parts.length);have K:=a' e;generalize Y:p.parts[i]=l at K e;have BL:=(eg o).2.2.1;refine bY (ag K ?_);rw[bf (n:=(i:Int)+1) O,bf (n:=(i:Int)+2) O,K];by_cases B:i+1<p.parts.length
  ·have w:=bg B;generalize ah9:p.parts[i+1]=m at w;have L:av p.parts ((i:Int)+1)=some m:=a' w;have m1:=bC e;have v:=bC w;rw[L];dsimp only;refine aa.aI (λz=>z= !pB l.nest m.nest) (λj q=>aR (λh=>bt h O) λ_=>ag rfl (ag (Ub O (H.sm.2.2 l m1).1) (q _ rfl))) λz C=>?_;subst C;unfold Hk;cases hne:pB l.nest m.nest with
   |false=>exact bY (aa.some rfl)
   |true=>
    refine bS (ag (u6 O H.sm) ?_);rw[aW o];refine bY (ag (Fl O o) ?_);have Q:=zt o;have R: ∀d∈nv p,d∈nv p:=λ_ h=>h;show aa (bc _ n 0) _;rw[eW];generalize E:nv p=D at Q R;rw[show fR p (bk p.parts) (bk p.parts).length=D from E];refine aa.loop (λx:Int=> ∃k:Nat,x=k/\k<=D.length/\(D.take k).any (mG p (i:Int))=false) (λx=>D.length-x.toNat) ?_ n 0 ⟨0,rfl,O,rfl⟩ O;rintro W x ⟨k,rfl,hk,X⟩ bO;refine aR (λhlt=>?_) λiI=>?_
    ·have cn:=bg (O:k<D.length);generalize Ii:D[k]=d at cn;obtain⟨s,t,a,b,I,M,N,P,oS,I6,I9⟩:=AH o (E▸bC cn);refine ag (a' cn) (ag (x:=a) (by rw[I];exact a' N) (ag (x:=b) (by rw[M];exact a' P) ?_));have F:mG p (i:Int) d=(decide (a.part=(i:Int))&&(decide (b.part=(i:Int)+1)&&h7 b.cF a.cF)):=by
      unfold mG;rw[I,M,Int.toNat_natCast,Int.toNat_natCast,N,P]
     refine aa.aI (λz=>z=mG p (i:Int) d) (λj q=>?_) λz C=>?_
     ·rw[F] at q;refine aR (λG=>aR (λB=>ag (aaN O O O) (q _ ?_)) λB=>q _ ?_) λG=>q _ ?_
      ·rw[bp G,bp B];rfl
      ·rw[bp G,bs B];rfl
      rw[bs G];rfl
     subst C;refine aa.cond (λh=>aa.some ?_) λh=>?_
     ·rw[aT]; · rfl
      have:D.any (mG p (i:Int))=true:=hV.2 ⟨d,bC cn,h⟩;rw[this];simp
     rw[bf O];exact bO _ ⟨k+1,O,O,by rw[fw cn,sK,X];simp[h]⟩ O
    rw[fG O] at X;rw[X,aW (by rfl)];have hq:=Ay (i:=i) (many:=2) (ys:=[ry l m]) ((kZ o).mono (O:4<=900)) a1 λy S=>by rw[kU] at S;subst S;exact Ng o m1 v
    obtain⟨_,_,T⟩:=kZ o;have cS:=(T l m1).2.1;have cd:=(T m v).2.1;obtain⟨r,f,g⟩:=abG (n:=n) (s:=p.parts.set i (ry l m)) (i:=i+1) (j:=i+2) O (by rw[fE];omega);refine ag rfl (ag (x:=l.body++m.body) (cW O) (ag (x:=p.parts.set i (ry l m)) (dS O _) (ag (x:=r) f ?_)));have u:(⟨p.aY,r.2.take r.1⟩:Prog)=kt p i 2 [ry l m]:=by
     unfold kt;rw[g];congr 1;rw[List.take_set,pj O,dV,e,mn _ _ (by rw[cq];omega)]
     have:i-(p.parts.take i).length=0:=by rw[cq];omega
     rw[this];rfl
    rw[u,cV];exact ag (qk O hq) (aa.some rfl)
  have L:av p.parts ((i:Int)+1)=none:=wW O;rw[L];refine aa.aI (λz=>z=true) (λj q=>aR (λ_=>q _ rfl) λh=>bt (show(p.parts.length:Int)<=(i:Int)+1 by omega) h) λz C=>?_;rw[C];exact bY (aa.some rfl)
 rw[aT A,aT A];exact bS (aa.some rfl)
theorem YT(cu:22000000<=n)(A:dK 1100000 p)(aV: -1<=c/\c<=9):Db n p c=some (tL p c):=by
 unfold Db tL;refine aa.eq (ag (kA O A) ?_);by_cases F:bU p=true/\ea p c=true
 ·rw[aW F];obtain⟨e,W⟩:=F;have P:0<=c/\c<(p.parts.length:Int):=eQ W;obtain⟨i,rfl⟩: ∃i:Nat,c=i:=⟨c.toNat,O⟩
  have m:=bg (O:i<p.parts.length);have X:=a' m;generalize S:p.parts[i]=o at X m;have H:=(eg e).2.2.1;rw[bf (n:=(i:Int)+1) O,bf (n:=(p.parts.length:Int)-1) O,X];by_cases q:i+1<p.parts.length
  ·have r:=bg q;generalize T:p.parts[i+1]=B at r;have K:av p.parts ((i:Int)+1)=some B:=a' r;have m1:=bC m;have f:=bC r;rw[K];dsimp only;refine aa.aI (λz=>z= !pB o.nest B.nest) (λj l=>ag (jw O A.sm) ?_) λz w=>?_
   ·rw[e];refine bS (aR (λh=>bt h O) λ_=>aR (λh=>bt h O) λ_=>ag rfl (ag rfl (ag (TV O (A.sm.2.2 o m1).1) (l _ rfl))))
   subst w;unfold Hk;cases U:pB o.nest B.nest with
   |false=>exact bY (aa.some rfl)
   |true=>
    refine bS (ag (uD O e) (ag (EP O e) ?_));have L:=zt e;rw[eW];generalize g:nv p=D at L;rw[show fR p (bk p.parts) (bk p.parts).length=D from g];refine aa.loop (λx:Int=> ∃k:Nat,x=k/\k<=D.length/\(D.take k).any (mG p (i:Int))=false) (λx=>D.length-x.toNat) ?_ n 0 ⟨0,rfl,O,rfl⟩ O;rintro Q x ⟨k,rfl,hk,R⟩ V;refine aR (λY=>?_) λiI=>?_
    ·have cn:=bg (O:k<D.length);generalize Ii:D[k]=d at cn;obtain⟨s,t,a,b,u,v,E,I,oS,I6,I9⟩:=AH e (g▸bC cn);refine ag (a' cn) (ag (x:=a) (by rw[u];exact a' E) (ag (x:=b) (by rw[v];exact a' I) ?_));have C:mG p (i:Int) d=(decide (a.part=(i:Int))&&(decide (b.part=(i:Int)+1)&&h7 b.cF a.cF)):=by
      unfold mG;rw[u,v,Int.toNat_natCast,Int.toNat_natCast,E,I]
     refine aa.aI (λz=>z=mG p (i:Int) d) (λj l=>?_) λz w=>?_
     ·rw[C] at l;refine aR (λG=>aR (λq=>ag (MQ O O O) (l _ ?_)) λq=>l _ ?_) λG=>l _ ?_
      ·rw[bp G,bp q];rfl
      ·rw[bp G,bs q];rfl
      rw[bs G];rfl
     subst w;refine aa.cond (λh=>aa.some ?_) λh=>?_
     ·rw[aT]; · rfl
      have:D.any (mG p (i:Int))=true:=hV.2 ⟨d,bC cn,h⟩;rw[this];simp
     rw[bf O];exact V _ ⟨k+1,O,O,by rw[fw cn,sK,R];simp[h]⟩ O
    rw[fG O] at R;rw[R,aW (by rfl)];obtain⟨_,_,M⟩:=kZ e;have cS:=(M o m1).2.1;have cd:=(M B f).2.1;refine ag rfl (ag (x:=o.body) (cW bX) (ag rfl (ag (x:=o.body++B.body) (cW O) ?_)));have hw:=Fv (n:=n) O ((kZ e).mono (O:4<=900)) (i:=i) (many:=2) O (ys:=[ry o B]) a1 λy N=>by rw[kU] at N;subst N;exact Ng e m1 f
    rw[cV];exact ag hw (aa.some rfl)
  have K:av p.parts ((i:Int)+1)=none:=wW O;rw[K];refine aa.aI (λz=>z=true) (λj l=>ag (jw O A.sm) ?_) λz w=>?_
  ·rw[e];exact bS (aR (λh=>bt h O) λ_=>aR (λ_=>l _ rfl) λh=>bt (show(p.parts.length:Int)-1<=(i:Int) by omega) h)
  rw[w];exact bY (aa.some rfl)
 rw[aT F];refine aa.aI (λz=>z=true) (λj l=>ag (jw O A.sm) ?_) λz w=>by rw[w];exact bY (aa.some rfl)
 by_cases e:bU p=true
 ·have W: ¬(0<=c/\c<(p.parts.length:Int)):=λh=>F ⟨e,bp h⟩;rw[e];have H:=A.2.1;rw[bf (n:=(p.parts.length:Int)-1) O];exact bS (aR (λ_=>l _ rfl) λh=>aR (λ_=>l _ rfl) λq=>bt (show(p.parts.length:Int)-1<=c by omega) q)
 rw[show bU p=false by simpa using e];exact bY (l _ rfl)
def mH(p:Prog)(c k:Int)(d:fu):Bool:=match (bk p.parts)[d.ew.toNat]?,(bk p.parts)[d.eA.toNat]? with
 |some a,some b=>decide (a.part=c)&&(decide (b.part=c)&&(decide (k<=a.stmt)&&decide (b.stmt<k)))
 |_,_=>false
def G'(p:Prog)(a k:Int)(P:Part):Bool:=decide (1<=k/\k<(P.body.length:Int))&& !(nv p).any (mH p a k)
def nn(P:Part)(k:Nat):Part:=⟨P.nest,P.body.take k⟩
def rp(P:Part)(k:Nat):Part:=⟨P.nest,P.body.drop k⟩
def tQ(p:Prog)(a k:Int):Prog×Bool:=
 if bU p=true/\ea p a=true then
  (match av p.parts a with
  |some P=>if G' p a k P=true then hr (kt p a.toNat 1 [nn P k.toNat,rp P k.toNat]) else d'
  |none=>d')
 else d'
theorem M9(c:bU p=true)(d:P∈p.parts)(k:Nat): ∀y∈[nn P k,rp P k],hB 1100000 y:=by
 obtain⟨_,_,e⟩:=kZ c;obtain⟨aH,a2,a3⟩:=e P d;intro y b;simp only[List.mem_cons,List.not_mem_nil,or_false] at b;rcases b with rfl|rfl
 ·refine⟨aH.mono O,?_,λs a=>(a3 s (fU a)).mono O⟩;show(P.body.take k).length<=1100000;rw[cq];omega
 refine⟨aH.mono O,?_,λs a=>(a3 s (eV a)).mono O⟩;show(P.body.drop k).length<=1100000;rw[eX];omega
theorem Ov{s:List Part}{v:List Part}(a:i<=s.length)(b:s.length+v.length<=1000000000):uJ n s (i:Int) v=some (s.take i++v++s.drop i):=by unfold uJ;rw[bp (show(0:Int)<=(i:Int) by omega),bp (show(i:Int)<=(s.length:Int) by omega),cond_true,cond_true,cV];exact cW (by simp only[List.length_append,List.length_take,List.length_drop];omega)
theorem Yc(cu:22000000<=n)(f:dK 1100000 p){k:Int}(aV: -1<=c/\c<=9):Cb n p c k=some (tQ p c k):=by
 unfold Cb tQ;refine aa.eq (ag (zz O f c) ?_);by_cases o:bU p=true/\ea p c=true
 ·rw[aW o,aW o];obtain⟨l,S⟩:=o;have T:0<=c/\c<(p.parts.length:Int):=eQ S;obtain⟨i,rfl⟩: ∃i:Nat,c=i:=⟨c.toNat,O⟩
  have e:=bg (O:i<p.parts.length);have y:=a' e;generalize U:p.parts[i]=P at y e;have V:=(eg l).2.2.1;have m1:=bC e;have r:=(eg l).2.2.2.1 P m1;obtain⟨A,B⟩:=f5 r;obtain⟨_,Y,Qd,_⟩:=fX r;refine bY (ag y ?_);rw[bf (n:=(i:Int)+1) O,bf (n:=(P.body.length:Int)-1) O,y];dsimp only;refine aa.aI (λz=>z= !decide (1<=k/\k<(P.body.length:Int))) (λj g=>ag (iC n k 1 _) (g _ ?_)) λz C=>?_
  ·congr 1;rw[fD];simp only[decide_eq_true_eq];omega
  subst C;unfold G';cases F:decide (1<=k/\k<(P.body.length:Int)) with
  |false=>exact bY (aa.some rfl)
  |true=>
   have hk:=eQ F;obtain⟨t,rfl⟩: ∃t:Nat,k=t:=⟨k.toNat,O⟩
   refine bS (ag (u6 O f.sm) ?_);rw[aW l];refine bY (ag (Fl O l) ?_);have G:=zt l;show aa (bc _ n 0) _;rw[eW];generalize v:nv p=D at G;rw[show fR p (bk p.parts) (bk p.parts).length=D from v];refine aa.loop (λx:Int=> ∃j:Nat,x=j/\j<=D.length/\(D.take j).any (mH p (i:Int) (t:Int))=false) (λx=>D.length-x.toNat) ?_ n 0 ⟨0,rfl,O,rfl⟩ O;rintro H x ⟨j,rfl,g,K⟩ bO;refine aR (λhlt=>?_) λiI=>?_
   ·have cn:=bg (O:j<D.length);generalize Ii:D[j]=d at cn;obtain⟨s,u,a,b,E,I,M,N,oS,I6,I9⟩:=AH l (v▸bC cn);refine ag (a' cn) (ag (x:=a) (by rw[E];exact a' M) (ag (x:=b) (by rw[I];exact a' N) ?_));have w:mH p (i:Int) (t:Int) d=(decide (a.part=(i:Int))&&(decide (b.part=(i:Int))&&(decide ((t:Int)<=a.stmt)&&decide (b.stmt<(t:Int))))):=by
     unfold mH;rw[E,I,Int.toNat_natCast,Int.toNat_natCast,M,N]
    refine aa.aI (λz=>z=mH p (i:Int) (t:Int) d) (λq m=>?_) λz C=>?_
    ·rw[w] at m;refine aR (λL=>aR (λQ=>aR (λR=>m _ ?_) λR=>m _ ?_) λQ=>m _ ?_) λL=>m _ ?_
     ·rw[bp L,bp Q,bp R];simp
     ·rw[bs R];simp
     ·rw[bs Q];simp
     rw[bs L];rfl
    subst C;refine aa.cond (λh=>aa.some ?_) λh=>?_
    ·rw[aT]; · rfl
     have:D.any (mH p (i:Int) (t:Int))=true:=hV.2 ⟨d,bC cn,h⟩;rw[this];simp
    rw[bf O];exact bO _ ⟨j+1,O,O,by rw[fw cn,sK,K];simp[h]⟩ O
   rw[fG O] at K;rw[K,aW (by rfl)];have m:=Ay (i:=i) (many:=1) (ys:=[nn P t,rp P t]) ((kZ l).mono (O:4<=900)) a1 (M9 l m1 t);refine ag (Lf O A B) (ag (gQ O O O) ?_);rw[cV,cV,cT];refine ag (x:=P.body.drop t) ?_ (ag (gQ O O O) ?_)
   ·unfold JS
    have:(P.body.drop t).isEmpty=false:=by
     cases W:P.body.drop t with
     |nil=>
      have:=congrArg List.length W;rw[eX,List.length_nil] at this;omega
     |cons=>rfl
    rw[this,cond_false];rw[cW bX];rfl
   rw[cV,show(0:Int).toNat=0 from rfl,mq];refine ag (x:=p.parts.set i (nn P t)) (dS O _) (ag (Ov (i:=i+1) (by rw[fE];omega) (by rw[fE];simp;omega)) ?_);have X:(⟨p.aY,(p.parts.set i (nn P t)).take (i+1)++[rp P t]++(p.parts.set i (nn P t)).drop (i+1)⟩:Prog)=kt p i 1 [nn P t,rp P t]:=by
    unfold kt;congr 1;rw[List.take_set,pj O,dV,e,mn _ _ (by rw[cq];omega)]
    have:i-(p.parts.take i).length=0:=by rw[cq];omega
    rw[this];simp
   show aa (Option.bind (k9 n (⟨p.aY,(p.parts.set i (nn P t)).take (i+1)++[rp P t]++(p.parts.set i (nn P t)).drop (i+1)⟩:Prog)) _) _;rw[X];simp only[Int.toNat_natCast];exact ag (qk O m) (aa.some rfl)
 rw[aT o,aT o];exact bS (aa.some rfl)
theorem YV(cu:22000000<=n)(B:dK 1100000 p){k:Int}(aV: -1<=c/\c<=9):B6 n p c k=some (tQ p c k):=by
 unfold B6 tQ;refine aa.eq (ag (kA O B) ?_);by_cases A:bU p=true/\ea p c=true
 ·rw[aW A];obtain⟨e,R⟩:=A;have I:0<=c/\c<(p.parts.length:Int):=eQ R;obtain⟨i,rfl⟩: ∃i:Nat,c=i:=⟨c.toNat,O⟩
  have l:=bg (O:i<p.parts.length);have W:=a' l;generalize M:p.parts[i]=P at W l;have N:=(eg e).2.2.1;have m1:=bC l;have C:=(eg e).2.2.2.1 P m1;obtain⟨_,S,T,_⟩:=fX C;rw[W];dsimp only;refine aa.aI (λz=>z= !decide (1<=k/\k<(P.body.length:Int))) (λj m=>ag (jw O B.sm) ?_) λz o=>?_
  ·rw[e];refine bS (aR (λh=>bt h O) λ_=>aR (λh=>bt h O) λ_=>aR (λh=>m _ ?_) λh=>ag rfl (m _ ?_))
   ·rw[bs O];rfl
   rw[fD];simp only[Bool.not_eq_true',decide_eq_true_eq,decide_eq_false_iff_not];omega
  subst o;unfold G';cases F:decide (1<=k/\k<(P.body.length:Int)) with
  |false=>exact bY (aa.some rfl)
  |true=>
   have hk:=eQ F;obtain⟨t,rfl⟩: ∃t:Nat,k=t:=⟨k.toNat,O⟩
   refine bS (ag (uD O e) (ag (EP O e) ?_));have G:=zt e;rw[eW];generalize X:nv p=D at G;rw[show fR p (bk p.parts) (bk p.parts).length=D from X];refine aa.loop (λx:Int=> ∃j:Nat,x=j/\j<=D.length/\(D.take j).any (mH p (i:Int) (t:Int))=false) (λx=>D.length-x.toNat) ?_ n 0 ⟨0,rfl,O,rfl⟩ O;rintro H x ⟨j,rfl,m,K⟩ U;refine aR (λV=>?_) λY=>?_
   ·have cn:=bg (O:j<D.length);generalize Ii:D[j]=d at cn;obtain⟨s,u,a,b,f,g,v,E,oS,I6,I9⟩:=AH e (X▸bC cn);refine ag (a' cn) (ag (x:=a) (by rw[f];exact a' v) (ag (x:=b) (by rw[g];exact a' E) ?_));have r:mH p (i:Int) (t:Int) d=(decide (a.part=(i:Int))&&(decide (b.part=(i:Int))&&(decide ((t:Int)<=a.stmt)&&decide (b.stmt<(t:Int))))):=by
     unfold mH;rw[f,g,Int.toNat_natCast,Int.toNat_natCast,v,E]
    refine aa.aI (λz=>z=mH p (i:Int) (t:Int) d) (λq w=>?_) λz o=>?_
    ·rw[r] at w;refine aR (λL=>aR (λy=>aR (λQ=>w _ ?_) λQ=>w _ ?_) λy=>w _ ?_) λL=>w _ ?_
     ·rw[bp L,bp y,bp Q];simp
     ·rw[bs Q];simp
     ·rw[bs y];simp
     rw[bs L];rfl
    subst o;refine aa.cond (λh=>aa.some ?_) λh=>?_
    ·rw[aT]; · rfl
     have:D.any (mH p (i:Int) (t:Int))=true:=hV.2 ⟨d,bC cn,h⟩;rw[this];simp
    rw[bf O];exact U _ ⟨j+1,O,O,by rw[fw cn,sK,K];simp[h]⟩ O
   rw[fG O] at K;rw[K,aW (by rfl)];refine ag rfl (ag (gQ O O O) (ag (gQ O O O) ?_));rw[cV,cV,cT,show(0:Int).toNat=0 from rfl,mq,cV];have hw:=Fv (n:=n) O ((kZ e).mono (O:4<=900)) (i:=i) (many:=1) O (ys:=[nn P t,rp P t]) a1 (M9 e m1 t);exact ag hw (aa.some rfl)
 rw[aT A];refine aa.aI (λz=>z=true) (λj m=>ag (jw O B.sm) ?_) λz o=>by rw[o];exact bY (aa.some rfl)
 by_cases e:bU p=true
 ·have R: ¬(0<=c/\c<(p.parts.length:Int)):=λh=>A ⟨e,bp h⟩;rw[e];exact bS (aR (λ_=>m _ rfl) λh=>aR (λ_=>m _ rfl) λy=>bt (show(p.parts.length:Int)<=c by omega) y)
 rw[show bU p=false by simpa using e];exact bY (m _ rfl)
def jq(k:Nat)(x:az):az:=⟨(x.aU.take k++0::x.aU.drop k).take 4,x.const⟩
def fM(c:Int):az:=⟨[0,0,0,0],c⟩
def mm(k:Nat)(s c:Int):az:=⟨[0,0,0,0].set k s,c⟩
theorem Ox(k:Nat): ∀x,cN x=true->eR 4 (jq k x):=λx a=>by unfold eR jq;rw[cq];omega
theorem YJ(l:5500000<=n)(m:k<3): ∀x,cN x=true->uN n x (k:Int)=some (jq k x):=λx h=>by obtain⟨i,_,_⟩:=fx h;obtain⟨a,b,c,d,e⟩:=lR i;unfold uN;rw[zh n x h];obtain⟨cs,jJ⟩:=x;dsimp only at e;subst e;rcases(O:k=0\/k=1\/k=2) with rfl|rfl|rfl<;>rfl
theorem adt(m:Nat)(a b c d e:Int)(B:az)(h:k<3):jb (m+6) ⟨[a,b,c,d],e⟩ 2 (k:Int) B=some (jq k ⟨[a,b,c,d],e⟩):=by rcases(O:k=0\/k=1\/k=2) with rfl|rfl|rfl<;>rfl
theorem ZN(h:k<3)(B:az): ∀n,5500000<=n-> ∀x,cN x=true->jb n x 2 (k:Int) B=some (jq k x):=λn o x i=>by
 obtain⟨m,rfl⟩: ∃m,n=m+6:=⟨n-6,O⟩
 obtain⟨l,_,_⟩:=fx i;obtain⟨a,b,c,d,e⟩:=lR l;obtain⟨cs,jJ⟩:=x;dsimp only at e;subst e;exact adt m a b c d jJ B h
def ji(l:List az):Bool:=l.all λa=>decide (eD a.aU=0)
def eE(l:Loop):Bool:=decide (l.lo.length=1)&&(decide (l.aD.length=1)&&(ji l.lo&&ji l.aD))
def da(l:List az):Int:=(l.headD ⟨[],0⟩).const
theorem LN(b:5500000<=n){l:List az}(e:l.length<=2)(c: ∀x∈l,cN x=true):yS n l=some (ji l):=by
 unfold yS;rw[xQ (p:=λa=>decide (0<(eD a.aU:Int))) (λx d=>by
  unfold CZ;rw[DR b (show x.aU.length<=1100000 by have:=(fx (c x d)).1;omega)];rfl) O O]
 show some (!l.any _)=_;congr 1;unfold ji;rw[List.not_any_eq_all_not];congr 1;funext a;by_cases h:eD a.aU=0
 ·simp[h]
 have:0<(eD a.aU:Int):=O
 simp[h];omega
theorem F3(d:5500000<=n)(h:j1 l):uS n l=some (if eE l=true then(da l.lo,da l.aD,true) else(0,0,false)):=by
 obtain⟨⟨e,i⟩,k,m⟩:=h;unfold uS;refine aa.eq (aa.aI (λz=>z= !eE l) (λj a=>?_) λz o=>?_)
 ·refine dZ (λh=>a _ ?_) λh=>dZ (λp=>a _ ?_) λp=>ag (LN d e i) (aa.cond (λb=>a _ ?_) λb=>ag (LN d k m) (a _ ?_))
  ·unfold eE;rw[bs (show¬l.lo.length=1 by omega)];rfl
  ·unfold eE;rw[bs (show¬l.aD.length=1 by omega),vu,iS];rfl
  ·unfold eE;rw[show ji l.lo=false by simpa using b];simp
  unfold eE;rw[show ji l.lo=true by simpa using b,bp (O:l.lo.length=1),bp (O:l.aD.length=1)];rfl
 subst o;cases c:eE l with
 |false=>exact bY (aa.some rfl)
 |true=>
  refine bS ?_;unfold eE at c;simp only[Bool.and_eq_true,decide_eq_true_eq] at c;obtain⟨q,r,_⟩:=c;obtain⟨x,s⟩:=vn.1 q;obtain⟨y,w⟩:=vn.1 r;rw[s,w];exact ag (x:=x) rfl (ag (x:=y) rfl (aa.some rfl))
theorem abX(s:5500000<=n)(h:j1 l):Ah n l=some (ji l.lo&&ji l.aD):=by
 obtain⟨⟨B,w⟩,C,y⟩:=h;have r: ∀x,cN x=true->nP n x=some (eD x.aU:Int):=λx b=>yu s (show x.aU.length<=1100000 by have:=(fx b).1;omega);have d: ∀(l:List az) (i:Nat) (x:az),l[i]? =some x->eD x.aU=0->ji (l.take i)=true->ji (l.take (i+1))=true:=λl i x b k c=>by
  unfold ji at c⊢;rw[dV,b,List.all_append,c];simp[k]
 have o: ∀(l:List az) (i:Nat) (x:az),l[i]? =some x-> ¬eD x.aU=0->ji l=false:=λl i x b k=>by
  unfold ji;rw[iR];exact⟨x,bC b,by simp[k]⟩
 unfold Ah;refine aa.eq (aa.loop (λz:Int=> ∃i:Nat,z=i/\i<=l.lo.length/\ji (l.lo.take i)=true) (λz=>l.lo.length-z.toNat) ?_ n _ ⟨0,rfl,O,rfl⟩ O);rintro m z ⟨i,rfl,A,c⟩ p;refine aR (λa=>?_) λq=>?_
 ·have a:i<l.lo.length:=O
  have b:=bg a;refine ag (a' b) (ag (r _ (w _ (ft a))) (aR (λk=>aa.some ?_) λk=>?_))
  ·rw[o l.lo i _ b O];rfl
  rw[bf O];exact p _ ⟨i+1,O,O,d _ _ _ b O c⟩ O
 have e:i=l.lo.length:=O
 subst e;rw[cT] at c;rw[c,eW];refine aa.loop (λz:Int=> ∃i:Nat,z=i/\i<=l.aD.length/\ji (l.aD.take i)=true) (λz=>l.aD.length-z.toNat) ?_ n _ ⟨0,rfl,O,rfl⟩ O;rintro m z ⟨i,rfl,A,c⟩ p;refine aR (λa=>?_) λq=>aa.some ?_
 ·have a:i<l.aD.length:=O
  have b:=bg a;refine ag (a' b) (ag (r _ (y _ (ft a))) (aR (λk=>aa.some ?_) λk=>?_))
  ·exact(o l.aD i _ b O).symm
  rw[bf O];exact p _ ⟨i+1,O,O,d _ _ _ b O c⟩ O
 have e:i=l.aD.length:=O
 subst e;rw[cT] at c;exact c.symm
theorem Fs(c:5500000<=n)(h:j1 l):vf n l=some (if eE l=true then(da l.lo,da l.aD,true) else(0,0,false)):=by
 unfold vf;refine aa.eq (aa.aI (λz=>z= !eE l) (λj a=>?_) λz d=>?_)
 ·refine dZ (λe=>a _ ?_) λe=>dZ (λi=>a _ ?_) λi=>ag (abX c h) (a _ ?_)
  ·unfold eE;rw[bs (show¬l.lo.length=1 by omega)];rfl
  ·unfold eE;rw[bs (show¬l.aD.length=1 by omega),vu,iS];rfl
  unfold eE;rw[bp (O:l.lo.length=1),bp (O:l.aD.length=1)];rfl
 subst d;cases b:eE l with
 |false=>exact bY (aa.some rfl)
 |true=>
  refine bS ?_;unfold eE at b;simp only[Bool.and_eq_true,decide_eq_true_eq] at b;obtain⟨k,m,_⟩:=b;obtain⟨x,o⟩:=vn.1 k;obtain⟨y,p⟩:=vn.1 m;rw[o,p];exact ag (x:=x) rfl (ag (x:=y) rfl (aa.some rfl))
def pT(a b s:Int):Int:=Int.tdiv (max 0 (b-a)+s-1) s
def wQ(k:Nat)(s:Int)(P:Part)(l:Loop):Part:=
 ⟨P.nest.take k++(⟨[fM 0],[fM (pT (da l.lo) (da l.aD) s)]⟩:Loop)::(⟨[fM (da l.lo),mm k s (da l.lo)],[fM (da l.aD),mm k s (da l.lo+s)]⟩:Loop)::(P.nest.drop (k+1)).map (dW (jq k)),P.body.map (hZ (jq k))⟩
def pv(p:Prog)(a b s:Int):Prog×Bool:=
 match av p.parts a with
 |some P=>match av P.nest b with
  |some l=>if cO p a b=true/\P.nest.length<4/\(1<=s/\s<=6)/\eE l=true then hr ⟨p.aY,p.parts.set a.toNat (wQ b.toNat s P l)⟩ else d'
  |none=>d'
 |none=>d'
theorem E7{b:Int}(h:cO p a b≠true):pv p a b s=d':=by
 unfold pv;split
 ·split
  ·rw[aT λc=>h c.1]
  rfl
 rfl
theorem Mp(a:p.parts[i]? =some P)(b:P.nest[k]? =some l)(s:Int):
  pv p (i:Int) (k:Int) s=if cO p (i:Int) (k:Int)=true/\P.nest.length<4/\(1<=s/\s<=6)/\eE l=true then hr ⟨p.aY,p.parts.set i (wQ k s P l)⟩ else d':=by unfold pv;rw[a' a];dsimp only;rw[a' b];rfl
theorem F4(h:j1 l)(k:eE l=true): ∃a b,l=⟨[a],[b]⟩/\a=fM (da l.lo)/\b=fM (da l.aD)/\cB 99 (da l.lo)/\cB 99 (da l.aD):=by
 obtain⟨⟨o,n⟩,p,q⟩:=h;unfold eE at k;simp only[Bool.and_eq_true,decide_eq_true_eq] at k;obtain⟨r,s,w,A⟩:=k;obtain⟨lo,H⟩:=l;dsimp only at*;obtain⟨x,B⟩:=vn.1 r;obtain⟨y,C⟩:=vn.1 s;subst B;subst C;have m: ∀z:az,cN z=true->ji [z]=true->z=fM z.const:=λz D k=>by
  obtain⟨F,_,_⟩:=fx D;obtain⟨a,b,c,d,e⟩:=lR F;obtain⟨cs,jJ⟩:=z;dsimp only at e;subst e;unfold ji at k;simp only[List.all_cons,List.all_nil,Bool.and_true,decide_eq_true_eq] at k;have G:=yd (l:=[a,b,c,d]) (i:=0) rfl O;have o:=yd (l:=[a,b,c,d]) (i:=1) rfl O;have n:=yd (l:=[a,b,c,d]) (i:=2) rfl O;have p:=yd (l:=[a,b,c,d]) (i:=3) rfl O;rw[G,o,n,p];rfl
 exact⟨x,y,rfl,m x (n x a1) w,m y (q y a1) A,(fx (n x a1)).2.1,(fx (q y a1)).2.1⟩
theorem Po{x:Int}(d:cB 99 c)(h:cB 99 x)(i:1<=s/\s<=6):0<=pT c x s/\pT c x s<=198:=by
 unfold cB at d h;unfold pT;rw[Int.tdiv_eq_ediv_of_nonneg O];refine⟨Int.ediv_nonneg O O,?_⟩;refine Int.le_trans (Int.ediv_le_ediv (a:=max 0 (x-c)+s-1) (b:=198*s) O ?_) (by rw[Int.mul_ediv_cancel _ O];omega)
 have:0<=(198-max 0 (x-c))*(s-1):=mo O O;have e:(198-max 0 (x-c))*(s-1)=198*s-198-max 0 (x-c)*(s-1):=by
  rw[Int.sub_mul,Int.mul_sub];omega
 have k:max 0 (x-c)*(s-1)≥0:=mo O O;rcases(O:s=1\/s=2\/s=3\/s=4\/s=5\/s=6) with rfl|rfl|rfl|rfl|rfl|rfl<;>omega
theorem MN(h:eh r P=true)(q:P.nest.length<4)(w:k<P.nest.length)(s:Int):hB 4 (wQ k s P l):=by
 obtain⟨x,m⟩:=f5 h;obtain⟨_,n,o,_⟩:=fX h;refine⟨⟨by simp only[wQ,List.length_append,List.length_cons,List.length_map,List.length_take,List.length_drop];omega,λy d=>?_⟩,by simp only[wQ,List.length_map];exact n.2,λs p=>?_⟩
 ·have e: ∀c,eR 4 (fM c):=λc=>by unfold eR fM;simp
  have i: ∀s c,eR 4 (mm k s c):=λs c=>by unfold eR mm;simp
  rcases ef.1 d with d|d
  ·exact((tl h).1.2 y (fU d))
  rcases dI.1 d with rfl|d
  ·exact⟨⟨a1,λa b=>by simp at b;subst b;exact e _⟩,a1,λa b=>by simp at b;subst b;exact e _⟩
  rcases dI.1 d with rfl|d
  ·exact⟨⟨a1,λa b=>by simp at b;rcases b with rfl|rfl;exact e _;exact i _ _⟩,a1,λa b=>by simp at b;rcases b with rfl|rfl;exact e _;exact i _ _⟩
  obtain⟨z,e,rfl⟩:=et.1 d;exact wG (Ox k) (m z (eV e))
 obtain⟨z,e,rfl⟩:=et.1 p;exact AV (Ox k) (o z e)
theorem Mt(n:Nat)(a:k<4)(s:Int):mO n (k:Int) s=some (mm k s 0):=by rcases(O:k=0\/k=1\/k=2\/k=3) with rfl|rfl|rfl|rfl<;>rfl
theorem zv(n:Nat)(c:Int):oZ n c=some (fM c):=rfl
theorem OR{b:Int}(c:cB 99 a)(d:cB 99 b)(e:1<=s/\s<=6):wr (Int.tdiv (wr ((wr ((max 0 (wr (b-a)))+s))-1)) s)=pT a b s:=by obtain⟨h,i⟩:=Po c d e;unfold cB at c d;rw[bf (n:=b-a) O,bf (n:=max 0 (b-a)+s) O,bf (n:=max 0 (b-a)+s-1) O];exact bf (by unfold pT at h i;omega)
theorem ac3{l:List Loop}(a:k<=l.length)(b:l.length<=1100000)(v:Loop):uK n l (k:Int) [v]=some (l.take k++[v]++l.drop k):=by unfold uK;rw[bp (show(0:Int)<=(k:Int) by omega),bp (show(k:Int)<=(l.length:Int) by omega)];rw[cV];exact cW bX
theorem W8(G:7700000<=n)(H:dK 1100000 p)(c d s:Int):C2 n p c d s=some (pv p c d s):=by
 unfold C2;by_cases m:d= -1
 ·subst m;rw[E7 (by rw[qv O];simp)];refine aa.eq (ag (zz G H c) ?_);by_cases K:bU p=true/\ea p c=true
  ·rw[aW K];have aD:=K.2;unfold ea at aD;simp only[decide_eq_true_eq] at aD;obtain⟨x,u,_⟩:=oC aD.1 aD.2;exact bY (ag u (aa.aI (λz=>z=true) (λj D=>aR (λ_=>D _ rfl) λh=>bt (show(-1:Int)<0 by omega) h) λz L=>by rw[L];exact bY (aa.some rfl)))
  rw[aT K];exact bS (aa.some rfl)
 refine aa.eq (ag (wm G H c d m) ?_);by_cases q:cO p c d=true
 ·rw[aW q];obtain⟨bI,i,k,P,l,rfl,rfl,f,r,aD,Q,o,g⟩:=jK q;obtain⟨v,t⟩:=f5 o;obtain⟨_,E,I,_⟩:=fX o;have w:=t l (bC r);rw[Mp f r];refine bY (ag (a' f) (aa.aI (λz=>z= !(decide (P.nest.length<4)&&decide (1<=s/\s<=6))) (λj D=>?_) λz L=>?_))
  ·refine aR (λh=>bt h O) λ_=>aR (λh=>D _ ?_) λh=>ag (iC n s 1 6) (D _ ?_)
   ·rw[bs (show¬P.nest.length<4 by omega)];rfl
   rw[bp (O:P.nest.length<4)];rfl
  subst L;by_cases e:P.nest.length<4
  ·by_cases A:1<=s/\s<=6
   ·rw[bp e,bp A];refine bS (ag (a' r) (ag (F3 O w) ?_));by_cases B:eE l=true
    ·rw[aW B,aW ⟨q,e,A,B⟩];obtain⟨a,b,_,_,_,M,N⟩:=F4 w B;have W:=m7 (n:=n) O (nest:=P.nest) (body:=P.body) (s:=k) O v (λy T=>t y (eV T)) E.2 I (F:=λU=>uN n U (k:Int)) (YJ O O);have X:(P.nest.take k++(P.nest.drop k).map (dW (jq k)))[k]? =some (dW (jq k) l):=by
      rw[j7 r,hi (by rw[cq];omega),cq,pe O,kp];rfl
     refine bY (ag W (ag (dS Z _) (ag (x:=()) (by unfold o2;rw[aT O]) (ag (Mt n g s) (ag (Mt n g s) (ag (zv n _) (ag (zv n _) (ag (a' X) (ag (dS bX _) (ag (zv n 0) (ag (zv n _) (ag (ac3 bX bX _) (ag (dS bX _) ?_)))))))))))));dsimp only;unfold cB at M N;rw[cV,cV,List.set_set,bf (n:=da l.lo+s) O,OR ⟨O,O⟩ ⟨O,O⟩ A];have V:P.nest.drop k=l::P.nest.drop (k+1):=j7 r;have C:(P.nest.take k).length=k:=by rw[cq];omega
     have Y: ∀R S:Loop,(((P.nest.take k++(P.nest.drop k).map (dW (jq k))).set k R).take k++[S]++((P.nest.take k++(P.nest.drop k).map (dW (jq k))).set k R).drop k)=P.nest.take k++S::R::(P.nest.drop (k+1)).map (dW (jq k)):=λR S=>by
      rw[V,List.map_cons,mn _ _ O,C,kp,sI,ng O,fG O,Dh O,yB O];simp
     rw[Y];exact ag (qk G (wV H i (MN o e Q s))) (aa.some rfl)
    rw[aT B,aT λh=>B h.2.2.2];exact bS (aa.some rfl)
   rw[aT λh=>A h.2.2.1,bs A,iS];exact bY (aa.some rfl)
  rw[aT λh=>e h.2.1,bs e];exact bY (aa.some rfl)
 rw[aT q,E7 q];exact bS (aa.some rfl)
theorem aea(a:k<4)(s c:Int):nC (gD k) s (fM c) 1=mm k s c:=by rcases(O:k=0\/k=1\/k=2\/k=3) with rfl|rfl|rfl|rfl<;>simp[nC,gD,fM,mm]
theorem aeh(a:k<4)(s c e:Int):nC (mm k s c) 1 (fM e) 1=mm k s (c+e):=by rcases(O:k=0\/k=1\/k=2\/k=3) with rfl|rfl|rfl|rfl<;>simp[nC,fM,mm]
theorem PC(h:cB 1000 c):eZ 1000 (fM c):=⟨rfl,h,λx a=>by simp[fM] at a;subst a;exact⟨O,O⟩⟩
theorem adW(b:cB 1000 s)(h:cB 1000 c):eZ 1000 (mm k s c):=by refine⟨by simp[mm],h,wD (λc a=>?_) b⟩;simp at a;subst a;exact⟨O,O⟩
theorem Wv(D:7700000<=n)(B:dK 1100000 p)(c d s:Int):C8 n p c d s=some (pv p c d s):=by
 unfold C8;refine aa.eq (ag (kA O B) ?_);by_cases r:cO p c d=true
 ·obtain⟨I,i,k,P,l,rfl,rfl,F,G,f,H,o,C⟩:=jK r;obtain⟨g,K⟩:=f5 o;obtain⟨_,t,u,_⟩:=fX o;have w:=K l (bC G);rw[Mp F G];refine aa.aI (λz=>z= !(decide (P.nest.length<4)&&decide (1<=s/\s<=6))) (λj m=>?_) λz y=>?_
  ·refine ag (x:=true) (by rw[mf D B _ _,r]) ?_;refine bS (ag (a' F) (aR (λh=>m _ ?_) λh=>aR (λv=>m _ ?_) λv=>m _ ?_))
   ·rw[bs (show¬P.nest.length<4 by omega)];rfl
   ·rw[bs (show¬(1<=s/\s<=6) by omega),iS];rfl
   rw[bp (O:P.nest.length<4),eW];by_cases L:(6:Int)<s
   ·rw[bp L,bs (show¬(1<=s/\s<=6) by omega)];rfl
   rw[bs L,bp (show(1<=s/\s<=6) by omega)];rfl
  subst y;by_cases e:P.nest.length<4
  ·by_cases q:1<=s/\s<=6
   ·rw[bp e,bp q];refine bS (ag (a' F) (ag (a' G) (ag (Fs O w) ?_)));by_cases A:eE l=true
    ·rw[aW A,aW ⟨r,e,q,A⟩];obtain⟨a,b,_,_,_,Q,W⟩:=F4 w A;obtain⟨M,N⟩:=Po Q W q;unfold cB at Q W;refine bS (aa.aI (λz=>z=pT (da l.lo) (da l.aD) s) (λj m=>aR (λh=>ag (x:=()) (by unfold o2;rw[aT O]) (m _ ?_)) λh=>m _ ?_) λz y=>?_)
     ·dsimp only at h⊢;rw[<-OR ⟨O,O⟩ ⟨O,O⟩ q,bf (n:=da l.aD-da l.lo) O,show max 0 (da l.aD-da l.lo)=da l.aD-da l.lo by omega]
     ·dsimp only at h⊢;unfold pT;rw[show max 0 (da l.aD-da l.lo)=0 by omega,Int.tdiv_eq_ediv_of_nonneg O];exact(Int.ediv_eq_zero_of_lt O O).symm
     subst y;have X:(P.nest.take k).length=k:=by rw[cq];omega
     refine ag (DQ O O g K t.2 u (ZN O _)) (ag (Ac n C) (ag (mW n _) (ag (sA O ((sU C).mono O) (PC ⟨Z,Z⟩) ⟨O,O⟩ ⟨O,O⟩) ?_)));dsimp only;rw[aea C];refine ag (mW n _) (ag (mW n _) (ag (mW n _) (ag (sA O (adW ⟨O,O⟩ ⟨O,O⟩) (PC ⟨O,O⟩) ⟨O,O⟩ ⟨O,O⟩) ?_)));rw[aeh C];refine ag (gQ O O bX) (ag (cW bX) (ag (show vI n=some (fM 0) from rfl) (ag (mW n _) (ag (cW bX) ?_))));rw[bf O];refine ag (gQ O bX a1) (ag (cW bX) ?_);have E: ∀R S:Loop,([]++((P.nest.take (k+1)++(P.nest.drop (k+1)).map (dW (jq k))).take (k:Int).toNat).drop (0:Int).toNat++[S,R]++((P.nest.take (k+1)++(P.nest.drop (k+1)).map (dW (jq k))).take ((P.nest.take (k+1)++(P.nest.drop (k+1)).map (dW (jq k))).length:Int).toNat).drop ((k:Int)+1).toNat)=P.nest.take k++S::R::(P.nest.drop (k+1)).map (dW (jq k)):=λR S=>by
      have T:(P.nest.take (k+1)).length=k+1:=by rw[cq];omega
      rw[cV,cV,show((k:Int)+1).toNat=k+1 by omega,show(0:Int).toNat=0 from rfl,mq,cT,ng O,List.take_take,pe O,Dh O,yB O];simp
     rw[E];exact ag (wq D B f ((MN o e H s).mono O)) (aa.some rfl)
    rw[aT A,aT λh=>A h.2.2.2];exact bY (aa.some rfl)
   rw[aT λh=>q h.2.2.1,bs q,iS];exact bY (aa.some rfl)
  rw[aT λh=>e h.2.1,bs e];exact bY (aa.some rfl)
 rw[E7 r];refine aa.aI (λz=>z=true) (λj m=>ag (mf D B _ _) ?_) λz y=>by rw[y];exact bY (aa.some rfl)
 rw[show cO p c d=false by simpa using r];exact bY (m _ rfl)
def kh(P:Part)(a b:Int):Part:=⟨(⟨[fM a],[fM b]⟩:Loop)::P.nest.drop 1,P.body⟩
def pw(p:Prog)(a c:Int):Prog×Bool:=
 match av p.parts a with
 |some P=>match av P.nest 0 with
  |some l=>if cO p a 0=true/\eE l=true/\da l.lo<=c/\c<=da l.aD then hr (kt p a.toNat 1 [kh P (da l.lo) c,kh P c (da l.aD)]) else d'
  |none=>d'
 |none=>d'
theorem E9(h:cO p a 0≠true):pw p a c=d':=by
 unfold pw;split
 ·split
  ·rw[aT λb=>h b.1]
  rfl
 rfl
theorem AD{a:Type}{l:List a}{x:a}(h:l[0]? =some x):av l 0=some x:=a' h
theorem L9(a:p.parts[i]? =some P)(b:P.nest[0]? =some l)(c:Int):
  pw p (i:Int) c=if cO p (i:Int) 0=true/\eE l=true/\da l.lo<=c/\c<=da l.aD then hr (kt p i 1 [kh P (da l.lo) c,kh P c (da l.aD)]) else d':=by unfold pw;rw[a' a];dsimp only;rw[AD b];rfl
theorem Pb(k:eh r P=true)(a b:Int):hB 4 (kh P a b):=by
 obtain⟨h,l,m⟩:=tl k;have i: ∀c,eR 4 (fM c):=λc=>by unfold eR fM;simp
 have:=h.1;refine⟨⟨by simp only[kh,List.length_cons,List.length_drop];omega,λy e=>?_⟩,l,m⟩;rcases dI.1 e with rfl|e
 ·exact⟨⟨a1,λa d=>by simp at d;subst d;exact i _⟩,a1,λa d=>by simp at d;subst d;exact i _⟩
 exact h.2 y (eV e)
theorem L8(e:eh r P=true)(a b c d:Int): ∀y∈[kh P a b,kh P c d],hB 1100000 y:=by
 intro y h;simp only[List.mem_cons,List.not_mem_nil,or_false] at h;rcases h with rfl|rfl
 ·exact(Pb e a b).mono O
 exact(Pb e c d).mono O
theorem abU(a:bU p=true)(b:p.parts[i]? =some P):cO p (i:Int) 0=decide (0<P.nest.length):=by unfold cO;rw[a,a' b,eW];rw[fD];simp only[decide_eq_true_eq];omega
theorem Z1(a:i<p.parts.length)(A B:Part):(⟨p.aY,(p.parts.set i A).take (i+1)++[B]++(p.parts.set i A).drop (i+1)⟩:Prog)=kt p i 1 [A,B]:=by
 unfold kt;congr 1;rw[List.take_set,pj O,dV,bg a,mn _ _ (by rw[cq];omega)]
 have:i-(p.parts.take i).length=0:=by rw[cq];omega
 rw[this];simp
theorem W9(u:22000000<=n)(D:dK 1100000 p)(d c:Int):Dl n p d c=some (pw p d c):=by
 unfold Dl;refine aa.eq (ag (zz O D d) ?_);by_cases y:bU p=true/\ea p d=true
 ·rw[aW y];obtain⟨m,B⟩:=y;have F:0<=d/\d<(p.parts.length:Int):=eQ B;obtain⟨i,rfl⟩: ∃i:Nat,d=i:=⟨d.toNat,O⟩
  have q:=bg (O:i<p.parts.length);generalize G:p.parts[i]=P at q;have K:=(eg m).2.2.1;have e:=(eg m).2.2.2.1 P (bC q);obtain⟨Q,A⟩:=f5 e;have di:=abU m q;refine bY (ag (a' q) (aR (λz=>aa.some ?_) λz=>?_))
  ·rw[E9 (by rw[di,bs O];simp)];rfl
  have z:0<P.nest.length:=O
  rw[bp z] at di;have o:=bg z;generalize P.nest[0]=l at o;have r:=A l (bC o);rw[L9 q o];refine ag (AD o) (ag (F3 O r) ?_);by_cases s:eE l=true
  ·rw[aW s];refine bY (ag (iC n c _ _) ?_);by_cases w:da l.lo<=c/\c<=da l.aD
   ·rw[aW ⟨di,s,w.1,w.2⟩];dsimp only;rw[bp w];obtain⟨a,b,W,X,f,v,E⟩:=F4 r s;have g:=Ay (i:=i) (many:=1) (ys:=[kh P (da l.lo) c,kh P c (da l.aD)]) ((kZ m).mono (O:4<=900)) a1 (L8 e _ _ _ _);generalize da l.lo=L at*;generalize da l.aD=H at*;subst X;subst f;subst W;have j:P.nest=(⟨[fM L],[fM H]⟩:Loop)::P.nest.drop 1:=by
     have:=j7 o
     rwa [mq] at this
    have C: ∀R:Loop,P.nest.set (0:Int).toNat R=R::P.nest.drop 1:=λR=>by
     show P.nest.set 0 R=_;rw[j];rfl
    refine bY (ag (Le O e) (ag (x:=fM H) rfl (ag (x:=[fM c]) rfl (ag (dS O _) (ag (dS O _) (ag (AD o) (ag (x:=fM L) rfl (ag (x:=[fM c]) rfl (ag (dS O _) ?_)))))))));rw[C,C,bf O,cV];refine ag (Ov (i:=i+1) (by rw[fE];omega) (by rw[fE];simp;omega)) ?_;show aa (Option.bind (k9 n (⟨p.aY,(p.parts.set i (kh P L c)).take (i+1)++[kh P c H]++(p.parts.set i (kh P L c)).drop (i+1)⟩:Prog)) _) _;rw[Z1 O];exact ag (qk O g) (aa.some rfl)
   rw[aT λh=>w ⟨h.2.2.1,h.2.2.2⟩];dsimp only;rw[bs w];exact bS (aa.some rfl)
  rw[aT s,aT λh=>s h.2.1];exact bS (aa.some rfl)
 rw[aT y,E9 λt=>y ?_]
 ·exact bS (aa.some rfl)
 obtain⟨m,i,k,P,l,rfl,_,I,_,B,_⟩:=jK t;exact⟨m,bp O⟩
theorem Wx(F:22000000<=n)(y:dK 1100000 p)(a c:Int):C9 n p a c=some (pw p a c):=by
 unfold C9;refine aa.eq (ag (kA O y) (ag (mf O y a 0) ?_));cases o:cO p a 0 with
 |false=>
  rw[E9 (by rw[o];simp)];exact bY (aa.some rfl)
 |true=>
  obtain⟨B,i,k,P,l,rfl,C,A,q,G,H,b,K⟩:=jK o;obtain rfl:k=0:=O
  obtain⟨D,r⟩:=f5 b;have s:=r l (bC q);rw[L9 A q];refine bS (ag (a' A) (ag (AD q) (ag (Fs O s) ?_)));by_cases e:eE l=true
  ·rw[aW e];dsimp only;refine aa.aI (λz=>z= !decide (da l.lo<=c/\c<=da l.aD)) (λj m=>bS (aR (λh=>m _ ?_) λh=>m _ ?_)) λz w=>?_
   ·rw[bs O];rfl
   ·rw[fD];simp only[Bool.not_eq_true',decide_eq_true_eq,decide_eq_false_iff_not];omega
   subst w;by_cases d:da l.lo<=c/\c<=da l.aD
   ·rw[aW ⟨o,e,d.1,d.2⟩,bp d];refine bS (ag (mW n _) (ag (mW n _) (ag (gQ O O O) (ag (cW bX) (ag (mW n _) (ag (mW n _) (ag (gQ O O O) (ag (cW bX) ?_))))))));rw[cV,cT];have x:=Fv (n:=n) O ((kZ B).mono (O:4<=900)) (i:=i) (many:=1) O (ys:=[kh P (da l.lo) c,kh P c (da l.aD)]) a1 (L8 b _ _ _ _);exact ag x (aa.some rfl)
   rw[aT λh=>d ⟨h.2.2.1,h.2.2.2⟩,bs d];exact bY (aa.some rfl)
  rw[aT e,aT λh=>e h.2.1];exact aa.aI (λz=>z=true) (λj m=>bY (m _ rfl)) λz w=>by rw[w];exact bY (aa.some rfl)
def ny(c:Int)(a:List Int):Int:=if c∈a then(a.idxOf c:Int) else-1
def q5(c:Int)(a:List Int):List Int:=c::a.filter λx=> !decide (x=c)
def mc:List Int->List Int->List Int
 |_,[]=>[]
 |st,c::t=>ny c st::mc (q5 c st) t
theorem Kv{d:List Int}(h:d.Nodup):(q5 c d).Nodup:=by unfold q5;rw[List.nodup_cons];exact⟨λa=>by simp at a,h.filter _⟩
theorem LX{c:Int}: ∀{l:List Int},l.Nodup->l.length<=(l.filter λx=> !decide (x=c)).length+1
 | [],_=>a1
 |x::l,h=>by
  rw[List.nodup_cons] at h;by_cases a:x=c
  ·subst a;rw[List.filter_cons_of_neg a1,List.filter_eq_self.2 λy b=>by simp;intro e;subst e;exact h.1 b];simp
  rw[List.filter_cons_of_pos (by simp[a])]
  have:=LX (c:=c) h.2;simp only[List.length_cons];omega
theorem Kn{c:Int}: ∀{l:List Int},l.Nodup->l.erase c=l.filter (λx=> !decide (x=c))
 | [],_=>rfl
 |x::l,h=>by
  rw[List.nodup_cons] at h;by_cases a:x=c
  ·subst a;rw[List.erase_cons_head,List.filter_cons_of_neg a1,List.filter_eq_self.2 λy b=>by simp;intro e;subst e;exact h.1 b]
  rw[List.erase_cons_tail (by simpa using a),List.filter_cons_of_pos (by simp[a]),Kn h.2]
theorem Xr{size:Nat}{d:List Int}(h:d.Nodup):m' size c (d.take size).reverse=((q5 c d).take size).reverse:=by
 have i:(d.take size).Nodup:=h.sublist (List.take_sublist _ _);have k:(d.take size).reverse.Nodup:=List.pairwise_reverse.2 (i.imp λh=>kV h);unfold m';rw[Kn k,List.filter_reverse];have m:((d.take size).filter λx=> !decide (x=c)).reverse++[c]=(c::(d.take size).filter λx=> !decide (x=c)).reverse:=a1
 simp only[m];have p:((d.take size).filter λx=> !decide (x=c)).length<=size:=fF (sH _ _) (by rw[cq];omega);have o:(if size<(c::(d.take size).filter λx=> !decide (x=c)).reverse.length then(c::(d.take size).filter λx=> !decide (x=c)).reverse.drop 1 else(c::(d.take size).filter λx=> !decide (x=c)).reverse)=((c::(d.take size).filter λx=> !decide (x=c)).take size).reverse:=by
  split
  ·rename_i b;rw[List.length_reverse,qH] at b;rw[List.drop_reverse,qH,show((d.take size).filter λx=> !decide (x=c)).length+1-1=size by omega]
  rename_i b;rw[List.length_reverse] at b;rw[fG (l:=c::(d.take size).filter λx=> !decide (x=c)) O]
 rw[o];congr 1;unfold q5;cases size with
 |zero=>rfl
 |succ n=>
  rw[List.take_succ_cons,List.take_succ_cons];congr 1;have e:d.filter (λx=> !decide (x=c))=(d.take (n+1)).filter (λx=> !decide (x=c))++(d.drop (n+1)).filter (λx=> !decide (x=c)):=by
   rw[<-pk,qN]
  rw[e];by_cases a:n+1<=d.length
  ·have:=LX (c:=c) i;rw[cq,pe a] at this;rw[ng O]
  rw[yB O];simp
theorem Kq{c:Int}{i:Nat}: ∀{st:List Int},c∈st.take i↔c∈st/\st.idxOf c<i
 | []=>a1
 |x::st=>by
  cases i with
  |zero=>simp
  |succ n=>
   rw[List.take_succ_cons,dI,dI,Kq (st:=st)];by_cases a:x=c
   ·subst a;simp
   rw[List.idxOf_cons,show(x==c)=false by simpa using a,cond_false];have b: ¬c=x:=λe=>a e.symm;simp[b]
theorem MK{size:Nat}: ∀{t st:List Int},st.Nodup->fy size (st.take size).reverse t=(mc st t).countP (λd=>decide (d<0\/(size:Int)<=d))
 | [],_,_=>rfl
 |c::t,st,h=>by
  rw[fy,mc,List.countP_cons,Xr h,MK (Kv h),Nat.add_comm];congr 1;have b:(c∈(st.take size).reverse)↔(c∈st/\st.idxOf c<size):=by rw[List.mem_reverse];exact Kq
  by_cases a:c∈st
  ·unfold ny;rw[aW a];by_cases i:st.idxOf c<size
   ·rw[aW (b.2 ⟨a,i⟩),aT bX]
   rw[aT λe=>i (b.1 e).2,aW bX]
  unfold ny;rw[aT a,aT λe=>a (b.1 e).1,aW a1]
theorem Yk(size:Nat)(t:List Int):fy size [] t=(mc [] t).countP (λd=>decide (d<0\/(size:Int)<=d)):=by have:=MK (size:=size) (t:=t) (st:=[]) List.nodup_nil;simpa using this
theorem Uu{d:List Int}(h: ¬c∈d):ny c (d++[c])=(d.length:Int):=by unfold ny;rw[aW a1,List.idxOf_append,aT h,List.idxOf_cons_self];omega
theorem UT{d:List Int}(h:y≠c):ny c (d++[y])=ny c d:=by
 unfold ny;by_cases a:c∈d
 ·rw[aW a,aW (by simp[a]),List.idxOf_append,aW a]
 rw[aT a,aT (by simp[a];exact λe=>h e.symm)]
theorem WM(c:Int)(a:List Int):(q5 c a).length<=a.length+1:=by
 unfold q5
 have:=sH (λx=> !decide (x=c)) a;simp only[List.length_cons];omega
theorem Ww(N:22000000<=n){d:List Int}(P:d.length<=600):aa (B5 n d) (λr=>r=mc [] d):=by
 unfold B5;refine aR (λh=>O) λ_=>?_;refine aa.loop (λx:List Int×List Int×Int=> ∃k:Nat,x.2.2=k/\k<=d.length/\x.2.1.Nodup/\x.2.1.length<=k/\x.1.length=k/\x.1++mc x.2.1 (d.drop k)=mc [] d) (λx=>d.length-x.2.2.toNat) ?_ n _ ⟨0,rfl,O,List.nodup_nil,cD _,rfl,rfl⟩ Z;rintro F ⟨o,st,S⟩ ⟨k,p,T,m,X,mS,q⟩ f;dsimp only at p m X mS q⊢;subst p;refine aR (λb=>?_) λg=>aa.some ?_;rotate_left
 ·rw[yB O,mc,jU] at q;exact q
 have b:k<d.length:=O
 have s:=bg b;generalize d[k]=c at s;refine aa.loop (λx:List Int×Int×Int=> ∃j:Nat,x.2.2=j/\j<=st.length/\x.1=(st.take j).filter (λy=> !decide (y=c))/\x.2.1=ny c (st.take j)) (λx=>st.length-x.2.2.toNat) ?_ n _ ⟨0,rfl,O,rfl,rfl⟩ Z;rintro D ⟨r,t,U⟩ ⟨j,w,G,a,e⟩ H;dsimp only at w a e⊢;subst w;refine aR (λi=>?_) λR=>?_
 ·have i:j<st.length:=O
  have K:=bg i;generalize V:st[j]=y at K;have A:st.take (j+1)=st.take j++[y]:=by rw[dV,K];rfl
  have B:(st.take j++[y]).Nodup:=by rw[<-A];exact m.sublist (List.take_sublist _ _)
  have u:r.length<=600:=by
   rw[a];exact fF (sH _ _) (by rw[cq];omega)
  refine aa.aI (λz:List Int×Int=>z.1=(st.take (j+1)).filter (λy=> !decide (y=c))/\z.2=ny c (st.take (j+1))) (λv l=>?_) λz W=>?_
  ·refine ag (a' K) (ag (a' s) (aR (λL=>?_) λC=>?_))
   ·subst L;refine l _ ⟨?_,?_⟩
    ·rw[A,pk,<-a];simp
    rw[A];have Q: ¬y∈st.take j:=λE=>by
     have:=(List.nodup_append.1 B).2.2 y E y a1;exact this rfl
    rw[Uu Q,cq,pe G]
   refine ag (cW (by simp only[List.length_cons,List.length_nil];omega)) (l _ ⟨?_,?_⟩)
   ·rw[A,pk,<-a];simp[C]
   rw[A,UT C];exact e
  rw[bf O];exact H _ ⟨j+1,Z,O,W.1,W.2⟩ Z
 have G:j=st.length:=O
 subst G;rw[cT] at a e;subst a;subst e;have I:=sH (λy=> !decide (y=c)) st;refine ag (cW (by simp only[List.length_cons,List.length_nil];omega)) (ag (a' s) (ag (cW (by simp only[List.length_cons,List.length_nil];omega)) ?_));rw[bf O];have M:d.drop k=c::d.drop (k+1):=by
  rw[kn b];congr 1;rw[bg b] at s;exact Option.some.inj s
 rw[M,mc] at q;refine f _ ⟨k+1,Z,O,Kv m,fF (WM c st) O,by dsimp only;rw[cP];simp only[List.length_cons,List.length_nil];omega,?_⟩ Z;dsimp only;rw[fs];exact q
theorem Ln: ∀(t st:List Int),(mc st t).length=t.length
 | [],_=>rfl
 |c::t,st=>by rw[mc,qH,qH,Ln t]
theorem ZV(G:22000000<=n){e:List Int}(y:e.length<=600)(H:0<=a)(K:a<=40):sb n e a=some (fy a.toNat [] e:Int):=by
 refine aa.eq ?_;unfold sb;have h:vj n e a=some true:=by
  unfold vj;simp only[aI];rw[bp (show(e.length:Int)<=600 by omega),bp H,bp K];rfl
 refine ag h ?_;refine gA (Ww G y) ?_;rintro _ rfl;have i:=Ln e [];rw[Yk];generalize g:mc [] e=D at i⊢;refine aa.loop (λx:Int×Int=> ∃k:Nat,x.2=k/\k<=D.length/\x.1=((D.take k).countP (λd=>decide (d<0\/(a.toNat:Int)<=d)):Nat)) (λx=>D.length-x.2.toNat) ?_ n _ ⟨0,rfl,O,rfl⟩ Z;rintro A ⟨m,j⟩ ⟨k,o,t,w⟩ L;dsimp only at o w⊢;subst o;refine aR (λq=>?_) λQ=>aa.some ?_;rotate_left
 ·rw[w,fG O]
 have q:k<D.length:=O
 have B:=bg q;generalize D[k]=d at B;have R:D.take (k+1)=D.take k++[d]:=by rw[dV,B];rfl
 have C:=List.countP_le_length (p:=λd=>decide (d<0\/(a.toNat:Int)<=d)) (l:=D.take k);rw[cq] at C;refine aa.aI (λz:Int=>z=((D.take (k+1)).countP (λd=>decide (d<0\/(a.toNat:Int)<=d)):Nat)) (λu c=>?_) λz W=>?_
 ·refine aa.aI (λb:Bool=>b=decide (d<0\/(a.toNat:Int)<=d)) (λv r=>?_) λb X=>?_
  ·refine ag (a' B) (aR (λs=>r _ ?_) λF=>r _ ?_)
   ·rw[bp (Or.inl s)]
   rw[decide_eq_decide];omega
  subst X;rw[R,List.countP_append,List.countP_singleton] at c;refine aa.cond (λy=>c _ ?_) λf=>c _ ?_
  ·rw[bf O,w,aW y];omega
  rw[w,aT (by rw[f];exact Bool.false_ne_true)];omega
 rw[bf O];exact L _ ⟨k+1,Z,O,W⟩ Z
theorem ZU{d:List Int}(h: ¬(d.length<=600/\0<=c/\c<=40)):sb n d c=some (-1):=by
 have e:vj n d c=some false:=by
  unfold vj;simp only[aI];by_cases a:(d.length:Int)<=600
  ·by_cases b:0<=c
   ·rw[bp a,bp b,bs (show¬c<=40 by omega)];rfl
   rw[bp a,bs b];rfl
  rw[bs a];rfl
 unfold sb;rw[e];rfl
def mI(p:Prog)(x:cb):List Int:=rc p x++[(cZ p x:Int)]
def kv(p:Prog):List Int:=(bk p.parts).flatMap (mI p)
theorem Nw{l:List cb}{f:cb->List Int}{x:cb}(h:l[k]? =some x):(l.take (k+1)).flatMap f=(l.take k).flatMap f++f x:=by rw[dV,h,lE];simp
theorem N7{f:cb->List Int}: ∀{l:List cb},(∀x∈l,(f x).length<=13)->(l.flatMap f).length<=13*l.length
 | [],_=>a1
 |x::l,h=>by have b:=h x eH;have c:=N7 (l:=l) λy a=>h y (eu _ a);rw[yE,cP,qH];omega
theorem abo(a:bU p=true){x:cb}(b:x∈bk p.parts):(mI p x).length<=13:=by have:=(mT a (gR b)).2.2.1;unfold mI;rw[cP,kS];omega
theorem acy(n:Nat)(s:List Int):DP n s=some s:=by unfold DP;rw[gQ O O O];simp
theorem Ye(G:22000000<=n)(s:g' p)(c:bU p=true):xV n p=some ((kv p).take 600):=by
 have w:=(eg c).2.2.2.2;refine aa.eq ?_;unfold xV;refine ag (u6 O s) ?_;rw[aW c];simp only[Option.isSome_some,Option.getD_some,cond_true,Bool.not_true,cond_false];have i:(fr p).list=bk p.parts:=rfl;have m:(fr p).reads=(bk p.parts).map (rc p):=rfl;have o:(fr p).db=(bk p.parts).map (λx=>(cZ p x:Int)):=rfl;simp only[i,m,o];refine aa.loop (λz:List Int×Int=> ∃k:Nat,z.2=k/\k<=(bk p.parts).length/\z.1=((bk p.parts).take k).flatMap (mI p)) (λz=>(bk p.parts).length-z.2.toNat) ?_ n _ ⟨0,rfl,O,rfl⟩ Z;rintro q ⟨a,z⟩ ⟨k,r,H,b⟩ y;dsimp only at r b⊢;subst r;have A:a.length<=1560:=by
  rw[b]
  have:=N7 (f:=mI p) (l:=(bk p.parts).take k) λx B=>abo c (fU B);rw[cq] at this;omega
 refine aR (λC=>?_) λD=>?_
 ·obtain⟨x,d⟩: ∃x,(bk p.parts)[k]? =some x:=⟨_,bg (O:k<(bk p.parts).length)⟩
  have F:=(mT c (gR (bC d))).2.2.1;refine ag (a' (je d)) (ag (cW O) (ag (a' (je d)) (ag (cW (by rw[cP,kS];omega)) ?_)));rw[bf O];refine y _ ⟨k+1,Z,O,?_⟩ Z;dsimp only;rw[Nw d,<-b,fs];rfl
 have e:k=(bk p.parts).length:=O
 subst e;rw[cT] at b;refine ag (gQ O O O) (ag (acy n _) (aa.some ?_));rw[b,show(0:Int).toNat=0 from rfl,mq];show(kv p).take _=_;have K:a.length=(kv p).length:=by rw[b];rfl
 by_cases h:(kv p).length<=600
 ·rw[fG h,fG];show(kv p).length<=(min ((kv p).length:Int) 600).toNat;omega
 congr 1;show(min ((kv p).length:Int) 600).toNat=600;omega
theorem YX(G:22000000<=n)(r:jx n p=some true)(h:bU p=true):xU n p=some ((kv p).take 600):=by
 have s:=(eg h).2.2.2.2;refine aa.eq ?_;unfold xU;refine ag r ?_;rw[Bool.not_true,cond_false];refine ag (y7 O h) ?_;have w:(jO p).length=(bk p.parts).length:=by unfold jO;rw[dj]
 refine aa.loop (λz:List Int×Int=> ∃k:Nat,z.2=k/\k<=(bk p.parts).length/\z.1=((bk p.parts).take k).flatMap (mI p)/\z.1.length<=600) (λz=>(bk p.parts).length-z.2.toNat) ?_ n _ ⟨0,rfl,O,rfl,a1⟩ Z;rintro i ⟨a,z⟩ ⟨k,o,H,d,b⟩ y;dsimp only at o d b⊢;subst o;refine aR (λA=>?_) λB=>aa.some ?_
 ·obtain⟨x,l⟩: ∃x,(bk p.parts)[k]? =some x:=⟨_,bg (O:k<(bk p.parts).length)⟩
  have C:=(mT h (gR (bC l))).2.2.1;have D:(jO p)[k]? =some (⟨rc p x,(cZ p x:Int)⟩:jX):=je l;refine ag (a' D) (ag (cW Z) (ag (cW (by rw[cP,kS];dsimp only;omega)) ?_));dsimp only;have c:a++rc p x++[(cZ p x:Int)]=((bk p.parts).take (k+1)).flatMap (mI p):=by
   rw[Nw l,<-d,fs];rfl
  rw[c];have K:(((bk p.parts).take (k+1)).flatMap (mI p)).length<=1100000:=by
   rw[<-c,cP,cP,kS];omega
  refine aR (λq=>?_) λF=>?_
  ·refine ag (gQ O O O) (ag (cW (by rw[eX,cq];simp only[List.length_nil];omega)) (aa.some ?_));rw[qJ,show(0:Int).toNat=0 from rfl,mq,show(600:Int).toNat=600 from rfl];have m:kv p=((bk p.parts).take (k+1)).flatMap (mI p)++((bk p.parts).drop (k+1)).flatMap (mI p):=by
    unfold kv;rw[<-lE,qN]
   rw[m,ng O]
  rw[bf O];exact y _ ⟨k+1,Z,O,rfl,Z⟩ Z
 have e:k=(bk p.parts).length:=O
 subst e;rw[cT] at d;subst d;rw[show(kv p)=(bk p.parts).flatMap (mI p) from rfl,fG b]
def gx(p:Prog)(a:Int):Int:=if bU p=true then(if 0<=a/\a<=40 then(fy a.toNat [] ((kv p).take 600):Int) else-1) else-1
theorem KL(d:22000000<=n)(c:g' p)(a:Int):xO n p a=some (gx p a):=by
 unfold xO gx;rw[rK O c];by_cases b:bU p=true
 ·rw[aW b,b];show Option.bind (xV n p) _=_;rw[Ye d c b];show Option.bind (uV _ a) _=_;have i:((kv p).take 600).length<=600:=by rw[cq];omega
  unfold uV;by_cases h:0<=a/\a<=40
  ·rw[aW ⟨i,h⟩,aW h];rfl
  rw[aT λe=>h e.2,aT h];rfl
 rw[aT b,Bool.eq_false_iff.2 b];rfl
theorem KW(c:22000000<=n)(i:g' p)(a:Int):xM n p a=some (gx p a):=by
 unfold xM gx;have d:=jw (n:=n) O i;rw[d];by_cases b:bU p=true
 ·rw[aW b,b];show Option.bind (xU n p) _=_;rw[YX c (by rw[d,b]) b];show Option.bind (sb n _ a) _=_;have k:((kv p).take 600).length<=600:=by rw[cq];omega
  by_cases h:0<=a/\a<=40
  ·rw[ZV c k h.1 h.2,aW h];rfl
  rw[ZU λe=>h e.2,aT h];rfl
 rw[aT b,Bool.eq_false_iff.2 b];rfl
end
section
def kW(s:Stmt):Stmt:=⟨s.write,fz 5 s.value⟩
def jL(x:Part):Part:=⟨x.nest,x.body.map kW⟩
def A9(p:Prog):Prog:=⟨p.aY,p.parts.map jL⟩
variable {n:Nat}{s:Stmt}{d e:Int}{p:Prog}{r:List cx}
theorem Wl(b:7700000<=n)(a:ep s d=true):vL n s=some (kW s):=by
 obtain⟨n,rfl⟩: ∃j,n=j+1:=⟨n-1,O⟩
 unfold vL;rw[Ld O a];refine aa.eq (ag rfl (ag (Fk 5 n s.value O (kd a).2.1) (aa.some rfl)))
def tM(p:Prog):Prog×Bool:=if bU p=true then(A9 p,true) else d'
theorem S9(q:7700000<=n)(r:dK 1100000 p):Cw n p=some (tM p):=by
 unfold Cw tM;refine aa.eq (ag (rK q r.sm) (aa.cond (λh=>aa.some ?_) λh=>?_))
 ·rw[aT (by simpa using h)];rfl
 have e:bU p=true:=by simpa using h
 rw[aW e];obtain⟨H,L,Q,w,_⟩:=eg e;refine ag (q9 O e) ?_;refine wB (l:=p.parts) (n:=n) (F:=λc k=>bc (λa ((b,d):(List Stmt)×Int)=>
    bif decide (d<(c.body.length:Int)) then(
     Option.bind (av b d) λy=>
     Option.bind (vL n y) λz=>
     Option.bind (ca b d z) λA=>
     a (A,wr (d+1))
    ) else(
     Option.bind (jF c.body b) λR=>
     k (⟨c.nest,b⟩:Part)
    )
   ) n (c.body,0)) (W:=λ_ o=>o) (m:=λ_=>(p.parts.length:Int)) (g:=jL) (s:=0) (K:=λB=>some ((⟨p.aY,B⟩:Prog),true)) (λ_ _ _ h=>h) (λ_ _=>rfl) O (λx C k i=>?_) O O (aa.some ?_)
 ·obtain⟨_,X,D,_⟩:=fX (w x C);refine wB (l:=x.body) (n:=n) (F:=λx k=>Option.bind (vL n x) k) (W:=λ_ o=>o) (m:=λ_=>(x.body.length:Int)) (g:=kW) (s:=0) (K:=λb=>Option.bind (jF x.body b) λ_=>k (⟨x.nest,b⟩:Part)) (λ_ _ _ h=>h) (λ_ _=>rfl) O (λs G k i=>ag (Wl q (D s G)) i) O O ?_;refine ag (nM a1) ?_
  have:(⟨x.nest,x.body.take 0++(x.body.drop 0).map kW⟩:Part)=jL x:=by simp[jL]
  rw[this];exact i
 simp[A9]
theorem TW(e:7700000<=n)(h:d<=4)(a:ep s d=true)(c:ep s 4=true):DJ n s=some (kW s,true):=by
 obtain⟨n,rfl⟩: ∃j,n=j+1:=⟨n-1,O⟩
 have b:mu 4 s:=Pq a;unfold DJ;refine aa.eq (ag (J1 O (b.mono (O:4<=1100000)).sm 4) ?_);rw[c];refine bS (ag (t6 O ((b.mono (O:4<=1100000)).1).sm) (ag (Mc 5 n s.value O (kd a).2.1) (aa.some rfl)))
theorem Np{a:az}(h:eI a d=true)(b:d<=e):eI a e=true:=by unfold eI at h⊢;rw[oc,decide_eq_true_eq] at h;rw[h.1,bp O];rfl
theorem O6{a:b7}(h:fK a d=true)(b:d<=e):fK a e=true:=by unfold fK at h⊢;rw[oc,fC] at h;rw[h.2,Bool.and_true];exact fC.2 λx c=>Np (h.1 x c) b
theorem acR{x:Expr}(h:ei x d=true)(a:d<=e):ei x e=true:=by
 unfold ei at h⊢;split at h
 ·rename_i b;rw[aW b];simp only[Bool.and_eq_true] at h⊢;exact⟨h.1,h.2.1,Np h.2.2 a⟩
 rename_i b;rw[aT b];split at h
 ·rename_i c;rw[aW c];simp only[Bool.and_eq_true] at h⊢;exact⟨h.1,h.2.1,O6 h.2.2 a⟩
 rename_i c;rw[aT c];exact h
theorem L'{d e:Int}(a:d<=e): ∀{L:Nat} {x:Expr},dr L x d=true->dr L x e=true
 |0,_,h=>by cases h
 |L+1,x,h=>by obtain⟨c,i,l⟩:=gM h;exact FL c (acR i a) λk b=>L' a (l k b)
theorem ab6(h:ep s d=true):ep s 4=true:=by unfold ep at h⊢;simp only[Bool.and_eq_true,decide_eq_true_eq] at h⊢;exact⟨O,O6 h.2.1 h.1.2,L' h.1.2 h.2.2.1,h.2.2.2⟩
theorem ab7(h:ep s d=true):d<=4:=by unfold ep at h;simp only[Bool.and_eq_true,decide_eq_true_eq] at h;exact h.1.2
theorem SQ(H:7700000<=n)(q:dK 1100000 p):Cs n p=some (tM p):=by
 unfold Cs tM;refine aa.eq (ag (kA O q) (ag (jw H q.sm) (aa.cond (λh=>aa.some ?_) λh=>?_)))
 ·rw[aT (by simpa using h)];rfl
 have K:bU p=true:=by simpa using h
 rw[aW K];obtain⟨u,v,E,W,_⟩:=eg K;refine ag (oV O q) ?_;refine aa.loop (λz:List Part×Int=> ∃i:Nat,z.2=i/\i<=p.parts.length/\z.1=(p.parts.take i).map jL++p.parts.drop i) (λz=>p.parts.length-z.2.toNat) ?_ n _ ⟨0,rfl,O,a1⟩ Z;rintro r ⟨x,z⟩ ⟨i,L,I,d⟩ X;dsimp only at L d⊢;subst L;have a:((p.parts.take i).map jL).length=i:=by rw[dj,cq];omega
 have w:x.length=p.parts.length:=by rw[d,cP,a,eX];omega
 rw[w];refine aR (λf=>?_) λg=>aa.some ?_
 ·obtain⟨P,l⟩: ∃P,p.parts[i]? =some P:=⟨_,bg (O:i<p.parts.length)⟩
  have A:x[i]? =some P:=by
   rw[d,hi O,a,kp,fS];exact l
  obtain⟨_,M,t,_⟩:=fX (W P (bC l));refine aa.loop (λz:List Part×Int=> ∃j:Nat,z.2=j/\j<=P.body.length/\z.1=x.set i ⟨P.nest,(P.body.take j).map kW++P.body.drop j⟩) (λz=>P.body.length-z.2.toNat) ?_ n _ ⟨0,rfl,O,by
   dsimp only;rw[List.take_zero,List.map_nil,qJ,mq];exact(aak A).symm⟩ Z
  rintro m ⟨y,N⟩ ⟨j,e,S,k⟩ B;dsimp only at e k⊢;subst e;have C:y[i]? =some ⟨P.nest,(P.body.take j).map kW++P.body.drop j⟩:=by rw[k,ir O]
  have b:((P.body.take j).map kW).length=j:=by rw[dj,cq];omega
  have D:((P.body.take j).map kW++P.body.drop j).length=P.body.length:=by rw[cP,b,eX];omega
  refine ag (a' C) ?_;dsimp only;rw[D];refine aR (λQ=>?_) λR=>?_
  ·obtain⟨s,o⟩: ∃s,P.body[j]? =some s:=⟨_,bg (O:j<P.body.length)⟩
   have F:((P.body.take j).map kW++P.body.drop j)[j]? =some s:=by
    rw[hi O,b,kp,fS];exact o
   have c:=t s (bC o);refine ag (a' F) (ag (TW H (ab7 c) c (ab6 c)) (ag (dS O _) (ag (dS (by rw[k,fE];omega) _) ?_)));rw[bf O];refine B _ ⟨j+1,Z,O,?_⟩ Z;dsimp only;rw[k,cV,cV,List.set_set,mn _ _ O,b,kp,j7 o,sI,dV,o];simp
  have G:j=P.body.length:=O
  rw[bf O];refine X _ ⟨i+1,Z,O,?_⟩ Z;dsimp only;rw[k,G,cT,od,jU,d,mn _ _ O,a,kp,j7 l,sI,dV,l];simp[jL]
 have:i=p.parts.length:=O
 rw[d,this,cT,od,jU];rfl
theorem abV(h:ep s d=true):ep (kW s) d=true:=by obtain⟨b,a,_⟩:=kd h;unfold ep at h⊢;simp only[Bool.and_eq_true,decide_eq_true_eq] at h⊢;exact⟨h.1,b,qp a,by have:=Nk a;show dp 5 (fz 5 s.value)<=12;omega⟩
theorem Wp(b:ep s d=true){q:List Int}(h:d9 r s q=true):d9 r (kW s) q=true:=by unfold d9 at h⊢;rw[oc,fC] at h;rw[show(kW s).write=s.write from rfl,h.1,eW];exact fC.2 λa c=>h.2 a (LU (kd b).2.1 a c)
theorem LV(x:Part):iH (jL x)=iH x:=rfl
theorem Yg{x:Part}(h:eh r x=true):eh r (jL x)=true:=by
 obtain⟨d,e,c,i⟩:=fX h;unfold eh nw;rw[show(jL x).nest=x.nest from rfl,d,LV];have k:(jL x).body=x.body.map kW:=rfl;rw[k,dj,bp e];simp only[Option.isSome_some,Bool.true_and,Bool.and_eq_true,List.all_eq_true];refine⟨λs b=>?_,λs b q l=>?_⟩
 ·obtain⟨t,a,rfl⟩:=et.1 b;exact abV (c t a)
 obtain⟨t,a,rfl⟩:=et.1 b
 have:=i t a q l;exact⟨Wp (c t a) this.1,this.2⟩
theorem abW(h:bU p=true):bU (A9 p)=true:=by
 unfold bU iO at h⊢;simp only[Bool.and_eq_true,decide_eq_true_eq,List.all_eq_true] at h⊢;obtain⟨⟨a,b,c⟩,d⟩:=h;refine⟨⟨a,by simpa[A9] using b,λx e=>?_⟩,?_⟩
 ·obtain⟨y,i,rfl⟩:=et.1 e;exact Yg (c y i)
 show((p.parts.map jL).map fo).sum<=120;rw[List.map_map,show p.parts.map (fo ∘ jL)=p.parts.map fo from List.map_congr_left (λx _=>by
  show fo (jL x)=fo x;unfold fo;rw[LV,show(jL x).body.length=x.body.length by simp[jL]])]
 exact d
end
def oB(p:Prog)(a:Int):Bool:=(List.range (bk p.parts).length).all (λi=>match (bk p.parts)[i]? with
 |some x=> !((jQ p (bk p.parts)).getD i false&&decide (x.part=a))
 |none=>true)
variable {p:Prog}{n:Nat}{a:Int}
theorem zu{part:Int}:oB p part=true↔ ∀(i:Nat) x,(bk p.parts)[i]? =some x->(jQ p (bk p.parts)).getD i false=true->x.part≠part:=by
 unfold oB;rw[fC];constructor
 ·intro h i x a b e
  have:=h i (n'.2 (bM.1 a).1);rw[a] at this;simp only[b,e,decide_true,Bool.and_self,Bool.not_true] at this;cases this
 intro h i c;cases a:(bk p.parts)[i]? with
 |none=>rfl
 |some x=>
  dsimp only;cases b:(jQ p (bk p.parts)).getD i false with
  |false=>rfl
  |true=>rw[bs (h i x a b)];rfl
theorem L3(p:Prog)(l:List cb):(jQ p l).length=l.length:=sl p l l.length
theorem GQ(e:bU p=true)(i:Nat):bU ⟨p.aY,p.parts.take i++p.parts.drop (i+1)⟩=true:=by
 have b: ∀x∈p.parts.take i++p.parts.drop (i+1),x∈p.parts:=λx c=>by
  rcases ef.1 c with h|h
  ·exact fU h
  exact eV h
 have d:=(eg e).2.2.2.1;have m:=(BP p.parts)
 have n: ∀l:List Part,(∀x∈l,x∈p.parts)->0<=(l.map fo).sum:=λl o=>by
  induction l with
  |nil=>simp
  |cons a l q=>
   simp only[List.map_cons,List.sum_cons]
   have:=(yW (d a (o a eH))).1
   have:=q λx c=>o x (eu _ c);omega
 unfold bU iO at e⊢;simp only[Bool.and_eq_true,decide_eq_true_eq,List.all_eq_true] at e⊢;obtain⟨⟨aH,a2,a3⟩,a4⟩:=e;refine⟨⟨aH,by simp only[List.length_append,List.length_take,List.length_drop];omega,λx c=>a3 x (b x c)⟩,?_⟩;have r:(p.parts.map fo).sum=((p.parts.take i).map fo).sum+((p.parts.drop i).map fo).sum:=by
  conv=>lhs;rw[<-qN i p.parts]
  rw[gJ,yF]
 have s:((p.parts.drop (i+1)).map fo).sum<=((p.parts.drop i).map fo).sum:=by
  cases k:p.parts.drop i with
  |nil=>
   have:p.parts.drop (i+1)=[]:=by rw[<-List.drop_drop,k];rfl
   rw[this];simp
  |cons a l=>
   have:p.parts.drop (i+1)=l:=by rw[<-List.drop_drop,k];rfl
   rw[this];simp only[List.map_cons,List.sum_cons]
   have:=(yW (d a (eV (i:=i) (by rw[k];exact eH)))).1;omega
 simp only[List.map_append,List.sum_append];omega
theorem NV(a:bU p=true)(i:Nat):dK 1100000 ⟨p.aY,p.parts.take i++p.parts.drop (i+1)⟩:=(kZ (GQ a i)).mono O
def tP(p:Prog)(a:Int):Prog×Bool:=if(bU p&&(ea p a&&oB p a))=true then(⟨p.aY,p.parts.take a.toNat++p.parts.drop (a.toNat+1)⟩,true) else d'
theorem Yb(G:7810000<=n)(H:dK 1100000 p)(g: -1<=a/\a<=9):DV n p a=some (tP p a):=by
 unfold DV tP;refine aa.eq (ag (u6 G H.sm) ?_);by_cases c:bU p=true
 ·rw[aW c,c];have Q:=(eg c).2.2.2.2;refine bY (aa.aI (λz=>z= !ea p a) (λj d=>bS (ag (qs n H.2.1 a) (d _ rfl))) λz o=>?_);subst o;cases s:ea p a with
  |false=>exact bY (aa.some rfl)
  |true=>
   have w:0<=a/\a<(p.parts.length:Int):=eQ s;refine bS (ag (x:=jQ p (bk p.parts)) (Yx G c) ?_);have A:=L3 p (bk p.parts);rw[A];refine aa.loop (λz:Int=> ∃i:Nat,z=i/\i<=(bk p.parts).length/\ ∀(j:Nat) x,j<i->(bk p.parts)[j]? =some x->(jQ p (bk p.parts)).getD j false=true->x.part≠a) (λz=>(bk p.parts).length-z.toNat) ?_ n _ ⟨0,rfl,O,λj x h=>O⟩ O;rintro B z ⟨i,rfl,t,q⟩ R;refine aR (λW=>?_) λX=>?_
   ·obtain⟨x,C⟩: ∃x,(bk p.parts)[i]? =some x:=⟨_,bg (O:i<(bk p.parts).length)⟩
    have D:av (jQ p (bk p.parts)) (i:Int)=some ((jQ p (bk p.parts)).getD i false):=by
     have b:i<(jQ p (bk p.parts)).length:=O
     rw[a' (bg b),ek,bg b];rfl
    have k:av (fr p).list (i:Int)=some x:=a' C;refine ag D (aa.aI (λz=>z=((jQ p (bk p.parts)).getD i false&&decide (x.part=a))) (λj d=>aa.cond (λh=>ag k (d _ (by rw[h];rfl))) λh=>d _ (by rw[h];rfl)) λz o=>?_);subst o;refine aa.cond (λh=>aa.some ?_) λh=>?_
    ·rw[oc,decide_eq_true_eq] at h
     have:oB p a=false:=by
      cases f:oB p a with
      |false=>rfl
      |true=>exact bt h.2 (zu.1 f i x C h.1)
     rw[this];rfl
    rw[bf O];refine R _ ⟨i+1,O,O,λj y d F r=>?_⟩ O;by_cases e:j=i
    ·subst e;rw[C] at F;cases F;rw[r,eW] at h;exact of_decide_eq_false h
    exact q j y O F r
   have m:oB p a=true:=zu.2 λj x K r=>q j x (by have:=(bM.1 K).1;omega) K r;rw[m];refine ag (q9 O c) (ag (x:=(eF p.parts a (a+1),jt p.parts a (a+1) (⟨[],[]⟩:Part))) ?_ (aa.some ?_))
   ·unfold uL;rw[bf O,bp w.1,bp (O:a<=a+1),bp (O:a+1<=(p.parts.length:Int)),bs (show¬a=a+1 by omega)];rfl
   show(⟨p.aY,(jt p.parts a (a+1) (⟨[],[]⟩:Part)).take (eF p.parts a (a+1))⟩,true)=((⟨p.aY,p.parts.take a.toNat++p.parts.drop (a.toNat+1)⟩:Prog),true)
   have L:(p.parts.take a.toNat++p.parts.drop (a+1).toNat).length=eF p.parts a (a+1):=by
    unfold eF;simp only[List.length_append,List.length_take,List.length_drop];omega
   unfold jt;rw[ng (by rw[L];exact cD _),fG (l:=p.parts.take a.toNat++p.parts.drop (a+1).toNat) (by rw[L];exact cD _),show(a+1).toNat=a.toNat+1 by omega]
 rw[aT c,show bU p=false by simpa using c];refine bS (aa.aI (λz=>z=true) (λj d=>bY (d _ rfl)) λz o=>?_);rw[o];exact bY (aa.some rfl)
theorem YU(Q:7810000<=n)(m:dK 1100000 p)(I: -1<=a/\a<=9):DK n p a=some (tP p a):=by
 unfold DK tP;refine aa.eq (ag (kA O m) (aa.aI (λz=>z= !(bU p&&ea p a)) (λj o=>?_) λz R=>?_))
 ·refine ag (jw O m.sm) (aa.cond (λh=>o _ ?_) λh=>?_)
  ·rw[re h];rfl
  have bI:=pA h;refine aR (λq=>o _ ?_) λq=>o _ ?_
  ·rw[bI,show ea p a=false from bs O];rfl
  by_cases K:(p.parts.length:Int)<=a
  ·rw[bI,bp K,show ea p a=false from bs O];rfl
  rw[bI,bs K,show ea p a=true from bp O];rfl
 subst R;by_cases bI:bU p=true
 ·rw[bI];have W:=(eg bI).2.2.2.2;cases A:ea p a with
  |false=>exact bY (aa.some rfl)
  |true=>
   have X:0<=a/\a<(p.parts.length:Int):=eQ A;refine bS (ag (SA Q m.sm) (ag (uD O bI) ?_));rw[aW bI];have f:=L3 p (bk p.parts);have g:=KM (jQ p (bk p.parts));have r: ∀c∈o9 (jQ p (bk p.parts)),∃(i:Nat) (x:cb),c=i/\(bk p.parts)[i]? =some x/\(jQ p (bk p.parts)).getD i false=true:=λc B=>by
    obtain⟨M,q⟩:=Ed.1 B;have s:c.toNat<(bk p.parts).length:=by
     by_cases h:c.toNat<(bk p.parts).length
     ·exact h
     rw[ek,yC O] at q;cases q
    exact⟨c.toNat,_,O,bg s,q⟩
   generalize t:o9 (jQ p (bk p.parts))=L at*;refine aa.loop (λz:Int=> ∃i:Nat,z=i/\i<=L.length/\ ∀c∈L.take i,∀x,(bk p.parts)[c.toNat]? =some x->x.part≠a) (λz=>L.length-z.toNat) ?_ n _ ⟨0,rfl,O,λc B=>by simp at B⟩ O;rintro C z ⟨i,rfl,N,b⟩ u;refine aR (λs=>?_) λv=>?_
   ·obtain⟨c,D⟩: ∃c,L[i]? =some c:=⟨_,bg (O:i<L.length)⟩
    obtain⟨k,x,rfl,w,F⟩:=r c (bC D);refine ag (a' D) (ag (a' w) (aR (λh=>aa.some ?_) λh=>?_))
    ·have:oB p a=false:=by
      cases l:oB p a with
      |false=>rfl
      |true=>exact bt h (zu.1 l k x w F)
     rw[this];rfl
    rw[bf O];refine u _ ⟨i+1,O,O,λd l y G=>?_⟩ O;rw[fw D,ef,kU] at l;rcases l with l|rfl
    ·exact b d l y G
    rw[cV,w] at G;cases G;exact h
   have H:i=L.length:=O
   rw[H,cT] at b;have e:oB p a=true:=zu.2 (λj x w F=>by
    have o:((j:Nat):Int)∈L:=by rw[<-t];exact Ed.2 ⟨O,by rw[cV];exact F⟩
    exact b _ o x (by rw[cV];exact w))
   rw[e];obtain⟨i,rfl⟩: ∃i:Nat,a=i:=⟨a.toNat,O⟩
   refine ag (x:=(⟨p.aY,p.parts.take i++p.parts.drop (i+1)⟩,true)) (aa.eq ?_) (aa.some rfl);have E:=m.2.1;unfold ja;refine ag (oV O m) (ag (gQ O O O) ?_);rw[cV,show(0:Int).toNat=0 from rfl,mq];refine ag (x:=p.parts.take i) (cW bX) (ag (x:=p.parts.take i) (by rw[cW bX,jU]) ?_);rw[bf O];refine ag (gQ O O O) ?_;rw[cV,cT,show((i:Int)+1).toNat=i+1 by omega];refine ag (x:=p.parts.take i++p.parts.drop (i+1)) (cW bX) (ag (jw O (NV bI i).sm) ?_);rw[GQ bI i];exact bS (ag (oV O (NV bI i)) (aa.some rfl))
 rw[show bU p=false by simpa using bI];exact bY (aa.some rfl)
end Go.Lift
