/- Tools. -/
import Derived.Test.YtlbojjldejlgaaaGreatXDrawD
set_option maxRecDepth 110000000
set_option linter.unusedVariables false
namespace Go.Lift
open Go
section
variable {h R k:Type}{l:List aH}{F:aH->Option aH}{K:List h->Option R}{Q:R->Prop}{n:Nat}{s:Stmt}{f:aH->aH}{e:Expr}{d v i:Int}{a b:aH}{r:List bX}{x y:Part}{p:Prog}{nest:List Loop}
theorem tE{β:Type}{l:List h}{F:h->(β->Option R)->Option R}{g:h->β}{K:List β->Option R}(d: ∀x∈l,∀k:β->Option R,ah (k (g x)) Q->ah (F x k) Q)
  {s:Nat} (v:s<=l.length) {pre:List β} (A:pre.length<=1100000) (B:l.length<=1100000) (C:5500000<=n) (e:ah (K (pre++(l.drop s).map g)) Q):
  ah (a8 (λa ((x,i):List β×Int)=>bif decide (i<(l.length:Int)) then(Option.bind (aD l i) λy=>F y λz=>Option.bind (app x [z]) λw=>a (w,wr (i+1))) else K x) n (pre,(s:Int))) Q:=by
 refine ah.loop (λz:List β×Int=> ∃i:Nat,z.2=i/\s<=i/\i<=l.length/\z.1=pre++((l.drop s).take (i-s)).map g) (λz=>l.length-z.2.toNat) ?_ n _ ⟨s,rfl,O,O,aY⟩ Z;rintro a ⟨x,z⟩ ⟨i,c,m,D,b⟩ o;dsimp only at c b⊢;subst c;refine bb (λp=>?_) λq=>?_
 ·have bE:=bg (O:i<l.length);have r:x.length<=2200000:=by rw[b,dq,dI,dz,ir];omega
  refine ai (bw bE) (d _ (bB bE) _ (ai (ej bY) ?_));rw[bd O];refine o _ ⟨i+1,Z,O,O,?_⟩ Z;dsimp only;rw[show i+1-s=(i-s)+1 by omega,eG,fX,show s+(i-s)=i by omega,bE,b,jy,iq];rfl
 have:i=l.length:=O
 subst this;rw[b,ls (by rw[ir];omega)];exact e
theorem o5{H:Type}{l:List H}{f:H->Option h}{g:H->h}(b: ∀x∈l,f x=some (g x))(c:l.length<=1100000)(d:5500000<=n)(e:ah (K (l.map g)) Q):
  ah (a8 (λa ((x,i):List h×Int)=>bif decide (i<(l.length:Int)) then(Option.bind (aD l i) λy=>Option.bind (f y) λz=>Option.bind (app x [z]) λw=>a (w,wr (i+1))) else K x) n ([],0)) Q:=
 tE (F:=λy k=>Option.bind (f y) k) (g:=g) (s:=0) (pre:=[]) (λx m k o=>ai (b x m) o) O aY c d (by simpa using e)
theorem yW{l:List h}{F:h->(h->Option R)->Option R}{W:List h->Option R->Option R}{m:List h->Int}{g:h->h}
  (v: ∀y o,y.length=l.length->ah o Q->ah (W y o) Q) (A: ∀y:List h,y.length=l.length->m y=(l.length:Int))
  {s:Nat} (X:s<=l.length) (B: ∀x∈l,∀k:h->Option R,ah (k (g x)) Q->ah (F x k) Q) (f:l.length<=1100000) (j:5500000<=n) (C:ah (K (l.take s++(l.drop s).map g)) Q):
  ah (a8 (λa ((y,i):List h×Int)=>W y (bif decide (i<m y) then(Option.bind (aD y i) λx=>F x λz=>Option.bind (cR y i z) λw=>a (w,wr (i+1))) else K y)) n (l,(s:Int))) Q:=by
 refine ah.loop (λz:List h×Int=> ∃i:Nat,z.2=i/\s<=i/\i<=l.length/\z.1=l.take s++((l.drop s).take (i-s)).map g++l.drop i) (λz=>l.length-z.2.toNat) ?_ n _ ⟨s,rfl,O,O,aY⟩ Z;rintro a ⟨x,z⟩ ⟨i,r,D,t,c⟩ G;dsimp only at r c⊢;subst r;have b:(l.take s++((l.drop s).take (i-s)).map g).length=i:=by rw[dq,dI,dz,dz,ir];omega
 have d:x.length=l.length:=by rw[c,dq,b,ir];omega
 refine v _ _ d ?_;rw[A _ d];refine bb (λH=>?_) λL=>?_
 ·obtain⟨e,p⟩: ∃e,l[i]? =some e:=⟨_,bg (O:i<l.length)⟩
  have q:x[i]? =some e:=by
   rw[c,gH O,b,nG,fX];exact p
  refine ai (bw q) (B _ (bB p) _ (ai (fr O _) ?_));rw[bd O];refine G _ ⟨i+1,Z,O,O,?_⟩ Z;dsimp only;rw[c,eF,w2 _ _ O,b,nG,nc p,List.set_cons_zero,show i+1-s=(i-s)+1 by omega,eG,fX,show s+(i-s)=i by omega,p];simp
 have:i=l.length:=O
 subst this;rw[c,ls (l:=l.drop s) (by rw[ir];omega),nK,kd];exact C
def ny(f:aH->aH)(a:bR):bR:=⟨a.array,a.ak.map f⟩
def mB(f:aH->aH):Nat->Expr->Expr
 |0,e=>e
 |L+1,e=>⟨e.kind,e.num,if e.kind=2 then f e.index else⟨[],0⟩,if e.kind=3 then ny f e.read else⟨[],[]⟩,e.aJ.map (mB f L)⟩
def iT(f:aH->aH)(s:Stmt):Stmt:=⟨ny f s.write,mB f 5 s.value⟩
def hn(f:aH->aH)(l:Loop):Loop:=⟨l.bn.map f,l.aG.map f⟩
theorem nw(h:eS e d=true)(a:e.kind=2):cX e.index=true/\hR e.read=true:=by unfold eS ep at h;rw[bh a] at h;simp only[Bool.and_eq_true] at h;exact⟨h.2.2.1,h.2.1⟩
theorem nv(h:eS e d=true)(a:e.kind=3):f8 e.read d=true/\fM e.index=true:=by unfold eS at h;rw[bp O,bh a] at h;simp only[Bool.and_eq_true] at h;exact⟨h.2.2,h.2.1⟩
theorem rB(h:eS e d=true)(a: ¬e.kind=2)(b: ¬e.kind=3):fM e.index=true/\hR e.read=true:=by unfold eS at h;rw[bp a,bp b] at h;split at h<;>simp only[Bool.and_eq_true] at h<;>exact⟨h.2.1,h.2.2⟩
theorem qV(h:fM a=true):a=⟨[],0⟩:=by obtain⟨c,k⟩:=a;simp only[fM,Bool.and_eq_true,decide_eq_true_eq] at h;obtain⟨b,rfl⟩:=h;rw[iQ b]
theorem qW{a:bR}(h:hR a=true):a=⟨[],[]⟩:=by obtain⟨c,k⟩:=a;simp only[hR,Bool.and_eq_true,decide_eq_true_eq] at h;obtain⟨rfl,b⟩:=h;rw[iQ b]
theorem I7(b:5500000<=n){a:bR}(c:f8 a d=true)(e: ∀x,cX x=true->F x=some (f x)):oN n a F=some (ny f a):=by obtain⟨l,m,h⟩:=j8 c;refine ah.eq ?_;unfold oN;exact o5 (K:=λi=>some (⟨a.array,i⟩:bR)) (λx k=>e x (h x k)) O b (ah.some rfl)
theorem CB{d:Int}{F:aH->Option aH}{f:aH->aH}(c: ∀x,cX x=true->F x=some (f x)): ∀(L n:Nat) (e:Expr),5500000+L<=n->dR L e d=true->jl (n+1) e F=some (mB f L e)
 |0,_,_,_,h=>by cases h
 |L+1,n,e,B,h=>by
  obtain⟨C,k,o⟩:=jj h;obtain⟨n,rfl⟩: ∃j,n=j+1:=⟨n-1,O⟩
  have p:e.aJ.length<=2:=by have:=l3 e.kind;omega
  unfold jl;refine ah.eq (ah.aW (λz=>(⟨z.1,z.2.1⟩:aH)=(if e.kind=2 then f e.index else⟨[],0⟩)/\(⟨z.2.2.1,z.2.2.2⟩:bR)=(if e.kind=3 then ny f e.read else⟨[],[]⟩)) (λj i=>?_) λz q=>?_)
  ·refine bb (λa=>?_) λa=>bb (λb=>?_) λb=>?_
   ·exact ai (c _ (nw k a).1) (i _ ⟨by rw[bh a],by rw[bp O]⟩)
   ·exact ai (I7 O (nv k b).1 c) (i _ ⟨by rw[bp a],by rw[bh b]⟩)
   exact i _ ⟨by rw[bp a],by rw[bp b]⟩
  obtain⟨r,s,v,w⟩:=z;obtain⟨l,m⟩:=q;dsimp only at l m⊢;refine o5 (K:=λy=>some (⟨e.kind,e.num,(⟨r,s⟩:aH),(⟨v,w⟩:bR),y⟩:Expr)) (λx A=>CB c L n x O (o x A)) O O (ah.some ?_);rw[l,m];rfl
theorem JE(h:6600000<=n)(b:eL s d=true)(a: ∀x,cX x=true->F x=some (f x)):i8 n s F=some (iT f s):=by
 obtain⟨c,e,_⟩:=jY b;obtain⟨n,rfl⟩: ∃j,n=j+1:=⟨n-1,O⟩
 unfold i8;rw[I7 O c a,CB a 5 n s.value O e];rfl
theorem zq{k:Type}{f:k->k}: ∀{l:List k},(∀x∈l,f x=x)->l.map f=l
 | [],_=>rfl
 |x::l,h=>by rw[List.map_cons,h x ev,zq λy a=>h y (dV _ a)]
theorem DW{a:bR}(b:f8 a d=true)(c: ∀x,cX x=true->f x=x):ny f a=a:=by obtain⟨i,k,e⟩:=j8 b;unfold ny;rw[zq λx h=>c x (e x h)]
theorem Fh{d:Int}{f:aH->aH}(k: ∀x,cX x=true->f x=x): ∀{L:Nat} {e:Expr},dR L e d=true->mB f L e=e
 |0,_,_=>rfl
 |L+1,e,h=>by
  obtain⟨n,c,l⟩:=jj h;obtain⟨kind,num,index,read,m⟩:=e;unfold mB;dsimp only at n c l⊢;rw[zq λx o=>Fh k (l x o)];by_cases b:kind=2
  ·have a:=nw c b;dsimp only at a;rw[bh b,bp O,k _ a.1,qW a.2]
  by_cases i:kind=3
  ·have a:=nv c i;dsimp only at a;rw[bp b,bh i,DW a.1 k,qV a.2]
  have a:=rB c b i;dsimp only at a;rw[bp b,bp i,qV a.1,qW a.2]
theorem Q1(a: ∀x,cX x=true->f x=x)(b:eL s d=true):iT f s=s:=by obtain⟨c,e,_⟩:=jY b;unfold iT;rw[DW c a,Fh a e]
def kV(l:Loop):Prop:=(l.bn.length<=2/\ ∀x∈l.bn,cX x=true)/\l.aG.length<=2/\ ∀x∈l.aG,cX x=true
theorem R3{o:List Loop}(h:Fit o): ∀l∈o,kV l:=λl a=>by
 obtain⟨i,b⟩:=ht.1 a
 have:=h.2 i l b;exact⟨(ns this.1).2,(ns this.2).2⟩
theorem nf(h:eC r x=true):x.nest.length<=4/\ ∀l∈x.nest,kV l:=by have:=(og (kF h).1).1;exact⟨this.1,R3 this⟩
theorem F3(h:cX a=true):gX 4 a:=by have:=(iG h).1;unfold gX;omega
theorem uF(d:l.length<=2)(b: ∀x∈l,cX x=true):hX 4 l:=⟨O,λa c=>F3 (b a c)⟩
theorem F2{d:Int}: ∀{L:Nat} {e:Expr},dR L e d=true->hY 4 L e
 |0,_,h=>by cases h
 |L+1,e,h=>by
  obtain⟨l,a,m⟩:=jj h
  have:=l3 e.kind;refine⟨O,?_,?_,λk l=>F2 (m k l)⟩
  ·by_cases b:e.kind=2
   ·exact F3 (nw a b).1
   by_cases c:e.kind=3
   ·rw[qV (nv a c).2];unfold gX;simp
   rw[qV (rB a b c).1];unfold gX;simp
  by_cases c:e.kind=3
  ·have:=j8 (nv a c).1;exact uF this.2.1 this.2.2
  by_cases b:e.kind=2
  ·rw[qW (nw a b).2];exact⟨aY,λx i=>by cases i⟩
  rw[qW (rB a b c).2];exact⟨aY,λx i=>by cases i⟩
theorem SP(a:eL s d=true):kQ 4 s:=by
 obtain⟨b,c,_⟩:=jY a
 have:=j8 b;exact⟨uF this.2.1 this.2.2,F2 c⟩
theorem FV(h:eC r x=true):ki 4 x:=by obtain⟨c,a⟩:=nf h;obtain⟨_,d,e,_⟩:=kF h;exact⟨⟨c,λl b=>⟨uF (a l b).1.1 (a l b).1.2,uF (a l b).2.1 (a l b).2.2⟩⟩,d.2,λs i=>SP (e s i)⟩
theorem Gm{l:List bX}(a:l.length<=4)(b:kI l):rp 4 l:=⟨a,λx c=>by have:=b x c;simp only[hg,Bool.and_eq_true,decide_eq_true_eq] at this;omega⟩
theorem F1(h:c' p=true):gK 4 p:=by obtain⟨a,b,c,d,_⟩:=gQ h;exact⟨Gm a b,c,λx e=>FV (d x e)⟩
theorem uv{B:Nat}(h:l.length<=B)(b: ∀x∈l,gX B (f x)):hX B (l.map f):=⟨by rw[dI];exact h,λa c=>by obtain⟨x,d,rfl⟩:=fU.1 c;exact b x d⟩
theorem FX{d:Int}{f:aH->aH}(b: ∀x,cX x=true->gX 4 (f x)): ∀{L:Nat} {e:Expr},dR L e d=true->hY 4 L (mB f L e)
 |0,_,h=>by cases h
 |L+1,e,h=>by
  obtain⟨l,m,n⟩:=jj h
  have:=l3 e.kind;unfold mB hY;refine⟨by dsimp only;rw[dI];omega,?_,?_,λk l=>?_⟩
  ·dsimp only;by_cases c:e.kind=2
   ·rw[bh c];exact b _ (nw m c).1
   rw[bp c];unfold gX;simp
  ·dsimp only;by_cases i:e.kind=3
   ·rw[bh i]
    have:=j8 (nv m i).1;exact uv O λx a=>b x (this.2.2 x a)
   rw[bp i];exact⟨aY,λx a=>by cases a⟩
  obtain⟨x,a,rfl⟩:=fU.1 l;exact FX b (n x a)
theorem R9(a: ∀x,cX x=true->gX 4 (f x))(b:eL s d=true):kQ 4 (iT f s):=by
 obtain⟨c,e,_⟩:=jY b
 have:=j8 c;exact⟨uv O λx h=>a x (this.2.2 x h),FX a e⟩
theorem QP(b: ∀x,cX x=true->gX 4 (f x)){l:Loop}(h:kV l):hX 4 (hn f l).bn/\hX 4 (hn f l).aG:=
 ⟨uv (by have:=h.1.1;omega) λx a=>b x (h.1.2 x a),uv (by have:=h.2.1;omega) λx a=>b x (h.2.2 x a)⟩
theorem N5(n:Nat)(h:a.ao.length<=1100000):kv n a=some a:=by unfold kv ho;rw[bh O];rfl
theorem yd(n:Nat): ∀x,cX x=true->kv n x=some x:=λx a=>N5 n (by have:=(iG a).1;omega)
theorem De(a:5500000<=n)(e:l.length<=2)(b: ∀x∈l,cX x=true):mK n l=some l:=by unfold mK;refine ah.eq (o5 (g:=λx=>x) (K:=λc=>some c) (λx d=>yd n x (b x d)) O a (ah.some ?_));simp
theorem Ng(c:5500000<=n)(o:nest.length<=4)(a: ∀l∈nest,kV l):th n nest=some nest:=by unfold th;refine ah.eq ?_;refine tE (β:=Loop) (l:=nest) (n:=n) (F:=λd k=>Option.bind (mK n d.bn) λe=>Option.bind (mK n d.aG) λh=>k (⟨e,h⟩:Loop)) (g:=λx=>x) (s:=0) (pre:=[]) (K:=λi=>some i) ?_ O aY O c (ah.some aY);exact λx b k m=>ai (De c (a x b).1.1 (a x b).1.2) (ai (De c (a x b).2.1 (a x b).2.2) m)
theorem Nd(b:6600000<=n)(a:eL s d=true):tg n s=some s:=by unfold tg;rw[JE b a (F:=λc=>kv n c) (f:=λx=>x) (yd n),Q1 (λ_ _=>rfl) a];rfl
theorem Nf(a:6600000<=n)(h:eC r x=true):qK n x=some x:=by obtain⟨b,c⟩:=nf h;obtain⟨_,k,d,_⟩:=kF h;unfold qK;refine ah.eq (ai (Ng O b c) (o5 (g:=λx=>x) (K:=λe=>some (⟨x.nest,e⟩:Part)) (λs i=>Nd a (d s i)) O O (ah.some ?_)));simp
theorem zD(o:6600000<=n)(h:c' p=true):qj n p=some p:=by
 obtain⟨q,r,A,v,_⟩:=gQ h;unfold qj;refine ah.eq (tE (F:=λm k=>Option.bind (ho m.bo) λw=>k (⟨m.name,w⟩:bX)) (g:=λx=>x) (s:=0) (pre:=[]) (K:=λy=>a8 (λa ((b,c):(List Part)×Int)=>
    bif decide (c<(p.parts.length:Int)) then(
     Option.bind (aD p.parts c) λd=>
     Option.bind (qK n d) λe=>
     Option.bind (app b [e]) λi=>
     a (i,wr (c+1))
    ) else(
     some (⟨y,b⟩:Prog)
    )
   ) n ([],0)) (λx l k z=>ai (x:=x.bo) ?_ z) O aY O O ?_)
 ·have:=(Gm q r).2 x l;unfold ho;rw[bh O]
 refine o5 (g:=λx=>x) (K:=λb=>some (⟨_,b⟩:Prog)) (λx l=>Nf o (v x l)) O O (ah.some ?_);simp
theorem fg{a b:List k}(h:b.length=a.length):eo a b=some ():=by unfold eo;rw[bh h]
theorem KZ(e:5500000<=n){l:Loop}(r:kV l)(p: ∀x,cX x=true->F x=some (f x)):vH n l F=some (hn f l):=by
 obtain⟨⟨ay,a2⟩,w,v⟩:=r;unfold vH;refine ah.eq (ah.loop (λz:Loop×Int=>(z.2=0/\z.1=l)\/(z.2=1/\z.1=⟨l.bn.map f,l.aG⟩)\/(z.2=2/\z.1=hn f l)) (λz=>3-z.2.toNat) ?_ n _ (.inl ⟨rfl,rfl⟩) Z);rintro a ⟨x,i⟩ q b;dsimp only at q b⊢;rcases q with ⟨rfl,rfl⟩|⟨rfl,rfl⟩|⟨rfl,rfl⟩
 ·refine ai (fg rfl) (ai (fg rfl) (bb (λ_=>bb (λ_=>?_) λh=>(h rfl).elim) λh=>a6 h O));refine yW (F:=λx k=>Option.bind (F x) k) (W:=λ_ o=>o) (m:=λ_=>(x.bn.length:Int)) (g:=f) (s:=0) (K:=λy=>a ((⟨y,x.aG⟩:Loop),wr (0+1))) (λ_ _ _ h=>h) (λ_ _=>rfl) O (λx c k d=>ai (p x (a2 x c)) d) O e ?_;rw[bd O];exact b _ (.inr (.inl ⟨Z,aY⟩)) Z
 ·refine ai (fg aY) (ai (fg rfl) (bb (λ_=>bb (λh=>a6 h O) λ_=>bb (λ_=>?_) λh=>(h rfl).elim) λh=>a6 h O));refine yW (F:=λx k=>Option.bind (F x) k) (W:=λ_ o=>o) (m:=λ_=>(l.aG.length:Int)) (g:=f) (s:=0) (K:=λy=>a ((⟨l.bn.map f,y⟩:Loop),wr (1+1))) (λ_ _ _ h=>h) (λ_ _=>rfl) O (λx c k d=>ai (p x (v x c)) d) O e ?_;rw[bd O];exact b _ (.inr (.inr ⟨Z,by simp[hn]⟩)) Z
 refine ai (fg (by simp[hn])) (ai (fg (by simp[hn])) (bb (λh=>a6 h O) λ_=>ah.some rfl))
theorem KY(G:6600000<=n){body:List Stmt}{s:Nat}(S:s<=nest.length)(T:nest.length<=4)(H: ∀l∈nest.drop s,kV l)(U:body.length<=4)(L: ∀s∈body,eL s d=true)(C: ∀x,cX x=true->F x=some (f x)):
  vN n ⟨nest,body⟩ (s:Int) F=some ⟨nest.take s++(nest.drop s).map (hn f),body.map (iT f)⟩:=by
 have v: ∀(a:List Loop),ah (a8 (λb ((y,j):(List Stmt)×Int)=>
    Option.bind (eo body y) λV=>
    bif decide (j<(body.length:Int)) then(
     Option.bind (aD y j) λQ=>
     Option.bind (i8 n Q F) λR=>
     Option.bind (cR y j R) λX=>
     b (X,wr (j+1))
    ) else(
     some (⟨a,y⟩:Part)
    )
   ) n (body,0)) (λr=>r=⟨a,body.map (iT f)⟩):=λa=>
  yW (F:=λx k=>Option.bind (i8 n x F) k) (W:=λy o=>Option.bind (eo body y) λ_=>o) (m:=λ_=>(body.length:Int)) (g:=iT f) (s:=0) (K:=λy=>some (⟨a,y⟩:Part)) (λy o h t=>ai (fg h) t) (λ_ _=>rfl) O (λx c k u=>ai (JE G (L x c) C) u) O O (ah.some aY)
 unfold vN;refine ah.eq ?_
 -- the loops ahead stay: only those behind are changed
 refine ah.loop (λz:List Loop×Int=> ∃i:Nat,z.2=i/\s<=i/\i<=nest.length/\z.1=nest.take s++((nest.drop s).take (i-s)).map (hn f)++nest.drop i) (λz=>nest.length-z.2.toNat) ?_ n _ ⟨s,rfl,O,O,aY⟩ Z;rintro w ⟨x,z⟩ ⟨i,D,E,Y,c⟩ I;dsimp only at D c⊢;subst D;have p:(nest.take s++((nest.drop s).take (i-s)).map (hn f)).length=i:=by rw[dq,dI,dz,dz,ir];omega
 have A:x.length=nest.length:=by rw[c,dq,p,ir];omega
 refine ai (fg A) (bb (λM=>?_) λN=>?_)
 ·obtain⟨e,q⟩: ∃e,nest[i]? =some e:=⟨_,bg (O:i<nest.length)⟩
  have B:x[i]? =some e:=by
   rw[c,gH O,p,nG,fX];exact q
  have P:e∈nest.drop s:=ht.2 ⟨i-s,by rw[fX,show s+(i-s)=i by omega];exact q⟩;refine ai (bw B) (ai (KZ O (H _ P) C) (ai (fr O _) ?_));rw[bd O];refine I _ ⟨i+1,Z,O,O,?_⟩ Z;dsimp only;rw[c,eF,w2 _ _ O,p,nG,nc q,List.set_cons_zero,show i+1-s=(i-s)+1 by omega,eG,fX,show s+(i-s)=i by omega,q];simp
 have:i=nest.length:=O
 subst this;rw[c,ls (l:=nest.drop s) (by rw[ir];omega),nK,kd];exact v _
theorem y2(c:5500000<=n)(k:l.length<=2)(d: ∀x∈l,cX x=true){a:Int}(e: ∀x,cX x=true->kE n x a v b=some (f x)):qS n l a v b=some (l.map f):=by unfold qS;exact ah.eq (o5 (K:=λh=>some h) (λx i=>e x (d x i)) O c (ah.some rfl))
theorem OC(d:5500000<=n){l:Loop}(c:kV l){a:Int}(e: ∀x,cX x=true->kE n x a v b=some (f x)):tv n l a v b=some (hn f l):=by unfold tv;rw[y2 d c.1.1 c.1.2 e,y2 d c.2.1 c.2.2 e];rfl
theorem CY(e:5500000<=n){a:bR}(h:f8 a d=true){c:Int}(i: ∀x,cX x=true->kE n x c v b=some (f x)):qz n a c v b=some (ny f a):=by have:=j8 h;unfold qz;rw[y2 e this.2.1 this.2.2 i];rfl
theorem D0{d a v:Int}{b:aH}{f:aH->aH}(l: ∀n,5500000<=n-> ∀x,cX x=true->kE n x a v b=some (f x)): ∀(L n:Nat) (e:Expr),5500000+L<=n->dR L e d=true->np (n+1) e a v b=some (mB f L e)
 |0,_,_,_,h=>by cases h
 |L+1,n,e,F,h=>by
  obtain⟨G,m,q⟩:=jj h;obtain⟨n,rfl⟩: ∃j,n=j+1:=⟨n-1,O⟩
  have r:e.aJ.length<=2:=by have:=l3 e.kind;omega
  unfold np;refine ah.eq (ah.aW (λz=>(⟨z.1,z.2⟩:aH)=(if e.kind=2 then f e.index else⟨[],0⟩)) (λj c=>?_) λz o=>ah.aW (λy=>(⟨y.1,y.2⟩:bR)=(if e.kind=3 then ny f e.read else⟨[],[]⟩)) (λj c=>?_) λy p=>?_)
  ·exact bb (λi=>ai (l _ O _ (nw m i).1) (c _ (by rw[bh i]))) λi=>c _ (by rw[bp i])
  ·exact bb (λk=>ai (CY O (nv m k).1 (l _ O)) (c _ (by rw[bh k]))) λk=>c _ (by rw[bp k])
  obtain⟨s,w⟩:=z;obtain⟨A,B⟩:=y;dsimp only at o p⊢;refine o5 (K:=λC=>some (⟨e.kind,e.num,(⟨s,w⟩:aH),(⟨A,B⟩:bR),C⟩:Expr)) (λx D=>D0 l L n x O (q x D)) O O (ah.some ?_);rw[o,p];rfl
theorem OD(w:6600000<=n){l:List Stmt}(e:l.length<=4)(c: ∀s∈l,eL s d=true){a:Int}(h: ∀n,5500000<=n-> ∀x,cX x=true->kE n x a v b=some (f x)):xr n l a v b=some (l.map (iT f)):=by
 obtain⟨n,rfl⟩: ∃j,n=j+1:=⟨n-1,O⟩
 unfold xr;refine ah.eq ?_;refine tE (β:=Stmt) (l:=l) (n:=n+1) (F:=λi k=>Option.bind (qz (n+1) i.write a v b) λm=>Option.bind (np (n+1) i.value a v b) λo=>k (⟨m,o⟩:Stmt)) (g:=iT f) (s:=0) (pre:=[]) (K:=λp=>some p) (λx q k r=>?_) O aY O O (ah.some aY);obtain⟨e,c,_⟩:=jY (c x q);exact ai (CY O e (h _ O)) (ai (D0 h 5 n x.value O c) r)
theorem MU(c:6600000<=n){s:Nat}(r:s+1<=x.nest.length)(w:x.nest.length<=4)(e: ∀l∈x.nest,kV l)(h:x.body.length<=4)(i: ∀s∈x.body,eL s d=true){way:Int}(a: ∀n,5500000<=n-> ∀x,cX x=true->kE n x way v b=some (f x)):
  w7 n x (s:Int) way v b=some ⟨x.nest.take (s+1)++(x.nest.drop (s+1)).map (hn f),x.body.map (iT f)⟩:=by unfold w7;rw[bd O];refine ah.eq (ai (zy O O O) ?_);rw[show((s:Int)+1).toNat=s+1 by omega,show(0:Int).toNat=0 from rfl,List.drop_zero];refine ai (x:=x.nest.take (s+1)) (ej bY) (ai (OD c h i a) ?_);exact tE (F:=λm k=>Option.bind (tv n m way v b) k) (g:=hn f) (s:=s+1) (pre:=x.nest.take (s+1)) (K:=λo=>some (⟨o,x.body.map (iT f)⟩:Part)) (λl p k q=>ai (OC O (e l p) (a _ O)) q) O bY O O (ah.some rfl)
theorem DS(n:Nat)(h:gX 1100000 a):sB n a=some a:=by unfold sB;rw[kx _ h];rfl
theorem wG(a:5500000<=n)(h:hX 1100000 l):oi n l=some l:=by unfold oi;exact ah.eq (jO (K:=λb=>some b) (λx c=>DS n (h.2 x c)) h.1 a (ah.some rfl))
theorem DT(b:5500000<=n){a:bR}(h:hX 1100000 a.ak):d9 n a=some a:=by unfold d9;rw[wG b h];rfl
theorem Ck: ∀(L n:Nat) (e:Expr),5500000+L<=n->hY 1100000 L e->lq (n+1) e=some e
 |0,_,_,_,h=>h.elim
 |L+1,n,e,l,h=>by
  obtain⟨a,b,c,d⟩:=h;obtain⟨n,rfl⟩: ∃j,n=j+1:=⟨n-1,O⟩
  unfold lq Bk;rw[DS _ b,DT O c];refine ah.eq (ai rfl (ai rfl (ai (x:=e.aJ) ?_ (ah.some (by cases e;rfl)))));exact ah.eq (jO (f:=lq (n+1)) (K:=λi=>some i) (λx k=>Ck L n x O (d x k)) a O (ah.some rfl))
theorem MS(a:6600000<=n)(h:kQ 1100000 s):sI n s=some s:=by
 obtain⟨n,rfl⟩: ∃j,n=j+1:=⟨n-1,O⟩
 unfold sI;rw[DT O h.1,Ck 5 n s.value O h.2];rfl
theorem MT(d:6600000<=n)(h:ki 1100000 x):sJ n x=some x:=by
 obtain⟨⟨e,c⟩,i,k⟩:=h;have m:qa n x.nest=some x.nest:=by
  unfold qa;refine ah.eq (jO (K:=λb=>some b) (λl a=>?_) e O (ah.some rfl));unfold vR;rw[wG O (c l a).1,wG O (c l a).2];rfl
 have o:p9 n x.body=some x.body:=by
  unfold p9;exact ah.eq (jO (K:=λb=>some b) (λl a=>MS d (k l a)) i O (ah.some rfl))
 unfold sJ;rw[m,o];rfl
theorem Cj(c:6600000<=n)(h:gK 1100000 p):qb n p=some p:=by
 obtain⟨⟨d,e⟩,i,k⟩:=h;have m:p8 n p.a'=some p.a':=by
  unfold p8;refine ah.eq (jO (K:=λa=>some a) (λl b=>?_) d O (ah.some rfl));unfold vL;rw[kx _ (e l b)];rfl
 have o:p' n p.parts=some p.parts:=by
  unfold p';exact ah.eq (jO (K:=λa=>some a) (λl b=>MT c (k l b)) i O (ah.some rfl))
 unfold qb;rw[m,o];rfl
def eu(p:Prog)(b a:Int):Bool:=c' p&&match aD p.parts b with
 |some x=>decide (0<=a/\a<(x.nest.length:Int))
 |none=>false
theorem zZ{l:List k}(h: ¬(0<=i/\i<(l.length:Int))):aD l i=none:=by
 cases a:aD l i with
 |none=>rfl
 |some x=>
  obtain⟨b,c⟩:=ll a
  have:=(bt.1 c).1;exact a6 ⟨b,O⟩ h
theorem Sr{l:List R}{x:R}(h:aD l i=some x): ∃k:Nat,i=k/\k<l.length/\l[k]? =some x:=by obtain⟨b,a⟩:=ll h;exact⟨i.toNat,O,(bt.1 a).1,a⟩
theorem wY(n:Nat)(h:p.parts.length<=1100000)(a:Int):mG n p a=some (decide (0<=a/\a<(p.parts.length:Int))):=by unfold mG;rw[jK,bd O];exact congrArg some (decide_eq_decide.2 O)
theorem QJ(q:7700000<=n)(k:gK 1100000 p)(a b:Int)(r:b≠ -1):m7 n p a b=some (if eu p a b=true then(p,true) else(⟨[],[]⟩,false)):=by
 unfold m7;refine ah.eq (ah.aW (λz=>z= !eu p a b) (λj i=>?_) λz l=>?_)
 ·refine ai (vy q k.sm) (ah.cond (λh=>?_) λh=>?_)
  ·refine i _ ?_;unfold eu;rw[show c' p=false by simpa using h];rfl
  have m:c' p=true:=by simpa using h
  refine ai (wY n k.2.1 a) ?_;by_cases d:0<=a/\a<(p.parts.length:Int)
  ·obtain⟨x,e,o⟩:=rM d.1 d.2;rw[bP d];refine cx (dL (λ_=>ai (x:=eu p a b) ?_ (i _ rfl)) λh=>a6 h r);unfold Bn;refine ah.eq (ah.aW (λz=>z=eu p a b) (λj i=>?_) λz l=>ah.some l);rw[wY n k.2.1 a,bP d];refine ai rfl (dw (ai e ?_))
   have:=(k.2.2 x (bB o)).1.1;rw[bd O,jK];refine ai rfl (i _ ?_);unfold eu;rw[m,e];exact decide_eq_decide.2 O
  rw[bA d];refine dw (i _ ?_);unfold eu;rw[zZ d,mh];rfl
 subst l;by_cases c:eu p a b=true
 ·rw[c];have m:c' p=true:=by unfold eu at c;rw[q8] at c;exact c.1
  obtain⟨x,e⟩: ∃x,aD p.parts a=some x:=by
   cases e:aD p.parts a with
   |some x=>exact⟨x,rfl⟩
   |none=>unfold eu at c;rw[e,mh] at c;cases c
  exact cx (ai (zD O m) (ai e (ah.some rfl)))
 rw[show eu p a b=false by simpa using c];exact dw (ah.some rfl)
def mA(q:Prog):Prog×Bool:=if c' q=true then(q,true) else(⟨[],[]⟩,false)
theorem LJ(b:7700000<=n)(c:gK 1100000 p):wx n p=some (mA p):=by
 unfold wx mA;refine ah.eq (ai (vy b c.sm) (ah.cond (λh=>ah.some ?_) λh=>?_))
 ·rw[bp (by simpa using h)]
 have a:c' p=true:=by simpa using h
 rw[bh a];exact ai (zD O a) (ah.some rfl)
theorem rI(k:7700000<=n)(l:gK 1100000 p)(a b:Int):o3 n p a b=some (eu p a b):=by
 unfold o3;refine ah.eq (ah.aW (λz=>z=eu p a b) (λj c=>?_) λz m=>ah.some m);refine ai (Bi k l.sm) (ah.cond (λd=>?_) λd=>c _ (by unfold eu;rw[d];rfl));refine bb (λh=>bb (λi=>?_) λi=>?_) λh=>?_
 ·obtain⟨x,e,o⟩:=rM h i;refine bb (λq=>ai e (c _ ?_)) λq=>c _ ?_
  ·unfold eu;rw[d,e];exact decide_eq_decide.2 O
  unfold eu;rw[d,e];exact(bA O).symm
 ·exact c _ (by unfold eu;rw[zZ O,mh])
 exact c _ (by unfold eu;rw[zZ O,mh])
theorem Qw(d:7700000<=n)(a:gK 1100000 p){i:Nat}(e:i<p.parts.length)(k:ki 1100000 y):xD n p (i:Int) 1 [y]=some (mA ⟨p.a',p.parts.set i y⟩):=by
 have b:=a.2.1;have c:gK 1100000 ⟨p.a',p.parts.set i y⟩:=⟨a.1,by dsimp only;rw[ke];exact b,E5 a.2.2 k⟩
 unfold xD mA;refine ah.eq (ai (C1 O a) (ai (zy O O O) ?_));rw[eF,show(0:Int).toNat=0 from rfl,List.drop_zero];refine ai (x:=p.parts.take i) (ej bY) (ai (x:=p.parts.take i++[y]) (ej bY) ?_);rw[bd O];refine ai (zy O O O) ?_;rw[eF,dA,show((i:Int)+1).toNat=i+1 by omega];refine ai (x:=p.parts.set i y) ?_ (ai (Bi d c.sm) (ah.cond (λh=>ah.some ?_) λh=>?_))
 ·rw[ej bY,List.set_eq_take_append_cons_drop,bh e,iq];rfl
 ·rw[bp (by simpa using h)]
 rw[bh (by simpa using h)];exact ai (C1 O c) (ah.some rfl)
def Ae(m:Int)(a:aH):Prop:=a.ao.length=4/\ew m a.const/\ ∀c∈a.ao,ew m c
theorem Ae.mono{m b:Int}(h:Ae m a)(e:m<=b):Ae b a:=⟨h.1,⟨by have:=h.2.1.1;omega,by have:=h.2.1.2;omega⟩,λc d=>⟨by have:=(h.2.2 c d).1;omega,by have:=(h.2.2 c d).2;omega⟩⟩
def sZ:Prog×Bool:=(⟨[],[]⟩,false)
theorem uT{a b:Int}(h:eu p a b=true):c' p=true/\ ∃(i k:Nat) (P:Part) (l:Loop),a=i/\b=k/\p.parts[i]? =some P/\P.nest[k]? =some l/\i<p.parts.length/\k<P.nest.length/\eC p.a' P=true/\k<4:=by
 unfold eu at h;rw[q8] at h;obtain⟨m,h⟩:=h;refine⟨m,?_⟩;cases d:aD p.parts a with
 |none=>rw[d] at h;cases h
 |some P=>
  rw[d] at h;obtain⟨i,rfl,o,n⟩:=Sr d;obtain⟨q,r⟩:=xL h;obtain⟨l,s,e⟩:=rM q r;have c:=(gQ m).2.2.2.1 P (bB n)
  have:=(nf c).1;exact⟨i,b.toNat,P,l,rfl,O,n,e,o,O,c,O⟩
theorem R'(a:gK 1100000 p)(i:Nat)(b:ki 4 y):gK 1100000 ⟨p.a',p.parts.set i y⟩:=⟨a.1,by dsimp only;rw[ke];exact a.2.1,E5 a.2.2 (b.mono O)⟩
def nk(s:Int):aH:=⟨[0,0,0,0],s⟩
theorem Ej{b a:Int}(h:a<0):eu p b a=false:=by
 cases c:eu p b a with
 |false=>rfl
 |true=>obtain⟨_,i,k,P,l,_,d,_⟩:=uT c;omega
theorem Ol(e:7700000<=n)(d:gK 1100000 p)(a:Int):ah (m7 n p a (-1)) (λr=>r.2=false->r=sZ):=by
 unfold m7;refine ah.aW (λz=>z=false->c' p=true/\(0<=a/\a<(p.parts.length:Int))) (λj b=>?_) λz i=>?_
 ·refine ai (vy e d.sm) (ah.cond (λh=>b _ λh=>by cases h) λh=>?_);refine ai (wY n d.2.1 a) (ah.cond (λh=>b _ λh=>by cases h) λc=>dL (λh=>(h rfl).elim) λ_=>b _ λ_=>⟨by simpa using h,by simpa using c⟩)
 refine ah.cond (λ_=>ah.some λ_=>rfl) λh=>?_;obtain⟨k,l,c⟩:=i h;obtain⟨x,m,o⟩:=rM l c;exact ai (zD O k) (ai m (ah.some λh=>by cases h))
def Hy(k:Nat)(s:Int):aH:=⟨[0,0,0,0].set k s,0⟩
def low(k:Nat)(b:aH):Prop:= ∀j,k<=j->b.ao.getD j 0=0
theorem FW{p:Prog}(c:c' p=true){x:cv}(i:fK p x): ∀{a:List cv} {m:List Int},(∀y∈a,fK p y)->(∀y∈a,Ai p x y)->oa p.a' m->jZ p (hr p m x) a=hr p (jZ p m a) x
 | [],m,_,_,_=>rfl
 |y::a,m,d,e,h=>by show jZ p (hr p (hr p m x) y) a=hr p (jZ p (hr p m y) a) x;rw[e y ev m h];exact FW c i (λz b=>d z (dV _ b)) (λz b=>e z (dV _ b)) (E7 c h (d y ev))
theorem block{p:Prog}(b:c' p=true): ∀{X a:List cv} {m:List Int},(∀x∈X,fK p x)->(∀y∈a,fK p y)->(∀x∈X,∀y∈a,Ai p x y)->oa p.a' m->jZ p (jZ p m X) a=jZ p (jZ p m a) X
 | [],a,m,_,_,_,_=>rfl
 |x::X,a,m,c,e,h,i=>by show jZ p (jZ p (hr p m x) X) a=jZ p (hr p (jZ p m a) x) X;rw[block b (λz d=>c z (dV _ d)) e (λz d=>h z (dV _ d)) (E7 b i (c x ev)),FW b (c x ev) e (h x ev) i]
def kp:List Int->List Int->Bool
 |a::as,b::c=>if a=b then kp as c else decide (a<b)
 | [],_::_=>true
 |_,[]=>false
theorem O9{p q:List Int}(y:p.length<n)(A:p.length<=1100000)(B:q.length<=1100000):xc n p q=some (kp p q):=by
 unfold xc;refine ah.eq (ah.loop (λx:Int=> ∃i:Nat,x=i/\i<=p.length/\i<=q.length/\kp (p.drop i) (q.drop i)=kp p q) (λx=>p.length-x.toNat) ?_ n 0 ⟨0,rfl,O,O,rfl⟩ O);rintro b x ⟨i,rfl,C,D,a⟩ m;refine ah.aW (λz=>z=decide (i<p.length/\i<q.length)) (λj l=>bb (λh=>l _ ?_) λh=>l _ ?_) λz o=>?_
 ·rw[Bool.eq_iff_iff];simp only[decide_eq_true_eq];omega
 ·exact(bA O).symm
 subst o;refine bb (λh=>?_) λh=>ah.some ?_
 ·have c:=bg h.1;have d:=bg h.2;rw[nD h.1,nD h.2] at a;simp only[kp] at a;refine ai (bw c) (ai (bw d) (dL (λk=>ah.some ?_) λr=>?_))
  ·rw[bp k] at a;exact a
  rw[bh r] at a;rw[bd O];exact m _ ⟨i+1,O,O,O,a⟩ O
 rw[<-a];by_cases e:i<p.length
 ·have s:q.drop i=[]:=w1 O;rw[s,nD e];simp only[kp];exact bA O
 have v:p.drop i=[]:=w1 O;rw[v];by_cases w:i<q.length
 ·rw[nD w];simp only[kp];exact bP O
 rw[w1 (O:q.length<=i)];simp only[kp];exact bA O
end
section
theorem xo: ∀a,cmpL a a=0
 | []=>rfl
 |x::a=>by unfold cmpL;rw[bp O,bp O];exact xo a
theorem oX: ∀a b,cmpL b a= -cmpL a b
 | [],[]=>by simp[cmpL]
 | [],_::_=>by simp[cmpL]
 |_::_,[]=>by simp[cmpL]
 |x::a,y::b=>by
  unfold cmpL;by_cases c:x<y
  ·simp[c,show¬y<x by omega]
  by_cases d:y<x
  ·simp[c,d]
  rw[bp c,bp d,bp d,bp c];exact oX a b
theorem tF: ∀{a b},cmpL a b=0->a=b
 | [],[],_=>rfl
 | [],_::_,h=>by simp[cmpL] at h
 |_::_,[],h=>by simp[cmpL] at h
 |x::a,y::b,h=>by
  unfold cmpL at h;by_cases c:x<y
  ·rw[bh c] at h;omega
  by_cases d:y<x
  ·rw[bp c,bh d] at h;omega
  rw[bp c,bp d] at h;rw[tF h,show x=y by omega]
theorem rm: ∀{k l m},cmpL k l<0->cmpL l m<0->cmpL k m<0
 | [],[],_,h,_=>by simp[cmpL] at h
 | [],_::_,[],_,h=>by simp[cmpL] at h
 | [],_::_,_::_,_,_=>by simp[cmpL]
 |_::_,[],_,h,_=>by simp[cmpL] at h
 |_::_,_::_,[],_,h=>by simp[cmpL] at h
 |x::k,y::l,z::m,i,e=>by
  unfold cmpL at i e⊢;by_cases a:x<y
  ·by_cases b:y<z
   ·rw[bh O];omega
   by_cases c:z<y
   ·rw[bp b,bh c] at e;omega
   rw[bh O];omega
  by_cases b:y<x
  ·rw[bp a,bh b] at i;omega
  by_cases c:y<z
  ·rw[bh O];omega
  by_cases d:z<y
  ·rw[bp c,bh d] at e;omega
  rw[bp O,bp O];rw[bp a,bp b] at i;rw[bp c,bp d] at e;exact rm i e
theorem Eh: ∀a b,kp a b=decide (cmpL a b<0)
 | [],[]=>rfl
 | [],_::_=>rfl
 |_::_,[]=>rfl
 |x::a,y::b=>by
  unfold kp cmpL;by_cases h:x=y
  ·subst h;simp only[if_true,Int.lt_irrefl,if_false];exact Eh a b
  by_cases c:x<y
  ·simp[h,c]
  have:y<x:=O
  simp[h,c,this]
abbrev ga(l:List (List Int)):Prop:=l.Pairwise λa b=>cmpL a b<0
theorem F9: ∀{l m:List (List Int)},ga l->ga m->(∀x,x∈l↔x∈m)->l=m
 | [],[],_,_,_=>rfl
 | [],y::m,_,_,h=>by have:=(h y).2 aY;simp at this
 |x::l,[],_,_,h=>by have:=(h x).1 aY;simp at this
 |x::l,y::m,s,v,h=>by
  obtain⟨q,w⟩:=nI.1 s;obtain⟨r,A⟩:=nI.1 v;have e:x=y:=by
   rcases dy.1 ((h x).1 aY) with d|d
   ·exact d
   rcases dy.1 ((h y).2 aY) with i|i
   ·exact i.symm
   have a:=r x d;have b:=q y i
   have:=rm a b;rw[xo] at this;omega
  subst e;have k:x∉l:=λn=>by have:=q x n;rw[xo] at this;omega
  have o:x∉m:=λn=>by have:=r x n;rw[xo] at this;omega
  rw[F9 w A (λz=>⟨λc=>by
   rcases dy.1 ((h z).1 (dV _ c)) with rfl|p
   ·exact a6 c k
   ·exact p,λc=>by
   rcases dy.1 ((h z).2 (dV _ c)) with rfl|p
   ·exact a6 c o
   exact p⟩)]
def gj:List (List Int)->List Int->List (List Int)
 | [],d=>[d]
 |x::a,d=>if cmpL d x<0 then d::x::a else x::gj a d
theorem yO{d z:List Int}: ∀{l:List (List Int)},z∈gj l d↔z=d\/z∈l
 | []=>by simp[gj]
 |x::a=>by
  unfold gj;split
  ·simp
  simp only[List.mem_cons,yO (l:=a)];constructor
  ·rintro(h|h|h)
   ·exact .inr (.inl h)
   ·exact .inl h
   exact .inr (.inr h)
  rintro(h|h|h)
  ·exact .inr (.inl h)
  ·exact .inl h
  exact .inr (.inr h)
theorem Fl{d:List Int}: ∀{l:List (List Int)},ga l->d∉l->ga (gj l d)
 | [],_,_=>by simp[gj]
 |x::m,a,b=>by
  obtain⟨c,i⟩:=nI.1 a;unfold gj;split
  ·rename_i h;refine nI.2 ⟨λz da=>?_,a⟩;rcases dy.1 da with rfl|da
   ·exact h
   exact rm h (c z da)
  rename_i h;refine nI.2 ⟨λz da=>?_,Fl i λk=>b (dV _ k)⟩;rcases yO.1 da with rfl|da
  ·have n:=oX z x;have o:cmpL z x≠0:=λe=>b (by rw[tF e];simp);omega
  exact c z da
def fQ(l:List (List Int))(d:List Int):List (List Int):=if d∈l then l else gj l d
variable {l:List (List Int)}{d a b:List Int}{R:Type}{Q:R->Prop}{n k i:Nat}{p:Prog}{P:Part}
theorem QR(h:ga l)(d:List Int):ga (fQ l d):=by
 unfold fQ;split
 ·exact h
 exact Fl h ‹_›
theorem Ew{z:List Int}:z∈fQ l d↔z=d\/z∈l:=by
 unfold fQ;split
 ·rename_i h;exact⟨.inr,λda=>by rcases da with rfl|da;exact h;exact da⟩
 exact yO
theorem zg: ∀(a l:List (List Int)),ga l->ga (a.foldl fQ l)/\ ∀z,z∈a.foldl fQ l↔z∈l\/z∈a
 | [],l,h=>⟨h,λz=>aY⟩
 |d::a,l,h=>by
  obtain⟨b,c⟩:=zg a (fQ l d) (QR h d);refine⟨b,λz=>?_⟩;rw[List.foldl_cons,c z,Ew,dy];constructor
  ·rintro((h|h)|h)
   ·exact .inr (.inl h)
   ·exact .inl h
   exact .inr (.inr h)
  rintro(h|h|h)
  ·exact .inl (.inr h)
  ·exact .inl (.inl h)
  exact .inr h
def e4:List (List Int)->List (List Int)
 | []=>[]
 | [x]=>[x]
 |x::y::r=>if x=y then e4 (y::r) else x::e4 (y::r)
theorem BN{z:List Int}: ∀{l:List (List Int)},z∈e4 l↔z∈l
 | []=>by simp[e4]
 | [x]=>by simp[e4]
 |x::y::r=>by
  have a:=BN (z:=z) (l:=y::r);unfold e4;split
  ·rename_i h;subst h;rw[a];simp
  rw[dy,a];simp
theorem B0: ∀{l:List (List Int)},l.Pairwise (λa b=> ¬cmpL b a<0)->ga (e4 l)
 | [],_=>by simp[e4]
 | [x],_=>by simp[e4]
 |x::y::r,h=>by
  obtain⟨m,i⟩:=nI.1 h;obtain⟨n,_⟩:=nI.1 i;unfold e4;split
  ·exact B0 i
  rename_i k;refine nI.2 ⟨λz da=>?_,B0 i⟩;have d:cmpL x y<0:=by
   have a:=m y aY;have b:=oX x y;have c:cmpL x y≠0:=λe=>k (tF e);omega
  rcases dy.1 (BN.1 da) with rfl|da
  ·exact d
  have a:=n z da;have b:=oX y z;by_cases e:cmpL y z=0
  ·rw[<-tF e];exact d
  exact rm d O
theorem La(l:List (List Int)):(d7 l).Pairwise (λa b=> ¬cmpL b a<0):=by
 have:=List.pairwise_mergeSort (le:=λx y=> !decide (cmpL y x<0)) (λa b c k d=>by
  simp only[Bool.not_eq_true',decide_eq_false_iff_not] at*;intro h;have i:=oX a b;have m:=oX b c;by_cases e:cmpL b a=0
  ·rw[tF e] at d;exact d h
  ·exact d (rm h O)) (λa b=>by
  have i:=oX a b;by_cases h:cmpL b a<0
  ·have: ¬cmpL a b<0:=O
   simp[h,this]
  simp[h]) l
 refine this.imp λh=>?_;simpa using h
theorem Q'(a:List (List Int)):e4 (d7 a)=a.foldl fQ []:=by obtain⟨b,c⟩:=zg a [] List.Pairwise.nil;refine F9 (B0 (La a)) b λz=>?_;rw[BN,c z];unfold d7;rw[List.mem_mergeSort];simp
def iJ(b a:List Int):List Int:=List.zipWith (λx y=>x-y) b a
theorem Eg(D:a.length=b.length)(F:b.length<=1100000)(G:1100000<n)(m: ∀x∈a,ew 9999 x)(o: ∀x∈b,ew 9999 x){K:List Int->Option R}(z:ah (K (iJ b a)) Q):
  ah (a8 (λc ((h,d):(List Int)×Int)=>
   bif decide (d<(b.length:Int)) then(
    Option.bind (aD b d) λp=>
    Option.bind (aD a d) λq=>
    Option.bind (app h [wr (p-q)]) λr=>
    c (r,wr (d+1))
   ) else(
    K h
   )) n ([],0)) Q:=by
 refine ah.loop (λx:List Int×Int=> ∃i:Nat,x.2=i/\i<=b.length/\x.1=(iJ b a).take i) (λx=>b.length-x.2.toNat) ?_ n _ ⟨0,rfl,O,aY⟩ Z;rintro s ⟨x,k⟩ ⟨i,v,H,l⟩ A;dsimp only at v l⊢;subst v;have B:(iJ b a).length=b.length:=by unfold iJ;rw[tH];omega
 refine bb (λe=>?_) λC=>?_
 ·have e:i<b.length:=O
  have w:=bg e;have y:=bg (O:i<a.length);have cD:=o _ (fe e);have b0:=m _ (fe (O:i<a.length));unfold ew at cD b0;refine ai (bw w) (ai (bw y) (ai (ej (by rw[l,dz];simp;omega)) ?_));rw[bd (n:=b[i]-a[i]) O,bd O];refine A _ ⟨i+1,Z,O,?_⟩ Z;dsimp only;rw[eG,<-l];congr 1;unfold iJ;rw[List.getElem?_zipWith,w,y];rfl
 have:i=b.length:=O
 subst this;rw[ls O] at l;rw[l];exact z
theorem M'(e:a.length=b.length)(h:b.length<=1100000)(i:1100000<n)(c: ∀x∈a,ew 9999 x)(d: ∀x∈b,ew 9999 x):w8 n b a=some (iJ b a):=by unfold w8;exact ah.eq (Eg e h i c d (ah.some rfl))
theorem O'(E:22000000<=n)(I:l.length<=15000)(Q: ∀x∈l,x.length<=1100000)(R:d.length<=1100000):ue n l d=some (fQ l d):=by
 unfold ue;refine ah.eq (ah.loop (λx:List (List Int)×Bool×Int=> ∃i:Nat,x.2.2=i/\i<=l.length/\d∉l.take i/\(x.2.1=true->x.1.length<=i+1/\gj l d=x.1++l.drop i)/\(x.2.1=false->x.1.length<=i/\gj l d=x.1++gj (l.drop i) d)) (λx=>l.length-x.2.2.toNat) ?_ n _ ⟨0,rfl,O,aY,(λh=>by cases h),λ_=>⟨aY,aY⟩⟩ Z);rintro w ⟨M,e,k⟩ ⟨i,K,N,c,y,A⟩ W;dsimp only at K y A⊢;subst K;refine bb (λb=>?_) λX=>?_
 ·have b:i<l.length:=O
  have L:=bg b;have B:l[i].length<=1100000:=Q _ (fe b);refine ai (bw L) (ai (LP O O) (bb (λC=>ah.some ?_) λD=>?_))
  ·unfold fQ;rw[bh (by rw[<-C];exact fe b)]
  have a:=nD b;have o:d∉l.take (i+1):=by
   rw[eG,L];simp only[List.mem_append,Option.toList_some,List.mem_singleton];rintro(h|h)
   ·exact c h
   exact D h.symm
  refine ah.aW (λz:List (List Int)×Bool=>(z.2=true->z.1.length<=i+1/\gj l d=z.1++l.drop i)/\(z.2=false->z.1.length<=i/\gj l d=z.1++l[i]::gj (l.drop (i+1)) d)) (λj m=>?_) λz p=>?_
  ·refine ah.aW (λz:Bool=>z=(!e&&kp d l[i])) (λP q=>ah.cond (λh=>?_) λh=>q _ ?_) λz p=>?_
   ·have h:e=false:=by simpa using h
    exact ai (O9 O R B) (q _ (by rw[h];rfl))
   ·have h:e=true:=by simpa using h
    rw[h];rfl
   subst p;cases r:e with
   |true=>exact cx (m _ ⟨λ_=>y r,λh=>by cases h⟩)
   |false=>
    obtain⟨f,F⟩:=A r;rw[a] at F;rw[Eh];by_cases v:cmpL d l[i]<0
    ·rw[bP v];refine dw (ai (ej bY) (m _ ⟨λ_=>⟨bY,?_⟩,λh=>by cases h⟩));rw[F,a];unfold gj;rw[bh v];simp
    rw[bA v];refine cx (m _ ⟨(λh=>by cases h),λ_=>⟨f,?_⟩⟩);rw[F]
    conv=>lhs;rw[gj]
    rw[bp v]
  obtain⟨g,t⟩:=z;obtain⟨G,H⟩:=p;dsimp only at G H⊢;have u:g.length<=i+1:=by
   cases t with
   |true=>exact(G rfl).1
   |false=>have:=(H rfl).1;omega
  refine ai (ej bY) ?_;rw[bd O];refine W _ ⟨i+1,Z,O,o,λh=>?_,λh=>?_⟩ Z
  ·obtain⟨ay,a2⟩:=G h;refine⟨bY,?_⟩;rw[a2,a];simp
  obtain⟨ay,a2⟩:=H h;refine⟨bY,?_⟩;rw[a2];simp
 have:i=l.length:=O
 subst this;rw[dA] at c;have s:fQ l d=gj l d:=by unfold fQ;rw[bp c]
 rw[s];refine ah.aW (λz=>z=gj l d) (λj m=>ah.cond (λh=>?_) λh=>m _ ?_) λz p=>ah.some p
 ·have h:e=false:=by simpa using h
  obtain⟨ay,a2⟩:=A h;refine ai (ej bY) (m _ ?_);rw[a2,nK];rfl
 have h:e=true:=by simpa using h
 obtain⟨ay,a2⟩:=y h;rw[a2,nK,kd]
theorem Ei(d:List Int): ∀l:List (List Int),(gj l d).length=l.length+1
 | []=>rfl
 |x::a=>by
  unfold gj;split
  ·rfl
  rw[List.length_cons,Ei d a];rfl
theorem Ex(l:List (List Int))(d:List Int):(fQ l d).length<=l.length+1:=by
 unfold fQ;split
 ·omega
 rw[Ei];omega
def ie(I:List cv)(c:Int)(d:fa):Option (List Int):=match I[d.eH.toNat]?,I[d.eJ.toNat]? with
 |some a,some b=>if a.part=c/\b.part=c then some (iJ b.cP a.cP) else none
 |_,_=>none
def kq(p:Prog)(a:Int):List (List Int):=(fN p (cz p.parts) (cz p.parts).length).filterMap (ie (cz p.parts) a)
theorem mW(h:c' p=true){x:cv}(l:fK p x): ∃P,p.parts[x.part.toNat]? =some P/\0<=x.part/\x.cP.length=P.nest.length/\x.cP.length<=4/\ ∀y∈x.cP,ew 9999 y:=by obtain⟨B,C,D,b,m⟩:=gQ h;obtain⟨i,k,P,s,n,F,d,o,e⟩:=l;obtain⟨q,G,H,r⟩:=kF (b P (bB d));obtain⟨K,v,c,w,z⟩:=og q;have hs:=bB o;have a:=(r s hs _ e).2;unfold hT at a;simp only[Bool.and_eq_true,decide_eq_true_eq,List.all_eq_true] at a;exact⟨P,by rw[n,eF];exact d,O,(c _ e).1,a.1,λy A=>a.2 y A⟩
theorem Ra{I:List cv}{c:Int}(h: ∀x∈I,x.cP.length<=4){d:fa}{v:List Int}(e:ie I c d=some v):v.length<=4:=by
 unfold ie at e;split at e
 ·rename_i a b k i;split at e
  ·cases e;unfold iJ;rw[tH]
   have:=h b (bB i);omega
  cases e
 cases e
theorem I8{k:Type}{f:k->Option R}{l:List k}{x:k}(h:l[i]? =some x):(l.take (i+1)).filterMap f=(l.take i).filterMap f++(f x).toList:=by rw[eG,h,List.filterMap_append];cases a:f x<;>simp[a]
theorem Na(t:22000000<=n)(hp:iY p)(r:c' p=true)(a:Int):vK n p a=some ((kq p a).foldl fQ []):=by
 have C:=(gQ r).2.2.2.2;unfold vK;refine ah.eq (ai (H9 O r) (ai (N1 O r) ?_));have e: ∀x∈cz p.parts,fK p x:=λx m=>k9 m;have TY:=yU (p:=p) C;have aR:=FR (p:=p) (l:=cz p.parts);unfold kq;generalize fN p (cz p.parts) (cz p.parts).length=D at*;generalize cz p.parts=I at*;have u: ∀x∈I,x.cP.length<=4:=λx m=>(mW r (e x m)).choose_spec.2.2.2.1;refine ah.loop (λx:List (List Int)×Int=> ∃i:Nat,x.2=i/\i<=D.length/\x.1=((D.take i).filterMap (ie I a)).foldl fQ []/\x.1.length<=i/\ ∀y∈x.1,y.length<=4) (λx=>D.length-x.2.toNat) ?_ n _ ⟨0,rfl,O,aY,aY,aY⟩ Z;rintro F ⟨E,k⟩ ⟨i,f,aG,m,s,b⟩ M;dsimp only at f m s b⊢;subst f;refine bb (λo=>?_) λN=>ah.some ?_
 ·have o:i<D.length:=O
  have g:=bg o;obtain⟨P,d2,d3⟩:=aR _ (fe o);have S:=u2 (l:=I) (c:=D[i].eH) P O;have T:=u2 (l:=I) (c:=D[i].eJ) O O;have U:=fe (O:D[i].eH.toNat<I.length);have G:=fe (O:D[i].eJ.toNat<I.length);have H:I[D[i].eH.toNat]? =some I[D[i].eH.toNat]:=bg _;have K:I[D[i].eJ.toNat]? =some I[D[i].eJ.toNat]:=bg _;obtain⟨V,v,Y,V8,V9,L⟩:=mW r (e _ U);obtain⟨yw,q,V',Wa,Wb,Q⟩:=mW r (e _ G);refine ah.aW (λz=>z.2.2.2.2.2.2=((D.take (i+1)).filterMap (ie I a)).foldl fQ []/\z.2.2.2.2.2.2.length<=i+1/\ ∀y∈z.2.2.2.2.2.2,y.length<=4) (λj R=>ai (bw g) (ai S (ai T ?_))) λz W=>?_
  ·rw[I8 g,List.foldl_append,<-m] at R;refine ah.aW (λz:Bool=>z=decide (I[D[i].eH.toNat].part=a/\I[D[i].eJ.toNat].part=a)) (λvB w=>bb (λh=>w _ ?_) λh=>w _ ?_) λz W=>?_
   ·exact decide_eq_decide.2 ⟨λA=>⟨h,A⟩,λA=>A.2⟩
   ·exact(bA λA=>h A.1).symm
   subst W;have d:ie I a D[i]=if I[D[i].eH.toNat].part=a/\I[D[i].eJ.toNat].part=a then some (iJ I[D[i].eJ.toNat].cP I[D[i].eH.toNat].cP) else none:=by
    unfold ie;rw[H,K]
   refine bb (λh=>?_) λh=>R _ ?_
   ·have X:V=yw:=by
     rw[h.1] at v;rw[h.2] at q;rw[v] at q;cases q;rfl
    subst X;refine ai (M' O O O L Q) (ai (O' t O (λy B=>by have:=b y B;omega) (by unfold iJ;rw[tH];omega)) (R _ ?_));rw[d,bh h];dsimp only[Option.toList,List.foldl];refine⟨rfl,?_,λy B=>?_⟩
    ·have:=Ex E (iJ I[D[i].eJ.toNat].cP I[D[i].eH.toNat].cP);omega
    rcases Ew.1 B with rfl|B
    ·unfold iJ;rw[tH];omega
    exact b y B
   rw[d,bp h];exact⟨rfl,Z,b⟩
  obtain⟨W6,z2,z3⟩:=W;rw[bd O];exact M _ ⟨i+1,Z,O,W6,z2,z3⟩ Z
 have:i=D.length:=O
 subst this;rw[m,dA]
theorem CD(x:List Int): ∀(y:List Int) (a:List (List Int)),e4 ((y::a)++[x])=if(y::a).getLast aY=x then e4 (y::a) else e4 (y::a)++[x]
 |y,[]=>by
  by_cases h:y=x
  ·subst h;simp[e4]
  simp[e4,h]
 |y,z::a=>by
  have c:=CD x z a;rw[List.getLast_cons aY];show e4 (y::z::(a++[x]))=_;unfold e4;by_cases h:y=z
  ·rw[bh h,bh h];exact c
  rw[bp h,bp h];have b:e4 (z::(a++[x]))=_:=c;rw[b];split<;>simp
theorem Lq{s:List (List Int)}{m:Nat}(l:1<=m)(k:m<s.length):e4 (s.take (m+1))=if s[m-1]=s[m] then e4 (s.take m) else e4 (s.take m)++[s[m]]:=by
 have e:s.take (m+1)=s.take m++[s[m]]:=by rw[eG,bg k];rfl
 have c:s.take m≠[]:=by
  intro h
  have:=congrArg List.length h;rw[dz,Nat.min_eq_left O,List.length_nil] at this;omega
 have b: ∀h,(s.take m).getLast h=s[m-1]:=λh=>by
  rw[List.getLast_eq_getElem,List.getElem_take];congr 1;rw[dz];omega
 rw[e];obtain⟨y,a,i⟩: ∃y a,s.take m=y::a:=by
  cases h:s.take m with
  |nil=>exact a6 h c
  |cons y a=>exact⟨y,a,rfl⟩
 have d:=b c;simp only[i] at d⊢;rw[CD,d]
def iL(d:List Int):Option Nat:=d.findIdx? λx=> !decide (x=0)
def lK(d:List Int):Int:=match iL d with
 |some i=>(i:Int)
 |none=> -1
theorem M0(v:d.length<=1100000)(w:1100000<n):m9 n d=some (lK d):=by
 unfold m9;refine ah.eq (ai (x:=lK d) ?_ (ah.some rfl));unfold r9;refine ah.eq (ah.loop (λx:Int=> ∃i:Nat,x=i/\i<=d.length/\ ∀j,j<i->d.getD j 0=0) (λx=>d.length-x.toNat) ?_ n _ ⟨0,rfl,O,λj a=>a6 a (lz _)⟩ O);rintro e z ⟨i,rfl,y,l⟩ p;have m: ∀j (a:j<d.length),j<i->d[j]=0:=λj a b=>by
  have:=l j b
  rwa [eP,bg a] at this
 refine bb (λc=>?_) λq=>ah.some ?_
 ·have c:i<d.length:=O
  have o:=bg c;refine ai (bw o) (ai (x:= !decide (d[i]=0)) rfl (dL (λh=>ah.some ?_) λr=>?_))
  ·have:iL d=some i:=by
    unfold iL;rw[B5];exact⟨c,by simp[h],λj a=>by simp[m j O a]⟩
   unfold lK;rw[this]
  rw[bd O];refine p _ ⟨i+1,O,O,λj a=>?_⟩ O;by_cases b:j=i
  ·subst b;rw[eP,o];exact r
  exact l j O
 have:iL d=none:=by
  unfold iL;rw[List.findIdx?_eq_none_iff];intro x s;obtain⟨j,a⟩:=ht.1 s;obtain⟨k,rfl⟩:=bt.1 a;simp[m j k O]
 unfold lK;rw[this]
theorem P6(a:iY p)(b:p.parts[i]? =some P):mG n p (i:Int)=some true:=by have aG:=(bt.1 b).1;rw[wY n a.2.1,bP O]
theorem MV(a:Nat->Bool)(m:Nat):dj a (m+1)=dj a m++(if a m then [m] else []):=by unfold dj;rw[pf,List.filter_append];congr 1;by_cases h:a m<;>simp[h]
theorem EV(l:List (List Int)): ∀m,m<=l.length->(dj (iA l) m).map (λj=>l.getD j [])=e4 (l.take m)
 |0,_=>rfl
 |m+1,h=>by
  have n:=EV l m O;have b:m<l.length:=O
  have c:l.getD m []=l[m]:=by rw[eP,bg b];rfl
  rw[MV,jy,n];by_cases d:m=0
  ·subst d;have i:iA l 0=true:=by simp[iA]
   rw[i,bh rfl,List.take_zero];show e4 []++[l.getD 0 []]=_;rw[c,eG,bg b];rfl
  rw[Lq O b];have i:l.getD (m-1) []=l[m-1]:=by rw[eP,bg O];rfl
  have o:iA l m= !decide (l[m-1]=l[m]):=by
   unfold iA;rw[c,i];by_cases a:l[m-1]=l[m]
   ·simp[d,a]
   have k:l[m]≠l[m-1]:=λe=>a e.symm;simp[d,a,k]
  rw[o];by_cases a:l[m-1]=l[m]
  ·rw[bh a,bP a];simp
  rw[bp a,bA a];show _++[l.getD m []]=_;rw[c]
theorem NC(l:List (List Int)):fi l=e4 l:=by have:=EV l l.length (cL _);rw[dA] at this;exact this
theorem LY(cj:22000000<=n)(r:c' p=true)(a:Int):vf n (lr p) a=some ((kq p a).foldl fQ []):=by
 have B:=(gQ r).2.2.2.2;unfold vf;refine ah.eq (ai (OM O r) ?_);rw[show(lr p).list=cz p.parts from rfl];have m: ∀x∈cz p.parts,fK p x:=λx b=>k9 b;have TY:=yU (p:=p) B;have aR:=FR (p:=p) (l:=cz p.parts);unfold kq;generalize fN p (cz p.parts) (cz p.parts).length=D at*;generalize cz p.parts=I at*;have C: ∀x∈I,x.cP.length<=4:=λx b=>(mW r (m x b)).choose_spec.2.2.2.1;refine ah.loop (λx:List (List Int)×Int=> ∃i:Nat,x.2=i/\i<=D.length/\x.1=(D.take i).filterMap (ie I a)) (λx=>D.length-x.2.toNat) ?_ n _ ⟨0,rfl,O,aY⟩ Z;rintro F ⟨E,k⟩ ⟨i,M,aG,b⟩ S;dsimp only at M b⊢;subst M;have N:E.length<=i:=by
  rw[b];refine dT (List.length_filterMap_le _ _) ?_;rw[dz];omega
 refine bb (λo=>?_) λT=>?_
 ·have o:i<D.length:=O
  have P:=bg o;obtain⟨U,d2,d3⟩:=aR _ (fe o);have V:=u2 (l:=I) (c:=D[i].eH) U O;have Y:=u2 (l:=I) (c:=D[i].eJ) O O;have fC:=fe (O:D[i].eH.toNat<I.length);have G:=fe (O:D[i].eJ.toNat<I.length);have H:I[D[i].eH.toNat]? =some I[D[i].eH.toNat]:=bg _;have L:I[D[i].eJ.toNat]? =some I[D[i].eJ.toNat]:=bg _;obtain⟨J9,s,XK,V8,V9,Q⟩:=mW r (m _ fC);obtain⟨yw,q,V',Wa,Wb,R⟩:=mW r (m _ G);have e:ie I a D[i]=if I[D[i].eH.toNat].part=a/\I[D[i].eJ.toNat].part=a then some (iJ I[D[i].eJ.toNat].cP I[D[i].eH.toNat].cP) else none:=by
   unfold ie;rw[H,L]
  refine ah.aW (λz=>z.1=(D.take (i+1)).filterMap (ie I a)) (λj W=>ai (bw P) (ai V (ai Y ?_))) λz X=>?_
  ·rw[I8 P,<-b] at W;refine ah.aW (λz:Bool=>z= !decide (I[D[i].eH.toNat].part=a/\I[D[i].eJ.toNat].part=a)) (λvB v=>dL (λh=>v _ ?_) λh=>v _ ?_) λz X=>?_
   ·rw[bA λw=>h w.1];rfl
   ·congr 1;exact decide_eq_decide.2 ⟨λw=>⟨h,w⟩,λw=>w.2⟩
   subst X;refine dL (λh=>W _ ?_) λh=>?_
   ·rw[e,bp h];simp
   have f:J9=yw:=by
    rw[h.1] at s;rw[h.2] at q;rw[s] at q;cases q;rfl
   subst f;refine Eg (K:=λg=>Option.bind (app E [g]) λt=>j (t,D[i].eH,D[i].eJ,D[i].kinds,I[D[i].eH.toNat].part,I[D[i].eH.toNat].stmt,I[D[i].eH.toNat].cP,I[D[i].eJ.toNat].part,I[D[i].eJ.toNat].stmt,I[D[i].eJ.toNat].cP)) O O O Q R ?_;refine ai (ej bY) (W _ ?_);rw[e,bh h];rfl
  rw[bd O];exact S _ ⟨i+1,Z,O,X⟩ Z
 have:i=D.length:=O
 subst this;rw[dA] at b;subst b;have A: ∀y∈D.filterMap (ie I a),y.length<=4:=λy u=>by
  obtain⟨d,_,cy⟩:=List.mem_filterMap.1 u;exact Ra C cy
 have Xz:(d7 (D.filterMap (ie I a))).length<=15000:=by unfold d7;rw[List.length_mergeSort];omega
 refine ai (x:=d7 (D.filterMap (ie I a))) (by unfold j2;rw[bh ⟨O,λy u=>by have:=A y u;omega⟩]) (ah.some ?_);rw[NC];exact Q' _
def i'(p:Prog)(i:Nat):List (List Int):=(kq p i).foldl fQ []
theorem M1(c:22000000<=n)(a:iY p)(b:c' p=true)(d:p.parts[i]? =some P):vI n p (i:Int)=some (i' p i):=by unfold vI;refine ah.eq (ai (MY O a) ?_);rw[bh b];refine dw (ah.aW (λz=>z=false) (λj e=>cx (ai (P6 a d) (e _ rfl))) λz h=>?_);rw[h];exact cx (ai (LY c b _) (ah.some rfl))
theorem R7:d∈i' p i↔d∈kq p i:=by
 unfold i'
 have:=(zg (kq p i) [] .nil).2 d;simpa using this
theorem DG: ∀(a l:List (List Int)),(a.foldl fQ l).length<=l.length+a.length
 | [],l=>aY
 |d::a,l=>by
  rw[List.foldl_cons]
  have:=DG a (fQ l d)
  have:=Ex l d;rw[List.length_cons];omega
theorem FI(b:c' p=true):(i' p i).length<=15000:=by
 have a:=(gQ b).2.2.2.2;have c:=yU (p:=p) a
 have:=DG (kq p i) [];have d:(kq p i).length<=(fN p (cz p.parts) (cz p.parts).length).length:=by unfold kq;exact List.length_filterMap_le _ _
 unfold i';rw[List.length_nil] at this;omega
theorem tV(r:c' p=true)(s:p.parts[i]? =some P)(cy:d∈i' p i):d.length=P.nest.length/\ ∀x∈d,ew 99999 x:=by
 have cy:=R7.1 cy;unfold kq at cy;obtain⟨e,_,h⟩:=List.mem_filterMap.1 cy;unfold ie at h;split at h
 ·rename_i a b A B;split at h
  ·rename_i w;cases h;have m:fK p a:=k9 (bB A);have n:fK p b:=k9 (bB B);obtain⟨F,ay,a2,a3,a4,a5⟩:=mW r m;obtain⟨G,y,H,K,L,C⟩:=mW r n;rw[w.1,eF,s] at ay;rw[w.2,eF,s] at y;cases ay;cases y;unfold iJ;refine⟨by rw[tH];omega,λx z=>?_⟩;obtain⟨u,v,D,o,rfl⟩: ∃u v,u∈b.cP/\v∈a.cP/\x=u-v:=by
    rw[ht] at z;obtain⟨k,c⟩:=z;rw[List.getElem?_zipWith] at c;cases l:b.cP[k]? with
    |none=>rw[l] at c;cases c
    |some u=>
     cases q:a.cP[k]? with
     |none=>rw[l,q] at c;cases c
     |some v=>
      rw[l,q] at c;cases c;exact⟨u,v,bB l,bB q,rfl⟩
   have Q:=C u D;have R:=a5 v o;unfold ew at*;omega
  cases h
 cases h
def iR(d:List Int):Bool:=match iL d with
 |some k=>decide (0<=d.getD k 0)
 |none=>true
theorem FM(h:iL d=some k):k<d.length/\d.getD k 0≠0:=by unfold iL at h;rw[B5] at h;obtain⟨a,b,_⟩:=h;refine⟨a,?_⟩;rw[eP,bg a];simpa using b
theorem MZ(K:22000000<=n)(L:iY p)(y:c' p=true)(A:p.parts[i]? =some P){F:List Int->Option (List Int)}{f:List Int->List Int}(B: ∀d∈i' p i,F d=some (f d))(C: ∀d,(f d).length=d.length):
  uk n p (i:Int) F=some ((i' p i).all λd=>iR (f d)):=by
 unfold uk;refine ah.eq (ai (M1 K L y A) ?_);have s:=FI y (i:=i);have v:=λd q=>(tV y A (d:=d) q).1;have Q:=(nf ((gQ y).2.2.2.1 P (bB A))).1;generalize i' p i=D at B s v;refine ah.loop (λx:List (List Int)×Int=> ∃k:Nat,x.2=k/\k<=D.length/\x.1.length=D.length/\(∀t,k<=t->x.1[t]? =D[t]?)/\ ∀d∈D.take k,iR (f d)=true) (λx=>D.length-x.2.toNat) ?_ n _ ⟨0,rfl,O,rfl,λ_ _=>rfl,λd q=>by simp at q⟩ Z;rintro m ⟨l,E⟩ ⟨k,G,R,w,a,b⟩ W;dsimp only at G w a⊢;subst G;refine bb (λe=>?_) λX=>ah.some ?_
 ·have e:k<D.length:=O
  have g:l[k]? =some D[k]:=by rw[a k (cL _),bg e]
  have hm:=fe e;have j:(f D[k]).length<=4:=by rw[C,v _ hm];exact Q
  refine ai (bw g) (ai (B _ hm) (ai (fg (C _)) (ai (M0 O O) (ai (fr O _) ?_))));have c: ∀(z:iR (f D[k])=false),D.all (λd=>iR (f d))=false:=λz=>hz.2 ⟨_,hm,by simp[z]⟩;have go:iR (f D[k])=true->ah (m (l.set (k:Int).toNat (f D[k]),wr ((k:Int)+1))) (λr=>r=D.all λd=>iR (f d)):=λz=>by
   rw[bd O,eF];refine W _ ⟨k+1,Z,O,by dsimp only;rw[ke];exact w,λt I=>?_,λd q=>?_⟩ Z
   ·dsimp only;rw[jw O];exact a t O
   rw[eG,bg e] at q;rcases eW.1 q with h|h
   ·exact b d h
   have:d=D[k]:=by simpa using h
   subst this;exact z
  unfold lK iR at*;cases o:iL (f D[k]) with
  |none=>
   rw[o] at go c;exact bb (λh=>a6 h (by show¬(0:Int)<= -1;omega)) (λ_=>go rfl)
  |some t=>
   rw[o] at go c;obtain⟨u,M⟩:=FM o;refine bb (λ_=>?_) λh=>a6 (show(0:Int)<=(t:Int) by omega) h;have H:=bg u;have N:(f D[k]).getD t 0=(f D[k])[t]:=by rw[eP,H];rfl
   refine ai (bw H) (bb (λh=>ah.some ?_) λh=>go ?_)
   ·exact(c (bA O)).symm
   exact bP O
 have:k=D.length:=O
 subst this;rw[dA] at b;exact(fG.2 b).symm
theorem LQ(v:d.length<=1100000)(w:1100000<n):vT n d=some (lK d):=by
 unfold vT;refine ah.eq (ah.loop (λx:Int=> ∃i:Nat,x=i/\i<=d.length/\ ∀j,j<i->d.getD j 0=0) (λx=>d.length-x.toNat) ?_ n _ ⟨0,rfl,O,λj a=>a6 a (lz _)⟩ O);rintro e z ⟨i,rfl,y,l⟩ p;have m: ∀j (a:j<d.length),j<i->d[j]=0:=λj a b=>by
  have:=l j b
  rwa [eP,bg a] at this
 refine bb (λc=>?_) λq=>ah.some ?_
 ·have c:i<d.length:=O
  have o:=bg c;refine ai (bw o) (dL (λh=>ah.some ?_) λr=>?_)
  ·have:iL d=some i:=by
    unfold iL;rw[B5];exact⟨c,by simp[h],λj a=>by simp[m j O a]⟩
   unfold lK;rw[this]
  rw[bd O];refine p _ ⟨i+1,O,O,λj a=>?_⟩ O;by_cases b:j=i
  ·subst b;rw[eP,o];exact r
  exact l j O
 have:iL d=none:=by
  unfold iL;rw[List.findIdx?_eq_none_iff];intro x s;obtain⟨j,a⟩:=ht.1 s;obtain⟨k,rfl⟩:=bt.1 a;simp[m j k O]
 unfold lK;rw[this]
theorem NZ(e:d.length<=1100000)(i:1100000<n):xF n d=some (iR d):=by
 unfold xF;refine ah.eq (ai (LQ e i) (ah.aW (λz:Bool=>z=iR d) (λj b=>?_) λz k=>ah.some k));unfold lK iR at*;cases a:iL d with
 |none=>
  rw[a] at b;exact bb (λ_=>b _ rfl) (λh=>a6 (show(-1:Int)<0 by omega) h)
 |some t=>
  rw[a] at b;obtain⟨l,m⟩:=FM a;have c:=bg l;have o:d.getD t 0=d[t]:=by rw[eP,c];rfl
  refine bb (λh=>a6 h (show¬(t:Int)<0 by omega)) λ_=>ai (bw c) (b _ ?_);exact decide_eq_decide.2 ⟨λh=>O,λh=>O⟩
def ka(k:Nat)(a:aH):aH:=⟨(a.ao.set k (a.ao.getD (k+1) 0)).set (k+1) (a.ao.getD k 0),a.const⟩
def mb(k:Nat)(d:List Int):List Int:=(d.set k (d.getD (k+1) 0)).set (k+1) (d.getD k 0)
theorem E4(k:Nat)(d:List Int):(mb k d).length=d.length:=by simp[mb]
theorem FB: ∀x,cX x=true->gX 4 (ka k x):=λx a=>by have:=(iG a).1;unfold gX ka;simp;omega
theorem fB{l:List R}(h:k<l.length)(z:R):l[k]? =some (l.getD k z):=by rw[eP,bg h];rfl
theorem EM{h:Type}{l:List h}(a:k+1<l.length)(i:l.length<=500000000)(z:h){K:List h->Option R}(c:ah (K ((l.set k (l.getD (k+1) z)).set (k+1) (l.getD k z))) Q):
  ah (Option.bind (aD l (wr ((k:Int)+1))) λd=>Option.bind (aD l (k:Int)) λe=>Option.bind (cR l (k:Int) d) λb=>Option.bind (aD b (wr ((k:Int)+1))) λm=>Option.bind (cR b (wr ((k:Int)+1)) e) K) Q:=by rw[bd (n:=(k:Int)+1) O,show(k:Int)+1=((k+1:Nat):Int) by omega];refine ai (bw (fB a z)) (ai (bw (fB O z)) (ai (fr O _) ?_));rw[eF];refine ai (bw (fB (l:=l.set k (l.getD (k+1) z)) (k:=k+1) (by simpa using a) z)) (ai (fr (by rw[ke];omega) _) ?_);rw[eF];exact c
theorem P9(a:k+1<d.length)(b:d.length<=1100000):qd n d (k:Int)=some (mb k d):=by unfold qd;exact ah.eq (EM a O 0 (ah.some rfl))
theorem P8(n:Nat)(b:k+1<4): ∀x,cX x=true->qc n x (k:Int)=some (ka k x):=λx a=>by have c:=(iG a).1;unfold qc;refine ah.eq (ai (yd n x a) (EM O O 0 (ah.some rfl)))
theorem Rs(n:Nat)(c:k+1<4): ∀x,cX x=true->kE n x 0 (k:Int) ⟨[],0⟩=some (ka k x):=λx a=>by have d:=(iG a).1;unfold kE;refine ah.eq (bb (λ_=>ai (x:=ka k x) ?_ (ah.some rfl)) λh=>a6 rfl h);unfold yC;have b:d8 n x=some x:=Cs n O;rw[bd (n:=(k:Int)+1) O,show(k:Int)+1=((k+1:Nat):Int) by omega];refine ah.eq (ai b (ai (bw (fB O 0)) (ai (bw (fB O 0)) (ai (fr O _) (ai (bw (fB O 0)) ?_)))));rw[eF];refine ai (bw (fB (l:=x.ao.set k (x.ao.getD (k+1) 0)) (k:=k+1) bY 0)) (ai (fr (by rw[ke];omega) _) ?_);rw[eF];exact ah.some rfl
def km(k:Nat)(a:aH):Bool:= !decide (a.ao.getD k 0=0)
def pG(l:Loop)(k:Nat):Bool:=l.bn.any (km k)||l.aG.any (km k)
theorem LX(o:5500000<=n){l:Loop}(d:kV l)(p:k<4):wo n l (k:Int)=some (pG l k):=by
 obtain⟨⟨q,e⟩,r,i⟩:=d;have b: ∀x,cX x=true->mI n x (k:Int)=some (km k x):=λx a=>by
  have:=(iG a).1;unfold mI;exact ah.eq (ai (bw (fB O 0)) (ah.some rfl))
 unfold wo pG;refine ah.eq (ah.aW (λz=>z=(l.bn.any (km k)||l.aG.any (km k))) (λj c=>?_) λz m=>ah.some m);refine ai (vE (λx a=>b x (e x a)) O O) (ah.cond (λh=>c _ (by rw[h];rfl)) λh=>ai (vE (λx a=>b x (i x a)) O O) (c _ (by rw[h];rfl)))
theorem Eu{k:Type}{f:k->Bool}{l:List k}{x:k}(h:l[i]? =some x):(l.take (i+1)).any f=((l.take i).any f||f x):=by rw[eG,h,List.any_append];simp
theorem L9(v:5500000<=n){l:Loop}(p:kV l)(w:k<4):xE n l (k:Int)=some (pG l k):=by
 obtain⟨⟨y,q⟩,A,r⟩:=p;unfold xE pG;refine ah.eq (ah.loop (λx:Int=> ∃i:Nat,x=i/\i<=l.bn.length/\(l.bn.take i).any (km k)=false) (λx=>l.bn.length-x.toNat) ?_ n _ ⟨0,rfl,O,rfl⟩ O);rintro b z ⟨i,rfl,s,c⟩ h;refine bb (λa=>?_) λm=>?_
 ·have a:i<l.bn.length:=O
  have e:=bg a
  have:=(iG (q _ (fe a))).1;refine ai (bw e) (ai (bw (fB O 0)) (dL (λd=>ah.some ?_) λo=>?_))
  ·rw[nJ.2 ⟨_,fe a,by unfold km;simpa using d⟩];rfl
  rw[bd O];exact h _ ⟨i+1,O,O,by rw[Eu e,c];unfold km;simpa using o⟩ O
 have:i=l.bn.length:=O
 subst this;rw[dA] at c;rw[c,Bool.false_or];clear h;refine ah.loop (λx:Int=> ∃i:Nat,x=i/\i<=l.aG.length/\(l.aG.take i).any (km k)=false) (λx=>l.aG.length-x.toNat) ?_ n _ ⟨0,rfl,O,rfl⟩ O;rintro b z ⟨i,rfl,s,c⟩ h;refine bb (λa=>?_) λm=>ah.some ?_
 ·have a:i<l.aG.length:=O
  have e:=bg a
  have:=(iG (r _ (fe a))).1;refine ai (bw e) (ai (bw (fB O 0)) (dL (λd=>ah.some ?_) λo=>?_))
  ·rw[nJ.2 ⟨_,fe a,by unfold km;simpa using d⟩]
  rw[bd O];exact h _ ⟨i+1,O,O,by rw[Eu e,c];unfold km;simpa using o⟩ O
 have:i=l.aG.length:=O
 subst this;rw[dA] at c;exact c.symm
def hq(k:Nat)(l:List Loop):List Loop:=(l.set k (l.getD (k+1) ⟨[],[]⟩)).set (k+1) (l.getD k ⟨[],[]⟩)
theorem tL(k:Nat)(l:List Loop):(hq k l).length=l.length:=by simp[hq]
def q5(k:Nat)(P:Part):Part:=⟨(hq k P.nest).take (k+2)++((hq k P.nest).drop (k+2)).map (hn (ka k)),P.body.map (iT (ka k))⟩
def mD(p:Prog)(i k:Nat)(P:Part):Bool:= !pG (P.nest.getD (k+1) ⟨[],[]⟩) k&&(i' p i).all λd=>iR (mb k d)
def kl(p:Prog)(a b:Int):Prog×Bool:=
 if eu p a b=true/\eu p a (b+1)=true then
  match aD p.parts a with
  |some P=>if mD p a.toNat b.toNat P=true then mA ⟨p.a',p.parts.set a.toNat (q5 b.toNat P)⟩ else sZ
  |none=>sZ
 else sZ
theorem y0{l:List Loop}(b:k+1<l.length){y:Loop}(a:y∈hq k l):y∈l:=by
 unfold hq at a;rcases nC a with h|h
 ·rcases nC h with h|h
  ·exact h
  rw[h];exact bB (fB b _)
 rw[h];exact bB (fB O _)
theorem F8{r:List bX}(b:eC r P=true)(d:k+1<P.nest.length):ki 4 (q5 k P):=by
 obtain⟨m,e⟩:=nf b;obtain⟨_,h,i,_⟩:=kF b;refine⟨⟨by simp only[q5,List.length_append,List.length_map,List.length_take,List.length_drop,tL];omega,λy a=>?_⟩,by simp only[q5,List.length_map];exact h.2,λs l=>?_⟩
 ·rcases eW.1 a with a|a
  ·exact(FV b).1.2 y (y0 d (hv a))
  obtain⟨z,c,rfl⟩:=fU.1 a;exact QP FB (e z (y0 d (kc c)))
 obtain⟨z,c,rfl⟩:=fU.1 l;exact R9 FB (i z c)
theorem Fo(b:p.parts[i]? =some P)(h:eu p (i:Int) ((k:Int)+1)=true):k+1<P.nest.length:=by
 obtain⟨_,c,d,e,l,m,n,a,_,_,o,_⟩:=uT h
 have:c=i:=O
 subst this;rw[b] at a;cases a;omega
theorem EO(a:eu p (i:Int) (k:Int)=true)(b:eu p (i:Int) ((k:Int)+1)=true)(c:p.parts[i]? =some P):kl p i k=if mD p i k P=true then mA ⟨p.a',p.parts.set i (q5 k P)⟩ else sZ:=by unfold kl;rw[bh ⟨a,b⟩,bw c];simp only[Int.toNat_natCast]
theorem Qa(G:22000000<=n)(v:gK 1100000 p)(a b:Int):mJ n p a b=some (kl p a b):=by
 unfold mJ;by_cases c:b= -1
 ·subst c;unfold kl;rw[bp λh=>by rw[Ej O] at h;cases h.1];exact ah.eq (jP (Ol O v a) λg H=>ah.cond (λ_=>bb (λ_=>ah.some rfl) λh=>a6 (show(-1:Int)<0 by omega) h) λ_=>ah.some rfl)
 refine ah.eq (ai (QJ O v a b c) ?_);by_cases e:eu p a b=true
 ·rw[bh e];refine dw (bb (λh=>by rw[Ej h] at e;cases e) λj=>?_);obtain⟨w,i,k,P,l,rfl,rfl,m,t,u,K,o,E⟩:=uT e;obtain⟨H,C⟩:=nf o;obtain⟨_,L,Q,_⟩:=kF o;refine ai (bw m) ?_;rw[bd (n:=(k:Int)+1) O,bd (n:=(k:Int)+2) O];refine bb (λR=>ah.some ?_) λW=>?_
  ·unfold kl;rw[bp λh=>by have:=Fo m h.2;omega];rfl
  have q:k+1<P.nest.length:=O
  have x:eu p (i:Int) ((k:Int)+1)=true:=by
   unfold eu;rw[w,bw m];exact bP O
  rw[EO e x m];have D:=fB q (⟨[],[]⟩:Loop);rw[show(k:Int)+1=((k+1:Nat):Int) by omega];refine ai (bw D) (ai (LX O (C _ (bB D)) O) (ah.cond (λz=>ah.some ?_) λz=>?_))
  ·rw[bp (by unfold mD;rw[z];simp)];rfl
  refine ai (MZ G v.sm w m (F:=λA=>qd n A (k:Int)) (f:=mb k) (λd r=>P9 (by have:=(tV w m r).1;omega) (by have:=(tV w m r).1;omega)) (E4 k)) (ah.cond (λr=>?_) λr=>ah.some ?_)
  ·rw[bh (by unfold mD;rw[z,r];rfl)];refine ai (bw (fB O (⟨[],[]⟩:Loop))) (ai (fr O _) (ai (fr (by rw[ke];omega) _) (ai (fr Z _) ?_)));rw[eF,eF,eF];have B:=KY (n:=n) O (nest:=hq k P.nest) (body:=P.body) (s:=k+2) (by rw[tL];omega) (by rw[tL];omega) (λy X=>C y (y0 q (kc X))) L.2 Q (F:=λA=>qc n A (k:Int)) (P8 n O);rw[show(k:Int)+2=((k+2:Nat):Int) by omega];refine ai B (ai (fr bY _) ?_);rw[eF,List.set_set];exact ai (LJ O (R' v i (F8 o q))) (ah.some rfl)
  rw[bp (by unfold mD;rw[r];simp)];rfl
 unfold kl;rw[bp e,bp λh=>e h.1];exact cx (ah.some rfl)
theorem EN{a b:List Loop}(c:k+1<a.length):hq k (a++b)=hq k a++b:=by
 have d:(a++b).getD (k+1) ⟨[],[]⟩=a.getD (k+1) ⟨[],[]⟩:=by rw[eP,eP,gI c]
 have e:(a++b).getD k ⟨[],[]⟩=a.getD k ⟨[],[]⟩:=by rw[eP,eP,gI O]
 unfold hq;rw[d,e,List.set_append_left _ _ O,List.set_append_left _ _ (by rw[ke];exact c)]
theorem O2{l:List Loop}(c:k+1<l.length):hq k (l.take (k+2))=(hq k l).take (k+2):=by have h:=EN (k:=k) (a:=l.take (k+2)) (b:=l.drop (k+2)) (by rw[dz];omega);rw[tJ] at h;rw[h,List.take_append_of_le_length (by rw[tL,dz];omega)];exact(ls (by rw[tL,dz];omega)).symm
theorem O3{l:List Loop}:(hq k l).drop (k+2)=l.drop (k+2):=by unfold hq;rw[List.drop_set_of_lt O,List.drop_set_of_lt O]
theorem Sh(a:k+1<P.nest.length)(r:List Loop):hq k (P.nest.take (k+2)++r)=(hq k P.nest).take (k+2)++r:=by rw[EN (by rw[dz];omega),O2 a]
theorem O8(T:22000000<=n)(q:gK 1100000 p)(a c:Int):qh n p a c=some (kl p a c):=by
 unfold qh;by_cases F:eu p a c=true;rotate_left
 ·unfold kl;rw[bp λh=>F h.1];refine ah.eq (ai (Cj O q) (ah.aW (λz=>z=true) (λj H=>ai (rI O q a c) (ah.cond (λ_=>H _ rfl) λh=>a6 (by simpa using h) F)) λz K=>by rw[K];exact dw (ah.some rfl)))
 obtain⟨X,i,k,P,l,rfl,rfl,L,cc,U,V,y,hk⟩:=uT F;obtain⟨Y,M⟩:=nf y;obtain⟨_,h4,h5,_⟩:=kF y;rw[bd (n:=(k:Int)+1) O];by_cases e:eu p (i:Int) ((k:Int)+1)=true;rotate_left
 ·unfold kl;rw[bp λh=>e h.2];refine ah.eq (ai (Cj O q) (ah.aW (λz=>z=true) (λj H=>ai (rI O q _ _) (ah.cond (λh=>by rw[F] at h;cases h) λ_=>ai (rI O q _ _) (ah.cond (λ_=>H _ rfl) λh=>a6 (by simpa using h) e))) λz K=>by rw[K];exact dw (ah.some rfl)))
 rw[EO F e L];have B:=Fo L e;have N:=fB B (⟨[],[]⟩:Loop);refine ah.eq (ai (Cj O q) (ah.aW (λz=>z=pG (P.nest.getD (k+1) ⟨[],[]⟩) k) (λj H=>?_) λz K=>?_))
 ·refine ai (rI O q _ _) (ah.cond (λh=>by rw[F] at h;cases h) λ_=>ai (rI O q _ _) (ah.cond (λh=>by rw[e] at h;cases h) λ_=>ai (bw L) ?_));rw[show(k:Int)+1=((k+1:Nat):Int) by omega];exact ai (bw N) (ai (L9 O (M _ (bB N)) O) (H _ rfl))
 subst K;refine ah.cond (λg=>ah.some ?_) λg=>?_
 ·rw[bp (by unfold mD;rw[g];simp)];rfl
 refine ai (x:=i' p i) (Na T q.sm X _) ?_;have Q:=FI X (i:=i);have R:=λd G=>(tV X L (d:=d) G).1;have t:mD p i k P=(i' p i).all (λd=>iR (mb k d)):=by unfold mD;rw[g];rfl
 rw[t];generalize i' p i=D at Q R;refine ah.loop (λx:Int=> ∃m:Nat,x=m/\m<=D.length/\ ∀d∈D.take m,iR (mb k d)=true) (λx=>D.length-x.toNat) ?_ n _ ⟨0,rfl,O,λd G=>by simp at G⟩ O;rintro u z ⟨m,rfl,hm,o⟩ bH;refine bb (λC=>?_) λjR=>?_
 ·have C:m<D.length:=O
  have S:=bg C;have r:=fe C;have vt:=R _ r;rw[show(k:Int)+1=((k+1:Nat):Int) by omega];refine ai (bw S) (ai (ej bY) (ai (bw (fB O 0)) (ai (x:=D[m].getD k 0) (bw (fB (l:=D[m]) O 0)) (ai (fr (by rw[List.nil_append];omega) _) (ai (bw (fB O 0)) ?_)))));rw[List.nil_append,eF];refine ai (bw (fB (l:=D[m].set k (D[m].getD (k+1) 0)) (k:=k+1) bY 0)) (ai (fr (by rw[ke];omega) _) ?_);rw[eF];refine ai (x:=iR (mb k D[m])) (NZ (d:=mb k D[m]) (by rw[E4];omega) O) (ah.cond (λh=>ah.some ?_) λh=>?_)
  ·rw[bp λW=>?_]
   ·rfl
   have:=fG.1 W _ r;rw[this] at h;cases h
  rw[bd O];refine bH _ ⟨m+1,O,O,λd G=>?_⟩ O;rw[eG,S] at G;rcases eW.1 G with E|E
  ·exact o d E
  have:d=D[m]:=by simpa using E
  subst this;simpa using h
 have:m=D.length:=O
 subst this;rw[dA] at o;rw[bh (fG.2 o)];have I:=MU (n:=n) O (x:=P) (s:=k+1) O Y M h4.2 h5 (way:=0) (v:=(k:Int)) (b:=⟨[],0⟩) (f:=ka k) λn _ x hx=>Rs n O x hx;rw[show(k:Int)+1=((k+1:Nat):Int) by omega];refine ai (bw L) (ai I ?_);have mO:(P.nest.take (k+2)++(P.nest.drop (k+2)).map (hn (ka k))).length=P.nest.length:=by rw[dq,dI,dz,ir];omega
 have w:=Sh B ((P.nest.drop (k+2)).map (hn (ka k)));rw[show k+1+1=k+2 by omega];dsimp only;generalize P.nest.take (k+2)++(P.nest.drop (k+2)).map (hn (ka k))=A at mO w;refine ai (bw (fB O (⟨[],[]⟩:Loop))) (ai (bw (fB O (⟨[],[]⟩:Loop))) (ai (fr O _) ?_));rw[eF];refine ai (bw (fB (l:=A.set k (A.getD (k+1) ⟨[],[]⟩)) (k:=k+1) (by rw[ke];omega) (⟨[],[]⟩:Loop))) (ai (fr (by rw[ke];omega) _) ?_);rw[eF];have kA:(⟨(A.set k (A.getD (k+1) ⟨[],[]⟩)).set (k+1) (A.getD k ⟨[],[]⟩),P.body.map (iT (ka k))⟩:Part)=q5 k P:=by
  have:(A.set k (A.getD (k+1) ⟨[],[]⟩)).set (k+1) (A.getD k ⟨[],[]⟩)=hq k A:=rfl;rw[this,w,<-O3];rfl
 rw[kA];exact ai (Qw O q U ((F8 y B).mono O)) (ah.some rfl)
end
set_option maxRecDepth 100000
def hF(B:Nat)(a:aH):Prop:=a.ao.length<=B
def h7(B:Nat)(l:List aH):Prop:=l.length<=B/\ ∀a∈l,hF B a
def kR(B:Nat)(a:bR):Prop:=a.array.length<=B/\h7 B a.ak
def gr(B:Nat):Nat->Expr->Prop
 |0,_=>False
 |m+1,e=>hF B e.index/\kR B e.read/\e.aJ.length<=B/\ ∀k∈e.aJ,gr B m k
def kT(B m:Nat)(s:Stmt):Prop:=kR B s.write/\gr B m s.value
def kS(B:Nat)(l:Loop):Prop:=h7 B l.bn/\h7 B l.aG
def nU(B m:Nat)(x:Part):Prop:=(x.nest.length<=B/\ ∀l∈x.nest,kS B l)/\x.body.length<=B/\ ∀s∈x.body,kT B m s
def lH(B:Nat)(x:bX):Prop:=x.name.length<=B/\x.bo.length<=B
def gu(B m:Nat)(p:Prog):Prop:=(p.a'.length<=B/\ ∀x∈p.a',lH B x)/\p.parts.length<=B/\ ∀x∈p.parts,nU B m x
theorem F5: ∀{m:Nat} {e:Expr},gr 1048576 m e-> ∀j,pC j e
 |0,e,h,_=>h.elim
 |m+1,e,h,0=>trivial
 |m+1,e,h,j+1=>by
  obtain⟨c,b,n,d⟩:=h;unfold hF at c;refine⟨O,?_,⟨?_,λa i=>?_⟩,λk l=>F5 (d k l) j⟩
  ·unfold ko;omega
  ·have:=b.2.1;omega
  have:=b.2.2 a i;unfold hF at this;unfold ko;omega
variable {l:List aH}{m C D i n B:Nat}{p:Prog}{w v:Int->Option Int}{P Q:Prop}{k eU:Int}{x:Part}{a:aH}{s:Stmt}{R:Type}
theorem zI(h:h7 1048576 l):iW l:=⟨by have:=h.1;omega,λa b=>by have:=h.2 a b;unfold hF at this;unfold ko;omega⟩
theorem F4(h:gu 1048576 m p):iY p:=by obtain⟨⟨n,i⟩,o,k⟩:=h;refine⟨⟨O,λx a=>by have:=(i x a).2;omega⟩,O,λx a=>?_⟩;obtain⟨⟨q,b⟩,r,c⟩:=k x a;exact⟨⟨O,λl d=>⟨zI (b l d).1,zI (b l d).2⟩⟩,O,λs e=>⟨zI (c s e).1.2,F5 (c s e).2 _⟩⟩
def ea{k:Type}(c:k->Nat)(l:List k):Nat:=l.length+(l.map c).sum
def jm(a:aH):Nat:=a.ao.length
def oR(a:bR):Nat:=ea jm a.ak
def kH:Nat->Expr->Nat
 |0,_=>0
 |m+1,e=>jm e.index+(oR e.read+ea (kH m) e.aJ)
def mZ(m:Nat)(s:Stmt):Nat:=oR s.write+kH m s.value
def mY(l:Loop):Nat:=ea jm l.bn+ea jm l.aG
def oT(m:Nat)(x:Part):Nat:=ea mY x.nest+ea (mZ m) x.body
def oU(x:bX):Nat:=x.bo.length
def oS(m:Nat)(p:Prog):Nat:=ea oU p.a'+ea (oT m) p.parts
def dQ(w:Int->Option Int)(C:Nat)(P:Prop):Prop:= ∀left:Int,0<=left->left<=1048576-> ∃r,w left=some r/\(r= -1\/(0<=r/\r+C<=left/\P))
theorem dQ.mono(h:dQ w C P)(d:D<=C)(k:P->Q):dQ w D Q:=λleft a b=>by obtain⟨r,e,c⟩:=h left a b;exact⟨r,e,c.imp id λh=>⟨h.1,O,k h.2.2⟩⟩
theorem dQ.two(h:dQ w C P)(k:dQ v D Q):dQ (λleft=>Option.bind (w left) λa=>bif decide (a<0) then some (-1) else v a) (C+D) (P/\Q):=λleft b c=>by
 obtain⟨r,e,d⟩:=h left b c;dsimp only;rw[e];rcases d with rfl|⟨i,q,l⟩
 ·exact⟨-1,rfl,.inl rfl⟩
 obtain⟨s,m,n⟩:=k r i O;refine⟨s,?_,?_⟩
 ·show(bif decide (r<0) then some (-1) else v r)=some s;rw[bA O];exact m
 rcases n with rfl|⟨o,x,p⟩
 ·exact .inl rfl
 exact .inr ⟨o,O,l,p⟩
theorem dQ.end(h:dQ w C P):dQ (λleft=>Option.bind (w left) λa=>bif decide (a<0) then some (-1) else some a) C P:=
 (h.two (v:=λx=>some x) (D:=0) (Q:=True) λleft b _=>⟨left,rfl,.inr ⟨b,O,trivial⟩⟩).mono (cL _) And.left
theorem dQ.len{k:Nat}(i:k<=9223372036854775807)(h:dQ v D Q):dQ (λleft=>bif decide (wr (left-(k:Int))<0) then some (-1) else v (wr (left-(k:Int)))) (k+D) (k<=1048576/\Q):=λleft l m=>by
 dsimp only;rw[bd O];by_cases a:left-(k:Int)<0
 ·rw[bP a];exact⟨-1,rfl,.inl rfl⟩
 rw[bA a];obtain⟨s,e,b⟩:=h (left-(k:Int)) O O;refine⟨s,e,?_⟩;rcases b with rfl|⟨c,n,d⟩
 ·exact .inl rfl
 exact .inr ⟨c,O,O,d⟩
theorem D1{k:Type}{l:List k}{x:k}(c:k->Nat)(h:l[i]? =some x):((l.take (i+1)).map c).sum=((l.take i).map c).sum+c x:=by rw[kZ h];simp
theorem Sg{k:Type}{a:List k}{g:k->Int->Option Int}{c:k->Nat}{P:k->Prop}(W:a.length<=1048576)(X:2000000<=n)(A: ∀x∈a,dQ (g x) (c x) (P x)):
  dQ (λleft=>a8 (λb ((v,l):Int×Int)=>
   bif decide (l<(a.length:Int)) then(
    Option.bind (aD a l) λB=>
    Option.bind (g B v) λw=>
    bif decide (w<0) then(
     some (-1)
    ) else(
     b (w,wr (l+1))
    )
   ) else(
    some v
   )
  ) n (left,0)) (a.map c).sum (∀x∈a,P x):=λleft C f=>by
 refine ah.loop (Q:=λr=>r= -1\/(0<=r/\r+((a.map c).sum:Nat)<=left/\ ∀x∈a,P x)) (λz:Int×Int=> ∃j:Nat,z.2=j/\j<=a.length/\0<=z.1/\z.1+(((a.take j).map c).sum:Nat)<=left/\ ∀x∈a.take j,P x) (λz=>a.length-z.2.toNat) ?_ n _ ⟨0,rfl,O,C,aY,λx d=>by simp at d⟩ Z;rintro m ⟨D,t⟩ ⟨j,rfl,u,o,p,q⟩ F;dsimp only at o p⊢;refine bb (λG=>?_) λH=>ah.some (.inr ⟨o,by rw[ls O] at p;exact p,by rw[ls O] at q;exact q⟩);have d:=bg (O:j<a.length);generalize a[j]=x at d;obtain⟨s,e,K⟩:=A x (bB d) D o O;refine ai (bw d) (ai e ?_);rcases K with rfl|⟨L,E,R⟩
 ·exact bb (λ_=>ah.some (.inl rfl)) λh=>a6 h (by decide)
 refine bb (λh=>a6 h O) λ_=>?_;rw[bd O];refine F _ ⟨j+1,Z,O,L,by dsimp only;rw[D1 c d];omega,λy i=>?_⟩ Z;rw[kZ d] at i;rcases eW.1 i with i|i
 ·exact q y i
 rw[rb.1 i];exact R
theorem ps{k:Type}{a:List k}{g:k->Int->Option Int}{c:k->Nat}{P:k->Prop}(i:a.length<=9223372036854775807)(l:2000000<=n)(m: ∀x∈a,dQ (g x) (c x) (P x)):
  dQ (λleft=>bif decide (wr (left-(a.length:Int))<0) then some (-1) else a8 (λb ((e,d):Int×Int)=>
   bif decide (d<(a.length:Int)) then(
    Option.bind (aD a d) λo=>
    Option.bind (g o e) λh=>
    bif decide (h<0) then(
     some (-1)
    ) else(
     b (h,wr (d+1))
    )
   ) else(
    some e
   )
  ) n (wr (left-(a.length:Int)),0)) (ea c a) (a.length<=1048576/\ ∀x∈a,P x):=λleft p q=>by
 by_cases r:a.length<=1048576
 ·exact(dQ.len i (Sg r l m)) left p q
 dsimp only;rw[bd O,bP O];exact⟨-1,rfl,.inl rfl⟩
theorem EK{a:List Int}(h:a.length<=9223372036854775807):dQ (xw n a) a.length (a.length<=1048576):=by have:=(dQ.len h (v:=λx=>some x) (D:=0) (Q:=True) λleft b _=>⟨left,rfl,.inr ⟨b,O,trivial⟩⟩).mono (cL _) And.left;exact this
theorem Sf{a:bX}(h:lH 9223372036854775807 a):dQ (x6 n a) (oU a) (lH 1048576 a):=(dQ.len h.1 ((EK h.2).end)).mono (Nat.le_add_left _ _) id
theorem Ro(b:2000000<=n){a:List bX}(h:a.length<=9223372036854775807)(c: ∀x∈a,lH 9223372036854775807 x):dQ (B' n a) (ea oU a) (a.length<=1048576/\ ∀x∈a,lH 1048576 x):=ps h b λx d=>Sf (c x d)
theorem Fz(h:hF 9223372036854775807 a):dQ (wz n a) (jm a) (hF 1048576 a):=(EK h).end
theorem yZ(b:2000000<=n){a:List aH}(h:h7 9223372036854775807 a):dQ (sM n a) (ea jm a) (h7 1048576 a):=ps h.1 b λx c=>Fz (h.2 x c)
theorem FA(b:2000000<=n){a:bR}(h:kR 9223372036854775807 a):dQ (wA n a) (oR a) (kR 1048576 a):=(dQ.len h.1 ((yZ b h.2).end)).mono (Nat.le_add_left _ _) id
theorem EL: ∀(m n:Nat) {e:Expr},2000000+m<=n->gr 9223372036854775807 m e->dQ (nN n e) (kH m e) (gr 1048576 m e)
 |0,n,e,_,h=>h.elim
 |m+1,n,e,r,h=>by
  obtain⟨n,rfl⟩: ∃j,n=j+1:=⟨n-1,O⟩
  obtain⟨l,o,p,q⟩:=h;have i:dQ (x5 n (nN n) e.aJ) (ea (kH m) e.aJ) (e.aJ.length<=1048576/\ ∀k∈e.aJ,gr 1048576 m k):=ps p O λk i=>EL m n O (q k i);exact dQ.mono ((Fz (n:=n) l).two ((FA (n:=n) O o).two i.end)) (cL _) (λ⟨a,b,c,d⟩=>⟨a,b,c,d⟩)
theorem Rl(a:2000000+m<=n)(h:kT 9223372036854775807 m s):dQ (yv n s) (mZ m s) (kT 1048576 m s):=(FA O h.1).two ((EL m n a h.2).end)
theorem O1(b:2000000+m<=n){a:List Stmt}(h:a.length<=9223372036854775807)(c: ∀x∈a,kT 9223372036854775807 m x):dQ (x3 n a) (ea (mZ m) a) (a.length<=1048576/\ ∀x∈a,kT 1048576 m x):=ps h O λx d=>Rl b (c x d)
theorem S7(a:2000000<=n){l:Loop}(h:kS 9223372036854775807 l):dQ (yz n l) (mY l) (kS 1048576 l):=(yZ a h.1).two ((yZ a h.2).end)
theorem Se(b:2000000<=n){a:List Loop}(h:a.length<=9223372036854775807)(c: ∀x∈a,kS 9223372036854775807 x):dQ (x4 n a) (ea mY a) (a.length<=1048576/\ ∀x∈a,kS 1048576 x):=ps h b λx d=>S7 b (c x d)
theorem Rn(a:2000000+m<=n)(h:nU 9223372036854775807 m x):dQ (yy n x) (oT m x) (nU 1048576 m x):=(Se O h.1.1 h.1.2).two ((O1 a h.2.1 h.2.2).end)
theorem Rm(a:2000000+m<=n)(h:gu 9223372036854775807 m p):dQ (v8 n p) (oS m p) (gu 1048576 m p):=
 (Ro O h.1.1 h.1.2).two (dQ.end (ps h.2.1 O λx b=>Rn a (h.2.2 x b)))
theorem oV{k:Type}{a:List k}{g:k->Option k}{z:k}(A:a.length<=1048576)(B:2000000<=n)(p: ∀x∈a,g x=some x):
  (Option.bind (mk (a.length:Int) z) λq=>
 a8 (λc ((m,h):(List k)×Int)=>
  bif decide (h<(a.length:Int)) then(
   Option.bind (aD a h) λr=>
   Option.bind (g r) λs=>
   Option.bind (aD m h) λC=>
   Option.bind (cR m h s) λv=>
   c (v,wr (h+1))
  ) else(
   some m
  )
 ) n (q,0))=some a:=by
 refine ah.eq (ai (Sz ⟨O,O⟩ z) (ah.loop (λx:List k×Int=> ∃j:Nat,x.2=j/\j<=a.length/\x.1=a.take j++List.replicate (a.length-j) z) (λx=>a.length-x.2.toNat) ?_ n _ ⟨0,rfl,O,aY⟩ Z));rintro o ⟨b,i⟩ ⟨j,rfl,D,rfl⟩ w;dsimp only;have d:(a.take j++List.replicate (a.length-j) z).length=a.length:=bY
 refine bb (λe=>?_) λy=>ah.some (by rw[show a.length-j=0 by omega,ls O];simp);have e:j<a.length:=O
 have l:=bg e;generalize a[j]=x at l;refine ai (bw l) (ai (p x (bB l)) (ai (bw (bg (show j<_ by rw[d];exact e))) (ai (fr (by rw[d];omega) _) ?_)));rw[bd O,eF];refine w _ ⟨j+1,Z,O,?_⟩ Z;dsimp only;rw[kZ l,w2 _ _ (by rw[dz];omega),dz,Nat.min_eq_left O,nG,show a.length-j=(a.length-(j+1))+1 by omega,List.replicate_succ,List.set_cons_zero];simp
theorem EH(b:2000000<=n){a:List Int}(h:a.length<=1048576):tr n a=some a:=by
 unfold tr
 have:=oV (z:=(0:Int)) (g:=λx=>some x) h b λx _=>rfl;exact this
theorem Fx(b:2000000<=n)(h:hF 1048576 a):sS n a=some a:=by unfold sS;rw[EH b h];rfl
theorem yY(b:2000000<=n){a:List aH}(h:h7 1048576 a):sL n a=some a:=oV h.1 b λx c=>Fx b (h.2 x c)
theorem Fy(b:2000000<=n){a:bR}(h:kR 1048576 a):sT n a=some a:=by unfold sT;rw[yY b h.2];rfl
theorem Sc(b:2000000<=n){a:bX}(h:lH 1048576 a):w5 n a=some a:=by unfold w5;rw[EH b h.2];rfl
theorem EI: ∀(m n:Nat) {e:Expr},2000000+m<=n->gr 1048576 m e->mj n e=some e
 |0,n,e,_,h=>h.elim
 |m+1,n,e,l,h=>by
  obtain⟨n,rfl⟩: ∃j,n=j+1:=⟨n-1,O⟩
  obtain⟨b,c,d,i⟩:=h;have a:x2 n (mj n) e.aJ=some e.aJ:=oV d O λk a=>EI m n O (i k a);unfold mj;rw[Fx O b,Fy O c,a];cases e;rfl
theorem Ri(a:2000000+m<=n)(h:kT 1048576 m s):xt n s=some s:=by unfold xt;rw[Fy O h.1,EI m n a h.2];rfl
theorem PH(b:2000000+m<=n){a:List Stmt}(h:a.length<=1048576)(c: ∀x∈a,kT 1048576 m x):xZ n a=some a:=oV h O λx d=>Ri b (c x d)
theorem S5(a:2000000<=n){l:Loop}(h:kS 1048576 l):xv n l=some l:=by unfold xv;rw[yY a h.1,yY a h.2];rfl
theorem Sb(b:2000000<=n){a:List Loop}(h:a.length<=1048576)(c: ∀x∈a,kS 1048576 x):x1 n a=some a:=oV h b λx d=>S5 b (c x d)
theorem Rk(a:2000000+m<=n)(h:nU 1048576 m x):xu n x=some x:=by unfold xu;rw[Sb O h.1.1 h.1.2,PH a h.2.1 h.2.2];rfl
theorem Rj(b:2000000+m<=n)(h:gu 1048576 m p):kt n p=some p:=by unfold kt;rw[show B9 n p.a'=some p.a' from oV h.1.1 O (λx a=>Sc O (h.1.2 x a)),show x0 n p.parts=some p.parts from oV h.2.1 O λx a=>Rk b (h.2.2 x a)];rfl
theorem pB{k:Type}{a:List k}{g:k->k->Option Bool}(r:a.length<=1048576)(s:2000000<=n)(h: ∀x∈a,g x x=some true):
  (bif !decide ((a.length:Int)=(a.length:Int)) then(
  some false
 ) else(
  a8 (λb (c:Int)=>
   bif decide (c<(a.length:Int)) then(
    Option.bind (aD a c) λl=>
    Option.bind (aD a c) λm=>
    Option.bind (g l m) λo=>
    bif !o then(
     some false
    ) else(
     b (wr (c+1))
    )
   ) else(
    some true
   )
  ) n 0
 ))=some true:=by rw[bP rfl];refine ah.eq (cx (ah.loop (λx:Int=> ∃j:Nat,x=j/\j<=a.length) (λx=>a.length-x.toNat) ?_ n _ ⟨0,rfl,O⟩ O));rintro d i ⟨j,rfl,v⟩ p;refine bb (λq=>?_) λ_=>ah.some rfl;have e:=bg (O:j<a.length);refine ai (bw e) (ai (bw e) (ai (h _ (bB e)) ?_));rw[bd O];exact cx (p _ ⟨j+1,O,O⟩ O)
theorem ET(k:2000000<=n){a:List Int}(h:a.length<=1048576):ts n a a=some true:=by unfold ts;rw[bP rfl];refine ah.eq (cx (ah.loop (λx:Int=> ∃j:Nat,x=j/\j<=a.length) (λx=>a.length-x.toNat) ?_ n _ ⟨0,rfl,O⟩ O));rintro b i ⟨j,rfl,l⟩ d;refine bb (λe=>?_) λ_=>ah.some rfl;have c:=bg (O:j<a.length);refine ai (bw c) (ai (bw c) (dL (λh=>a6 rfl h) λ_=>?_));rw[bd O];exact d _ ⟨j+1,O,O⟩ O
theorem FG(b:2000000<=n)(h:hF 1048576 a):sU n a a=some true:=by unfold sU;rw[ET b h];exact ah.eq (ai rfl (cx (dL (λh=>a6 rfl h) λ_=>ah.some rfl)))
theorem za(b:2000000<=n){a:List aH}(h:h7 1048576 a):sN n a a=some true:=pB h.1 b λx c=>FG b (h.2 x c)
theorem FH(b:2000000<=n){a:bR}(h:kR 1048576 a):sV n a a=some true:=by unfold sV;exact ah.eq (dL (λh=>a6 rfl h) λ_=>ai (za b h.2) (ah.some rfl))
theorem R6(b:2000000<=n){a:bX}(h:lH 1048576 a):w6 n a a=some true:=by unfold w6;exact ah.eq (dL (λh=>a6 rfl h) λ_=>ai (ET b h.2) (ah.some rfl))
theorem EU: ∀(m n:Nat) {e:Expr},2000000+m<=n->gr 1048576 m e->mi n e e=some true
 |0,n,e,_,h=>h.elim
 |m+1,n,e,l,h=>by
  obtain⟨n,rfl⟩: ∃j,n=j+1:=⟨n-1,O⟩
  obtain⟨b,c,d,i⟩:=h;have a:x' n (mi n) e.aJ e.aJ=some true:=pB d O λk a=>EU m n O (i k a);unfold mi;exact ah.eq (dL (λh=>a6 rfl h) λ_=>dL (λh=>a6 rfl h) λ_=>ai (FG O b) (cx (ai (FH O c) (cx (ai a (cx (ah.some rfl)))))))
theorem Q8(a:2000000+m<=n)(h:kT 1048576 m s):xx n s s=some true:=by unfold xx;exact ah.eq (ai (FH O h.1) (cx (ai (EU m n a h.2) (cx (ah.some rfl)))))
theorem SM(a:2000000<=n){l:Loop}(h:kS 1048576 l):xz n l l=some true:=by unfold xz;exact ah.eq (ai (za a h.1) (cx (ai (za a h.2) (cx (ah.some rfl)))))
theorem Q9(a:2000000+m<=n)(h:nU 1048576 m x):xy n x x=some true:=by unfold xy;exact ah.eq (ai (show x9 n x.nest x.nest=some true from pB h.1.1 O λl b=>SM O (h.1.2 l b)) (cx (ai (show x7 n x.body x.body=some true from pB h.2.1 O λs c=>Q8 a (h.2.2 s c)) (cx (ah.some rfl)))))
theorem ES(b:2000000+m<=n)(h:gu 1048576 m p):ku n p p=some true:=by unfold ku;exact ah.eq (ai (show Cf n p.a' p.a'=some true from pB h.1.1 O λx a=>R6 O (h.1.2 x a)) (cx (ai (show x8 n p.parts p.parts=some true from pB h.2.1 O λx a=>Q9 b (h.2.2 x a)) (cx (ah.some rfl)))))
theorem wh(q:2000000<=n)(l:0<=k)(d:k<=1099511627776): ∃t,hG n k=some t:=by
 have:ah (hG n k) (λ_=>True):=by
  unfold hG;refine bb (λ_=>ah.some trivial) λ_=>?_;refine ah.loop (λz:Int×List UInt8=> ∃j:Nat,z.2.length=j/\0<=z.1/\z.1<=1099511627776/\j<=13/\z.1<10^(13-j)) (λz=>14-z.2.length) ?_ n _ ⟨0,rfl,l,d,O,Int.lt_of_le_of_lt d (by decide)⟩ Z;rintro c ⟨r,s⟩ ⟨j,e,i,m,v,b⟩ o;dsimp only at e i b m⊢;refine bb (λw=>?_) λ_=>ai (FU bY) (ah.some trivial);have p:j<13:=by
   apply ly;intro h;rw[show 13-j=0 by omega] at b
   have:(10:Int)^0=1:=by decide
   omega
  refine ai (FU bY) ?_;rw[Int.tdiv_eq_ediv_of_nonneg i,bd O];refine o _ ⟨j+1,by simp[e],Z,Z,O,?_⟩ bY;dsimp only;have a:(10:Int)^(13-j)=10^(13-(j+1))*10:=by rw[<-Int.pow_succ];congr 1;omega
  rw[a] at b;exact Int.ediv_lt_of_lt_mul (by decide) b
 obtain⟨t,h,_⟩:=this;exact⟨t,h⟩
def kb(k:Int)(m:Nat):List Int:=(List.range m).map λi:Nat=>k+i
theorem nd(k:Int)(m:Nat):(kb k m).length=m:=by simp[kb]
theorem QA(h:i<m):(kb k m)[i]? =some (k+i):=by simp[kb,h]
theorem Pj(k:Int)(m:Nat):kb k (m+1)=kb k m++[k+m]:=by simp[kb,List.range_succ]
theorem wi(m:2000000<=n){a:List Int}(o:a.length<=1048576)(p:0<=k)(q:k+a.length<=1099511627776):oO n a k=some (k+a.length,kb k a.length):=by
 unfold oO;refine ah.eq (ah.loop (λz:Int×List Int×Int=> ∃j:Nat,z.2.2=j/\j<=a.length/\z.1=k+j/\z.2.1=kb k j++a.drop j) (λz=>a.length-z.2.2.toNat) ?_ n _ ⟨0,rfl,O,aY,by simp[kb]⟩ Z);rintro d ⟨b6,l,i⟩ ⟨j,rfl,r,rfl,rfl⟩ h;dsimp only;have c:(kb k j++a.drop j).length=a.length:=by simp[nd];omega
 refine bb (λb=>?_) λe=>?_
 ·have b:j<a.length:=by rw[c] at b;omega
  refine ai (bw (bg (show j<_ by rw[c];exact b))) (ai (fr (by rw[c];omega) _) ?_);rw[bd O,bd O,eF];refine h _ ⟨j+1,Z,O,Z,?_⟩ Z;dsimp only;rw[w2 _ _ (by rw[nd];omega),nd,nG,nD b,List.set_cons_zero,Pj,iq];rfl
 have:j=a.length:=by rw[c] at e;omega
 subst this;exact ah.some aY
def jD{R:Type}(B:(Int×Int->Option Int)->R->Int->Int->Option Int)(k:Int)(y:R)(b:Int):Prop:= ∀(a:Int×Int->Option Int) (Q:Int->Prop) (j:Nat),j<=1048576->ah (a (b,(j:Int)+1)) Q->ah (B a y k j) Q
inductive gY {α:Type} (H:Int->α->Int->Prop):Int->List α->Int->Prop
 |nil (k:Int):gY H k [] k
 |cons {k bz eU:Int} {x:α} {l:List α} (h:H k x bz) (t:gY H bz l eU):gY H k (x::l) eU
theorem gY.snoc{H:Int->R->Int->Prop}{a:Int}{x:R}{l:List R}(t:gY H k l a)(h:H a x eU):gY H k (l++[x]) eU:=by
 induction t with
 |nil k=>exact .cons h (.nil _)
 |cons g _ b=>exact .cons g (b h)
theorem qL{B:(Int×Int->Option Int)->R->Int->Int->Option Int}{l:List R}(r:2000000<=n)(s:l.length<=1048576)(b:gY (jD B) k l eU):
  a8 (λa ((m,e):Int×Int)=>bif decide (e<(l.length:Int)) then(Option.bind (aD l e) λo=>B a o m e) else(some m)) n (k,0)=some eU:=by
 refine ah.eq (ah.loop (λz:Int×Int=> ∃j:Nat,z.2=j/\j<=l.length/\gY (jD B) z.1 (l.drop j) eU) (λz=>l.length-z.2.toNat) ?_ n _ ⟨0,rfl,O,b⟩ Z);rintro c ⟨b6,i⟩ ⟨j,rfl,v,b⟩ p;dsimp only at b⊢;refine bb (λd=>?_) λq=>?_
 ·have d:j<l.length:=O
  refine ai (bw (bg d)) ?_;rw[nD d] at b;cases b with
  |cons h t=>exact h c _ j O (p _ ⟨j+1,Z,O,t⟩ Z)
 rw[w1 O] at b;cases b;exact ah.some rfl
theorem tT(e:2000000<=n)(l:m<=1048576)(o:0<=k)(p:k+m<=1099511627776):d6 n (kb k m) k=some (k+m):=by unfold d6;refine ah.eq (ah.loop (λz:Int×Int=> ∃j:Nat,z.2=j/\j<=m/\z.1=k+j) (λz=>m-z.2.toNat) ?_ n _ ⟨0,rfl,O,aY⟩ Z);rintro a ⟨b6,i⟩ ⟨j,rfl,q,rfl⟩ b;dsimp only;rw[nd];refine bb (λc=>?_) λd=>ah.some (O:k+(j:Int)=k+(m:Int));refine ai (bw (QA O)) (dL (λh=>a6 rfl h) λ_=>?_);rw[bd O,bd O];exact b _ ⟨j+1,Z,O,Z⟩ Z
def GY(n:Nat)(a:Int×Int->Option Int)(b:bX)(c e:Int):Option Int:=Option.bind (hG n c) λh=>bif !decide (b.name=h) then some (-1) else(Option.bind (d6 n b.bo (wr (c+1))) λd=>bif decide (d<0) then some (-1) else(a (d,wr (e+1))))
theorem SF(a:2000000<=n)(l:List bX)(k eU:Int)(b:l.length<=1048576)(c:gY (jD (GY n)) k l eU):qq n l k=some eU:=by unfold qq;exact qL a b c
def GU(n:Nat)(a:Int×Int->Option Int)(c:aH)(d e:Int):Option Int:=Option.bind (d6 n c.ao d) λb=>bif decide (b<0) then some (-1) else(bif !decide (c.const=b) then some (-1) else(a (wr (b+1),wr (e+1))))
theorem SG(a:2000000<=n)(l:List aH)(k eU:Int)(b:l.length<=1048576)(c:gY (jD (GU n)) k l eU):ia n l k=some eU:=by unfold ia;exact qL a b c
def GW(n:Nat)(a:Int×Int->Option Int)(b:Loop)(e h:Int):Option Int:=Option.bind (ia n b.bn e) λc=>bif decide (c<0) then some (-1) else(Option.bind (ia n b.aG c) λd=>bif decide (d<0) then some (-1) else(a (d,wr (h+1))))
theorem Sw(a:2000000<=n)(l:List Loop)(k eU:Int)(b:l.length<=1048576)(c:gY (jD (GW n)) k l eU):oM n l k=some eU:=by unfold oM;exact qL a b c
def GV(n:Nat)(a:Int×Int->Option Int)(b:Expr)(d i:Int):Option Int:=bif !decide (b.kind=d) then some (-1) else(bif !decide (b.num=wr (d+1)) then some (-1) else(Option.bind (d6 n b.index.ao (wr ((wr (d+1))+1))) λc=>bif decide (c<0) then some (-1) else(bif !decide (b.index.const=c) then some (-1) else(Option.bind (hG n (wr (c+1))) λk=>bif !decide (b.read.array=k) then some (-1) else(Option.bind (ia n b.read.ak (wr ((wr (c+1))+1))) λe=>bif decide (e<0) then some (-1) else(Option.bind (kg n b.aJ e) λh=>bif decide (h<0) then some (-1) else(a (h,wr (i+1)))))))))
theorem FP(a:2000000<=n)(l:List Expr)(k eU:Int)(b:l.length<=1048576)(c:gY (jD (GV n)) k l eU):kg (n+1) l k=some eU:=by rw[kg.eq_def];exact qL a b c
def GZ(n:Nat)(a:Int×Int->Option Int)(b:Stmt)(h k:Int):Option Int:=Option.bind (hG n h) λl=>bif !decide (b.write.array=l) then some (-1) else(Option.bind (ia n b.write.ak (wr (h+1))) λd=>bif decide (d<0) then some (-1) else(bif !decide (b.value.kind=d) then some (-1) else(bif !decide (b.value.num=wr (d+1)) then some (-1) else(Option.bind (d6 n b.value.index.ao (wr ((wr (d+1))+1))) λe=>bif decide (e<0) then some (-1) else(bif !decide (b.value.index.const=e) then some (-1) else(Option.bind (hG n (wr (e+1))) λm=>bif !decide (b.value.read.array=m) then some (-1) else(Option.bind (ia n b.value.read.ak (wr ((wr (e+1))+1))) λi=>bif decide (i<0) then some (-1) else(Option.bind (kg n b.value.aJ i) λc=>bif decide (c<0) then some (-1) else(a (c,wr (k+1)))))))))))
theorem Su(a:2000000<=n)(l:List Stmt)(k eU:Int)(b:l.length<=1048576)(c:gY (jD (GZ n)) k l eU):oL n l k=some eU:=by unfold oL;exact qL a b c
def GX(n:Nat)(a:Int×Int->Option Int)(b:Part)(e h:Int):Option Int:=Option.bind (oM n b.nest e) λc=>bif decide (c<0) then some (-1) else(Option.bind (oL n b.body c) λd=>bif decide (d<0) then some (-1) else(a (d,wr (h+1))))
theorem Sv(a:2000000<=n)(l:List Part)(k eU:Int)(b:l.length<=1048576)(c:gY (jD (GX n)) k l eU):qv n l k=some eU:=by unfold qv;exact qL a b c
theorem o4{B:(Int×Int->Option Int)->R->Int->Int->Option Int}{Hh:List R->Int->Option Int}{a:List R}{c:R->Nat}{F:(Int×List R×Int->Option (Int×List R))->Int×List R×Int->Option (Int×List R)}(D: ∀(l:List R) (k d:Int),l.length<=1048576->gY (jD B) k l d->Hh l k=some d)(I:2000000<=n)(G:a.length<=1048576)(M:0<=k)(K:k+5*(ea c a:Nat)<=1099511627776)
  (L: ∀(Q:Int×List R->Prop) (b:Int×List R×Int->Option (Int×List R)) (e:Int) (l:List R) (j:Nat) (x:R),l[j]? =some x->x∈a->j<l.length->j<=1048576->0<=e->e+5*(1+c x:Nat)<=1099511627776->
   (∀(d:Int) (y:R),e<=d->d<=e+5*(1+c x:Nat)->jD B e y d->ah (b (d,l.set j y,(j:Int)+1)) Q)->ah (F b (e,l,j)) Q)
  (W: ∀(b:Int×List R×Int->Option (Int×List R)) (e:Int) (l:List R),F b (e,l,l.length)=some (e,l)):
  ∃r,a8 F n (k,a,0)=some r/\k<=r.1/\r.1<=k+5*(ea c a:Nat)/\r.2.length=a.length/\
   Hh r.2 k=some r.1:=by
 suffices H:ah (a8 F n (k,a,0)) (λr=>k<=r.1/\r.1<=k+5*(ea c a:Nat)/\r.2.length=a.length/\gY (jD B) k r.2 r.1) by
  obtain⟨r,m,X,f,A,g⟩:=H;exact⟨r,m,X,f,A,D _ _ _ (by rw[A];exact G) g⟩
 refine ah.loop (λz:Int×List R×Int=> ∃j:Nat,z.2.2=j/\j<=a.length/\z.2.1.length=a.length/\z.2.1.drop j=a.drop j/\k<=z.1/\z.1<=k+5*(j+((a.take j).map c).sum:Nat)/\gY (jD B) k (z.2.1.take j) z.1) (λz=>a.length-z.2.2.toNat) ?_ n _ ⟨0,rfl,O,rfl,rfl,fV _,aY,.nil _⟩ Z;rintro b ⟨b6,l,i⟩ ⟨j,rfl,N,q,s,C,t,o⟩ u;dsimp only at q s C t o;have h: ∀i,((a.take i).map c).sum<=(a.map c).sum:=λi=>by
  have:=congrArg (λl=>(l.map c).sum) (tJ i a);simp only[List.map_append,List.sum_append] at this;omega
 by_cases v:j<a.length
 ·have p:=bg v;generalize a[j]=x at p;have w:l[j]? =some x:=by
   have m:(l.drop j)[0]? =(a.drop j)[0]? :=by rw[s]
   rw[fX,fX] at m;simp only[Nat.add_zero] at m;rw[m];exact p
  have hs:=D1 c p;have P:=h (j+1);unfold ea at K;refine L _ b b6 l j x w (bB p) O O O O λd y S T E=>?_;refine u _ ⟨j+1,Z,O,by simpa using q,?_,Z,by dsimp only;rw[hs];omega,?_⟩ Z;rotate_left
  ·dsimp only;rw[kZ (hU O),List.take_set_of_le (cL _)];exact o.snoc E
  dsimp only;rw[List.drop_set_of_lt O]
  have:=congrArg (List.drop 1) s;simpa[List.drop_drop,Nat.add_comm] using this
 have:j=l.length:=O
 subst this;rw[W];rw[dA] at o;refine ah.some ⟨C,?_,q,o⟩
 have:=h l.length;dsimp only;unfold ea;omega
theorem Sl(c:2000000<=n){a:List bX}(p:a.length<=1048576)(d: ∀x∈a,lH 1048576 x)(q:0<=k)(s:k+5*(ea oU a:Nat)<=1099511627776):
  ∃r,vQ n a k=some r/\k<=r.1/\r.1<=k+5*(ea oU a:Nat)/\r.2.length=a.length/\qq n r.2 k=some r.1:=by
 unfold vQ;refine o4 (Hh:=qq n) (SF O) c p q s (λQ b e l j x v i w y z A m=>?_) λb e l=>by dsimp only;rw[bA O];rfl
 dsimp only;refine bb (λ_=>?_) λh=>a6 w O;unfold oU at A m;obtain⟨t,o⟩:=wh c z O;refine ai (bw v) (ai o ?_);rw[bd O,bd O];refine ai (wi c (d x i).2 O O) (ai (fg (nd _ _)) (ai (fr O _) ?_));rw[eF];refine m _ _ O O λC Q j y B=>?_;unfold GY;refine ai o (dL (λh=>a6 rfl h) λ_=>?_);rw[bd (n:=e+1) O];refine ai (tT c (d x i).2 O O) (bb (λh=>a6 h O) λ_=>?_);rw[bd O];exact B
theorem rD(c:2000000<=n){a:List aH}(d:h7 1048576 a)(o:0<=k)(p:k+5*(ea jm a:Nat)<=1099511627776):
  ∃r,mH n a k=some r/\k<=r.1/\r.1<=k+5*(ea jm a:Nat)/\r.2.length=a.length/\ia n r.2 k=some r.1:=by
 unfold mH;refine o4 (Hh:=ia n) (SG O) c d.1 o p (λQ b q l j x s e v w i y m=>?_) λb q l=>by dsimp only;rw[bA O];rfl
 dsimp only;refine bb (λ_=>?_) λh=>a6 v O;unfold jm at y m;refine ai (bw s) (ai (wi c (d.2 x e) i O) (ai (fg (nd _ _)) (ai (fr O _) ?_)));rw[bd Z,bd O,eF];refine m _ _ Z Z λA Q j w z=>?_;unfold GU;refine ai (tT c (d.2 x e) i O) (bb (λh=>a6 h O) λ_=>dL (λh=>a6 rfl h) λ_=>?_);rw[bd O,bd O];exact z
theorem Q0(c:2000000<=n){a:List Loop}(m:a.length<=1048576)(d: ∀x∈a,kS 1048576 x)(o:0<=k)(p:k+5*(ea mY a:Nat)<=1099511627776):
  ∃r,wa n a k=some r/\k<=r.1/\r.1<=k+5*(ea mY a:Nat)/\r.2.length=a.length/\oM n r.2 k=some r.1:=by
 unfold wa;refine o4 (Hh:=oM n) (Sw O) c m o p (λQ b q l j x s e v w y z i=>?_) λb q l=>by dsimp only;rw[bA O];rfl
 dsimp only;refine bb (λ_=>?_) λh=>a6 v O;unfold mY at z i;obtain⟨A,B,L,R,C,D⟩:=rD c (d x e).1 y O;obtain⟨W,F,X,f,G,H⟩:=rD c (d x e).2 (k:=A.1) O O;refine ai (bw s) (ai B (ai (fg C) (ai F (ai (fg G) (ai (fr O _) ?_)))));rw[bd O,eF];refine i _ _ O O λg Q j w K=>?_;unfold GW;refine ai D (bb (λh=>a6 h O) λ_=>ai H (bb (λh=>a6 h O) λ_=>?_));rw[bd O];exact K
theorem Ff: ∀(m n:Nat) {a:List Expr},2000001+m<=n->a.length<=1048576->(∀x∈a,gr 1048576 m x)-> ∀{k:Int},0<=k->k+5*(ea (kH m) a:Nat)<=1099511627776->
  ∃r,nL n a k=some r/\k<=r.1/\r.1<=k+5*(ea (kH m) a:Nat)/\r.2.length=a.length/\kg n r.2 k=some r.1
 |0,n,a,C,i,o,k,p,q=>by
  obtain⟨n,rfl⟩: ∃j,n=j+1:=⟨n-1,O⟩
  rw[nL.eq_def];dsimp only;exact o4 (Hh:=kg (n+1)) (FP O) O i p q (λQ b c l j x w s y z D v e=>(o x s).elim) (λb c l=>by dsimp only;rw[bA O];rfl)
 |m+1,n,a,C,i,o,k,p,q=>by
  obtain⟨n,rfl⟩: ∃j,n=j+1:=⟨n-1,O⟩
  have d:2000000<=n:=O
  rw[nL.eq_def];dsimp only;refine o4 (Hh:=kg (n+1)) (FP O) O i p q (λQ b c l j x w s y z D v e=>?_) λb c l=>by dsimp only;rw[bA O];rfl
  dsimp only;refine bb (λ_=>?_) λh=>a6 y O;obtain⟨A,F,G,H⟩:=o x s;unfold kH jm oR at v e;refine ai (bw w) ?_;rw[bd (n:=c+1) O,bd (n:=c+1+1) O];refine ai (wi d A O O) (ai (fg (nd _ _)) ?_);dsimp only;generalize K:x.index.ao.length=u at v e;rw[bd (n:=c+1+1+(u:Int)+1) O];obtain⟨t,B⟩:=wh d (k:=c+1+1+(u:Int)+1) O O;refine ai B ?_;rw[bd (n:=c+1+1+(u:Int)+1+1) O];obtain⟨L,R,M,N,W,X⟩:=rD d F.2 (k:=c+1+1+(u:Int)+1+1) O O;obtain⟨P,f,S,T,g,E⟩:=Ff m n O G H (k:=L.1) O O;refine ai R (ai (fg W) (ai f (ai (fg g) (ai (fr O _) ?_))));rw[bd O,eF];refine e _ _ O O λU Q j z I=>?_;unfold GV;refine dL (λh=>a6 rfl h) λ_=>?_;rw[bd (n:=c+1) O];refine dL (λh=>a6 rfl h) λ_=>?_;rw[bd (n:=c+1+1) O];refine ai (tT d (K▸A) O O) (bb (λh=>a6 h O) λ_=>dL (λh=>a6 rfl h) λ_=>?_);rw[bd (n:=c+1+1+(u:Int)+1) O];refine ai B (dL (λh=>a6 rfl h) λ_=>?_);rw[bd (n:=c+1+1+(u:Int)+1+1) O];refine ai X (bb (λh=>a6 h O) λ_=>ai E (bb (λh=>a6 h O) λ_=>?_));rw[bd O];exact I
theorem QY(V:2000001+m<=n){a:List Stmt}(w:a.length<=1048576)(y: ∀x∈a,kT 1048576 m x)(z:0<=k)(A:k+5*(ea (mZ m) a:Nat)<=1099511627776):
  ∃r,v' n a k=some r/\k<=r.1/\r.1<=k+5*(ea (mZ m) a:Nat)/\r.2.length=a.length/\oL n r.2 k=some r.1:=by
 have b:2000000<=n:=O
 unfold v';refine o4 (Hh:=oL n) (Su O) b w z A (λQ d i l j x B C D F G p o=>?_) λd i l=>by dsimp only;rw[bA O];rfl
 dsimp only;refine bb (λ_=>?_) λh=>a6 D O;obtain⟨H,q⟩:=y x C;cases m with
 |zero=>exact q.elim
 |succ m=>
  obtain⟨s,K,L,R⟩:=q;unfold mZ kH jm oR at p o;obtain⟨t,v⟩:=wh b G O;refine ai (bw B) (ai v ?_);rw[bd (n:=i+1) O];obtain⟨c,W,Y,c2,X,f⟩:=rD b H.2 (k:=i+1) O O;refine ai W (ai (fg X) ?_);rw[bd (n:=c.1+1) O,bd (n:=c.1+1+1) O];refine ai (wi b s O O) (ai (fg (nd _ _)) ?_);dsimp only;generalize g:x.value.index.ao.length=u at p o;rw[bd (n:=c.1+1+1+(u:Int)+1) O];obtain⟨t2,e⟩:=wh b (k:=c.1+1+1+(u:Int)+1) O O;refine ai e ?_;rw[bd (n:=c.1+1+1+(u:Int)+1+1) O];obtain⟨E,I,cD,b0,M,N⟩:=rD b K.2 (k:=c.1+1+1+(u:Int)+1+1) O O;obtain⟨HQ,P,d1,d2,S,T⟩:=Ff m n O L R (k:=E.1) O O;refine ai I (ai (fg M) (ai P (ai (fg S) (ai (fr O _) ?_))));rw[bd O,eF];refine o _ _ O O λXa Q j F U=>?_;unfold GZ;refine ai v (dL (λh=>a6 rfl h) λ_=>?_);rw[bd (n:=i+1) O];refine ai f (bb (λh=>a6 h O) λ_=>?_);refine dL (λh=>a6 rfl h) λ_=>?_;rw[bd (n:=c.1+1) O];refine dL (λh=>a6 rfl h) λ_=>?_;rw[bd (n:=c.1+1+1) O];refine ai (tT b (g▸s) O O) (bb (λh=>a6 h O) λ_=>dL (λh=>a6 rfl h) λ_=>?_);rw[bd (n:=c.1+1+1+(u:Int)+1) O];refine ai e (dL (λh=>a6 rfl h) λ_=>?_);rw[bd (n:=c.1+1+1+(u:Int)+1+1) O];refine ai N (bb (λh=>a6 h O) λ_=>ai T (bb (λh=>a6 h O) λ_=>?_));rw[bd O];exact U
theorem QZ(i:2000001+m<=n){a:List Part}(o:a.length<=1048576)(c: ∀x∈a,nU 1048576 m x)(p:0<=k)(q:k+5*(ea (oT m) a:Nat)<=1099511627776):
  ∃r,sO n a k=some r/\k<=r.1/\r.1<=k+5*(ea (oT m) a:Nat)/\r.2.length=a.length/\qv n r.2 k=some r.1:=by
 unfold sO;refine o4 (Hh:=qv n) (Sv O) O o p q (λQ b s l j x v d w y z A e=>?_) λb s l=>by dsimp only;rw[bA O];rfl
 dsimp only;refine bb (λ_=>?_) λh=>a6 w O;unfold oT at A e;obtain⟨B,C,R,W,D,F⟩:=Q0 (n:=n) O (c x d).1.1 (c x d).1.2 z O;obtain⟨X,G,f,g,H,K⟩:=QY i (c x d).2.1 (c x d).2.2 (k:=B.1) O O;refine ai (bw v) (ai C (ai (fg D) (ai G (ai (fg H) (ai (fr O _) ?_)))));rw[bd O,eF];refine e _ _ O O λt Q j y L=>?_;unfold GX;refine ai F (bb (λh=>a6 h O) λ_=>ai K (bb (λh=>a6 h O) λ_=>?_));rw[bd O];exact L
theorem Fw(c:2000001+m<=n)(h:gu 1048576 m p)(d:0<=k)(e:k+5*(oS m p:Nat)<=1099511627776): ∃r,ov n p k=some r/\k<=r.1/\r.1<=k+5*(oS m p:Nat)/\r.2.1.length=p.a'.length/\r.2.2.length=p.parts.length/\ot n ⟨r.2.1,r.2.2⟩ k=some r.1:=by
 unfold oS at e;obtain⟨a,i,w,x,l,o⟩:=Sl (n:=n) O h.1.1 h.1.2 d O;obtain⟨b,q,y,z,s,v⟩:=QZ c h.2.1 h.2.2 (k:=a.1) O O;refine⟨(b.1,a.2,b.2),?_,Z,by dsimp only;unfold oS;omega,l,s,?_⟩;rotate_left
 ·unfold ot;exact ah.eq (ai o (bb (λh=>a6 h O) λ_=>ai v (bb (λh=>a6 h O) λ_=>ah.some rfl)))
 unfold ov;rw[i];show Option.bind (sO n p.parts a.1) _=_;rw[q];rfl
def zt(n:Nat)(e:Prog)(S I:Prog->Option (Prog×Bool)):Option Bool:=(
 Option.bind (v8 n e 1048576) λy=>
 bif decide (y<0) then(
  some true
 ) else(
  Option.bind (kt n e) λz=>
  Option.bind (S z) λd=>
  Option.bind (kt n e) λm=>
  Option.bind (I m) λb=>
  aW (fun(A:Bool)=>
   bif A then(
    some false
   ) else(
    Option.bind (kt n e) λB=>
    Option.bind (ku n m B) λo=>
    bif !o then(
     some false
    ) else(
     Option.bind (ov n m 1) λp=>
     aW (fun(q:Bool)=>
      bif q then(
       some false
      ) else(
       Option.bind (ov n b.1 1) λa=>
       Option.bind (eo b.1.a' a.2.1) λ_=>
       Option.bind (eo b.1.parts a.2.2) λ_=>
       Option.bind (ot n (⟨a.2.1,a.2.2⟩:Prog) 1) λh=>
       bif decide (h<0) then(
        some false
       ) else(
        bif !decide (h=a.1) then(
         some false
        ) else(
         Option.bind (kt n e) λr=>
         Option.bind (I r) λi=>
         aW (fun(s:Bool)=>
          bif s then(
           some false
          ) else(
           Option.bind (ot n (⟨a.2.1,a.2.2⟩:Prog) 1) λk=>
           bif decide (k<0) then(
            some false
           ) else(
            bif !decide (k=a.1) then(
             some false
            ) else(
             some true
            )
           )
          )
         ) (λl=>
          Option.bind (ku n i.1 d.1) λv=>
          bif !v then(
           l true
          ) else(
           l (!(i.2==d.2))
          )
         )
        )
       )
      )
     ) (λc=>
      bif decide (p.1<0) then(
       c true
      ) else(
       Option.bind (ku n b.1 d.1) λw=>
       bif !w then(
        c true
       ) else(
        c (!(b.2==d.2))
       )
      )
     )
    )
   )
  ) (λx=>
   Option.bind (ku n b.1 d.1) λC=>
   bif !C then(
    x true
   ) else(
    x (!(b.2==d.2))
   )
  )
 ))
theorem Gc(h:cX a=true):hF 4 a:=by have:=(iG h).1;unfold hF;omega
theorem zC(d:l.length<=2)(b: ∀x∈l,cX x=true):h7 4 l:=⟨O,λa c=>Gc (b a c)⟩
theorem Gd{s:List UInt8}(h:j1 s=true):s.length<=4:=by
 by_cases a:s.length=1
 ·omega
 rw[wH a] at h;cases h
theorem Gb{a:bR}{d:Int}(h:f8 a d=true):kR 4 a:=⟨Gd (by simp only[f8,Bool.and_eq_true] at h;exact h.2.1),zC (j8 h).2.1 (j8 h).2.2⟩
theorem Ga{d:Int}: ∀{L:Nat} {e:Expr},dR L e d=true->gr 4 L e
 |0,_,h=>by cases h
 |L+1,e,h=>by
  obtain⟨l,a,m⟩:=jj h
  have:=l3 e.kind;refine⟨?_,?_,O,λk l=>Ga (m k l)⟩
  ·by_cases b:e.kind=2
   ·exact Gc (nw a b).1
   by_cases c:e.kind=3
   ·rw[qV (nv a c).2];unfold hF;simp
   rw[qV (rB a b c).1];unfold hF;simp
  by_cases c:e.kind=3
  ·exact Gb (nv a c).1
  by_cases b:e.kind=2
  ·rw[qW (nw a b).2];exact⟨aY,aY,λx i=>by cases i⟩
  rw[qW (rB a b c).2];exact⟨aY,aY,λx i=>by cases i⟩
theorem Ta(h:c' p=true):gu 4 5 p:=by
 have k:gz p.a'=true:=by
  simp only[c',iN,Bool.and_eq_true] at h;exact h.1.1
 obtain⟨n,o,q,m,_⟩:=gQ h;refine⟨⟨n,λx c=>⟨?_,?_⟩⟩,q,λx c=>?_⟩
 ·obtain⟨i,r⟩:=im c
  have:=Cm (show H1 (jG p.a') p.a'=true by simp only[gz,Bool.and_eq_true] at k;exact k.1) r;simp only[jG,Bool.and_eq_true] at this;exact Gd this.1
 ·have:=o x c;simp only[hg,Bool.and_eq_true,decide_eq_true_eq] at this;omega
 obtain⟨v,d⟩:=nf (m x c);obtain⟨_,w,y,_⟩:=kF (m x c);exact⟨⟨v,λl e=>⟨zC (d l e).1.1 (d l e).1.2,zC (d l e).2.1 (d l e).2.2⟩⟩,w.2,λs z=>by obtain⟨a,b,_⟩:=jY (y s z);exact⟨Gb a,Ga b⟩⟩
theorem F7(h:B<=C)(k:hF B a):hF C a:=dT k h
theorem zH(h:B<=C)(k:h7 B l):h7 C l:=⟨dT k.1 h,λa b=>F7 h (k.2 a b)⟩
theorem F6(h:B<=C){a:bR}(k:kR B a):kR C a:=⟨dT k.1 h,zH h k.2⟩
theorem FY{B C:Nat}(h:B<=C): ∀{m:Nat} {e:Expr},gr B m e->gr C m e
 |0,_,k=>k.elim
 |m+1,e,⟨a,b,c,d⟩=>⟨F7 h a,F6 h b,dT c h,λk i=>FY h (d k i)⟩
theorem Sy(h:B<=C)(k:gu B m p):gu C m p:=⟨⟨dT k.1.1 h,λx e=>⟨dT (k.1.2 x e).1 h,dT (k.1.2 x e).2 h⟩⟩,dT k.2.1 h,λx e=>by obtain⟨⟨a,b⟩,c,d⟩:=k.2.2 x e;exact⟨⟨dT a h,λl i=>⟨zH h (b l i).1,zH h (b l i).2⟩⟩,dT c h,λs n=>⟨F6 h (d s n).1,FY h (d s n).2⟩⟩⟩
theorem pS{k:Type}{c:k->Nat}: ∀{l:List k},l.length<=4->(∀x∈l,c x<=C)->ea c l<=4+4*C:=by
 intro l d e
 have: ∀l:List k,(∀x∈l,c x<=C)->(l.map c).sum<=l.length*C:=by
  intro l;induction l with
  |nil=>intro _;simp
  |cons x l i=>
   intro h;have a:=h x ev;have b:=i λy m=>h y (dV _ m);simp only[List.map_cons,List.sum_cons,List.length_cons,Nat.add_mul];omega
 have n:=this l e;have o:l.length*C<=4*C:=dn _ d;unfold ea;omega
theorem u0(h:h7 4 l):ea jm l<=20:=pS (C:=4) h.1 h.2
theorem Gg: ∀{m:Nat} {e:Expr},gr 4 m e->kH m e<=100*5^m
 |0,_,h=>h.elim
 |m+1,e,⟨a,b,c,d⟩=>by have l:=u0 b.2;have n:ea (kH m) e.aJ<=4+4*(100*5^m):=pS c λk i=>Gg (d k i);have o:0<5^m:=Nat.pow_pos O;have p:jm e.index<=4:=a;unfold kH oR;rw[Nat.pow_succ];omega
theorem SB(h:gu 4 5 p):oS 5 p<=1000000000:=by
 have n:=pS (c:=oU) (C:=4) h.1.1 λx i=>(h.1.2 x i).2;have o:=pS (c:=oT 5) (C:=4+4*40+(4+4*312520)) h.2.1 (λx i=>by
  obtain⟨⟨a,b⟩,c,d⟩:=h.2.2 x i;have q:=pS (c:=mY) (C:=40) a (λl k=>by
   have:=u0 (b l k).1
   have:=u0 (b l k).2;unfold mY;omega)
  have r:=pS (c:=mZ 5) (C:=312520) c (λs m=>by
   have:=u0 (d s m).1.2
   have:=Gg (d s m).2;have e:100*5^5=312500:=by decide
   unfold mZ oR;omega)
  unfold oT;omega)
 unfold oS;omega
theorem Td{e:Expr}(p:6600000+m<=n)(h:gr 1048576 m e):lq n e=some e:=by
 obtain⟨n,rfl⟩: ∃j,n=j+1:=⟨n-1,O⟩
 have: ∀{m:Nat} {e:Expr},gr 1048576 m e->hY 1100000 m e:=by
  intro m;induction m with
  |zero=>intro e h;exact h.elim
  |succ m i=>
   rintro e ⟨a,b,c,d⟩;exact⟨O,dT a O,⟨dT b.2.1 O,λx l=>dT (b.2.2 x l) O⟩,λk o=>i (d k o)⟩
 exact Ck m n e O (this h)
theorem Tc(r:6600000+m<=n)(h:gu 1048576 m p):qb n p=some p:=by
 obtain⟨⟨C,v⟩,D,w⟩:=h;have k: ∀{l:List aH},h7 1048576 l->oi n l=some l:=λh=>wG O ⟨dT h.1 O,λx o=>dT (h.2 x o) O⟩;have y:p8 n p.a'=some p.a':=by
  unfold p8;refine ah.eq (jO (K:=λe=>some e) (λl i=>?_) O O (ah.some rfl));unfold vL;rw[kx _ (by have:=(v l i).2;omega)];rfl
 have z:p' n p.parts=some p.parts:=by
  unfold p';refine ah.eq (jO (K:=λe=>some e) (λx o=>?_) O O (ah.some rfl));obtain⟨⟨a,b⟩,c,d⟩:=w x o;have A:qa n x.nest=some x.nest:=by
   unfold qa;refine ah.eq (jO (K:=λe=>some e) (λl i=>?_) O O (ah.some rfl));unfold vR;rw[k (b l i).1,k (b l i).2];rfl
  have B:p9 n x.body=some x.body:=by
   unfold p9;refine ah.eq (jO (K:=λe=>some e) (λs q=>?_) O O (ah.some rfl));have g:d9 n s.write=some s.write:=by
    unfold d9;rw[k (d s q).1.2];rfl
   unfold sI;rw[g,Td r (d s q).2];rfl
  unfold sJ;rw[A,B];rfl
 unfold qb;rw[y,z];rfl
theorem Om(c:7700000<=n)(d:iY p)(e:c' p=false)(a b:Int):m7 n p a b=some (⟨[],[]⟩,false):=by unfold m7;refine ah.eq (ah.aW (λz=>z=true) (λj h=>ai (vy c d) ?_) λz i=>by subst i;exact dw (ah.some rfl));rw[e];exact dw (h _ rfl)
theorem Q5(c:7700000<=n)(d:iY p)(e:c' p=false)(a b:Int):o3 n p a b=some false:=by unfold o3;refine ah.eq (ah.aW (λz=>z=false) (λj h=>ai (Bi c d) ?_) λz i=>ah.some i);rw[e];exact cx (h _ rfl)
def ua(r:Prog×Bool):Prop:=r=(⟨[],[]⟩,false)\/ ∃q,r=mA q
theorem ua.H2{r:Prog×Bool}(h:ua r):gu 4 5 r.1:=by
 have b:gu 4 5 ⟨[],[]⟩:=⟨⟨aY,λx a=>by cases a⟩,aY,λx a=>by cases a⟩
 rcases h with rfl|⟨q,rfl⟩
 ·exact b
 unfold mA;split
 ·rename_i c;exact Ta c
 exact b
theorem Dl(H:20000001+m<=n)(w:gu 9223372036854775807 m p){S I:Prog->Option (Prog×Bool)}{G:Prog×Bool}(i:ua G)(x:gu 1048576 m p->S p=some G)(y:gu 1048576 m p->I p=some G):zt n p S I=some true:=by
 have s:=Sy (C:=1048576) O i.H2;have A:=SB i.H2;obtain⟨r,e,i⟩:=Rm (n:=n) O w 1048576 O O;unfold zt;refine ah.eq (ai e ?_);rcases i with rfl|⟨K,L,b⟩
 ·exact bb (λ_=>ah.some rfl) λh=>a6 h (by decide)
 have l:=Rj (n:=n) O b;have hs:=x b;have aG:=y b;obtain⟨q,o,Q,R,_,_,_⟩:=Fw (n:=n) (m:=m) O b (k:=1) O O;obtain⟨u,B,W,X,D,F,v⟩:=Fw (n:=n) (m:=5) O s (k:=1) O O;have a:=ES (n:=n) (m:=5) O s;refine bb (λh=>a6 h O) λ_=>ai l (ai hs (ai l (ai aG ?_)));refine ah.aW (λz=>z=false) (λj c=>ai a (cx (c _ aY))) λz d=>?_;subst d;refine cx (ai l (ai (ES O b) (cx (ai o ?_))));refine ah.aW (λz=>z=false) (λj c=>bb (λh=>a6 h O) λ_=>ai a (cx (c _ aY))) λz d=>?_;subst d;refine cx (ai B (ai (fg D) (ai (fg F) (ai v (bb (λh=>a6 h O) λ_=>dL (λh=>a6 rfl h) λ_=>ai l (ai aG ?_))))));refine ah.aW (λz=>z=false) (λj c=>ai a (cx (c _ aY))) λz d=>?_;subst d;exact cx (ai v (bb (λh=>a6 h O) λ_=>dL (λh=>a6 rfl h) λ_=>ah.some rfl))
theorem Oc(p:Prog)(a b:Int):ua (kl p a b):=by
 unfold kl
 repeat' split
 all_goals first|exact .inl rfl|exact .inr ⟨_,rfl⟩
theorem Ww(e:gu 9223372036854775807 m p)(a b:Int):HI (30000000+m) p a b=some true:=by
 show zt (30000000+m) p (λx=>qh (30000000+m) x a b) (λx=>mJ (30000000+m) x a b)=some true;cases d:c' p with
 |true=>exact Dl O e (Oc p a b) (λc=>O8 O ((F1 d).mono O) a b) (λc=>Qa O ((F1 d).mono O) a b)
 |false=>
  refine Dl O e (.inl rfl) (λc=>?_) λc=>?_
  ·have hs:=F4 c;unfold qh;exact ah.eq (ai (Tc O c) (ah.aW (λz=>z=true) (λj h=>ai (Q5 O hs d _ _) (dw (h _ rfl))) λz i=>by subst i;exact dw (ah.some rfl)))
  have hs:=F4 c;unfold mJ;exact ah.eq (ai (Om O hs d _ _) (cx (ah.some rfl)))
end Go.Lift
