/- Tools. -/
import Derived.Test.YtfegpkfpnpjgeaaGreatBTran1
set_option maxRecDepth 100000
set_option linter.unusedVariables false
namespace Go.Lift
open Go
section
theorem Ac: ∀a,cmpL a a=0
 | []=>rfl
 |x::a=>by unfold cmpL;rw[aZ O,aZ O];exact Ac a
theorem s9: ∀a c,cmpL c a= -cmpL a c
 | [],[]=>by simp[cmpL]
 | [],_::_=>by simp[cmpL]
 |_::_,[]=>by simp[cmpL]
 |x::a,y::c=>by
  unfold cmpL;by_cases d:x<y
  ·simp[d,show¬y<x by omega]
  by_cases e:y<x
  ·simp[d,e]
  rw[aZ d,aZ e,aZ e,aZ d];exact s9 a c
theorem wN: ∀{a c},cmpL a c=0->a=c
 | [],[],_=>rfl
 | [],_::_,h=>by simp[cmpL] at h
 |_::_,[],h=>by simp[cmpL] at h
 |x::a,y::c,h=>by
  unfold cmpL at h;by_cases d:x<y
  ·rw[a1 d] at h;omega
  by_cases e:y<x
  ·rw[aZ d,a1 e] at h;omega
  rw[aZ d,aZ e] at h;rw[wN h,show x=y by omega]
theorem w4: ∀{k l m},cmpL k l<0->cmpL l m<0->cmpL k m<0
 | [],[],_,h,_=>by simp[cmpL] at h
 | [],_::_,[],_,h=>by simp[cmpL] at h
 | [],_::_,_::_,_,_=>by simp[cmpL]
 |_::_,[],_,h,_=>by simp[cmpL] at h
 |_::_,_::_,[],_,h=>by simp[cmpL] at h
 |x::k,y::l,z::m,i,e=>by
  unfold cmpL at i e⊢;by_cases a:x<y
  ·by_cases b:y<z
   ·rw[a1 O];omega
   by_cases c:z<y
   ·rw[aZ b,a1 c] at e;omega
   rw[a1 O];omega
  by_cases b:y<x
  ·rw[aZ a,a1 b] at i;omega
  by_cases c:y<z
  ·rw[a1 O];omega
  by_cases d:z<y
  ·rw[aZ c,a1 d] at e;omega
  rw[aZ O,aZ O];rw[aZ a,aZ b] at i;rw[aZ c,aZ d] at e;exact w4 i e
theorem MM: ∀a c,iD a c=decide (cmpL a c<0)
 | [],[]=>rfl
 | [],_::_=>rfl
 |_::_,[]=>rfl
 |x::a,y::c=>by
  unfold iD cmpL;by_cases h:x=y
  ·subst h;simp only[if_true,Int.lt_irrefl,if_false];exact MM a c
  by_cases d:x<y
  ·simp[h,d]
  have:y<x:=O
  simp[h,d,this]
abbrev h7(l:List (List Int)):Prop:=l.Pairwise λa b=>cmpL a b<0
theorem Pq: ∀{l m:List (List Int)},h7 l->h7 m->(∀x,x∈l↔x∈m)->l=m
 | [],[],_,_,_=>rfl
 | [],y::m,_,_,h=>by have:=(h y).2 aP;simp at this
 |x::l,[],_,_,h=>by have:=(h x).1 aP;simp at this
 |x::l,y::m,s,w,h=>by
  obtain⟨q,A⟩:=rq.1 s;obtain⟨r,B⟩:=rq.1 w;have e:x=y:=by
   rcases dL.1 ((h x).1 aP) with d|d
   ·exact d
   rcases dL.1 ((h y).2 aP) with i|i
   ·exact i.symm
   have a:=r x d;have b:=q y i
   have:=w4 a b;rw[Ac] at this;omega
  subst e;have k:x∉l:=λn=>by have:=q x n;rw[Ac] at this;omega
  have o:x∉m:=λn=>by have:=r x n;rw[Ac] at this;omega
  rw[Pq A B (λz=>⟨λc=>by
   rcases dL.1 ((h z).1 (ew _ c)) with rfl|p
   ·exact bz c k
   ·exact p,λc=>by
   rcases dL.1 ((h z).2 (ew _ c)) with rfl|p
   ·exact bz c o
   exact p⟩)]
def iF:List (List Int)->List Int->List (List Int)
 | [],d=>[d]
 |x::a,d=>if cmpL d x<0 then d::x::a else x::iF a d
theorem FZ{d z:List Int}: ∀{l:List (List Int)},z∈iF l d↔z=d\/z∈l
 | []=>by simp[iF]
 |x::a=>by
  unfold iF;split
  ·simp
  simp only[List.mem_cons,FZ (l:=a)];constructor
  ·rintro(h|h|h)
   ·exact .inr (.inl h)
   ·exact .inl h
   exact .inr (.inr h)
  rintro(h|h|h)
  ·exact .inr (.inl h)
  ·exact .inl h
  exact .inr (.inr h)
theorem NN{d:List Int}: ∀{l:List (List Int)},h7 l->d∉l->h7 (iF l d)
 | [],_,_=>by simp[iF]
 |x::o,c,i=>by
  obtain⟨k,m⟩:=rq.1 c;unfold iF;split
  ·rename_i h;refine rq.2 ⟨λz a=>?_,c⟩;rcases dL.1 a with rfl|a
   ·exact h
   exact w4 h (k z a)
  rename_i h;refine rq.2 ⟨λz a=>?_,NN m λn=>i (ew _ n)⟩;rcases FZ.1 a with rfl|a
  ·have p:=s9 z x;have q:cmpL z x≠0:=λe=>i (by rw[wN e];simp);omega
  exact k z a
def hX(l:List (List Int))(d:List Int):List (List Int):=if d∈l then l else iF l d
theorem abH{l:List (List Int)}(h:h7 l)(d:List Int):h7 (hX l d):=by
 unfold hX;split
 ·exact h
 exact NN h ‹_›
variable {d b:List Int}{R a:Type}{Q:R->Prop}{n i k:Nat}{p:Prog}{x:a}{c:Int}{P:Part}{r:List cI}{l:List a}
theorem Nl{l:List (List Int)}{z:List Int}:z∈hX l d↔z=d\/z∈l:=by
 unfold hX;split
 ·rename_i h;exact⟨.inr,λa=>by rcases a with rfl|a;exact h;exact a⟩
 exact FZ
theorem Gl: ∀(a l:List (List Int)),h7 l->h7 (a.foldl hX l)/\ ∀z,z∈a.foldl hX l↔z∈l\/z∈a
 | [],l,h=>⟨h,λz=>aP⟩
 |d::a,l,h=>by
  obtain⟨c,e⟩:=Gl a (hX l d) (abH h d);refine⟨c,λz=>?_⟩;rw[List.foldl_cons,e z,Nl,dL];constructor
  ·rintro((h|h)|h)
   ·exact .inr (.inl h)
   ·exact .inl h
   exact .inr (.inr h)
  rintro(h|h|h)
  ·exact .inl (.inr h)
  ·exact .inl (.inl h)
  exact .inr h
def gl:List (List Int)->List (List Int)
 | []=>[]
 | [x]=>[x]
 |x::y::r=>if x=y then gl (y::r) else x::gl (y::r)
theorem Eh{z:List Int}: ∀{l:List (List Int)},z∈gl l↔z∈l
 | []=>by simp[gl]
 | [x]=>by simp[gl]
 |x::y::r=>by
  have a:=Eh (z:=z) (l:=y::r);unfold gl;split
  ·rename_i h;subst h;rw[a];simp
  rw[dL,a];simp
theorem Ex: ∀{l:List (List Int)},l.Pairwise (λa b=> ¬cmpL b a<0)->h7 (gl l)
 | [],_=>by simp[gl]
 | [x],_=>by simp[gl]
 |x::y::r,h=>by
  obtain⟨n,i⟩:=rq.1 h;obtain⟨o,_⟩:=rq.1 i;unfold gl;split
  ·exact Ex i
  rename_i k;refine rq.2 ⟨λz m=>?_,Ex i⟩;have d:cmpL x y<0:=by
   have a:=n y aP;have b:=s9 x y;have c:cmpL x y≠0:=λe=>k (wN e);omega
  rcases dL.1 (Eh.1 m) with rfl|m
  ·exact d
  have a:=o z m;have b:=s9 y z;by_cases e:cmpL y z=0
  ·rw[<-wN e];exact d
  exact w4 d O
theorem UK(l:List (List Int)):(fb l).Pairwise (λa b=> ¬cmpL b a<0):=by
 have:=List.pairwise_mergeSort (le:=λx y=> !decide (cmpL y x<0)) (λa b c k d=>by
  simp only[Bool.not_eq_true',decide_eq_false_iff_not] at*;intro h;have i:=s9 a b;have m:=s9 b c;by_cases e:cmpL b a=0
  ·rw[wN e] at d;exact d h
  ·exact d (w4 h O)) (λa b=>by
  have i:=s9 a b;by_cases h:cmpL b a<0
  ·have: ¬cmpL a b<0:=O
   simp[h,this]
  simp[h]) l
 refine this.imp λh=>?_;simpa using h
theorem aaB(a:List (List Int)):gl (fb a)=a.foldl hX []:=by obtain⟨c,d⟩:=Gl a [] List.Pairwise.nil;refine Pq (Ex (UK a)) c λz=>?_;rw[Eh,d z];unfold fb;rw[List.mem_mergeSort];simp
def k'(b a:List Int):List Int:=List.zipWith (λx y=>x-y) b a
theorem M0{a:List Int}(F:a.length=b.length)(G:b.length<=1000)(H:1000<n)(l: ∀x∈a,cF 9999 x)(m: ∀x∈b,cF 9999 x){K:List Int->Option R}(L:aa (K (k' b a)) Q):
  aa (bd (λc ((h,d):(List Int)×Int)=>
   bif decide (d<(b.length:Int)) then(
    Option.bind (ar b d) λo=>
    Option.bind (ar a d) λp=>
    Option.bind (app h [wr (o-p)]) λq=>
    c (q,wr (d+1))
   ) else(
    K h
   )) n ([],0)) Q:=by
 refine aa.loop (λx:List Int×Int=> ∃i:Nat,x.2=i/\i<=b.length/\x.1=(k' b a).take i) (λx=>b.length-x.2.toNat) ?_ n _ ⟨0,rfl,O,aP⟩ Z;rintro r ⟨x,k⟩ ⟨i,w,W,s⟩ y;dsimp only at w s⊢;subst w;have z:(k' b a).length=b.length:=by unfold k';rw[y3];omega
 refine aN (λe=>?_) λA=>?_
 ·have e:i<b.length:=O
  have B:=bo e;have C:=bo (O:i<a.length);have cQ:=m _ (fJ e);have cd:=l _ (fJ (O:i<a.length));unfold cF at cQ cd;refine ab (be B) (ab (be C) (ab (cB (by rw[s,cE];simp;omega)) ?_));rw[bb (n:=b[i]-a[i]) O,bb O];refine y _ ⟨i+1,Z,O,?_⟩ Z;dsimp only;rw[eg,<-s];congr 1;unfold k'
  grind
 have:i=b.length:=O
 grind
theorem Wr{a:List Int}(e:a.length=b.length)(h:b.length<=1000)(i:1000<n)(c: ∀x∈a,cF 9999 x)(d: ∀x∈b,cF 9999 x):zF n b a=some (k' b a):=by unfold zF;exact aa.eq (M0 e h i c d (aa.some rfl))
theorem Y5(E:20000<=n){l:List (List Int)}(I:l.length<=15000)(Q: ∀x∈l,x.length<=1000)(R:d.length<=1000):A6 n l d=some (hX l d):=by
 unfold A6;refine aa.eq (aa.loop (λx:List (List Int)×Bool×Int=> ∃i:Nat,x.2.2=i/\i<=l.length/\d∉l.take i/\(x.2.1=true->x.1.length<=i+1/\iF l d=x.1++l.drop i)/\(x.2.1=false->x.1.length<=i/\iF l d=x.1++iF (l.drop i) d)) (λx=>l.length-x.2.2.toNat) ?_ n _ ⟨0,rfl,O,aP,(λh=>by cases h),λ_=>⟨aP,aP⟩⟩ Z);rintro A ⟨M,e,k⟩ ⟨i,K,N,o,L,B⟩ W;dsimp only at K L B⊢;subst K;refine aN (λc=>?_) λX=>?_
 ·have c:i<l.length:=O
  have b:=bo c;have C:l[i].length<=1000:=Q _ (fJ c);refine ab (be b) (ab (KY O O) (aN (λf=>aa.some ?_) λg=>?_))
  ·unfold hX
   grind
  have a:=kN c;have p:d∉l.take (i+1):=by
   grind
  refine aa.ay (λz:List (List Int)×Bool=>(z.2=true->z.1.length<=i+1/\iF l d=z.1++l.drop i)/\(z.2=false->z.1.length<=i/\iF l d=z.1++l[i]::iF (l.drop (i+1)) d)) (λj m=>?_) λz q=>?_
  ·refine aa.ay (λz:Bool=>z=(!e&&iD d l[i])) (λP r=>aa.cond (λh=>?_) λh=>r _ ?_) λz q=>?_
   ·have h:e=false:=by simpa using h
    exact ab (MS O R C) (r _ (by rw[h];rfl))
   ·have h:e=true:=by simpa using h
    grind
   subst q;cases s:e with
   |true=>exact b3 (m _ ⟨λ_=>L s,λh=>by cases h⟩)
   |false=>
    obtain⟨t,F⟩:=B s;rw[a] at F;rw[MM];by_cases y:cmpL d l[i]<0
    ·rw[bF y];refine b1 (ab (cB bN) (m _ ⟨λ_=>⟨bN,?_⟩,λh=>by cases h⟩));rw[F,a];unfold iF;rw[a1 y];simp
    rw[bD y];refine b3 (m _ ⟨(λh=>by cases h),λ_=>⟨t,?_⟩⟩);rw[F]
    conv=>lhs;rw[iF]
    rw[aZ y]
  obtain⟨u,v⟩:=z;obtain⟨G,H⟩:=q;dsimp only at G H⊢;have D:u.length<=i+1:=by
   cases v with
   |true=>exact(G rfl).1
   |false=>have:=(H rfl).1;omega
  refine ab (cB bN) ?_;rw[bb O];refine W _ ⟨i+1,Z,O,p,λh=>?_,λh=>?_⟩ Z
  ·obtain⟨aI,a2⟩:=G h
   grind
  obtain⟨aI,a2⟩:=H h
  grind
 have:i=l.length:=O
 subst this;rw[dz] at o;have w:hX l d=iF l d:=by unfold hX;rw[aZ o]
 rw[w];refine aa.ay (λz=>z=iF l d) (λj m=>aa.cond (λh=>?_) λh=>m _ ?_) λz q=>aa.some q
 ·have h:e=false:=by simpa using h
  obtain⟨aI,a2⟩:=B h;refine ab (cB bN) (m _ ?_);rw[a2,pZ];rfl
 have h:e=true:=by simpa using h
 grind
theorem Nq(d:List Int): ∀l:List (List Int),(iF l d).length=l.length+1
 | []=>rfl
 |x::a=>by
  unfold iF;split
  ·rfl
  rw[ri,Nq d a];rfl
theorem Nn(l:List (List Int))(d:List Int):(hX l d).length<=l.length+1:=by
 unfold hX;split
 ·omega
 rw[Nq];omega
def ku(A:List cb)(c:Int)(d:fC):Option (List Int):=match A[d.eC.toNat]?,A[d.eF.toNat]? with
 |some a,some b=>if a.part=c/\b.part=c then some (k' b.cK a.cK) else none
 |_,_=>none
def nf(p:Prog)(a:Int):List (List Int):=(fY p (bn p.parts) (bn p.parts).length).filterMap (ku (bn p.parts) a)
theorem qM(l:bT p=true){x:cb}(m:gn p x): ∃P,p.parts[x.part.toNat]? =some P/\0<=x.part/\x.cK.length=P.nest.length/\x.cK.length<=4/\ ∀y∈x.cK,cF 9999 y:=by obtain⟨F,G,H,c,n⟩:=ei l;obtain⟨i,k,P,s,o,K,e,q,h⟩:=m;obtain⟨r,L,Q,w⟩:=gk (c P (bE e));obtain⟨R,z,d,A,B⟩:=sc r;have hs:=bE q;have a:=(w s hs _ h).2;unfold kc at a;simp only[Bool.and_eq_true,decide_eq_true_eq,List.all_eq_true] at a;exact⟨P,by rw[o,m7];exact e,O,(d _ h).1,a.1,λy C=>a.2 y C⟩
theorem aaC{A:List cb}(h: ∀x∈A,x.cK.length<=4){d:fC}{v:List Int}(e:ku A c d=some v):v.length<=4:=by
 unfold ku at e;split at e
 ·rename_i a b i k;split at e
  ·cases e;unfold k'
   grind
  cases e
 cases e
theorem J'{f:a->Option R}(h:l[i]? =some x):(l.take (i+1)).filterMap f=(l.take i).filterMap f++(f x).toList:=by
 rw[eg,h,List.filterMap_append]
 grind
theorem Lv(D:20000<=n)(hp:ja p)(s:bT p=true)(a:Int):yp n p a=some ((nf p a).foldl hX []):=by
 have K:=(ei s).2.2.2.2;unfold yp;refine aa.eq (ab (u3 O s) (ab (Fg O s) ?_));have o: ∀x∈bn p.parts,gn p x:=λx w=>hd w;have ail:=FX (p:=p) K;have aY:=OP (p:=p) (l:=bn p.parts);unfold nf;generalize fY p (bn p.parts) (bn p.parts).length=d at*;generalize bn p.parts=A at*;have E: ∀x∈A,x.cK.length<=4:=λx w=>(qM s (o x w)).choose_spec.2.2.2.1;refine aa.loop (λx:List (List Int)×Int=> ∃i:Nat,x.2=i/\i<=d.length/\x.1=((d.take i).filterMap (ku A a)).foldl hX []/\x.1.length<=i/\ ∀y∈x.1,y.length<=4) (λx=>d.length-x.2.toNat) ?_ n _ ⟨0,rfl,O,aP,aP,aP⟩ Z;rintro L ⟨I,k⟩ ⟨i,u,aE,w,B,e⟩ M;dsimp only at u w B e⊢;subst u;refine aN (λq=>?_) λN=>aa.some ?_
 ·have q:i<d.length:=O
  have v:=bo q;obtain⟨P,d2,d3⟩:=aY _ (fJ q);have S:=xo (l:=A) (c:=d[i].eC) P O;have T:=xo (l:=A) (c:=d[i].eF) O O;have U:=fJ (O:d[i].eC.toNat<A.length);have Q:=fJ (O:d[i].eF.toNat<A.length);have R:A[d[i].eC.toNat]? =some A[d[i].eC.toNat]:=bo _;have W:A[d[i].eF.toNat]? =some A[d[i].eF.toNat]:=bo _;obtain⟨V,C,Y,agA,agB,X⟩:=qM s (o _ U);obtain⟨EE,r,agC,agD,agE,b⟩:=qM s (o _ Q);refine aa.ay (λz=>z.2.2.2.2.2.2=((d.take (i+1)).filterMap (ku A a)).foldl hX []/\z.2.2.2.2.2.2.length<=i+1/\ ∀y∈z.2.2.2.2.2.2,y.length<=4) (λj f=>ab (be v) (ab S (ab T ?_))) λz g=>?_
  ·rw[J' v,List.foldl_append,<-w] at f;refine aa.ay (λz:Bool=>z=decide (A[d[i].eC.toNat].part=a/\A[d[i].eF.toNat].part=a)) (λiN F=>aN (λh=>F _ ?_) λh=>F _ ?_) λz g=>?_
   ·exact decide_eq_decide.2 ⟨λG=>⟨h,G⟩,λG=>G.2⟩
   ·exact(bD λG=>h G.1).symm
   subst g;have m:ku A a d[i]=if A[d[i].eC.toNat].part=a/\A[d[i].eF.toNat].part=a then some (k' A[d[i].eF.toNat].cK A[d[i].eC.toNat].cK) else none:=by
    unfold ku;rw[R,W]
   refine aN (λh=>?_) λh=>f _ ?_
   ·have t:V=EE:=by
     rw[h.1] at C;rw[h.2] at r;rw[C] at r;cases r;rfl
    subst t;refine ab (Wr O O O X b) (ab (Y5 D O (λy H=>by have:=e y H;omega) (by unfold k';rw[y3];omega)) (f _ ?_));rw[m,a1 h];dsimp only[Option.toList,List.foldl];refine⟨rfl,?_,λy H=>?_⟩
    ·have:=Nn I (k' A[d[i].eF.toNat].cK A[d[i].eC.toNat].cK);omega
    rcases Nl.1 H with rfl|H
    ·unfold k';rw[y3];omega
    exact e y H
   rw[m,aZ h]
   grind
  obtain⟨D0,z2,z3⟩:=g;rw[bb O];exact M _ ⟨i+1,Z,O,D0,z2,z3⟩ Z
 have:i=d.length:=O
 grind
theorem KE(x:List Int): ∀(y:List Int) (a:List (List Int)),gl ((y::a)++[x])=if(y::a).getLast aP=x then gl (y::a) else gl (y::a)++[x]
 |y,[]=>by
  by_cases h:y=x
  ·subst h;simp[gl]
  simp[gl,h]
 |y,z::a=>by
  have d:=KE x z a;rw[List.getLast_cons aP];show gl (y::z::(a++[x]))=_;unfold gl;by_cases h:y=z
  ·rw[a1 h,a1 h];exact d
  rw[aZ h,aZ h];have c:gl (z::(a++[x]))=_:=d;rw[c];split<;>simp
theorem Vg{s:List (List Int)}{m:Nat}(n:1<=m)(l:m<s.length):gl (s.take (m+1))=if s[m-1]=s[m] then gl (s.take m) else gl (s.take m)++[s[m]]:=by
 have e:s.take (m+1)=s.take m++[s[m]]:=by rw[eg,bo l];rfl
 have d:s.take m≠[]:=by
  intro h
  have:=congrArg List.length h;rw[cE,tr O,List.length_nil] at this;omega
 have c: ∀h,(s.take m).getLast h=s[m-1]:=λh=>by
  rw[List.getLast_eq_getElem,List.getElem_take];congr 1;rw[cE];omega
 rw[e];obtain⟨y,a,k⟩: ∃y a,s.take m=y::a:=by
  cases h:s.take m with
  |nil=>exact bz h d
  |cons y a=>exact⟨y,a,rfl⟩
 have i:=c d;simp only[k] at i⊢;rw[KE,i]
def k6(d:List Int):Option Nat:=d.findIdx? λx=> !decide (x=0)
def o'(d:List Int):Int:=match k6 d with
 |some i=>(i:Int)
 |none=> -1
theorem Xi(y:d.length<=1000)(A:1000<n):Dl n d=some (o' d):=by
 unfold Dl;refine aa.eq (ab (x:=o' d) ?_ (aa.some rfl));unfold yf;refine aa.eq (aa.loop (λx:Int=> ∃i:Nat,x=i/\i<=d.length/\ ∀j,j<i->d.getD j 0=0) (λx=>d.length-x.toNat) ?_ n _ ⟨0,rfl,O,λj a=>bz a (rj _)⟩ O);rintro h z ⟨i,rfl,B,m⟩ q;have o: ∀j (a:j<d.length),j<i->d[j]=0:=λj a c=>by
  have:=m j c
  rwa [eL,bo a] at this
 refine aN (λe=>?_) λr=>aa.some ?_
 ·have e:i<d.length:=O
  have p:=bo e;refine ab (be p) (ab (x:= !decide (d[i]=0)) rfl (eV (λk=>aa.some ?_) λs=>?_))
  ·have:k6 d=some i:=by
    unfold k6;rw[JD];exact⟨e,by simp[k],λj a=>by simp[o j O a]⟩
   unfold o';rw[this]
  rw[bb O];refine q _ ⟨i+1,O,O,λj a=>?_⟩ O;by_cases c:j=i
  ·subst c;rw[eL,p];exact s
  exact m j O
 have:k6 d=none:=by
  unfold k6;rw[List.findIdx?_eq_none_iff];intro x w;obtain⟨j,a⟩:=kf.1 w;obtain⟨l,rfl⟩:=bU.1 a;simp[o j l O]
 unfold o';rw[this]
theorem ZQ(a:ja p)(c:p.parts[i]? =some P):kV n p (i:Int)=some true:=by have aE:=(bU.1 c).1;rw[qN n a.2.1,bF O]
theorem Xd(a:Nat->Bool)(m:Nat):dS a (m+1)=dS a m++(if a m then [m] else []):=by
 unfold dS;rw[nO,pY]
 grind
theorem On(l:List (List Int)): ∀m,m<=l.length->(dS (kW l) m).map (λj=>l.getD j [])=gl (l.take m)
 |0,_=>rfl
 |m+1,h=>by
  have o:=On l m O;have c:m<l.length:=O
  have d:l.getD m []=l[m]:=by rw[eL,bo c];rfl
  rw[Xd,ho,o];by_cases i:m=0
  ·subst i;have k:kW l 0=true:=by simp[kW]
   rw[k,a1 rfl,List.take_zero];show gl []++[l.getD 0 []]=_;rw[d,eg,bo c];rfl
  rw[Vg O c];have k:l.getD (m-1) []=l[m-1]:=by rw[eL,bo O];rfl
  have p:kW l m= !decide (l[m-1]=l[m]):=by
   unfold kW;rw[d,k];by_cases a:l[m-1]=l[m]
   ·simp[i,a]
   have n:l[m]≠l[m-1]:=λe=>a e.symm;simp[i,a,n]
  rw[p];by_cases a:l[m-1]=l[m]
  ·rw[a1 a,bF a];simp
  rw[aZ a,bD a];show _++[l.getD m []]=_;rw[d]
theorem WZ(l:List (List Int)):gB l=gl l:=by have:=On l l.length (cJ _);rw[dz] at this;exact this
theorem Wa(cy:20000<=n)(s:bT p=true)(a:Int):Cj n (fx p) a=some ((nf p a).foldl hX []):=by
 have G:=(ei s).2.2.2.2;unfold Cj;refine aa.eq (ab (Fq O s) ?_);rw[show(fx p).list=bn p.parts from rfl];have o: ∀x∈bn p.parts,gn p x:=λx m=>hd m;have ail:=FX (p:=p) G;have aY:=OP (p:=p) (l:=bn p.parts);unfold nf;generalize fY p (bn p.parts) (bn p.parts).length=e at*;generalize bn p.parts=A at*;have H: ∀x∈A,x.cK.length<=4:=λx m=>(qM s (o x m)).choose_spec.2.2.2.1;refine aa.loop (λx:List (List Int)×Int=> ∃i:Nat,x.2=i/\i<=e.length/\x.1=(e.take i).filterMap (ku A a)) (λx=>e.length-x.2.toNat) ?_ n _ ⟨0,rfl,O,aP⟩ Z;rintro L ⟨E,k⟩ ⟨i,I,aE,m⟩ P;dsimp only at I m⊢;subst I;have M:E.length<=i:=by
  grind
 refine aN (λq=>?_) λS=>?_
 ·have q:i<e.length:=O
  have N:=bo q;obtain⟨T,d2,d3⟩:=aY _ (fJ q);have U:=xo (l:=A) (c:=e[i].eC) T O;have V:=xo (l:=A) (c:=e[i].eF) O O;have Y:=fJ (O:e[i].eC.toNat<A.length);have Q:=fJ (O:e[i].eF.toNat<A.length);have R:A[e[i].eC.toNat]? =some A[e[i].eC.toNat]:=bo _;have W:A[e[i].eF.toNat]? =some A[e[i].eF.toNat]:=bo _;obtain⟨Sh,w,ah1,agA,agB,X⟩:=qM s (o _ Y);obtain⟨EE,r,agC,agD,agE,b⟩:=qM s (o _ Q);have B:ku A a e[i]=if A[e[i].eC.toNat].part=a/\A[e[i].eF.toNat].part=a then some (k' A[e[i].eF.toNat].cK A[e[i].eC.toNat].cK) else none:=by
   unfold ku;rw[R,W]
  refine aa.ay (λz=>z.1=(e.take (i+1)).filterMap (ku A a)) (λj f=>ab (be N) (ab U (ab V ?_))) λz g=>?_
  ·rw[J' N,<-m] at f;refine aa.ay (λz:Bool=>z= !decide (A[e[i].eC.toNat].part=a/\A[e[i].eF.toNat].part=a)) (λiN C=>eV (λh=>C _ ?_) λh=>C _ ?_) λz g=>?_
   ·rw[bD λh2=>h h2.1];rfl
   ·congr 1
    grind
   subst g;refine eV (λh=>f _ ?_) λh=>?_
   ·rw[B,aZ h];simp
   have t:Sh=EE:=by
    rw[h.1] at w;rw[h.2] at r;rw[w] at r;cases r;rfl
   subst t;refine M0 (K:=λu=>Option.bind (app E [u]) λv=>j (v,e[i].eC,e[i].eF,e[i].kinds,A[e[i].eC.toNat].part,A[e[i].eC.toNat].stmt,A[e[i].eC.toNat].cK,A[e[i].eF.toNat].part,A[e[i].eF.toNat].stmt,A[e[i].eF.toNat].cK)) O O O X b ?_;refine ab (cB bN) (f _ ?_)
   grind
  rw[bb O];exact P _ ⟨i+1,Z,O,g⟩ Z
 have:i=e.length:=O
 subst this;rw[dz] at m;subst m;have F: ∀y∈e.filterMap (ku A a),y.length<=4:=λy D=>by
  obtain⟨d,_,cu⟩:=List.mem_filterMap.1 D;exact aaC H cu
 have ae5:(fb (e.filterMap (ku A a))).length<=15000:=by unfold fb;rw[List.length_mergeSort];omega
 refine ab (x:=fb (e.filterMap (ku A a))) (by unfold mD;rw[a1 ⟨O,λy D=>by have:=F y D;omega⟩]) (aa.some ?_);rw[WZ];exact aaB _
def jC(p:Prog)(i:Nat):List (List Int):=(nf p i).foldl hX []
theorem Xk(d:20000<=n)(a:ja p)(c:bT p=true)(e:p.parts[i]? =some P):C3 n p (i:Int)=some (jC p i):=by unfold C3;refine aa.eq (ab (vy O a) ?_);rw[a1 c];refine b1 (aa.ay (λz=>z=false) (λj h=>b3 (ab (ZQ a e) (h _ rfl))) λz k=>?_);rw[k];exact b3 (ab (Wa d c _) (aa.some rfl))
theorem abV:d∈jC p i↔d∈nf p i:=by
 unfold jC
 have:=(Gl (nf p i) [] .nil).2 d
 grind
theorem MB: ∀(a l:List (List Int)),(a.foldl hX l).length<=l.length+a.length
 | [],l=>aP
 |d::a,l=>by
  rw[List.foldl_cons]
  have:=MB a (hX l d)
  have:=Nn l d;rw[ri];omega
theorem GP(c:bT p=true):(jC p i).length<=15000:=by
 have a:=(ei c).2.2.2.2;have d:=FX (p:=p) a
 have:=MB (nf p i) [];have e:(nf p i).length<=(fY p (bn p.parts) (bn p.parts).length).length:=by unfold nf;exact List.length_filterMap_le _ _
 unfold jC
 grind
theorem tm(r:bT p=true)(s:p.parts[i]? =some P)(cu:d∈jC p i):d.length=P.nest.length/\ ∀x∈d,cF 99999 x:=by
 have cu:=abV.1 cu;unfold nf at cu;obtain⟨e,_,h⟩:=List.mem_filterMap.1 cu;unfold ku at h;split at h
 ·rename_i a b A B;split at h
  ·rename_i w;cases h;have m:gn p a:=hd (bE A);have n:gn p b:=hd (bE B);obtain⟨G,aI,a2,a3,a4,a5⟩:=qM r m;obtain⟨H,y,K,L,Q,C⟩:=qM r n;rw[w.1,m7,s] at aI;rw[w.2,m7,s] at y;cases aI;cases y;unfold k';refine⟨by rw[y3];omega,λx z=>?_⟩;obtain⟨u,v,F,o,rfl⟩: ∃u v,u∈b.cK/\v∈a.cK/\x=u-v:=by
    rw[kf] at z;obtain⟨k,c⟩:=z;rw[List.getElem?_zipWith] at c;cases l:b.cK[k]? with
    |none=>rw[l] at c;cases c
    |some u=>
     cases q:a.cK[k]? with
     |none=>rw[l,q] at c;cases c
     |some v=>
      rw[l,q] at c;cases c;exact⟨u,v,bE l,bE q,rfl⟩
   have R:=C u F;have W:=a5 v o;unfold cF at*;omega
  cases h
 cases h
def ht(d:List Int):Bool:=match k6 d with
 |some k=>decide (0<=d.getD k 0)
 |none=>true
theorem OH(h:k6 d=some k):k<d.length/\d.getD k 0≠0:=by
 unfold k6 at h;rw[JD] at h
 grind
theorem LW(R:20000<=n)(W:ja p)(z:bT p=true)(B:p.parts[i]? =some P){F:List Int->Option (List Int)}{f:List Int->List Int}(G: ∀d∈jC p i,F d=some (f d))(H: ∀d,(f d).length=d.length):
  wT n p (i:Int) F=some ((jC p i).all λd=>ht (f d)):=by
 unfold wT;refine aa.eq (ab (Xk R W z B) ?_);have q:=GP z (i:=i);have s:=λd w=>(tm z B (d:=d) w).1;have X:=(ih ((ei z).2.2.2.1 P (bE B))).1;generalize jC p i=A at G q s;refine aa.loop (λx:List (List Int)×Int=> ∃k:Nat,x.2=k/\k<=A.length/\x.1.length=A.length/\(∀t,k<=t->x.1[t]? =A[t]?)/\ ∀d∈A.take k,ht (f d)=true) (λx=>A.length-x.2.toNat) ?_ n _ ⟨0,rfl,O,rfl,λ_ _=>rfl,λd w=>by simp at w⟩ Z;rintro m ⟨l,E⟩ ⟨k,K,b,y,a,L⟩ g;dsimp only at K y a⊢;subst K;refine aN (λe=>?_) λj=>aa.some ?_
 ·have e:k<A.length:=O
  have u:l[k]? =some A[k]:=by rw[a k (cJ _),bo e]
  have hm:=fJ e;have v:(f A[k]).length<=4:=by rw[H,s _ hm];exact X
  refine ab (be u) (ab (G _ hm) (ab (oO (H _)) (ab (Xi O O) (ab (dD O _) ?_))));have c: ∀(C:ht (f A[k])=false),A.all (λd=>ht (f d))=false:=λC=>lj.2 ⟨_,hm,by simp[C]⟩;have go:ht (f A[k])=true->aa (m (l.set (k:Int).toNat (f A[k]),wr ((k:Int)+1))) (λr=>r=A.all λd=>ht (f d)):=λC=>by
   rw[bb O,m7];refine g _ ⟨k+1,Z,O,by dsimp only;rw[eR];exact y,λt I=>?_,λd w=>?_⟩ Z
   ·dsimp only
    grind
   rw[eg,bo e] at w
   grind
  unfold o' ht at*;cases o:k6 (f A[k]) with
  |none=>
   rw[o] at go c;exact aN (λh=>bz h (by show¬(0:Int)<= -1;omega)) (λ_=>go rfl)
  |some t=>
   rw[o] at go c;obtain⟨D,M⟩:=OH o;refine aN (λ_=>?_) λh=>bz (show(0:Int)<=(t:Int) by omega) h;have Q:=bo D;have N:(f A[k]).getD t 0=(f A[k])[t]:=by rw[eL,Q];rfl
   refine ab (be Q) (aN (λh=>aa.some ?_) λh=>go ?_)
   ·exact(c (bD O)).symm
   exact bF O
 have:k=A.length:=O
 grind
theorem Vs(s:d.length<=1000)(w:1000<n):Dg n d=some (o' d):=by
 unfold Dg;refine aa.eq (aa.loop (λx:Int=> ∃i:Nat,x=i/\i<=d.length/\ ∀j,j<i->d.getD j 0=0) (λx=>d.length-x.toNat) ?_ n _ ⟨0,rfl,O,λj a=>bz a (rj _)⟩ O);rintro e z ⟨i,rfl,y,A⟩ m;have l: ∀j (a:j<d.length),j<i->d[j]=0:=λj a o=>by
  grind
 refine aN (λc=>?_) λp=>aa.some ?_
 ·have c:i<d.length:=O
  have q:=bo c;refine ab (be q) (eV (λh=>aa.some ?_) λB=>?_)
  ·have:k6 d=some i:=by
    unfold k6;rw[JD];exact⟨c,by simp[h],λj a=>by simp[l j O a]⟩
   unfold o';rw[this]
  rw[bb O];refine m _ ⟨i+1,O,O,λj a=>?_⟩ O
  grind
 have:k6 d=none:=by
  unfold k6;rw[List.findIdx?_eq_none_iff];intro x r;obtain⟨j,a⟩:=kf.1 r;obtain⟨k,rfl⟩:=bU.1 a;simp[l j k O]
 unfold o';rw[this]
theorem Me(i:d.length<=1000)(k:1000<n):wA n d=some (ht d):=by
 unfold wA;refine aa.eq (ab (Vs i k) (aa.ay (λz:Bool=>z=ht d) (λj c=>?_) λz l=>aa.some l));unfold o' ht at*;cases a:k6 d with
 |none=>
  rw[a] at c;exact aN (λ_=>c _ rfl) (λh=>bz (show(-1:Int)<0 by omega) h)
 |some t=>
  rw[a] at c;obtain⟨m,o⟩:=OH a;have e:=bo m;have p:d.getD t 0=d[t]:=by rw[eL,e];rfl
  refine aN (λh=>bz h (show¬(t:Int)<0 by omega)) λ_=>ab (be e) (c _ ?_);exact decide_eq_decide.2 ⟨λh=>O,λh=>O⟩
def mQ(k:Nat)(a:aw):aw:=⟨(a.aQ.set k (a.aQ.getD (k+1) 0)).set (k+1) (a.aQ.getD k 0),a.const⟩
def pM(k:Nat)(d:List Int):List Int:=(d.set k (d.getD (k+1) 0)).set (k+1) (d.getD k 0)
theorem NW(k:Nat)(d:List Int):(pM k d).length=d.length:=by simp[pM]
theorem ON: ∀x,cO x=true->dq 4 (mQ k x):=λx a=>by have:=(fF a).1;unfold dq mQ;simp;omega
theorem hc(h:k<l.length)(z:a):l[k]? =some (l.getD k z):=by rw[eL,bo h];rfl
theorem NU(c:k+1<l.length)(m:l.length<=1000000)(z:a){K:List a->Option R}(e:aa (K ((l.set k (l.getD (k+1) z)).set (k+1) (l.getD k z))) Q):
  aa (Option.bind (ar l (wr ((k:Int)+1))) λh=>Option.bind (ar l (k:Int)) λi=>Option.bind (b6 l (k:Int) h) λd=>Option.bind (ar d (wr ((k:Int)+1))) λo=>Option.bind (b6 d (wr ((k:Int)+1)) i) K) Q:=by rw[bb (n:=(k:Int)+1) O,show(k:Int)+1=((k+1:Nat):Int) by omega];refine ab (be (hc c z)) (ab (be (hc O z)) (ab (dD O _) ?_));rw[m7];refine ab (be (hc (l:=l.set k (l.getD (k+1) z)) (k:=k+1) (by simpa using c) z)) (ab (dD (by rw[eR];omega) _) ?_);rw[m7];exact e
theorem ZT(a:k+1<d.length)(c:d.length<=1000):uY n d (k:Int)=some (pM k d):=by unfold uY;exact aa.eq (NU a O 0 (aa.some rfl))
theorem ZS(n:Nat)(c:k+1<4): ∀x,cO x=true->uX n x (k:Int)=some (mQ k x):=λx a=>by have d:=(fF a).1;unfold uX;refine aa.eq (ab (zS n x a) (NU O O 0 (aa.some rfl)))
theorem aba(n:Nat)(d:k+1<4): ∀x,cO x=true->jF n x 0 (k:Int) ⟨[],0⟩=some (mQ k x):=λx a=>by have e:=(fF a).1;unfold jF;refine aa.eq (aN (λ_=>ab (x:=mQ k x) ?_ (aa.some rfl)) λh=>bz rfl h);unfold FR;have c:qu n x=some x:=zt n O;rw[bb (n:=(k:Int)+1) O,show(k:Int)+1=((k+1:Nat):Int) by omega];refine aa.eq (ab c (ab (be (hc O 0)) (ab (be (hc O 0)) (ab (dD O _) (ab (be (hc O 0)) ?_)))));rw[m7];refine ab (be (hc (l:=x.aQ.set k (x.aQ.getD (k+1) 0)) (k:=k+1) bN 0)) (ab (dD (by rw[eR];omega) _) ?_);rw[m7];exact aa.some rfl
def nb(k:Nat)(a:aw):Bool:= !decide (a.aQ.getD k 0=0)
def uf(l:Loop)(k:Nat):Bool:=l.lo.any (nb k)||l.aE.any (nb k)
theorem V7(p:5000<=n){l:Loop}(e:kn l)(q:k<4):DU n l (k:Int)=some (uf l k):=by
 obtain⟨⟨r,i⟩,s,m⟩:=e;have c: ∀x,cO x=true->qz n x (k:Int)=some (nb k x):=λx a=>by
  have:=(fF a).1;unfold qz;exact aa.eq (ab (be (hc O 0)) (aa.some rfl))
 unfold DU uf;refine aa.eq (aa.ay (λz=>z=(l.lo.any (nb k)||l.aE.any (nb k))) (λj d=>?_) λz o=>aa.some o);refine ab (yh (λx a=>c x (i x a)) O O) (aa.cond (λh=>d _ (by rw[h];rfl)) λh=>ab (yh (λx a=>c x (m x a)) O O) (d _ (by rw[h];rfl)))
theorem Nj{f:a->Bool}(h:l[i]? =some x):(l.take (i+1)).any f=((l.take i).any f||f x):=by rw[eg,h,ts];simp
theorem Vp(y:5000<=n){l:Loop}(q:kn l)(A:k<4):AN n l (k:Int)=some (uf l k):=by
 obtain⟨⟨B,r⟩,C,s⟩:=q;unfold AN uf;refine aa.eq (aa.loop (λx:Int=> ∃i:Nat,x=i/\i<=l.lo.length/\(l.lo.take i).any (nb k)=false) (λx=>l.lo.length-x.toNat) ?_ n _ ⟨0,rfl,O,rfl⟩ O);rintro c z ⟨i,rfl,w,d⟩ m;refine aN (λa=>?_) λo=>?_
 ·have a:i<l.lo.length:=O
  have h:=bo a
  have:=(fF (r _ (fJ a))).1;refine ab (be h) (ab (be (hc O 0)) (eV (λe=>aa.some ?_) λp=>?_))
  ·rw[iU.2 ⟨_,fJ a,by unfold nb;simpa using e⟩];rfl
  rw[bb O];exact m _ ⟨i+1,O,O,by rw[Nj h,d];unfold nb;simpa using p⟩ O
 have:i=l.lo.length:=O
 subst this;rw[dz] at d;rw[d,Bool.false_or];clear m;refine aa.loop (λx:Int=> ∃i:Nat,x=i/\i<=l.aE.length/\(l.aE.take i).any (nb k)=false) (λx=>l.aE.length-x.toNat) ?_ n _ ⟨0,rfl,O,rfl⟩ O;rintro c z ⟨i,rfl,w,d⟩ m;refine aN (λa=>?_) λo=>aa.some ?_
 ·have a:i<l.aE.length:=O
  have h:=bo a
  have:=(fF (s _ (fJ a))).1;refine ab (be h) (ab (be (hc O 0)) (eV (λe=>aa.some ?_) λp=>?_))
  ·rw[iU.2 ⟨_,fJ a,by unfold nb;simpa using e⟩]
  rw[bb O];exact m _ ⟨i+1,O,O,by rw[Nj h,d];unfold nb;simpa using p⟩ O
 have:i=l.aE.length:=O
 subst this;rw[dz] at d;exact d.symm
def jR(k:Nat)(l:List Loop):List Loop:=(l.set k (l.getD (k+1) ⟨[],[]⟩)).set (k+1) (l.getD k ⟨[],[]⟩)
theorem wW(k:Nat)(l:List Loop):(jR k l).length=l.length:=by simp[jR]
def vF(k:Nat)(P:Part):Part:=⟨(jR k P.nest).take (k+2)++((jR k P.nest).drop (k+2)).map (eb (mQ k)),P.body.map (iC (mQ k))⟩
def qj(p:Prog)(i k:Nat)(P:Part):Bool:= !uf (P.nest.getD (k+1) ⟨[],[]⟩) k&&(jC p i).all λd=>ht (pM k d)
def nS(p:Prog)(a c:Int):Prog×Bool:=
 if cS p a c=true/\cS p a (c+1)=true then
  match ar p.parts a with
  |some P=>if qj p a.toNat c.toNat P=true then hM ⟨p.aR,p.parts.set a.toNat (vF c.toNat P)⟩ else ef
  |none=>ef
 else ef
theorem Gc{l:List Loop}(c:k+1<l.length){y:Loop}(a:y∈jR k l):y∈l:=by
 unfold jR at a
 grind
theorem Pp(c:ej r P=true)(e:k+1<P.nest.length):fB 4 (vF k P):=by
 obtain⟨n,h⟩:=ih c;obtain⟨_,i,l,_⟩:=gk c;refine⟨⟨by simp only[vF,List.length_append,List.length_map,List.length_take,List.length_drop,wW];omega,λy a=>?_⟩,by simp only[vF,List.length_map];exact i.2,λs m=>?_⟩
 ·rcases eh.1 a with a|a
  ·exact(tU c).1.2 y (Gc e (gb a))
  obtain⟨z,d,rfl⟩:=ey.1 a;exact wY ON (h z (Gc e (e6 d)))
 obtain⟨z,d,rfl⟩:=ey.1 m;exact Bv ON (l z d)
theorem Og(a:p.parts[i]? =some P)(h:cS p (i:Int) ((k:Int)+1)=true):k+1<P.nest.length:=by
 obtain⟨_,c,d,e,l,m,n,o,_,_,q,_⟩:=m9 h
 grind
theorem Oc(a:cS p (i:Int) (k:Int)=true)(c:cS p (i:Int) ((k:Int)+1)=true)(d:p.parts[i]? =some P):nS p i k=if qj p i k P=true then hM ⟨p.aR,p.parts.set i (vF k P)⟩ else ef:=by
 unfold nS;rw[a1 ⟨a,c⟩,be d]
 grind
theorem afz(L:20000<=n)(x:db 1000 p)(a c:Int):CW n p a c=some (nS p a c):=by
 unfold CW;by_cases e:c= -1
 ·subst e;unfold nS;rw[aZ λh=>by rw[q1 O] at h;cases h.1];exact aa.eq (cr (Ae O x a) λt Q=>aa.cond (λ_=>aN (λ_=>aa.some rfl) λh=>bz (show(-1:Int)<0 by omega) h) λ_=>aa.some rfl)
 refine aa.eq (ab (wO O x a c e) ?_);by_cases m:cS p a c=true
 ·rw[a1 m];refine b1 (aN (λh=>by rw[q1 h] at m;cases m) λu=>?_);obtain⟨z,i,k,P,l,rfl,rfl,o,v,D,R,q,E⟩:=m9 m;obtain⟨Q,H⟩:=ih q;obtain⟨_,W,X,_⟩:=gk q;refine ab (be o) ?_;rw[bb (n:=(k:Int)+1) O,bb (n:=(k:Int)+2) O];refine aN (λb=>aa.some ?_) λg=>?_
  ·unfold nS;rw[aZ λh=>by have:=Og o h.2;omega];rfl
  have r:k+1<P.nest.length:=O
  have A:cS p (i:Int) ((k:Int)+1)=true:=by
   unfold cS;rw[z,be o]
   grind
  rw[Oc m A o];have K:=hc r (⟨[],[]⟩:Loop);rw[show(k:Int)+1=((k+1:Nat):Int) by omega];refine ab (be K) (ab (V7 O (H _ (bE K)) O) (aa.cond (λB=>aa.some ?_) λB=>?_))
  ·rw[aZ (by unfold qj;rw[B];simp)];rfl
  refine ab (LW L x.sm z o (F:=λC=>uY n C (k:Int)) (f:=pM k) (λd w=>ZT (by have:=(tm z o w).1;omega) (by have:=(tm z o w).1;omega)) (NW k)) (aa.cond (λw=>?_) λw=>aa.some ?_)
  ·rw[a1 (by unfold qj;rw[B,w];rfl)];refine ab (be (hc O (⟨[],[]⟩:Loop))) (ab (dD O _) (ab (dD (by rw[eR];omega) _) (ab (dD Z _) ?_)));rw[m7,m7,m7];have G:=yq (n:=n) O (nest:=jR k P.nest) (body:=P.body) (s:=k+2) (by rw[wW];omega) (by rw[wW];omega) (λy j=>H y (Gc r (e6 j))) W.2 X (F:=λC=>uX n C (k:Int)) (ZS n O);rw[show(k:Int)+2=((k+2:Nat):Int) by omega];refine ab G (ab (dD bN _) ?_);rw[m7,List.set_set];exact ab (qQ O (xm x i (Pp q r))) (aa.some rfl)
  rw[aZ (by unfold qj;rw[w];simp)];rfl
 unfold nS;rw[aZ m,aZ λh=>m h.1];exact b3 (aa.some rfl)
theorem NV{a b:List Loop}(c:k+1<a.length):jR k (a++b)=jR k a++b:=by
 have d:(a++b).getD (k+1) ⟨[],[]⟩=a.getD (k+1) ⟨[],[]⟩:=by rw[eL,eL,jS c]
 have e:(a++b).getD k ⟨[],[]⟩=a.getD k ⟨[],[]⟩:=by rw[eL,eL,jS O]
 unfold jR
 grind
theorem Zt{l:List Loop}(c:k+1<l.length):jR k (l.take (k+2))=(jR k l).take (k+2):=by have h:=NV (k:=k) (a:=l.take (k+2)) (b:=l.drop (k+2)) (by rw[cE];omega);rw[rp] at h;rw[h,pT (by rw[wW,cE];omega)];exact(hS (by rw[wW,cE];omega)).symm
theorem Zu{l:List Loop}:(jR k l).drop (k+2)=l.drop (k+2):=by unfold jR;rw[pX O,pX O]
theorem ab9(a:k+1<P.nest.length)(r:List Loop):jR k (P.nest.take (k+2)++r)=(jR k P.nest).take (k+2)++r:=by rw[NV (by rw[cE];omega),Zt a]
theorem agY(T:20000<=n)(r:db 1000 p)(a c:Int):C1 n p a c=some (nS p a c):=by
 unfold C1;by_cases G:cS p a c=true;rotate_left
 ·unfold nS;rw[aZ λh=>G h.1];refine aa.eq (ab (k8 O r) (aa.ay (λz=>z=true) (λj K=>ab (mM O r a c) (aa.cond (λ_=>K _ rfl) λh=>bz (by simpa using h) G)) λz L=>by rw[L];exact b1 (aa.some rfl)))
 obtain⟨g,i,k,P,l,rfl,rfl,Q,b8,U,V,B,hk⟩:=m9 G;obtain⟨Y,M⟩:=ih B;obtain⟨_,h4,h5,_⟩:=gk B;rw[bb (n:=(k:Int)+1) O];by_cases o:cS p (i:Int) ((k:Int)+1)=true;rotate_left
 ·unfold nS;rw[aZ λh=>o h.2];refine aa.eq (ab (k8 O r) (aa.ay (λz=>z=true) (λj K=>ab (mM O r _ _) (aa.cond (λh=>by rw[G] at h;cases h) λ_=>ab (mM O r _ _) (aa.cond (λ_=>K _ rfl) λh=>bz (by simpa using h) o))) λz L=>by rw[L];exact b1 (aa.some rfl)))
 rw[Oc G o Q];have C:=Og Q o;have N:=hc C (⟨[],[]⟩:Loop);refine aa.eq (ab (k8 O r) (aa.ay (λz=>z=uf (P.nest.getD (k+1) ⟨[],[]⟩) k) (λj K=>?_) λz L=>?_))
 ·refine ab (mM O r _ _) (aa.cond (λh=>by rw[G] at h;cases h) λ_=>ab (mM O r _ _) (aa.cond (λh=>by rw[o] at h;cases h) λ_=>ab (be Q) ?_));rw[show(k:Int)+1=((k+1:Nat):Int) by omega];exact ab (be N) (ab (Vp O (M _ (bE N)) O) (K _ rfl))
 subst L;refine aa.cond (λt=>aa.some ?_) λt=>?_
 ·rw[aZ (by unfold qj;rw[t];simp)];rfl
 refine ab (x:=jC p i) (Lv T r.sm g _) ?_;have R:=GP g (i:=i);have W:=λd H=>(tm g Q (d:=d) H).1;have u:qj p i k P=(jC p i).all (λd=>ht (pM k d)):=by unfold qj;rw[t];rfl
 rw[u];generalize jC p i=e at R W;refine aa.loop (λx:Int=> ∃m:Nat,x=m/\m<=e.length/\ ∀d∈e.take m,ht (pM k d)=true) (λx=>e.length-x.toNat) ?_ n _ ⟨0,rfl,O,λd H=>by simp at H⟩ O;rintro D z ⟨m,rfl,hm,q⟩ bR;refine aN (λF=>?_) λji=>?_
 ·have F:m<e.length:=O
  have S:=bo F;have w:=fJ F;have nw:=W _ w;rw[show(k:Int)+1=((k+1:Nat):Int) by omega];refine ab (be S) (ab (cB bN) (ab (be (hc O 0)) (ab (x:=e[m].getD k 0) (be (hc (l:=e[m]) O 0)) (ab (dD (by rw[rk];omega) _) (ab (be (hc O 0)) ?_)))));rw[rk,m7];refine ab (be (hc (l:=e[m].set k (e[m].getD (k+1) 0)) (k:=k+1) bN 0)) (ab (dD (by rw[eR];omega) _) ?_);rw[m7];refine ab (x:=ht (pM k e[m])) (Me (d:=pM k e[m]) (by rw[NW];omega) O) (aa.cond (λh=>aa.some ?_) λh=>?_)
  ·rw[aZ λX=>?_]
   ·rfl
   have:=fZ.1 X _ w;rw[this] at h;cases h
  rw[bb O];refine bR _ ⟨m+1,O,O,λd H=>?_⟩ O;rw[eg,S] at H;rcases eh.1 H with E|E
  ·exact q d E
  have:d=e[m]:=by simpa using E
  subst this;simpa using h
 have:m=e.length:=O
 subst this;rw[dz] at q;rw[a1 (fZ.2 q)];have I:=zl (n:=n) O (x:=P) (s:=k+1) O Y M h4.2 h5 (way:=0) (v:=(k:Int)) (b:=⟨[],0⟩) (f:=mQ k) λn _ x hx=>aba n O x hx;rw[show(k:Int)+1=((k+1:Nat):Int) by omega];refine ab (be Q) (ab I ?_);have lM:(P.nest.take (k+2)++(P.nest.drop (k+2)).map (eb (mQ k))).length=P.nest.length:=by rw[cV,dn,cE,fz];omega
 have y:=ab9 C ((P.nest.drop (k+2)).map (eb (mQ k)));rw[show k+1+1=k+2 by omega];dsimp only;generalize P.nest.take (k+2)++(P.nest.drop (k+2)).map (eb (mQ k))=A at lM y;refine ab (be (hc O (⟨[],[]⟩:Loop))) (ab (be (hc O (⟨[],[]⟩:Loop))) (ab (dD O _) ?_));rw[m7];refine ab (be (hc (l:=A.set k (A.getD (k+1) ⟨[],[]⟩)) (k:=k+1) (by rw[eR];omega) (⟨[],[]⟩:Loop))) (ab (dD (by rw[eR];omega) _) ?_);rw[m7];have nv:(⟨(A.set k (A.getD (k+1) ⟨[],[]⟩)).set (k+1) (A.getD k ⟨[],[]⟩),P.body.map (iC (mQ k))⟩:Part)=vF k P:=by
  have:(A.set k (A.getD (k+1) ⟨[],[]⟩)).set (k+1) (A.getD k ⟨[],[]⟩)=jR k A:=rfl;rw[this,y,<-Zu];rfl
 rw[nv];exact ab (wV O r U ((Pp B C).mono O)) (aa.some rfl)
def nd(k:Nat)(c:Int):aw:=⟨[0,0,0,0].set k (-1),c⟩
def qg(k:Nat)(c:Int)(x:aw):aw:=uv x k (nd k c)
def lx(k:Nat)(d:List Int):List Int:=d.set k (0-d.getD k 0)
def nc(l:Loop):Int:=c' l.lo+c' l.aE-1
def xx(k:Nat)(c:Int)(P:Part):Part:=⟨P.nest.take (k+1)++(P.nest.drop (k+1)).map (eb (qg k c)),P.body.map (iC (qg k c))⟩
def rT(p:Prog)(i k:Nat)(l:Loop):Bool:=eJ l&&(jC p i).all λd=>ht (lx k d)
def pG(p:Prog)(a c:Int):Prog×Bool:=
 if cS p a c=true then
  match ar p.parts a with
  |some P=>match ar P.nest c with
   |some l=>if rT p a.toNat c.toNat l=true then hM ⟨p.aR,p.parts.set a.toNat (xx c.toNat (nc l) P)⟩ else ef
   |none=>ef
  |none=>ef
 else ef
theorem MW(k:Nat)(d:List Int):(lx k d).length=d.length:=by simp[lx]
theorem N3{l:Loop}(h:cS p (i:Int) (k:Int)=true)(a:p.parts[i]? =some P)(c:P.nest[k]? =some l):pG p i k=if rT p i k l=true then hM ⟨p.aR,p.parts.set i (xx k (nc l) P)⟩ else ef:=by
 unfold pG;rw[a1 h,be a];dsimp only;rw[be c]
 grind
theorem N4(d:k<4)(a:cF 999 c):e8 1000 (nd k c):=by unfold cF at a;rcases(O:k=0\/k=1\/k=2\/k=3) with rfl|rfl|rfl|rfl<;>(unfold e8 cF nd;simp;omega)
theorem N5(k:Nat)(c:Int): ∀x,cO x=true->dq 4 (qg k c x):=λx a=>by have:=O3 ⟨x.aQ.set k 0,x.const⟩ (nd k c) (x.aQ.getD k 0) (by dsimp only;rw[eR];exact(fF a).1) (by simp[nd]);unfold dq qg uv;omega
theorem tS{l:List aw}(h: ∀x∈l,cO x=true):cF 99 (c' l):=by
 unfold c';cases l with
 |nil=>unfold cF;simp
 |cons x t=>exact(fF (h x eM)).2.1
theorem GL{l:Loop}(h:kn l):cF 999 (nc l):=by have a:=tS h.1.2;have c:=tS h.2.2;unfold cF at*;unfold nc;omega
theorem YB(n:Nat)(a:k<d.length)(c: ∀x∈d,cF 99999 x):uW n d (k:Int)=some (lx k d):=by have e:=hc a (0:Int);have aY:=c _ (bE e);unfold cF at aY;unfold uW;refine aa.eq (ab (be e) ?_);rw[bb O];refine ab (dD O _) (aa.some ?_);rw[m7];rfl
theorem aak(n:Nat)(a:k<4):nu n (k:Int) (-1)=some ⟨[0,0,0,0].set k (-1),0⟩:=by rcases(O:k=0\/k=1\/k=2\/k=3) with rfl|rfl|rfl|rfl<;>rfl
theorem YA(d:5000<=n)(a:k<4)(e:cF 999 c): ∀x,cO x=true->uV n x (k:Int) (nd k c)=some (qg k c x):=λx h=>by unfold uV;rw[EP d ((nJ h).mono O) (N4 a e) a];rfl
theorem Y0(a:k<4)(d:cF 999 c): ∀n,5000<=n-> ∀x,cO x=true->jF n x 1 (k:Int) (nd k c)=some (qg k c x):=λn e x h=>by unfold jF;rw[Ls e ((nJ h).mono O) (N4 a d) a];rfl
theorem aca(a:5000<=n)(d:k<4)(e:cF 999 c):ic n ⟨[0,0,0,0],c⟩ 1 (gS k) (-1)=some (nd k c):=by unfold cF at e;rw[th a (by unfold e8 cF;simp;omega) ((tD d).mono O) ⟨O,O⟩ ⟨O,O⟩];rcases(O:k=0\/k=1\/k=2\/k=3) with rfl|rfl|rfl|rfl<;>simp[od,gS,nd]
theorem OK(d:ej r P=true)(n:k<P.nest.length)(c:Int):fB 4 (xx k c P):=by
 obtain⟨o,h⟩:=ih d;obtain⟨_,i,l,_⟩:=gk d;refine⟨⟨by simp only[xx,List.length_append,List.length_map,List.length_take,List.length_drop];omega,λy a=>?_⟩,by simp only[xx,List.length_map];exact i.2,λs m=>?_⟩
 ·rcases eh.1 a with a|a
  ·exact(tU d).1.2 y (gb a)
  obtain⟨z,e,rfl⟩:=ey.1 a;exact wY (N5 k c) (h z (e6 e))
 obtain⟨z,e,rfl⟩:=ey.1 m;exact Bv (N5 k c) (l z e)
theorem aft(g:20000<=n)(z:db 1000 p)(a c:Int):CV n p a c=some (pG p a c):=by
 unfold CV;by_cases m:c= -1
 ·subst m;unfold pG;rw[aZ λh=>by rw[q1 O] at h;cases h];exact aa.eq (cr (Ae O z a) λD W=>aa.cond (λ_=>aN (λ_=>aa.some rfl) λh=>bz (show(-1:Int)<0 by omega) h) λ_=>aa.some rfl)
 refine aa.eq (ab (wO O z a c m) ?_);by_cases o:cS p a c=true
 ·rw[a1 o];refine b1 (aN (λh=>by rw[q1 h] at o;cases o) λE=>?_);obtain⟨A,i,k,P,l,rfl,rfl,w,B,I,C,q,X⟩:=m9 o;obtain⟨W,b⟩:=ih q;obtain⟨_,j,t,_⟩:=gk q;have e:=b l (bE B);rw[N3 o w B];refine ab (be w) (ab (be B) (ab (F5 O e) ?_));cases G:eJ l with
  |false=>exact b3 (aa.some (by rw[aZ (by unfold rT;rw[G];simp)];rfl))
  |true=>
   refine b1 (ab (LW g z.sm A w (F:=λH=>uW n H (k:Int)) (f:=lx k) (λd r=>YB n (by have:=(tm A w r).1;omega) (tm A w r).2) (MW k)) (aa.cond (λr=>?_) λr=>aa.some ?_))
   ·rw[show rT p i k l=true by unfold rT;rw[G,r];rfl];refine ab (aak n X) ?_;have bG:=GL e;have K:=tS e.1.2;have L:=tS e.2.2;unfold cF at K L;have Q:(⟨([0,0,0,0]:List Int).set k (-1),wr ((wr (c' l.lo+c' l.aE))-1)⟩:aw)=nd k (nc l):=by
     rw[bb (n:=c' l.lo+c' l.aE) O,bb O];rfl
    rw[bb (n:=(k:Int)+1) O];have R:=yq (n:=n) O (nest:=P.nest) (body:=P.body) (s:=k+1) O W (λy u=>b y (e6 u)) j.2 t (F:=λH=>uV n H (k:Int) (⟨([0,0,0,0]:List Int).set k (-1),wr ((wr (c' l.lo+c' l.aE))-1)⟩:aw)) (f:=qg k (nc l)) λx v=>by rw[Q];exact YA O X bG x v
    rw[show(k:Int)+1=((k+1:Nat):Int) by omega];refine ab R (ab (dD Z _) ?_);rw[m7];exact ab (qQ O (xm z i (OK q C (nc l)))) (aa.some rfl)
   rw[aZ (by unfold rT;rw[G,r];simp)];rfl
 unfold pG;rw[aZ o,aZ o];exact b3 (aa.some rfl)
theorem agS(N:20000<=n)(C:db 1000 p)(c e:Int):CZ n p c e=some (pG p c e):=by
 unfold CZ;refine aa.eq (ab (k8 O C) (ab (mM O C c e) ?_));by_cases aY:cS p c e=true;rotate_left
 ·unfold pG;rw[aZ aY,show cS p c e=false by simpa using aY];exact b1 (aa.some rfl)
 rw[aY];refine b3 ?_;obtain⟨G,i,k,P,l,rfl,rfl,H,K,S,L,o,Q⟩:=m9 aY;obtain⟨T,E⟩:=ih o;obtain⟨_,U,V,_⟩:=gk o;have h:=E l (bE K);rw[N3 aY H K];refine ab (be H) (ab (be K) (ab (Fx O h) (ab (x:=jC p i) (Lv N C.sm G _) ?_)));have r:=GP G (i:=i);have w:=λd Y=>tm G H (d:=d) Y;have R:rT p i k l=(eJ l&&(jC p i).all λd=>ht (lx k d)):=rfl;rw[R];have h3:(if eJ l=true then(c' l.lo,c' l.aE,true) else((0:Int),(0:Int),false)).2.2=eJ l:=by cases eJ l<;>rfl
 generalize jC p i=A at r w;refine aa.loop (λx:Bool×Int=> ∃m:Nat,x.2=m/\m<=A.length/\x.1=(eJ l&&(A.take m).all λd=>ht (lx k d))) (λx=>A.length-x.2.toNat) ?_ n _ ⟨0,rfl,O,by dsimp only;rw[h3,List.take_zero];simp⟩ Z;rintro W ⟨ok,z⟩ ⟨m,F,hm,a⟩ bR;dsimp only at F a⊢;subst F;refine aN (λq=>?_) λji=>?_
 ·have q:m<A.length:=O
  have I:=bo q;obtain⟨g1,g2⟩:=w _ (fJ q);have M:=hc (l:=A[m]) (k:=k) O 0;have aY:=g2 _ (bE M);unfold cF at aY;refine aa.ay (λz=>z.2=(eJ l&&(A.take (m+1)).all λd=>ht (lx k d))) (λj X=>?_) λz F=>?_
  ·refine ab (be I) (ab (cB bN) ?_);rw[rk];refine ab (be M) ?_;rw[bb O];refine ab (dD O _) ?_;rw[m7];have y:(A.take (m+1)).all (λd=>ht (lx k d))=((A.take m).all (λd=>ht (lx k d))&&ht (lx k A[m])):=by
    rw[eg,I,List.all_append];simp
   rw[y,<-l3,<-a] at X;cases ok with
   |true=>exact b1 (ab (x:=ht (lx k A[m])) (Me (d:=lx k A[m]) (by rw[MW];omega) O) (X _ (by rw[fK])))
   |false=>exact b3 (X _ (by rw[Bool.false_and]))
  rw[bb O];exact bR _ ⟨m+1,Z,O,F⟩ Z
 have:m=A.length:=O
 subst this;rw[dz] at a;rw[<-a];cases B:ok with
 |false=>exact b1 (aa.some (by rw[aZ aP];rfl))
 |true=>
  rw[a1 rfl];have g:eJ l=true:=by
   rw[B] at a;cases g:eJ l with
   |true=>rfl
   |false=>rw[g] at a;cases a
  have t:=tS h.1.2;have u:=tS h.2.2;unfold cF at t u;have D:wr ((wr ((if eJ l=true then(c' l.lo,c' l.aE,true) else((0:Int),(0:Int),false)).1+(if eJ l=true then(c' l.lo,c' l.aE,true) else((0:Int),(0:Int),false)).2.1))-1)=nc l:=by
   rw[a1 g];dsimp only;rw[bb (n:=c' l.lo+c' l.aE) O,bb O];rfl
  rw[D];refine b3 (ab (d4 n _) (ab (AM n Q) (ab (aca O Q (GL h)) (ab (zl (n:=n) O (x:=P) (s:=k) O T E U.2 V (way:=1) (v:=(k:Int)) (b:=nd k (nc l)) (f:=qg k (nc l)) (Y0 Q (GL h))) ?_))));exact ab (wV O C S ((OK o L (nc l)).mono O)) (aa.some rfl)
end
def ml(k:Int):Int:=if k=3\/k=4\/k=5 then 3 else if k=1\/k=2\/k=7\/k=8 then 2 else if k=6\/k=9\/k=10 then 1 else 0
def rH(s:Step):Bool:=decide (1<=s.kind/\s.kind<=11)&&((decide (0<ml s.kind)||decide (s.part=0))&&((decide (1<ml s.kind)||decide (s.a=0))&&(decide (2<ml s.kind)||decide (s.b=0))))
theorem Pd(k:Int):0<=ml k/\ml k<=3:=by
 unfold ml
 grind
theorem Vt(n:Nat)(k:Int):DB n k=some (ml k):=by
 unfold DB ml;refine aa.eq (aa.ay (λz=>z=decide (k=3\/k=4\/k=5)) (λj a=>aN (λh=>a _ ?_) λh=>aN (λc=>a _ ?_) λc=>a _ ?_) λz d=>?_)
 ·rw[gL];simp only[decide_eq_true_eq];omega
 ·rw[gL];simp only[decide_eq_true_eq];omega
 ·rw[gL];simp only[decide_eq_true_eq];omega
 subst d;by_cases e:k=3\/k=4\/k=5
 ·rw[a1 e,bF e];exact b1 (aa.some rfl)
 rw[aZ e,bD e];refine b3 (aa.ay (λz=>z=decide (k=1\/k=2\/k=7\/k=8)) (λj a=>aN (λh=>a _ ?_) λh=>aN (λc=>a _ ?_) λc=>aN (λm=>a _ ?_) λm=>a _ ?_) λz d=>?_)
 ·rw[gL];simp only[decide_eq_true_eq];omega
 ·rw[gL];simp only[decide_eq_true_eq];omega
 ·rw[gL];simp only[decide_eq_true_eq];omega
 ·rw[gL];simp only[decide_eq_true_eq];omega
 subst d;by_cases i:k=1\/k=2\/k=7\/k=8
 ·rw[a1 i,bF i];exact b1 (aa.some rfl)
 rw[aZ i,bD i];refine b3 (aa.ay (λz=>z=decide (k=6\/k=9\/k=10)) (λj a=>aN (λh=>a _ ?_) λh=>aN (λc=>a _ ?_) λc=>a _ ?_) λz d=>?_)
 ·rw[gL];simp only[decide_eq_true_eq];omega
 ·rw[gL];simp only[decide_eq_true_eq];omega
 ·rw[gL];simp only[decide_eq_true_eq];omega
 subst d;by_cases l:k=6\/k=9\/k=10
 ·rw[a1 l,bF l];exact b1 (aa.some rfl)
 rw[aZ l,bD l];exact b3 (aa.some rfl)
theorem V9(n:Nat)(k:Int):Ao n k=some (if 1<=k/\k<=11 then ml k else-1):=by
 unfold Ao ml;refine aa.eq (aa.ay (λz=>z=decide (k=1\/k=2\/k=7\/k=8)) (λj a=>aN (λh=>a _ ?_) λh=>aN (λc=>a _ ?_) λc=>aN (λm=>a _ ?_) λm=>a _ ?_) λz d=>?_)
 ·rw[gL];simp only[decide_eq_true_eq];omega
 ·rw[gL];simp only[decide_eq_true_eq];omega
 ·rw[gL];simp only[decide_eq_true_eq];omega
 ·rw[gL];simp only[decide_eq_true_eq];omega
 subst d;by_cases e:k=1\/k=2\/k=7\/k=8
 ·rw[bF e,a1 O,aZ O,a1 e];exact b1 (aa.some rfl)
 rw[bD e];refine b3 (aa.ay (λz=>z=decide (k=3\/k=4\/k=5)) (λj a=>aN (λh=>a _ ?_) λh=>aN (λc=>a _ ?_) λc=>a _ ?_) λz d=>?_)
 ·rw[gL];simp only[decide_eq_true_eq];omega
 ·rw[gL];simp only[decide_eq_true_eq];omega
 ·rw[gL];simp only[decide_eq_true_eq];omega
 subst d;by_cases i:k=3\/k=4\/k=5
 ·rw[bF i,a1 O,a1 i];exact b1 (aa.some rfl)
 rw[bD i];refine b3 (aa.ay (λz=>z=decide (k=6\/k=9\/k=10)) (λj a=>aN (λh=>a _ ?_) λh=>aN (λc=>a _ ?_) λc=>a _ ?_) λz d=>?_)
 ·rw[gL];simp only[decide_eq_true_eq];omega
 ·rw[gL];simp only[decide_eq_true_eq];omega
 ·rw[gL];simp only[decide_eq_true_eq];omega
 subst d;by_cases l:k=6\/k=9\/k=10
 ·rw[bF l,a1 O,aZ i,aZ e,a1 l];exact b1 (aa.some rfl)
 rw[bD l];refine b3 (aN (λh=>aa.some ?_) λh=>aa.some ?_)
 ·rw[a1 O,aZ i,aZ e,aZ l]
 rw[aZ O]
theorem Wq(n:Nat)(s:Step):D5 n s=some (rH s):=by
 unfold D5 rH;have d:=Pd s.kind;refine aa.eq (ab (Vt n s.kind) ?_);generalize ml s.kind=f at*;refine aa.ay (λz=>z=(decide (1<=s.kind/\s.kind<=11)&&((decide (0<f)||decide (s.part=0))&&((decide (1<f)||decide (s.a=0))&&(decide (2<f)||decide (s.b=0)))))) (λj e=>?_) (λz c=>aa.some c)
 grind
variable {n:Nat}{p:Prog}{s:Step}{R:Prog×Bool}
theorem Xj(i:10<=n)(s:Step):zX n s=some (rH s):=by
 unfold zX rH;have k:=Pd s.kind;refine aa.eq (ab (V9 n s.kind) ?_);generalize ml s.kind=f at*;refine aa.ay (λz=>z=(decide (1<=s.kind/\s.kind<=11)&&((decide (0<f)||decide (s.part=0))&&((decide (1<f)||decide (s.a=0))&&(decide (2<f)||decide (s.b=0)))))) (λj d=>?_) λz e=>aa.some e;by_cases c:1<=s.kind/\s.kind<=11
 ·rw[a1 c];rw[bF c] at d⊢;refine aN (λ_=>ab (show Ev n s=some [s.part,s.a,s.b] from rfl) (ab (gE O bN aP) (ab (Dn (p:=λv=> !decide (v=0)) (λx _=>rfl) bN bN) (d _ ?_)))) λh=>bz h O;rw[show([s.part,s.a,s.b].length:Int).toNat=[s.part,s.a,s.b].length from rfl,dz];rcases(O:f=0\/f=1\/f=2\/f=3) with rfl|rfl|rfl|rfl
  ·simp[show(0:Int).toNat=0 from rfl]
  ·simp[show(1:Int).toNat=1 from rfl]
  ·simp[show(2:Int).toNat=2 from rfl]
  simp[show(3:Int).toNat=3 from rfl]
 rw[aZ c]
 grind
noncomputable def jM(p:Prog)(s:Step):Prog×Bool:=
 if rH s=true then
  (if s.kind=1 then nS p s.part s.a else if s.kind=2 then pG p s.part s.a else if s.kind=3 then vE p s.part s.a s.b else if s.kind=4 then vD p s.part s.a s.b
   else if s.kind=5 then re p s.part s.a s.b else if s.kind=6 then uI p s.part else if s.kind=7 then uF p s.part s.a else if s.kind=8 then rb p s.part s.a
   else if s.kind=9 then rf p s.part else if s.kind=10 then um p s.part else ui p)
 else ef
def Hp(s:Step):Prop:= -1<=s.part/\s.part<=9
theorem Fs(c:20000<=n)(a:db 1000 p)(d:Hp s):vn n p s=some (jM p s):=by
 unfold vn jM;refine aa.eq (ab (Xj O s) ?_);cases e:rH s with
 |false=>exact b1 (aa.some rfl)
 |true=>
  rw[a1 rfl];refine b3 (aN (λh=>?_) λh=>?_)
  ·rw[a1 h];exact ab (afz c a _ _) (aa.some rfl)
  rw[aZ h];refine aN (λh=>?_) λh=>?_
  ·rw[a1 h];exact ab (aft c a _ _) (aa.some rfl)
  rw[aZ h];refine aN (λh=>?_) λh=>?_
  ·rw[a1 h];exact ab (afv O a _ _ _) (aa.some rfl)
  rw[aZ h];refine aN (λh=>?_) λh=>?_
  ·rw[a1 h];exact ab (afu O a _ _ _) (aa.some rfl)
  rw[aZ h];refine aN (λh=>?_) λh=>?_
  ·rw[a1 h];exact ab (afx O a _ _ _) (aa.some rfl)
  rw[aZ h];refine aN (λh=>?_) λh=>?_
  ·rw[a1 h];exact ab (afs c a d) (aa.some rfl)
  rw[aZ h];refine aN (λh=>?_) λh=>?_
  ·rw[a1 h];exact ab (afr c a d) (aa.some rfl)
  rw[aZ h];refine aN (λh=>?_) λh=>?_
  ·rw[a1 h];exact ab (afw c a _ _) (aa.some rfl)
  rw[aZ h];refine aN (λh=>?_) λh=>?_
  ·rw[a1 h];exact ab (afy O a d) (aa.some rfl)
  rw[aZ h];refine aN (λh=>?_) λh=>?_
  ·rw[a1 h];exact ab (YG O a d) (aa.some rfl)
  rw[aZ h];exact ab (SQ O a) (aa.some rfl)
theorem XZ(c:20000<=n)(a:db 1000 p)(d:Hp s):DK n p s=some (jM p s):=by
 unfold DK jM;refine aa.eq (ab (k8 O a) (ab (Wq n s) ?_));cases e:rH s with
 |false=>exact b1 (aa.some rfl)
 |true=>
  rw[a1 rfl];refine b3 (aN (λh=>?_) λh=>?_)
  ·rw[a1 h];exact ab (agY c a _ _) (aa.some rfl)
  rw[aZ h];refine aN (λh=>?_) λh=>?_
  ·rw[a1 h];exact ab (agS c a _ _) (aa.some rfl)
  rw[aZ h];refine aN (λh=>?_) λh=>?_
  ·rw[a1 h];exact ab (agU O a _ _ _) (aa.some rfl)
  rw[aZ h];refine aN (λh=>?_) λh=>?_
  ·rw[a1 h];exact ab (agT O a _ _ _) (aa.some rfl)
  rw[aZ h];refine aN (λh=>?_) λh=>?_
  ·rw[a1 h];exact ab (agW O a _ _ _) (aa.some rfl)
  rw[aZ h];refine aN (λh=>?_) λh=>?_
  ·rw[a1 h];exact ab (agR c a d) (aa.some rfl)
  rw[aZ h];refine aN (λh=>?_) λh=>?_
  ·rw[a1 h];exact ab (agQ c a d) (aa.some rfl)
  rw[aZ h];refine aN (λh=>?_) λh=>?_
  ·rw[a1 h];exact ab (agV c a _ _) (aa.some rfl)
  rw[aZ h];refine aN (λh=>?_) λh=>?_
  ·rw[a1 h];exact ab (agX O a d) (aa.some rfl)
  rw[aZ h];refine aN (λh=>?_) λh=>?_
  ·rw[a1 h];exact ab (X0 O a d) (aa.some rfl)
  rw[aZ h];exact ab (SD O a) (aa.some rfl)
def o5(R:Prog×Bool):Prop:=(R.2=true/\bT R.1=true)\/R=ef
theorem fN:o5 ef:= .inr rfl
theorem s8(q:Prog):o5 (hM q):=by
 unfold hM;split
 ·rename_i h;exact .inl ⟨rfl,h⟩
 exact .inr rfl
theorem o5.B1(h:o5 R):db 1000 R.1:=by
 rcases h with h|h
 ·exact(lB h.2).mono O
 rw[h];exact agv
theorem o5.v(h:o5 R)(a:R.2=true):bT R.1=true:=by
 rcases h with h|h
 ·exact h.2
 rw[h] at a;cases a
theorem ahg(h:o5 R)(a:R.2=false):R=ef:=by
 rcases h with h|h
 ·rw[a] at h;cases h.1
 exact h
theorem Ln(p:Prog)(a c:Int)(g f:aw->aw):o5 (vj p a c g f):=by
 unfold vj;split
 ·split
  ·exact s8 _
  exact fN
 exact fN
theorem y8(p:Prog)(s:Step):o5 (jM p s):=by
 unfold jM;split
 ·split
  ·unfold nS;split
   ·split
    ·split
     ·exact s8 _
     exact fN
    exact fN
   exact fN
  split
  ·unfold pG;split
   ·split
    ·split
     ·split
      ·exact s8 _
      exact fN
     exact fN
    exact fN
   exact fN
  split
  ·unfold vE;split
   ·exact Ln _ _ _ _ _
   exact fN
  split
  ·unfold vD;split
   ·exact Ln _ _ _ _ _
   exact fN
  split
  ·unfold re;split
   ·split
    ·split
     ·exact s8 _
     exact fN
    exact fN
   exact fN
  split
  ·unfold uI;split
   ·split
    ·split
     ·exact s8 _
     exact fN
    exact fN
   exact fN
  split
  ·unfold uF;split
   ·split
    ·split
     ·exact s8 _
     exact fN
    exact fN
   exact fN
  split
  ·unfold rb;split
   ·split
    ·split
     ·exact s8 _
     exact fN
    exact fN
   exact fN
  split
  ·by_cases h:j5 p s.part (s.part+1)=true
   ·obtain⟨i,d,k,e,a,c,_⟩:=II h;rw[e] at h⊢;rw[Ju h a c];exact .inl ⟨rfl,Jv (u1 h).1 a c⟩
   unfold rf;rw[aZ h];exact fN
  split
  ·unfold um;split
   ·rename_i h;simp only[Bool.and_eq_true] at h;exact .inl ⟨rfl,GQ h.1 _⟩
   exact fN
  unfold ui;split
  ·rename_i h;exact .inl ⟨rfl,aaX h⟩
  exact fN
 exact fN
end Go.Lift
