/- Tools. -/
import Derived.Test.YtcihigfifglboabGreatHTran1
set_option maxRecDepth 100000
set_option linter.unusedVariables false
namespace Go.Lift
open Go
section
theorem zE: ∀a,cmpL a a=0
 | []=>rfl
 |x::a=>by unfold cmpL;rw[a6 O,a6 O];exact zE a
theorem sO: ∀a c,cmpL c a= -cmpL a c
 | [],[]=>by simp[cmpL]
 | [],_::_=>by simp[cmpL]
 |_::_,[]=>by simp[cmpL]
 |x::a,y::c=>by
  unfold cmpL;by_cases d:x<y
  ·simp[d,show¬y<x by omega]
  by_cases e:y<x
  ·simp[d,e]
  rw[a6 d,a6 e,a6 e,a6 d];exact sO a c
theorem wi: ∀{a c},cmpL a c=0->a=c
 | [],[],_=>rfl
 | [],_::_,h=>by simp[cmpL] at h
 |_::_,[],h=>by simp[cmpL] at h
 |x::a,y::c,h=>by
  unfold cmpL at h;by_cases d:x<y
  ·rw[a1 d] at h;omega
  by_cases e:y<x
  ·rw[a6 d,a1 e] at h;omega
  rw[a6 d,a6 e] at h;rw[wi h,show x=y by omega]
theorem wA: ∀{k l m},cmpL k l<0->cmpL l m<0->cmpL k m<0
 | [],[],_,h,_=>by simp[cmpL] at h
 | [],_::_,[],_,h=>by simp[cmpL] at h
 | [],_::_,_::_,_,_=>by simp[cmpL]
 |_::_,[],_,h,_=>by simp[cmpL] at h
 |_::_,_::_,[],_,h=>by simp[cmpL] at h
 |x::k,y::l,z::m,i,e=>by
  unfold cmpL at i e⊢;by_cases a:x<y
  ·by_cases b:y<z
   ·rw[a1 O];omega
   by_cases c:z<y
   ·rw[a6 b,a1 c] at e;omega
   rw[a1 O];omega
  by_cases b:y<x
  ·rw[a6 a,a1 b] at i;omega
  by_cases c:y<z
  ·rw[a1 O];omega
  by_cases d:z<y
  ·rw[a6 c,a1 d] at e;omega
  rw[a6 O,a6 O];rw[a6 a,a6 b] at i;rw[a6 c,a6 d] at e;exact wA i e
theorem MO: ∀a c,ir a c=decide (cmpL a c<0)
 | [],[]=>rfl
 | [],_::_=>rfl
 |_::_,[]=>rfl
 |x::a,y::c=>by
  unfold ir cmpL;by_cases h:x=y
  ·subst h;simp only[if_true,Int.lt_irrefl,if_false];exact MO a c
  by_cases d:x<y
  ·simp[h,d]
  have:y<x:=O
  simp[h,d,this]
abbrev hV(l:List (List Int)):Prop:=l.Pairwise λa b=>cmpL a b<0
theorem Oy: ∀{l m:List (List Int)},hV l->hV m->(∀x,x∈l↔x∈m)->l=m
 | [],[],_,_,_=>rfl
 | [],y::m,_,_,h=>by have:=(h y).2 aW;simp at this
 |x::l,[],_,_,h=>by have:=(h x).1 aW;simp at this
 |x::l,y::m,s,w,h=>by
  obtain⟨q,A⟩:=q9.1 s;obtain⟨r,B⟩:=q9.1 w;have e:x=y:=by
   rcases dP.1 ((h x).1 aW) with d|d
   ·exact d
   rcases dP.1 ((h y).2 aW) with i|i
   ·exact i.symm
   have a:=r x d;have b:=q y i
   have:=wA a b;rw[zE] at this;omega
  subst e;have k:x∉l:=λn=>by have:=q x n;rw[zE] at this;omega
  have o:x∉m:=λn=>by have:=r x n;rw[zE] at this;omega
  rw[Oy A B (λz=>⟨λc=>by
   rcases dP.1 ((h z).1 (ey _ c)) with rfl|p
   ·exact bB c k
   ·exact p,λc=>by
   rcases dP.1 ((h z).2 (ey _ c)) with rfl|p
   ·exact bB c o
   exact p⟩)]
def iv:List (List Int)->List Int->List (List Int)
 | [],d=>[d]
 |x::a,d=>if cmpL d x<0 then d::x::a else x::iv a d
theorem Fp{d z:List Int}: ∀{l:List (List Int)},z∈iv l d↔z=d\/z∈l
 | []=>by simp[iv]
 |x::a=>by
  unfold iv;split
  ·simp
  simp only[List.mem_cons,Fp (l:=a)];constructor
  ·rintro(h|h|h)
   ·exact .inr (.inl h)
   ·exact .inl h
   exact .inr (.inr h)
  rintro(h|h|h)
  ·exact .inr (.inl h)
  ·exact .inl h
  exact .inr (.inr h)
theorem NL{d:List Int}: ∀{l:List (List Int)},hV l->d∉l->hV (iv l d)
 | [],_,_=>by simp[iv]
 |x::o,c,i=>by
  obtain⟨k,m⟩:=q9.1 c;unfold iv;split
  ·rename_i h;refine q9.2 ⟨λz a=>?_,c⟩;rcases dP.1 a with rfl|a
   ·exact h
   exact wA h (k z a)
  rename_i h;refine q9.2 ⟨λz a=>?_,NL m λn=>i (ey _ n)⟩;rcases Fp.1 a with rfl|a
  ·have p:=sO z x;have q:cmpL z x≠0:=λe=>i (by rw[wi e];simp);omega
  exact k z a
def hL(l:List (List Int))(d:List Int):List (List Int):=if d∈l then l else iv l d
theorem aar{l:List (List Int)}(h:hV l)(d:List Int):hV (hL l d):=by
 unfold hL;split
 ·exact h
 exact NL h ‹_›
variable {l:Loop}{d a b:List Int}{R:Type}{Q:R->Prop}{n k i:Nat}{p:Prog}{c:Int}{P:Part}{r:List cg}
theorem MX{l:List (List Int)}{z:List Int}:z∈hL l d↔z=d\/z∈l:=by
 unfold hL;split
 ·rename_i h;exact⟨.inr,λa=>by rcases a with rfl|a;exact h;exact a⟩
 exact Fp
theorem FF: ∀(a l:List (List Int)),hV l->hV (a.foldl hL l)/\ ∀z,z∈a.foldl hL l↔z∈l\/z∈a
 | [],l,h=>⟨h,λz=>aW⟩
 |d::a,l,h=>by
  obtain⟨c,e⟩:=FF a (hL l d) (aar h d);refine⟨c,λz=>?_⟩;rw[List.foldl_cons,e z,MX,dP];constructor
  ·rintro((h|h)|h)
   ·exact .inr (.inl h)
   ·exact .inl h
   exact .inr (.inr h)
  rintro(h|h|h)
  ·exact .inl (.inr h)
  ·exact .inl (.inl h)
  exact .inr h
def gl:List (List Int)->List (List Int)
 | []=>[]
 | [x]=>[x]
 |x::y::r=>if x=y then gl (y::r) else x::gl (y::r)
theorem DQ{z:List Int}: ∀{l:List (List Int)},z∈gl l↔z∈l
 | []=>by simp[gl]
 | [x]=>by simp[gl]
 |x::y::r=>by
  have a:=DQ (z:=z) (l:=y::r);unfold gl;split
  ·rename_i h;subst h;rw[a];simp
  rw[dP,a];simp
theorem D6: ∀{l:List (List Int)},l.Pairwise (λa b=> ¬cmpL b a<0)->hV (gl l)
 | [],_=>by simp[gl]
 | [x],_=>by simp[gl]
 |x::y::r,h=>by
  obtain⟨n,i⟩:=q9.1 h;obtain⟨o,_⟩:=q9.1 i;unfold gl;split
  ·exact D6 i
  rename_i k;refine q9.2 ⟨λz m=>?_,D6 i⟩;have d:cmpL x y<0:=by
   have a:=n y aW;have b:=sO x y;have c:cmpL x y≠0:=λe=>k (wi e);omega
  rcases dP.1 (DQ.1 m) with rfl|m
  ·exact d
  have a:=o z m;have b:=sO y z;by_cases e:cmpL y z=0
  ·rw[<-wi e];exact d
  exact wA d O
theorem T0(l:List (List Int)):(fj l).Pairwise (λa b=> ¬cmpL b a<0):=by
 have:=List.pairwise_mergeSort (le:=λx y=> !decide (cmpL y x<0)) (λa b c k d=>by
  simp only[Bool.not_eq_true',decide_eq_false_iff_not] at*;intro h;have i:=sO a b;have m:=sO b c;by_cases e:cmpL b a=0
  ·rw[wi e] at d;exact d h
  ·exact d (wA h O)) (λa b=>by
  have i:=sO a b;by_cases h:cmpL b a<0
  ·have: ¬cmpL a b<0:=O
   simp[h,this]
  simp[h]) l
 refine this.imp λh=>?_;simpa using h
theorem ZL(a:List (List Int)):gl (fj a)=a.foldl hL []:=by obtain⟨c,d⟩:=FF a [] List.Pairwise.nil;refine Oy (D6 (T0 a)) c λz=>?_;rw[DQ,d z];unfold fj;rw[List.mem_mergeSort];simp
def j7(b a:List Int):List Int:=List.zipWith (λx y=>x-y) b a
theorem ML(F:a.length=b.length)(G:b.length<=1000)(H:1000<n)(m: ∀x∈a,cJ 9999 x)(o: ∀x∈b,cJ 9999 x){K:List Int->Option R}(A:ab (K (j7 b a)) Q):
  ab (bo (λc ((h,d):(List Int)×Int)=>
   bif decide (d<(b.length:Int)) then(
    Option.bind (au b d) λp=>
    Option.bind (au a d) λq=>
    Option.bind (app h [wr (p-q)]) λr=>
    c (r,wr (d+1))
   ) else(
    K h
   )) n ([],0)) Q:=by
 refine ab.loop (λx:List Int×Int=> ∃i:Nat,x.2=i/\i<=b.length/\x.1=(j7 b a).take i) (λx=>b.length-x.2.toNat) ?_ n _ ⟨0,rfl,O,aW⟩ Z;rintro s ⟨x,k⟩ ⟨i,w,I,l⟩ B;dsimp only at w l⊢;subst w;have C:(j7 b a).length=b.length:=by unfold j7;rw[vt];omega
 refine aQ (λe=>?_) λD=>?_
 ·have e:i<b.length:=O
  have y:=bs e;have z:=bs (O:i<a.length);have cU:=o _ (fz e);have cu:=m _ (fz (O:i<a.length));unfold cJ at cU cu;refine ag (bk y) (ag (bk z) (ag (cY (by rw[l,cL];simp;omega)) ?_));rw[be (n:=b[i]-a[i]) O,be O];refine B _ ⟨i+1,Z,O,?_⟩ Z;dsimp only;rw[ek,<-l];congr 1;unfold j7;rw[List.getElem?_zipWith,y,z];rfl
 have:i=b.length:=O
 subst this;rw[ji O] at l;rw[l];exact A
theorem VO(e:a.length=b.length)(h:b.length<=1000)(i:1000<n)(c: ∀x∈a,cJ 9999 x)(d: ∀x∈b,cJ 9999 x):zc n b a=some (j7 b a):=by unfold zc;exact ab.eq (ML e h i c d (ab.some rfl))
theorem XO(t:20000<=n){l:List (List Int)}(u:l.length<=15000)(R: ∀x∈l,x.length<=1000)(U:d.length<=1000):Az n l d=some (hL l d):=by
 unfold Az;refine ab.eq (ab.loop (λx:List (List Int)×Bool×Int=> ∃i:Nat,x.2.2=i/\i<=l.length/\d∉l.take i/\(x.2.1=true->x.1.length<=i+1/\iv l d=x.1++l.drop i)/\(x.2.1=false->x.1.length<=i/\iv l d=x.1++iv (l.drop i) d)) (λx=>l.length-x.2.2.toNat) ?_ n _ ⟨0,rfl,O,aW,(λh=>by cases h),λ_=>⟨aW,aW⟩⟩ Z);rintro A ⟨v,m,k⟩ ⟨i,L,E,e,B,C⟩ W;dsimp only at L B C⊢;subst L;refine aQ (λc=>?_) λX=>?_
 ·have c:i<l.length:=O
  have Q:=bs c;have D:l[i].length<=1000:=R _ (fz c);refine ag (bk Q) (ag (Ki O O) (aQ (λF=>ab.some ?_) λG=>?_))
  ·unfold hL;rw[a1 (by rw[<-F];exact fz c)]
  have a:=lg c;have p:d∉l.take (i+1):=by
   rw[ek,Q];simp only[List.mem_append,Option.toList_some,List.mem_singleton];rintro(h|h)
   ·exact e h
   exact G h.symm
  refine ab.aA (λz:List (List Int)×Bool=>(z.2=true->z.1.length<=i+1/\iv l d=z.1++l.drop i)/\(z.2=false->z.1.length<=i/\iv l d=z.1++l[i]::iv (l.drop (i+1)) d)) (λj o=>?_) λz q=>?_
  ·refine ab.aA (λz:Bool=>z=(!m&&ir d l[i])) (λM r=>ab.cond (λh=>?_) λh=>r _ ?_) λz q=>?_
   ·have h:m=false:=by simpa using h
    exact ag (Mc O U D) (r _ (by rw[h];rfl))
   ·have h:m=true:=by simpa using h
    rw[h];rfl
   subst q;cases s:m with
   |true=>exact b5 (o _ ⟨λ_=>B s,λh=>by cases h⟩)
   |false=>
    obtain⟨Y,H⟩:=C s;rw[a] at H;rw[MO];by_cases y:cmpL d l[i]<0
    ·rw[bA y];refine bR (ag (cY bQ) (o _ ⟨λ_=>⟨bQ,?_⟩,λh=>by cases h⟩));rw[H,a];unfold iv;rw[a1 y];simp
    rw[bu y];refine b5 (o _ ⟨(λh=>by cases h),λ_=>⟨Y,?_⟩⟩);rw[H]
    conv=>lhs;rw[iv]
    rw[a6 y]
  obtain⟨b,f⟩:=z;obtain⟨I,K⟩:=q;dsimp only at I K⊢;have g:b.length<=i+1:=by
   cases f with
   |true=>exact(I rfl).1
   |false=>have:=(K rfl).1;omega
  refine ag (cY bQ) ?_;rw[be O];refine W _ ⟨i+1,Z,O,p,λh=>?_,λh=>?_⟩ Z
  ·obtain⟨aK,a2⟩:=I h;refine⟨bQ,?_⟩;rw[a2,a];simp
  obtain⟨aK,a2⟩:=K h;refine⟨bQ,?_⟩;rw[a2];simp
 have:i=l.length:=O
 subst this;rw[c6] at e;have w:hL l d=iv l d:=by unfold hL;rw[a6 e]
 rw[w];refine ab.aA (λz=>z=iv l d) (λj o=>ab.cond (λh=>?_) λh=>o _ ?_) λz q=>ab.some q
 ·have h:m=false:=by simpa using h
  obtain⟨aK,a2⟩:=C h;refine ag (cY bQ) (o _ ?_);rw[a2,nz];rfl
 have h:m=true:=by simpa using h
 obtain⟨aK,a2⟩:=B h;rw[a2,nz,kK]
theorem MQ(d:List Int): ∀l:List (List Int),(iv l d).length=l.length+1
 | []=>rfl
 |x::a=>by
  unfold iv;split
  ·rfl
  rw[List.length_cons,MQ d a];rfl
theorem MY(l:List (List Int))(d:List Int):(hL l d).length<=l.length+1:=by
 unfold hL;split
 ·omega
 rw[MQ];omega
def ks(I:List cx)(c:Int)(d:fJ):Option (List Int):=match I[d.eC.toNat]?,I[d.eE.toNat]? with
 |some a,some b=>if a.part=c/\b.part=c then some (j7 b.cK a.cK) else none
 |_,_=>none
def mY(p:Prog)(a:Int):List (List Int):=(fY p (bz p.parts) (bz p.parts).length).filterMap (ks (bz p.parts) a)
theorem qC(l:b2 p=true){x:cx}(m:gn p x): ∃P,p.parts[x.part.toNat]? =some P/\0<=x.part/\x.cK.length=P.nest.length/\x.cK.length<=4/\ ∀y∈x.cK,cJ 9999 y:=by obtain⟨D,F,G,c,n⟩:=eA l;obtain⟨i,k,P,s,o,H,e,q,h⟩:=m;obtain⟨r,I,K,w⟩:=gk (c P (bE e));obtain⟨L,z,d,A,B⟩:=rZ r;have hs:=bE q;have a:=(w s hs _ h).2;unfold j9 at a;simp only[Bool.and_eq_true,decide_eq_true_eq,List.all_eq_true] at a;exact⟨P,by rw[o,c3];exact e,O,(d _ h).1,a.1,λy C=>a.2 y C⟩
theorem ZM{I:List cx}(h: ∀x∈I,x.cK.length<=4){d:fJ}{v:List Int}(e:ks I c d=some v):v.length<=4:=by
 unfold ks at e;split at e
 ·rename_i a b k i;split at e
  ·cases e;unfold j7;rw[vt]
   have:=h b (bE i);omega
  cases e
 cases e
theorem Ju{k:Type}{f:k->Option R}{l:List k}{x:k}(h:l[i]? =some x):(l.take (i+1)).filterMap f=(l.take i).filterMap f++(f x).toList:=by rw[ek,h,List.filterMap_append];cases a:f x<;>simp[a]
theorem Kt(g:20000<=n)(hp:lp p)(s:b2 p=true)(a:Int):m7 n p a=some ((mY p a).foldl hL []):=by
 have G:=(eA s).2.2.2.2;unfold m7;refine ab.eq (ag (uG O s) (ag (E6 O s) ?_));have m: ∀x∈bz p.parts,gn p x:=λx o=>iF o;have agT:=FC (p:=p) G;have a':=N6 (p:=p) (l:=bz p.parts);unfold mY;generalize fY p (bz p.parts) (bz p.parts).length=D at*;generalize bz p.parts=I at*;have t: ∀x∈I,x.cK.length<=4:=λx o=>(qC s (m x o)).choose_spec.2.2.2.1;refine ab.loop (λx:List (List Int)×Int=> ∃i:Nat,x.2=i/\i<=D.length/\x.1=((D.take i).filterMap (ks I a)).foldl hL []/\x.1.length<=i/\ ∀y∈x.1,y.length<=4) (λx=>D.length-x.2.toNat) ?_ n _ ⟨0,rfl,O,aW,aW,aW⟩ Z;rintro H ⟨u,k⟩ ⟨i,b,aI,o,w,d⟩ v;dsimp only at b o w d⊢;subst b;refine aQ (λq=>?_) λE=>ab.some ?_
 ·have q:i<D.length:=O
  have f:=bs q;obtain⟨M,d2,d3⟩:=a' _ (fz q);have N:=wW (l:=I) (c:=D[i].eC) M O;have P:=wW (l:=I) (c:=D[i].eE) O O;have S:=fz (O:D[i].eC.toNat<I.length);have K:=fz (O:D[i].eE.toNat<I.length);have L:I[D[i].eC.toNat]? =some I[D[i].eC.toNat]:=bs _;have Q:I[D[i].eE.toNat]? =some I[D[i].eE.toNat]:=bs _;obtain⟨T,A,V,ae8,ae9,R⟩:=qC s (m _ S);obtain⟨Ec,r,ae',afa,afb,U⟩:=qC s (m _ K);refine ab.aA (λz=>z.2.2.2.2.2.2=((D.take (i+1)).filterMap (ks I a)).foldl hL []/\z.2.2.2.2.2.2.length<=i+1/\ ∀y∈z.2.2.2.2.2.2,y.length<=4) (λj W=>ag (bk f) (ag N (ag P ?_))) λz X=>?_
  ·rw[Ju f,List.foldl_append,<-o] at W;refine ab.aA (λz:Bool=>z=decide (I[D[i].eC.toNat].part=a/\I[D[i].eE.toNat].part=a)) (λiG B=>aQ (λh=>B _ ?_) λh=>B _ ?_) λz X=>?_
   ·exact decide_eq_decide.2 ⟨λC=>⟨h,C⟩,λC=>C.2⟩
   ·exact(bu λC=>h C.1).symm
   subst X;have e:ks I a D[i]=if I[D[i].eC.toNat].part=a/\I[D[i].eE.toNat].part=a then some (j7 I[D[i].eE.toNat].cK I[D[i].eC.toNat].cK) else none:=by
    unfold ks;rw[L,Q]
   refine aQ (λh=>?_) λh=>W _ ?_
   ·have Y:T=Ec:=by
     rw[h.1] at A;rw[h.2] at r;rw[A] at r;cases r;rfl
    subst Y;refine ag (VO O O O R U) (ag (XO g O (λy F=>by have:=d y F;omega) (by unfold j7;rw[vt];omega)) (W _ ?_));rw[e,a1 h];dsimp only[Option.toList,List.foldl];refine⟨rfl,?_,λy F=>?_⟩
    ·have:=MY u (j7 I[D[i].eE.toNat].cK I[D[i].eC.toNat].cK);omega
    rcases MX.1 F with rfl|F
    ·unfold j7;rw[vt];omega
    exact d y F
   rw[e,a6 h];exact⟨rfl,Z,d⟩
  obtain⟨yX,z2,z3⟩:=X;rw[be O];exact v _ ⟨i+1,Z,O,yX,z2,z3⟩ Z
 have:i=D.length:=O
 subst this;rw[o,c6]
theorem J0(x:List Int): ∀(y:List Int) (a:List (List Int)),gl ((y::a)++[x])=if(y::a).getLast aW=x then gl (y::a) else gl (y::a)++[x]
 |y,[]=>by
  by_cases h:y=x
  ·subst h;simp[gl]
  simp[gl,h]
 |y,z::a=>by
  have d:=J0 x z a;rw[List.getLast_cons aW];show gl (y::z::(a++[x]))=_;unfold gl;by_cases h:y=z
  ·rw[a1 h,a1 h];exact d
  rw[a6 h,a6 h];have c:gl (z::(a++[x]))=_:=d;rw[c];split<;>simp
theorem TZ{s:List (List Int)}{m:Nat}(n:1<=m)(l:m<s.length):gl (s.take (m+1))=if s[m-1]=s[m] then gl (s.take m) else gl (s.take m)++[s[m]]:=by
 have e:s.take (m+1)=s.take m++[s[m]]:=by rw[ek,bs l];rfl
 have d:s.take m≠[]:=by
  intro h
  have:=congrArg List.length h;rw[cL,vx O,List.length_nil] at this;omega
 have c: ∀h,(s.take m).getLast h=s[m-1]:=λh=>by
  rw[List.getLast_eq_getElem,List.getElem_take];congr 1;rw[cL];omega
 rw[e];obtain⟨y,a,k⟩: ∃y a,s.take m=y::a:=by
  cases h:s.take m with
  |nil=>exact bB h d
  |cons y a=>exact⟨y,a,rfl⟩
 have i:=c d;simp only[k] at i⊢;rw[J0,i]
def k4(d:List Int):Option Nat:=d.findIdx? λx=> !decide (x=0)
def oS(d:List Int):Int:=match k4 d with
 |some i=>(i:Int)
 |none=> -1
theorem VD(y:d.length<=1000)(A:1000<n):CM n d=some (oS d):=by
 unfold CM;refine ab.eq (ag (x:=oS d) ?_ (ab.some rfl));unfold xK;refine ab.eq (ab.loop (λx:Int=> ∃i:Nat,x=i/\i<=d.length/\ ∀j,j<i->d.getD j 0=0) (λx=>d.length-x.toNat) ?_ n _ ⟨0,rfl,O,λj a=>bB a (q5 _)⟩ O);rintro h z ⟨i,rfl,B,m⟩ q;have o: ∀j (a:j<d.length),j<i->d[j]=0:=λj a c=>by
  have:=m j c
  rwa [ew,bs a] at this
 refine aQ (λe=>?_) λr=>ab.some ?_
 ·have e:i<d.length:=O
  have p:=bs e;refine ag (bk p) (ag (x:= !decide (d[i]=0)) rfl (eS (λk=>ab.some ?_) λs=>?_))
  ·have:k4 d=some i:=by
    unfold k4;rw[IU];exact⟨e,by simp[k],λj a=>by simp[o j O a]⟩
   unfold oS;rw[this]
  rw[be O];refine q _ ⟨i+1,O,O,λj a=>?_⟩ O;by_cases c:j=i
  ·subst c;rw[ew,p];exact s
  exact m j O
 have:k4 d=none:=by
  unfold k4;rw[List.findIdx?_eq_none_iff];intro x w;obtain⟨j,a⟩:=kc.1 w;obtain⟨l,rfl⟩:=bS.1 a;simp[o j l O]
 unfold oS;rw[this]
theorem Yz(a:lp p)(c:p.parts[i]? =some P):kS n p (i:Int)=some true:=by have aI:=(bS.1 c).1;rw[qD n a.2.1,bA O]
theorem VX(a:Nat->Bool)(m:Nat):dY a (m+1)=dY a m++(if a m then [m] else []):=by unfold dY;rw[pG,vu];congr 1;by_cases h:a m<;>simp[h]
theorem NU(l:List (List Int)): ∀m,m<=l.length->(dY (kT l) m).map (λj=>l.getD j [])=gl (l.take m)
 |0,_=>rfl
 |m+1,h=>by
  have o:=NU l m O;have c:m<l.length:=O
  have d:l.getD m []=l[m]:=by rw[ew,bs c];rfl
  rw[VX,fU,o];by_cases i:m=0
  ·subst i;have k:kT l 0=true:=by simp[kT]
   rw[k,a1 rfl,List.take_zero];show gl []++[l.getD 0 []]=_;rw[d,ek,bs c];rfl
  rw[TZ O c];have k:l.getD (m-1) []=l[m-1]:=by rw[ew,bs O];rfl
  have p:kT l m= !decide (l[m-1]=l[m]):=by
   unfold kT;rw[d,k];by_cases a:l[m-1]=l[m]
   ·simp[i,a]
   have n:l[m]≠l[m-1]:=λe=>a e.symm;simp[i,a,n]
  rw[p];by_cases a:l[m-1]=l[m]
  ·rw[a1 a,bA a];simp
  rw[a6 a,bu a];show _++[l.getD m []]=_;rw[d]
theorem Vx(l:List (List Int)):gD l=gl l:=by have:=NU l l.length (cO _);rw[c6] at this;exact this
theorem UG(cH:20000<=n)(s:b2 p=true)(a:Int):BT n (fZ p) a=some ((mY p a).foldl hL []):=by
 have F:=(eA s).2.2.2.2;unfold BT;refine ab.eq (ag (EV O s) ?_);rw[show(fZ p).list=bz p.parts from rfl];have o: ∀x∈bz p.parts,gn p x:=λx e=>iF e;have agT:=FC (p:=p) F;have a':=N6 (p:=p) (l:=bz p.parts);unfold mY;generalize fY p (bz p.parts) (bz p.parts).length=D at*;generalize bz p.parts=I at*;have G: ∀x∈I,x.cK.length<=4:=λx e=>(qC s (o x e)).choose_spec.2.2.2.1;refine ab.loop (λx:List (List Int)×Int=> ∃i:Nat,x.2=i/\i<=D.length/\x.1=(D.take i).filterMap (ks I a)) (λx=>D.length-x.2.toNat) ?_ n _ ⟨0,rfl,O,aW⟩ Z;rintro H ⟨u,k⟩ ⟨i,v,aI,e⟩ N;dsimp only at v e⊢;subst v;have E:u.length<=i:=by
  rw[e];refine gw (List.length_filterMap_le _ _) ?_;rw[cL];omega
 refine aQ (λq=>?_) λP=>?_
 ·have q:i<D.length:=O
  have M:=bs q;obtain⟨S,d2,d3⟩:=a' _ (fz q);have T:=wW (l:=I) (c:=D[i].eC) S O;have V:=wW (l:=I) (c:=D[i].eE) O O;have fO:=fz (O:D[i].eC.toNat<I.length);have L:=fz (O:D[i].eE.toNat<I.length);have Q:I[D[i].eC.toNat]? =some I[D[i].eC.toNat]:=bs _;have R:I[D[i].eE.toNat]? =some I[D[i].eE.toNat]:=bs _;obtain⟨Rt,w,agx,ae8,ae9,U⟩:=qC s (o _ fO);obtain⟨Ec,r,ae',afa,afb,W⟩:=qC s (o _ L);have m:ks I a D[i]=if I[D[i].eC.toNat].part=a/\I[D[i].eE.toNat].part=a then some (j7 I[D[i].eE.toNat].cK I[D[i].eC.toNat].cK) else none:=by
   unfold ks;rw[Q,R]
  refine ab.aA (λz=>z.1=(D.take (i+1)).filterMap (ks I a)) (λj X=>ag (bk M) (ag T (ag V ?_))) λz Y=>?_
  ·rw[Ju M,<-e] at X;refine ab.aA (λz:Bool=>z= !decide (I[D[i].eC.toNat].part=a/\I[D[i].eE.toNat].part=a)) (λiG A=>eS (λh=>A _ ?_) λh=>A _ ?_) λz Y=>?_
   ·rw[bu λB=>h B.1];rfl
   ·congr 1;exact decide_eq_decide.2 ⟨λB=>⟨h,B⟩,λB=>B.2⟩
   subst Y;refine eS (λh=>X _ ?_) λh=>?_
   ·rw[m,a6 h];simp
   have b:Rt=Ec:=by
    rw[h.1] at w;rw[h.2] at r;rw[w] at r;cases r;rfl
   subst b;refine ML (K:=λf=>Option.bind (app u [f]) λg=>j (g,D[i].eC,D[i].eE,D[i].kinds,I[D[i].eC.toNat].part,I[D[i].eC.toNat].stmt,I[D[i].eC.toNat].cK,I[D[i].eE.toNat].part,I[D[i].eE.toNat].stmt,I[D[i].eE.toNat].cK)) O O O U W ?_;refine ag (cY bQ) (X _ ?_);rw[m,a1 h];rfl
  rw[be O];exact N _ ⟨i+1,Z,O,Y⟩ Z
 have:i=D.length:=O
 subst this;rw[c6] at e;subst e;have C: ∀y∈D.filterMap (ks I a),y.length<=4:=λy t=>by
  obtain⟨d,_,cv⟩:=List.mem_filterMap.1 t;exact ZM G cv
 have adK:(fj (D.filterMap (ks I a))).length<=15000:=by unfold fj;rw[List.length_mergeSort];omega
 refine ag (x:=fj (D.filterMap (ks I a))) (by unfold mr;rw[a1 ⟨O,λy t=>by have:=C y t;omega⟩]) (ab.some ?_);rw[Vx];exact ZL _
def iX(p:Prog)(i:Nat):List (List Int):=(mY p i).foldl hL []
theorem VF(d:20000<=n)(a:lp p)(c:b2 p=true)(e:p.parts[i]? =some P):CF n p (i:Int)=some (iX p i):=by unfold CF;refine ab.eq (ag (yt O a) ?_);rw[a1 c];refine bR (ab.aA (λz=>z=false) (λj h=>b5 (ag (Yz a e) (h _ rfl))) λz k=>?_);rw[k];exact b5 (ag (UG d c _) (ab.some rfl))
theorem aaA:d∈iX p i↔d∈mY p i:=by
 unfold iX
 have:=(FF (mY p i) [] .nil).2 d;simpa using this
theorem LH: ∀(a l:List (List Int)),(a.foldl hL l).length<=l.length+a.length
 | [],l=>aW
 |d::a,l=>by
  rw[List.foldl_cons]
  have:=LH a (hL l d)
  have:=MY l d;rw[List.length_cons];omega
theorem Gi(c:b2 p=true):(iX p i).length<=15000:=by
 have a:=(eA c).2.2.2.2;have d:=FC (p:=p) a
 have:=LH (mY p i) [];have e:(mY p i).length<=(fY p (bz p.parts) (bz p.parts).length).length:=by unfold mY;exact List.length_filterMap_le _ _
 unfold iX;rw[List.length_nil] at this;omega
theorem sY(r:b2 p=true)(s:p.parts[i]? =some P)(cv:d∈iX p i):d.length=P.nest.length/\ ∀x∈d,cJ 99999 x:=by
 have cv:=aaA.1 cv;unfold mY at cv;obtain⟨e,_,h⟩:=List.mem_filterMap.1 cv;unfold ks at h;split at h
 ·rename_i a b A B;split at h
  ·rename_i w;cases h;have m:gn p a:=iF (bE A);have n:gn p b:=iF (bE B);obtain⟨F,aK,a2,a3,a4,a5⟩:=qC r m;obtain⟨G,y,H,I,K,C⟩:=qC r n;rw[w.1,c3,s] at aK;rw[w.2,c3,s] at y;cases aK;cases y;unfold j7;refine⟨by rw[vt];omega,λx z=>?_⟩;obtain⟨u,v,D,o,rfl⟩: ∃u v,u∈b.cK/\v∈a.cK/\x=u-v:=by
    rw[kc] at z;obtain⟨k,c⟩:=z;rw[List.getElem?_zipWith] at c;cases l:b.cK[k]? with
    |none=>rw[l] at c;cases c
    |some u=>
     cases q:a.cK[k]? with
     |none=>rw[l,q] at c;cases c
     |some v=>
      rw[l,q] at c;cases c;exact⟨u,v,bE l,bE q,rfl⟩
   have L:=C u D;have Q:=a5 v o;unfold cJ at*;omega
  cases h
 cases h
def gV(d:List Int):Bool:=match k4 d with
 |some k=>decide (0<=d.getD k 0)
 |none=>true
theorem NX(h:k4 d=some k):k<d.length/\d.getD k 0≠0:=by unfold k4 at h;rw[IU] at h;obtain⟨a,c,_⟩:=h;refine⟨a,?_⟩;rw[ew,bs a];simpa using c
theorem KK(L:20000<=n)(Q:lp p)(A:b2 p=true)(C:p.parts[i]? =some P){F:List Int->Option (List Int)}{f:List Int->List Int}(G: ∀d∈iX p i,F d=some (f d))(H: ∀d,(f d).length=d.length):
  wx n p (i:Int) F=some ((iX p i).all λd=>gV (f d)):=by
 unfold wx;refine ab.eq (ag (VF L Q A C) ?_);have w:=Gi A (i:=i);have y:=λd s=>(sY A C (d:=d) s).1;have R:=(hZ ((eA A).2.2.2.1 P (bE C))).1;generalize iX p i=D at G w y;refine ab.loop (λx:List (List Int)×Int=> ∃k:Nat,x.2=k/\k<=D.length/\x.1.length=D.length/\(∀t,k<=t->x.1[t]? =D[t]?)/\ ∀d∈D.take k,gV (f d)=true) (λx=>D.length-x.2.toNat) ?_ n _ ⟨0,rfl,O,rfl,λ_ _=>rfl,λd s=>by simp at s⟩ Z;rintro o ⟨m,j⟩ ⟨k,I,U,z,a,c⟩ W;dsimp only at I z a⊢;subst I;refine aQ (λl=>?_) λX=>ab.some ?_
 ·have l:k<D.length:=O
  have Y:m[k]? =some D[k]:=by rw[a k (cO _),bs l]
  have hm:=fz l;have b:(f D[k]).length<=4:=by rw[H,y _ hm];exact R
  refine ag (bk Y) (ag (G _ hm) (ag (oA (H _)) (ag (VD O O) (ag (dJ O _) ?_))));have e: ∀(B:gV (f D[k])=false),D.all (λd=>gV (f d))=false:=λB=>jk.2 ⟨_,hm,by simp[B]⟩;have go:gV (f D[k])=true->ab (o (m.set (k:Int).toNat (f D[k]),wr ((k:Int)+1))) (λr=>r=D.all λd=>gV (f d)):=λB=>by
   rw[be O,c3];refine W _ ⟨k+1,Z,O,by dsimp only;rw[eV];exact z,λt u=>?_,λd s=>?_⟩ Z
   ·dsimp only;rw[jj O];exact a t O
   rw[ek,bs l] at s;rcases dZ.1 s with h|h
   ·exact c d h
   have:d=D[k]:=by simpa using h
   subst this;exact B
  unfold oS gV at*;cases q:k4 (f D[k]) with
  |none=>
   rw[q] at go e;exact aQ (λh=>bB h (by show¬(0:Int)<= -1;omega)) (λ_=>go rfl)
  |some t=>
   rw[q] at go e;obtain⟨g,v⟩:=NX q;refine aQ (λ_=>?_) λh=>bB (show(0:Int)<=(t:Int) by omega) h;have K:=bs g;have E:(f D[k]).getD t 0=(f D[k])[t]:=by rw[ew,K];rfl
   refine ag (bk K) (aQ (λh=>ab.some ?_) λh=>go ?_)
   ·exact(e (bu O)).symm
   exact bA O
 have:k=D.length:=O
 subst this;rw[c6] at c;exact(fy.2 c).symm
theorem T7(y:d.length<=1000)(A:1000<n):CS n d=some (oS d):=by
 unfold CS;refine ab.eq (ab.loop (λx:Int=> ∃i:Nat,x=i/\i<=d.length/\ ∀j,j<i->d.getD j 0=0) (λx=>d.length-x.toNat) ?_ n _ ⟨0,rfl,O,λj a=>bB a (q5 _)⟩ O);rintro h z ⟨i,rfl,B,m⟩ q;have o: ∀j (a:j<d.length),j<i->d[j]=0:=λj a c=>by
  have:=m j c
  rwa [ew,bs a] at this
 refine aQ (λe=>?_) λr=>ab.some ?_
 ·have e:i<d.length:=O
  have p:=bs e;refine ag (bk p) (eS (λk=>ab.some ?_) λs=>?_)
  ·have:k4 d=some i:=by
    unfold k4;rw[IU];exact⟨e,by simp[k],λj a=>by simp[o j O a]⟩
   unfold oS;rw[this]
  rw[be O];refine q _ ⟨i+1,O,O,λj a=>?_⟩ O;by_cases c:j=i
  ·subst c;rw[ew,p];exact s
  exact m j O
 have:k4 d=none:=by
  unfold k4;rw[List.findIdx?_eq_none_iff];intro x w;obtain⟨j,a⟩:=kc.1 w;obtain⟨l,rfl⟩:=bS.1 a;simp[o j l O]
 unfold oS;rw[this]
theorem Lr(i:d.length<=1000)(k:1000<n):vX n d=some (gV d):=by
 unfold vX;refine ab.eq (ag (T7 i k) (ab.aA (λz:Bool=>z=gV d) (λj c=>?_) λz l=>ab.some l));unfold oS gV at*;cases a:k4 d with
 |none=>
  rw[a] at c;exact aQ (λ_=>c _ rfl) (λh=>bB (show(-1:Int)<0 by omega) h)
 |some t=>
  rw[a] at c;obtain⟨m,o⟩:=NX a;have e:=bs m;have p:d.getD t 0=d[t]:=by rw[ew,e];rfl
  refine aQ (λh=>bB h (show¬(t:Int)<0 by omega)) λ_=>ag (bk e) (c _ ?_);exact decide_eq_decide.2 ⟨λh=>O,λh=>O⟩
def mF(k:Nat)(a:ay):ay:=⟨(a.aT.set k (a.aT.getD (k+1) 0)).set (k+1) (a.aT.getD k 0),a.const⟩
def pA(k:Nat)(d:List Int):List Int:=(d.set k (d.getD (k+1) 0)).set (k+1) (d.getD k 0)
theorem Nh(k:Nat)(d:List Int):(pA k d).length=d.length:=by simp[pA]
theorem NY: ∀x,cR x=true->dp 4 (mF k x):=λx a=>by have:=(fM a).1;unfold dp mF;simp;omega
theorem gE{l:List R}(h:k<l.length)(z:R):l[k]? =some (l.getD k z):=by rw[ew,bs h];rfl
theorem Nf{h:Type}{l:List h}(a:k+1<l.length)(m:l.length<=1000000)(z:h){K:List h->Option R}(d:ab (K ((l.set k (l.getD (k+1) z)).set (k+1) (l.getD k z))) Q):
  ab (Option.bind (au l (wr ((k:Int)+1))) λe=>Option.bind (au l (k:Int)) λi=>Option.bind (b' l (k:Int) e) λc=>Option.bind (au c (wr ((k:Int)+1))) λo=>Option.bind (b' c (wr ((k:Int)+1)) i) K) Q:=by rw[be (n:=(k:Int)+1) O,show(k:Int)+1=((k+1:Nat):Int) by omega];refine ag (bk (gE a z)) (ag (bk (gE O z)) (ag (dJ O _) ?_));rw[c3];refine ag (bk (gE (l:=l.set k (l.getD (k+1) z)) (k:=k+1) (by simpa using a) z)) (ag (dJ (by rw[eV];omega) _) ?_);rw[c3];exact d
theorem YC(a:k+1<d.length)(c:d.length<=1000):uE n d (k:Int)=some (pA k d):=by unfold uE;exact ab.eq (Nf a O 0 (ab.some rfl))
theorem YB(n:Nat)(c:k+1<4): ∀x,cR x=true->uD n x (k:Int)=some (mF k x):=λx a=>by have d:=(fM a).1;unfold uD;refine ab.eq (ag (zq n x a) (Nf O O 0 (ab.some rfl)))
theorem ZW(n:Nat)(d:k+1<4): ∀x,cR x=true->jv n x 0 (k:Int) ⟨[],0⟩=some (mF k x):=λx a=>by have e:=(fM a).1;unfold jv;refine ab.eq (aQ (λ_=>ag (x:=mF k x) ?_ (ab.some rfl)) λh=>bB rfl h);unfold E8;have c:qg n x=some x:=y3 n O;rw[be (n:=(k:Int)+1) O,show(k:Int)+1=((k+1:Nat):Int) by omega];refine ab.eq (ag c (ag (bk (gE O 0)) (ag (bk (gE O 0)) (ag (dJ O _) (ag (bk (gE O 0)) ?_)))));rw[c3];refine ag (bk (gE (l:=x.aT.set k (x.aT.getD (k+1) 0)) (k:=k+1) bQ 0)) (ag (dJ (by rw[eV];omega) _) ?_);rw[c3];exact ab.some rfl
def mT(k:Nat)(a:ay):Bool:= !decide (a.aT.getD k 0=0)
def tH(l:Loop)(k:Nat):Bool:=l.bf.any (mT k)||l.aI.any (mT k)
theorem UW(p:5000<=n)(e:kl l)(q:k<4):Dt n l (k:Int)=some (tH l k):=by
 obtain⟨⟨r,i⟩,s,m⟩:=e;have c: ∀x,cR x=true->ql n x (k:Int)=some (mT k x):=λx a=>by
  have:=(fM a).1;unfold ql;exact ab.eq (ag (bk (gE O 0)) (ab.some rfl))
 unfold Dt tH;refine ab.eq (ab.aA (λz=>z=(l.bf.any (mT k)||l.aI.any (mT k))) (λj d=>?_) λz o=>ab.some o);refine ag (xO (λx a=>c x (i x a)) O O) (ab.cond (λh=>d _ (by rw[h];rfl)) λh=>ag (xO (λx a=>c x (m x a)) O O) (d _ (by rw[h];rfl)))
theorem MV{k:Type}{f:k->Bool}{l:List k}{x:k}(h:l[i]? =some x):(l.take (i+1)).any f=((l.take i).any f||f x):=by rw[ek,h,s6];simp
theorem Uf(y:5000<=n)(q:kl l)(A:k<4):zO n l (k:Int)=some (tH l k):=by
 obtain⟨⟨B,r⟩,C,s⟩:=q;unfold zO tH;refine ab.eq (ab.loop (λx:Int=> ∃i:Nat,x=i/\i<=l.bf.length/\(l.bf.take i).any (mT k)=false) (λx=>l.bf.length-x.toNat) ?_ n _ ⟨0,rfl,O,rfl⟩ O);rintro c z ⟨i,rfl,w,d⟩ m;refine aQ (λa=>?_) λo=>?_
 ·have a:i<l.bf.length:=O
  have h:=bs a
  have:=(fM (r _ (fz a))).1;refine ag (bk h) (ag (bk (gE O 0)) (eS (λe=>ab.some ?_) λp=>?_))
  ·rw[ij.2 ⟨_,fz a,by unfold mT;simpa using e⟩];rfl
  rw[be O];exact m _ ⟨i+1,O,O,by rw[MV h,d];unfold mT;simpa using p⟩ O
 have:i=l.bf.length:=O
 subst this;rw[c6] at d;rw[d,Bool.false_or];clear m;refine ab.loop (λx:Int=> ∃i:Nat,x=i/\i<=l.aI.length/\(l.aI.take i).any (mT k)=false) (λx=>l.aI.length-x.toNat) ?_ n _ ⟨0,rfl,O,rfl⟩ O;rintro c z ⟨i,rfl,w,d⟩ m;refine aQ (λa=>?_) λo=>ab.some ?_
 ·have a:i<l.aI.length:=O
  have h:=bs a
  have:=(fM (s _ (fz a))).1;refine ag (bk h) (ag (bk (gE O 0)) (eS (λe=>ab.some ?_) λp=>?_))
  ·rw[ij.2 ⟨_,fz a,by unfold mT;simpa using e⟩]
  rw[be O];exact m _ ⟨i+1,O,O,by rw[MV h,d];unfold mT;simpa using p⟩ O
 have:i=l.aI.length:=O
 subst this;rw[c6] at d;exact d.symm
def jH(k:Nat)(l:List Loop):List Loop:=(l.set k (l.getD (k+1) ⟨[],[]⟩)).set (k+1) (l.getD k ⟨[],[]⟩)
theorem wq(k:Nat)(l:List Loop):(jH k l).length=l.length:=by simp[jH]
def vg(k:Nat)(P:Part):Part:=⟨(jH k P.nest).take (k+2)++((jH k P.nest).drop (k+2)).map (d8 (mF k)),P.body.map (iq (mF k))⟩
def p7(p:Prog)(i k:Nat)(P:Part):Bool:= !tH (P.nest.getD (k+1) ⟨[],[]⟩) k&&(iX p i).all λd=>gV (pA k d)
def nG(p:Prog)(a c:Int):Prog×Bool:=
 if cT p a c=true/\cT p a (c+1)=true then
  match au p.parts a with
  |some P=>if p7 p a.toNat c.toNat P=true then hE ⟨p.aR,p.parts.set a.toNat (vg c.toNat P)⟩ else ea
  |none=>ea
 else ea
theorem FU{l:List Loop}(c:k+1<l.length){y:Loop}(a:y∈jH k l):y∈l:=by
 unfold jH at a;rcases q7 a with h|h
 ·rcases q7 h with h|h
  ·exact h
  rw[h];exact bE (gE c _)
 rw[h];exact bE (gE O _)
theorem Ox(c:ep r P=true)(e:k+1<P.nest.length):fx 4 (vg k P):=by
 obtain⟨n,h⟩:=hZ c;obtain⟨_,i,l,_⟩:=gk c;refine⟨⟨by simp only[vg,List.length_append,List.length_map,List.length_take,List.length_drop,wq];omega,λy a=>?_⟩,by simp only[vg,List.length_map];exact i.2,λs m=>?_⟩
 ·rcases dZ.1 a with a|a
  ·exact(tG c).1.2 y (FU e (ga a))
  obtain⟨z,d,rfl⟩:=eM.1 a;exact wC NY (h z (FU e (e7 d)))
 obtain⟨z,d,rfl⟩:=eM.1 m;exact A7 NY (l z d)
theorem NO(c:p.parts[i]? =some P)(h:cT p (i:Int) ((k:Int)+1)=true):k+1<P.nest.length:=by
 obtain⟨_,d,e,l,m,n,o,a,_,_,q,_⟩:=j4 h
 have:d=i:=O
 subst this;rw[c] at a;cases a;omega
theorem M8(a:cT p (i:Int) (k:Int)=true)(c:cT p (i:Int) ((k:Int)+1)=true)(d:p.parts[i]? =some P):nG p i k=if p7 p i k P=true then hE ⟨p.aR,p.parts.set i (vg k P)⟩ else ea:=by unfold nG;rw[a1 ⟨a,c⟩,bk d];simp only[Int.toNat_natCast]
theorem aec(I:20000<=n)(x:c9 1000 p)(a c:Int):CE n p a c=some (nG p a c):=by
 unfold CE;by_cases e:c= -1
 ·subst e;unfold nG;rw[a6 λh=>by rw[qP O] at h;cases h.1];exact ab.eq (cc (zF O x a) λY K=>ab.cond (λ_=>aQ (λ_=>ab.some rfl) λh=>bB (show(-1:Int)<0 by omega) h) λ_=>ab.some rfl)
 refine ab.eq (ag (wj O x a c e) ?_);by_cases m:cT p a c=true
 ·rw[a1 m];refine bR (aQ (λh=>by rw[qP h] at m;cases m) λb=>?_);obtain⟨z,i,k,P,l,rfl,rfl,o,g,j,L,q,t⟩:=j4 m;obtain⟨K,G⟩:=hZ q;obtain⟨_,Q,R,_⟩:=gk q;refine ag (bk o) ?_;rw[be (n:=(k:Int)+1) O,be (n:=(k:Int)+2) O];refine aQ (λU=>ab.some ?_) λW=>?_
  ·unfold nG;rw[a6 λh=>by have:=NO o h.2;omega];rfl
  have r:k+1<P.nest.length:=O
  have A:cT p (i:Int) ((k:Int)+1)=true:=by
   unfold cT;rw[z,bk o];exact bA O
  rw[M8 m A o];have H:=gE r (⟨[],[]⟩:Loop);rw[show(k:Int)+1=((k+1:Nat):Int) by omega];refine ag (bk H) (ag (UW O (G _ (bE H)) O) (ab.cond (λB=>ab.some ?_) λB=>?_))
  ·rw[a6 (by unfold p7;rw[B];simp)];rfl
  refine ag (KK I x.sm z o (F:=λC=>uE n C (k:Int)) (f:=pA k) (λd w=>YC (by have:=(sY z o w).1;omega) (by have:=(sY z o w).1;omega)) (Nh k)) (ab.cond (λw=>?_) λw=>ab.some ?_)
  ·rw[a1 (by unfold p7;rw[B,w];rfl)];refine ag (bk (gE O (⟨[],[]⟩:Loop))) (ag (dJ O _) (ag (dJ (by rw[eV];omega) _) (ag (dJ Z _) ?_)));rw[c3,c3,c3];have D:=xU (n:=n) O (nest:=jH k P.nest) (body:=P.body) (s:=k+2) (by rw[wq];omega) (by rw[wq];omega) (λy X=>G y (FU r (e7 X))) Q.2 R (F:=λC=>uD n C (k:Int)) (YB n O);rw[show(k:Int)+2=((k+2:Nat):Int) by omega];refine ag D (ag (dJ bQ _) ?_);rw[c3,List.set_set];exact ag (qE O (wS x i (Ox q r))) (ab.some rfl)
  rw[a6 (by unfold p7;rw[w];simp)];rfl
 unfold nG;rw[a6 m,a6 λh=>m h.1];exact b5 (ab.some rfl)
theorem Ng{a b:List Loop}(c:k+1<a.length):jH k (a++b)=jH k a++b:=by
 have d:(a++b).getD (k+1) ⟨[],[]⟩=a.getD (k+1) ⟨[],[]⟩:=by rw[ew,ew,gL c]
 have e:(a++b).getD k ⟨[],[]⟩=a.getD k ⟨[],[]⟩:=by rw[ew,ew,gL O]
 unfold jH;rw[d,e,List.set_append_left _ _ O,List.set_append_left _ _ (by rw[eV];exact c)]
theorem XD{l:List Loop}(c:k+1<l.length):jH k (l.take (k+2))=(jH k l).take (k+2):=by have h:=Ng (k:=k) (a:=l.take (k+2)) (b:=l.drop (k+2)) (by rw[cL];omega);rw[vr] at h;rw[h,pE (by rw[wq,cL];omega)];exact(ji (by rw[wq,cL];omega)).symm
theorem XE{l:List Loop}:(jH k l).drop (k+2)=l.drop (k+2):=by unfold jH;rw[pK O,pK O]
theorem aaL(a:k+1<P.nest.length)(r:List Loop):jH k (P.nest.take (k+2)++r)=(jH k P.nest).take (k+2)++r:=by rw[Ng (by rw[cL];omega),XD a]
theorem afv(N:20000<=n)(q:c9 1000 p)(a c:Int):CA n p a c=some (nG p a c):=by
 unfold CA;by_cases F:cT p a c=true;rotate_left
 ·unfold nG;rw[a6 λh=>F h.1];refine ab.eq (ag (kB O q) (ab.aA (λz=>z=true) (λj H=>ag (mB O q a c) (ab.cond (λ_=>H _ rfl) λh=>bB (by simpa using h) F)) λz I=>by rw[I];exact bR (ab.some rfl)))
 obtain⟨U,i,k,P,l,rfl,rfl,K,cD,S,T,y,hk⟩:=j4 F;obtain⟨V,u⟩:=hZ y;obtain⟨_,h4,h5,_⟩:=gk y;rw[be (n:=(k:Int)+1) O];by_cases e:cT p (i:Int) ((k:Int)+1)=true;rotate_left
 ·unfold nG;rw[a6 λh=>e h.2];refine ab.eq (ag (kB O q) (ab.aA (λz=>z=true) (λj H=>ag (mB O q _ _) (ab.cond (λh=>by rw[F] at h;cases h) λ_=>ag (mB O q _ _) (ab.cond (λ_=>H _ rfl) λh=>bB (by simpa using h) e))) λz I=>by rw[I];exact bR (ab.some rfl)))
 rw[M8 F e K];have B:=NO K e;have E:=gE B (⟨[],[]⟩:Loop);refine ab.eq (ag (kB O q) (ab.aA (λz=>z=tH (P.nest.getD (k+1) ⟨[],[]⟩) k) (λj H=>?_) λz I=>?_))
 ·refine ag (mB O q _ _) (ab.cond (λh=>by rw[F] at h;cases h) λ_=>ag (mB O q _ _) (ab.cond (λh=>by rw[e] at h;cases h) λ_=>ag (bk K) ?_));rw[show(k:Int)+1=((k+1:Nat):Int) by omega];exact ag (bk E) (ag (Uf O (u _ (bE E)) O) (H _ rfl))
 subst I;refine ab.cond (λW=>ab.some ?_) λW=>?_
 ·rw[a6 (by unfold p7;rw[W];simp)];rfl
 refine ag (x:=iX p i) (Kt N q.sm U _) ?_;have L:=Gi U (i:=i);have Q:=λd G=>(sY U K (d:=d) G).1;have X:p7 p i k P=(iX p i).all (λd=>gV (pA k d)):=by unfold p7;rw[W];rfl
 rw[X];generalize iX p i=D at L Q;refine ab.loop (λx:Int=> ∃m:Nat,x=m/\m<=D.length/\ ∀d∈D.take m,gV (pA k d)=true) (λx=>D.length-x.toNat) ?_ n _ ⟨0,rfl,O,λd G=>by simp at G⟩ O;rintro Y z ⟨m,rfl,hm,o⟩ b7;refine aQ (λC=>?_) λiD=>?_
 ·have C:m<D.length:=O
  have M:=bs C;have r:=fz C;have nj:=Q _ r;rw[show(k:Int)+1=((k+1:Nat):Int) by omega];refine ag (bk M) (ag (cY bQ) (ag (bk (gE O 0)) (ag (x:=D[m].getD k 0) (bk (gE (l:=D[m]) O 0)) (ag (dJ (by rw[s4];omega) _) (ag (bk (gE O 0)) ?_)))));rw[s4,c3];refine ag (bk (gE (l:=D[m].set k (D[m].getD (k+1) 0)) (k:=k+1) bQ 0)) (ag (dJ (by rw[eV];omega) _) ?_);rw[c3];refine ag (x:=gV (pA k D[m])) (Lr (d:=pA k D[m]) (by rw[Nh];omega) O) (ab.cond (λh=>ab.some ?_) λh=>?_)
  ·rw[a6 λR=>?_]
   ·rfl
   have:=fy.1 R _ r;rw[this] at h;cases h
  rw[be O];refine b7 _ ⟨m+1,O,O,λd G=>?_⟩ O;rw[ek,M] at G;rcases dZ.1 G with g|g
  ·exact o d g
  have:d=D[m]:=by simpa using g
  subst this;simpa using h
 have:m=D.length:=O
 subst this;rw[c6] at o;rw[a1 (fy.2 o)];have t:=DO (n:=n) O (x:=P) (s:=k+1) O V u h4.2 h5 (way:=0) (v:=(k:Int)) (b:=⟨[],0⟩) (f:=mF k) λn _ x hx=>ZW n O x hx;rw[show(k:Int)+1=((k+1:Nat):Int) by omega];refine ag (bk K) (ag t ?_);have qn:(P.nest.take (k+2)++(P.nest.drop (k+2)).map (d8 (mF k))).length=P.nest.length:=by rw[dD,c5,cL,fq];omega
 have w:=aaL B ((P.nest.drop (k+2)).map (d8 (mF k)));rw[show k+1+1=k+2 by omega];dsimp only;generalize P.nest.take (k+2)++(P.nest.drop (k+2)).map (d8 (mF k))=A at qn w;refine ag (bk (gE O (⟨[],[]⟩:Loop))) (ag (bk (gE O (⟨[],[]⟩:Loop))) (ag (dJ O _) ?_));rw[c3];refine ag (bk (gE (l:=A.set k (A.getD (k+1) ⟨[],[]⟩)) (k:=k+1) (by rw[eV];omega) (⟨[],[]⟩:Loop))) (ag (dJ (by rw[eV];omega) _) ?_);rw[c3];have ni:(⟨(A.set k (A.getD (k+1) ⟨[],[]⟩)).set (k+1) (A.getD k ⟨[],[]⟩),P.body.map (iq (mF k))⟩:Part)=vg k P:=by
  have:(A.set k (A.getD (k+1) ⟨[],[]⟩)).set (k+1) (A.getD k ⟨[],[]⟩)=jH k A:=rfl;rw[this,w,<-XE];rfl
 rw[ni];exact ag (wo O q S ((Ox y B).mono O)) (ab.some rfl)
def Ch(i:Nat)(a:List Int->List Int)(x:cx):cx:=if x.part=(i:Int) then⟨x.part,x.stmt,a x.cK⟩ else x
structure afO (p q:Prog) (i:Nat) (oK:List Int->List Int):Prop where
 arr:q.aR=p.aR
 perm:(bz q.parts).Perm ((bz p.parts).map (Ch i oK))
 cells: ∀x∈bz p.parts,rc q (Ch i oK x)=rc p x/\dd q (Ch i oK x)=dd p x
 run: ∀x∈bz p.parts,∀m,iL q m (Ch i oK x)=iL p m x
structure Kept (p:Prog) (i:Nat) (P:Part) (oK f:List Int->List Int):Prop where
 pos:(iX p i).all (λd=>gV (f d))=true
 afV: ∀a b:List Int,a.length=P.nest.length->b.length=P.nest.length->f (j7 b a)=j7 (oK b) (oK a)
 len: ∀a:List Int,a.length=P.nest.length->(oK a).length=P.nest.length
 inj: ∀a b:List Int,a.length=P.nest.length->b.length=P.nest.length->oK a=oK b->a=b
def mU(k:Nat)(c:Int):ay:=⟨[0,0,0,0].set k (-1),c⟩
def p'(k:Nat)(c:Int)(x:ay):ay:=tX x k (mU k c)
def lq(k:Nat)(d:List Int):List Int:=d.set k (0-d.getD k 0)
def mS(l:Loop):Int:=de l.bf+de l.aI-1
def w1(k:Nat)(c:Int)(P:Part):Part:=⟨P.nest.take (k+1)++(P.nest.drop (k+1)).map (d8 (p' k c)),P.body.map (iq (p' k c))⟩
def rE(p:Prog)(i k:Nat)(l:Loop):Bool:=eK l&&(iX p i).all λd=>gV (lq k d)
def po(p:Prog)(a c:Int):Prog×Bool:=
 if cT p a c=true then
  match au p.parts a with
  |some P=>match au P.nest c with
   |some l=>if rE p a.toNat c.toNat l=true then hE ⟨p.aR,p.parts.set a.toNat (w1 c.toNat (mS l) P)⟩ else ea
   |none=>ea
  |none=>ea
 else ea
theorem Mg(k:Nat)(d:List Int):(lq k d).length=d.length:=by simp[lq]
theorem M2(h:cT p (i:Int) (k:Int)=true)(a:p.parts[i]? =some P)(c:P.nest[k]? =some l):po p i k=if rE p i k l=true then hE ⟨p.aR,p.parts.set i (w1 k (mS l) P)⟩ else ea:=by unfold po;rw[a1 h,bk a];dsimp only;rw[bk c];simp only[Int.toNat_natCast]
theorem M3(d:k<4)(a:cJ 999 c):fg 1000 (mU k c):=by unfold cJ at a;rcases(O:k=0\/k=1\/k=2\/k=3) with rfl|rfl|rfl|rfl<;>(unfold fg cJ mU;simp;omega)
theorem M4(k:Nat)(c:Int): ∀x,cR x=true->dp 4 (p' k c x):=λx a=>by have:=Oi ⟨x.aT.set k 0,x.const⟩ (mU k c) (x.aT.getD k 0) (by dsimp only;rw[eV];exact(fM a).1) (by simp[mU]);unfold dp p' tX;omega
theorem tB{l:List ay}(h: ∀x∈l,cR x=true):cJ 99 (de l):=by
 unfold de;cases l with
 |nil=>unfold cJ;simp
 |cons x t=>exact(fM (h x eU)).2.1
theorem Gm(h:kl l):cJ 999 (mS l):=by have a:=tB h.1.2;have c:=tB h.2.2;unfold cJ at*;unfold mS;omega
theorem Xq(n:Nat)(a:k<d.length)(c: ∀x∈d,cJ 99999 x):uC n d (k:Int)=some (lq k d):=by have e:=gE a (0:Int);have a':=c _ (bE e);unfold cJ at a';unfold uC;refine ab.eq (ag (bk e) ?_);rw[be O];refine ag (dJ O _) (ab.some ?_);rw[c3];rfl
theorem YX(n:Nat)(a:k<4):nh n (k:Int) (-1)=some ⟨[0,0,0,0].set k (-1),0⟩:=by rcases(O:k=0\/k=1\/k=2\/k=3) with rfl|rfl|rfl|rfl<;>rfl
theorem Xp(d:5000<=n)(a:k<4)(e:cJ 999 c): ∀x,cR x=true->uB n x (k:Int) (mU k c)=some (p' k c x):=λx h=>by unfold uB;rw[En d ((nx h).mono O) (M3 a e) a];rfl
theorem XL(a:k<4)(d:cJ 999 c): ∀n,5000<=n-> ∀x,cR x=true->jv n x 1 (k:Int) (mU k c)=some (p' k c x):=λn e x h=>by unfold jv;rw[KA e ((nx h).mono O) (M3 a d) a];rfl
theorem aaN(a:5000<=n)(d:k<4)(e:cJ 999 c):hY n ⟨[0,0,0,0],c⟩ 1 (gR k) (-1)=some (mU k c):=by unfold cJ at e;rw[sX a (by unfold fg cJ;simp;omega) ((th d).mono O) ⟨O,O⟩ ⟨O,O⟩];rcases(O:k=0\/k=1\/k=2\/k=3) with rfl|rfl|rfl|rfl<;>simp[nT,gR,mU]
theorem N1(d:ep r P=true)(n:k<P.nest.length)(c:Int):fx 4 (w1 k c P):=by
 obtain⟨o,h⟩:=hZ d;obtain⟨_,i,l,_⟩:=gk d;refine⟨⟨by simp only[w1,List.length_append,List.length_map,List.length_take,List.length_drop];omega,λy a=>?_⟩,by simp only[w1,List.length_map];exact i.2,λs m=>?_⟩
 ·rcases dZ.1 a with a|a
  ·exact(tG d).1.2 y (ga a)
  obtain⟨z,e,rfl⟩:=eM.1 a;exact wC (M4 k c) (h z (e7 e))
 obtain⟨z,e,rfl⟩:=eM.1 m;exact A7 (M4 k c) (l z e)
theorem ad7(W:20000<=n)(z:c9 1000 p)(a c:Int):CD n p a c=some (po p a c):=by
 unfold CD;by_cases m:c= -1
 ·subst m;unfold po;rw[a6 λh=>by rw[qP O] at h;cases h];exact ab.eq (cc (zF O z a) λj Q=>ab.cond (λ_=>aQ (λ_=>ab.some rfl) λh=>bB (show(-1:Int)<0 by omega) h) λ_=>ab.some rfl)
 refine ab.eq (ag (wj O z a c m) ?_);by_cases o:cT p a c=true
 ·rw[a1 o];refine bR (aQ (λh=>by rw[qP h] at o;cases o) λt=>?_);obtain⟨A,i,k,P,l,rfl,rfl,w,B,u,C,q,R⟩:=j4 o;obtain⟨Q,U⟩:=hZ q;obtain⟨_,X,Y,_⟩:=gk q;have e:=U l (bE B);rw[M2 o w B];refine ag (bk w) (ag (bk B) (ag (Fh O e) ?_));cases D:eK l with
  |false=>exact b5 (ab.some (by rw[a6 (by unfold rE;rw[D];simp)];rfl))
  |true=>
   refine bR (ag (KK W z.sm A w (F:=λG=>uC n G (k:Int)) (f:=lq k) (λd r=>Xq n (by have:=(sY A w r).1;omega) (sY A w r).2) (Mg k)) (ab.cond (λr=>?_) λr=>ab.some ?_))
   ·rw[show rE p i k l=true by unfold rE;rw[D,r];rfl];refine ag (YX n R) ?_;have bP:=Gm e;have H:=tB e.1.2;have I:=tB e.2.2;unfold cJ at H I;have K:(⟨([0,0,0,0]:List Int).set k (-1),wr ((wr (de l.bf+de l.aI))-1)⟩:ay)=mU k (mS l):=by
     rw[be (n:=de l.bf+de l.aI) O,be O];rfl
    rw[be (n:=(k:Int)+1) O];have L:=xU (n:=n) O (nest:=P.nest) (body:=P.body) (s:=k+1) O Q (λy b=>U y (e7 b)) X.2 Y (F:=λG=>uB n G (k:Int) (⟨([0,0,0,0]:List Int).set k (-1),wr ((wr (de l.bf+de l.aI))-1)⟩:ay)) (f:=p' k (mS l)) λx g=>by rw[K];exact Xp O R bP x g
    rw[show(k:Int)+1=((k+1:Nat):Int) by omega];refine ag L (ag (dJ Z _) ?_);rw[c3];exact ag (qE O (wS z i (N1 q C (mS l)))) (ab.some rfl)
   rw[a6 (by unfold rE;rw[D,r];simp)];rfl
 unfold po;rw[a6 o,a6 o];exact b5 (ab.some rfl)
theorem afp(E:20000<=n)(B:c9 1000 p)(c e:Int):Cz n p c e=some (po p c e):=by
 unfold Cz;refine ab.eq (ag (kB O B) (ag (mB O B c e) ?_));by_cases a':cT p c e=true;rotate_left
 ·unfold po;rw[a6 a',show cT p c e=false by simpa using a'];exact bR (ab.some rfl)
 rw[a'];refine b5 ?_;obtain⟨F,i,k,P,l,rfl,rfl,G,H,M,I,o,K⟩:=j4 a';obtain⟨N,g⟩:=hZ o;obtain⟨_,S,T,_⟩:=gk o;have h:=g l (bE H);rw[M2 a' G H];refine ag (bk G) (ag (bk H) (ag (EG O h) (ag (x:=iX p i) (Kt E B.sm F _) ?_)));have r:=Gi F (i:=i);have w:=λd V=>sY F G (d:=d) V;have L:rE p i k l=(eK l&&(iX p i).all λd=>gV (lq k d)):=rfl;rw[L];have h3:(if eK l=true then(de l.bf,de l.aI,true) else((0:Int),(0:Int),false)).2.2=eK l:=by cases eK l<;>rfl
 generalize iX p i=D at r w;refine ab.loop (λx:Bool×Int=> ∃m:Nat,x.2=m/\m<=D.length/\x.1=(eK l&&(D.take m).all λd=>gV (lq k d))) (λx=>D.length-x.2.toNat) ?_ n _ ⟨0,rfl,O,by dsimp only;rw[h3,List.take_zero];simp⟩ Z;rintro Q ⟨ok,z⟩ ⟨m,C,hm,a⟩ b7;dsimp only at C a⊢;subst C;refine aQ (λq=>?_) λiD=>?_
 ·have q:m<D.length:=O
  have t:=bs q;obtain⟨g1,g2⟩:=w _ (fz q);have u:=gE (l:=D[m]) (k:=k) O 0;have a':=g2 _ (bE u);unfold cJ at a';refine ab.aA (λz=>z.2=(eK l&&(D.take (m+1)).all λd=>gV (lq k d))) (λj R=>?_) λz C=>?_
  ·refine ag (bk t) (ag (cY bQ) ?_);rw[s4];refine ag (bk u) ?_;rw[be O];refine ag (dJ O _) ?_;rw[c3];have y:(D.take (m+1)).all (λd=>gV (lq k d))=((D.take m).all (λd=>gV (lq k d))&&gV (lq k D[m])):=by
    rw[ek,t,List.all_append];simp
   rw[y,<-lW,<-a] at R;cases ok with
   |true=>exact bR (ag (x:=gV (lq k D[m])) (Lr (d:=lq k D[m]) (by rw[Mg];omega) O) (R _ (by rw[fe])))
   |false=>exact b5 (R _ (by rw[Bool.false_and]))
  rw[be O];exact b7 _ ⟨m+1,Z,O,C⟩ Z
 have:m=D.length:=O
 subst this;rw[c6] at a;rw[<-a];cases A:ok with
 |false=>exact bR (ab.some (by rw[a6 aW];rfl))
 |true=>
  rw[a1 rfl];have U:eK l=true:=by
   rw[A] at a;cases U:eK l with
   |true=>rfl
   |false=>rw[U] at a;cases a
  have W:=tB h.1.2;have X:=tB h.2.2;unfold cJ at W X;have Y:wr ((wr ((if eK l=true then(de l.bf,de l.aI,true) else((0:Int),(0:Int),false)).1+(if eK l=true then(de l.bf,de l.aI,true) else((0:Int),(0:Int),false)).2.1))-1)=mS l:=by
   rw[a1 U];dsimp only;rw[be (n:=de l.bf+de l.aI) O,be O];rfl
  rw[Y];refine b5 (ag (gZ n _) (ag (zN n K) (ag (aaN O K (Gm h)) (ag (DO (n:=n) O (x:=P) (s:=k) O N g S.2 T (way:=1) (v:=(k:Int)) (b:=mU k (mS l)) (f:=p' k (mS l)) (XL K (Gm h))) ?_))));exact ag (wo O B M ((N1 o I (mS l)).mono O)) (ab.some rfl)
end
section
def mb(k:Int):Int:=if k=3\/k=4\/k=5 then 3 else if k=1\/k=2\/k=7\/k=8 then 2 else if k=6\/k=9\/k=10 then 1 else 0
def rr(s:Step):Bool:=decide (1<=s.kind/\s.kind<=11)&&((decide (0<mb s.kind)||decide (s.part=0))&&((decide (1<mb s.kind)||decide (s.a=0))&&(decide (2<mb s.kind)||decide (s.b=0))))
theorem OI(k:Int):0<=mb k/\mb k<=3:=by
 unfold mb;split
 ·omega
 split
 ·omega
 split<;>omega
theorem Kj(n:Nat)(k:Int):yd n k=some (mb k):=by
 unfold yd mb;refine ab.eq (ab.aA (λz=>z=decide (k=3\/k=4\/k=5)) (λj a=>aQ (λh=>a _ ?_) λh=>aQ (λc=>a _ ?_) λc=>a _ ?_) λz d=>?_)
 ·rw[e8];simp only[decide_eq_true_eq];omega
 ·rw[e8];simp only[decide_eq_true_eq];omega
 ·rw[e8];simp only[decide_eq_true_eq];omega
 subst d;by_cases e:k=3\/k=4\/k=5
 ·rw[a1 e,bA e];exact bR (ab.some rfl)
 rw[a6 e,bu e];refine b5 (ab.aA (λz=>z=decide (k=1\/k=2\/k=7\/k=8)) (λj a=>aQ (λh=>a _ ?_) λh=>aQ (λc=>a _ ?_) λc=>aQ (λm=>a _ ?_) λm=>a _ ?_) λz d=>?_)
 ·rw[e8];simp only[decide_eq_true_eq];omega
 ·rw[e8];simp only[decide_eq_true_eq];omega
 ·rw[e8];simp only[decide_eq_true_eq];omega
 ·rw[e8];simp only[decide_eq_true_eq];omega
 subst d;by_cases i:k=1\/k=2\/k=7\/k=8
 ·rw[a1 i,bA i];exact bR (ab.some rfl)
 rw[a6 i,bu i];refine b5 (ab.aA (λz=>z=decide (k=6\/k=9\/k=10)) (λj a=>aQ (λh=>a _ ?_) λh=>aQ (λc=>a _ ?_) λc=>a _ ?_) λz d=>?_)
 ·rw[e8];simp only[decide_eq_true_eq];omega
 ·rw[e8];simp only[decide_eq_true_eq];omega
 ·rw[e8];simp only[decide_eq_true_eq];omega
 subst d;by_cases l:k=6\/k=9\/k=10
 ·rw[a1 l,bA l];exact bR (ab.some rfl)
 rw[a6 l,bu l];exact b5 (ab.some rfl)
theorem UE(n:Nat)(k:Int):z1 n k=some (if 1<=k/\k<=11 then mb k else-1):=by
 unfold z1 mb;refine ab.eq (ab.aA (λz=>z=decide (k=1\/k=2\/k=7\/k=8)) (λj a=>aQ (λh=>a _ ?_) λh=>aQ (λc=>a _ ?_) λc=>aQ (λm=>a _ ?_) λm=>a _ ?_) λz d=>?_)
 ·rw[e8];simp only[decide_eq_true_eq];omega
 ·rw[e8];simp only[decide_eq_true_eq];omega
 ·rw[e8];simp only[decide_eq_true_eq];omega
 ·rw[e8];simp only[decide_eq_true_eq];omega
 subst d;by_cases e:k=1\/k=2\/k=7\/k=8
 ·rw[bA e,a1 O,a6 O,a1 e];exact bR (ab.some rfl)
 rw[bu e];refine b5 (ab.aA (λz=>z=decide (k=3\/k=4\/k=5)) (λj a=>aQ (λh=>a _ ?_) λh=>aQ (λc=>a _ ?_) λc=>a _ ?_) λz d=>?_)
 ·rw[e8];simp only[decide_eq_true_eq];omega
 ·rw[e8];simp only[decide_eq_true_eq];omega
 ·rw[e8];simp only[decide_eq_true_eq];omega
 subst d;by_cases i:k=3\/k=4\/k=5
 ·rw[bA i,a1 O,a1 i];exact bR (ab.some rfl)
 rw[bu i];refine b5 (ab.aA (λz=>z=decide (k=6\/k=9\/k=10)) (λj a=>aQ (λh=>a _ ?_) λh=>aQ (λc=>a _ ?_) λc=>a _ ?_) λz d=>?_)
 ·rw[e8];simp only[decide_eq_true_eq];omega
 ·rw[e8];simp only[decide_eq_true_eq];omega
 ·rw[e8];simp only[decide_eq_true_eq];omega
 subst d;by_cases l:k=6\/k=9\/k=10
 ·rw[bA l,a1 O,a6 i,a6 e,a1 l];exact bR (ab.some rfl)
 rw[bu l];refine b5 (aQ (λh=>ab.some ?_) λh=>ab.some ?_)
 ·rw[a1 O,a6 i,a6 e,a6 l]
 rw[a6 O]
theorem U5(n:Nat)(s:Step):DF n s=some (rr s):=by
 unfold DF rr;have B:=OI s.kind;refine ab.eq (ag (Kj n s.kind) ?_);generalize mb s.kind=f at*;refine ab.aA (λz=>z=(decide (1<=s.kind/\s.kind<=11)&&((decide (0<f)||decide (s.part=0))&&((decide (1<f)||decide (s.a=0))&&(decide (2<f)||decide (s.b=0)))))) (λj r=>?_) λz m=>ab.some m;have c: ∀z:Bool,(z=true↔((1<=s.kind/\s.kind<=11)/\(0<f\/s.part=0)/\(1<f\/s.a=0)/\(2<f\/s.b=0)))->ab (j z) (λx=>x=(decide (1<=s.kind/\s.kind<=11)&&((decide (0<f)||decide (s.part=0))&&((decide (1<f)||decide (s.a=0))&&(decide (2<f)||decide (s.b=0)))))):=λz m=>r z (by
  rw[e8,m];simp only[Bool.and_eq_true,Bool.or_eq_true,decide_eq_true_eq])
 have k:((1<=s.kind/\s.kind<=11)/\(0<f\/s.part=0)/\(1<f\/s.a=0)/\(2<f\/s.b=0))->ab (j true) _:=λh=>c true ⟨λ_=>h,λ_=>rfl⟩;have i: ¬((1<=s.kind/\s.kind<=11)/\(0<f\/s.part=0)/\(1<f\/s.a=0)/\(2<f\/s.b=0))->ab (j false) _:=λh=>c false ⟨λe=>(by cases e),λo=>bB o h⟩;have l:(1<=s.kind/\s.kind<=11)/\(0<f\/s.part=0)/\(1<f\/s.a=0)/\ ¬2<f->ab (j (decide (s.b=0))) _:=λh=>c _ (by rw[decide_eq_true_eq];exact⟨λe=>⟨h.1,h.2.1,h.2.2.1,.inr e⟩,λe=>e.2.2.2.resolve_left h.2.2.2⟩);refine aQ (λw=>aQ (λo=>aQ (λy=>aQ (λp=>aQ (λd=>k O) λd=>l O) λp=>aQ (λq=>aQ (λd=>k O) λd=>l O) λq=>i O) λy=>aQ (λA=>aQ (λp=>aQ (λd=>k O) λd=>l O) λp=>aQ (λq=>aQ (λd=>k O) λd=>l O) λq=>i O) λA=>i O) λo=>i O) λw=>i O
variable {n:Nat}{p:Prog}{s:Step}{R:Prog×Bool}{l:List Step}
theorem VE(i:10<=n)(s:Step):zv n s=some (rr s):=by
 unfold zv rr;have k:=OI s.kind;refine ab.eq (ag (UE n s.kind) ?_);generalize mb s.kind=f at*;refine ab.aA (λz=>z=(decide (1<=s.kind/\s.kind<=11)&&((decide (0<f)||decide (s.part=0))&&((decide (1<f)||decide (s.a=0))&&(decide (2<f)||decide (s.b=0)))))) (λj c=>?_) λz e=>ab.some e;by_cases d:1<=s.kind/\s.kind<=11
 ·rw[a1 d];rw[bA d] at c⊢;refine aQ (λ_=>ag (show D4 n s=some [s.part,s.a,s.b] from rfl) (ag (hG O bQ aW) (ag (CZ (p:=λv=> !decide (v=0)) (λx _=>rfl) bQ bQ) (c _ ?_)))) λh=>bB h O;rw[show([s.part,s.a,s.b].length:Int).toNat=[s.part,s.a,s.b].length from rfl,c6];rcases(O:f=0\/f=1\/f=2\/f=3) with rfl|rfl|rfl|rfl
  ·simp[show(0:Int).toNat=0 from rfl]
  ·simp[show(1:Int).toNat=1 from rfl]
  ·simp[show(2:Int).toNat=2 from rfl]
  simp[show(3:Int).toNat=3 from rfl]
 rw[a6 d];rw[bu d] at c⊢;exact aQ (λh=>bB h (by decide)) λ_=>c _ rfl
noncomputable def mO(p:Prog)(s:Step):Prog×Bool:=
 if rr s=true then
  (if s.kind=1 then nG p s.part s.a else if s.kind=2 then po p s.part s.a else if s.kind=3 then vf p s.part s.a s.b else if s.kind=4 then ve p s.part s.a s.b
   else if s.kind=5 then q0 p s.part s.a s.b else if s.kind=6 then uk p s.part else if s.kind=7 then uh p s.part s.a else if s.kind=8 then qZ p s.part s.a
   else if s.kind=9 then q1 p s.part else if s.kind=10 then tO p s.part else p3 p)
 else ea
def lZ(s:Step):Prop:= -1<=s.part/\s.part<=9
theorem LC(c:20000<=n)(a:c9 1000 p)(d:lZ s):yg n p s=some (mO p s):=by
 unfold yg mO;refine ab.eq (ag (VE O s) ?_);cases e:rr s with
 |false=>exact bR (ab.some rfl)
 |true=>
  rw[a1 rfl];refine b5 (aQ (λh=>?_) λh=>?_)
  ·rw[a1 h];exact ag (aec c a _ _) (ab.some rfl)
  rw[a6 h];refine aQ (λh=>?_) λh=>?_
  ·rw[a1 h];exact ag (ad7 c a _ _) (ab.some rfl)
  rw[a6 h];refine aQ (λh=>?_) λh=>?_
  ·rw[a1 h];exact ag (ad9 O a _ _ _) (ab.some rfl)
  rw[a6 h];refine aQ (λh=>?_) λh=>?_
  ·rw[a1 h];exact ag (ad8 O a _ _ _) (ab.some rfl)
  rw[a6 h];refine aQ (λh=>?_) λh=>?_
  ·rw[a1 h];exact ag (aea O a _ _ _) (ab.some rfl)
  rw[a6 h];refine aQ (λh=>?_) λh=>?_
  ·rw[a1 h];exact ag (ad6 c a d) (ab.some rfl)
  rw[a6 h];refine aQ (λh=>?_) λh=>?_
  ·rw[a1 h];exact ag (ad5 c a d) (ab.some rfl)
  rw[a6 h];refine aQ (λh=>?_) λh=>?_
  ·rw[a1 h];exact ag (ad' c a _ _) (ab.some rfl)
  rw[a6 h];refine aQ (λh=>?_) λh=>?_
  ·rw[a1 h];exact ag (aeb O a d) (ab.some rfl)
  rw[a6 h];refine aQ (λh=>?_) λh=>?_
  ·rw[a1 h];exact ag (Xv O a d) (ab.some rfl)
  rw[a6 h];exact ag (Ra O a) (ab.some rfl)
theorem Lt(c:20000<=n)(a:c9 1000 p)(d:lZ s):ye n p s=some (mO p s):=by
 unfold ye mO;refine ab.eq (ag (kB O a) (ag (U5 n s) ?_));cases e:rr s with
 |false=>exact bR (ab.some rfl)
 |true=>
  rw[a1 rfl];refine b5 (aQ (λh=>?_) λh=>?_)
  ·rw[a1 h];exact ag (afv c a _ _) (ab.some rfl)
  rw[a6 h];refine aQ (λh=>?_) λh=>?_
  ·rw[a1 h];exact ag (afp c a _ _) (ab.some rfl)
  rw[a6 h];refine aQ (λh=>?_) λh=>?_
  ·rw[a1 h];exact ag (afr O a _ _ _) (ab.some rfl)
  rw[a6 h];refine aQ (λh=>?_) λh=>?_
  ·rw[a1 h];exact ag (afq O a _ _ _) (ab.some rfl)
  rw[a6 h];refine aQ (λh=>?_) λh=>?_
  ·rw[a1 h];exact ag (aft O a _ _ _) (ab.some rfl)
  rw[a6 h];refine aQ (λh=>?_) λh=>?_
  ·rw[a1 h];exact ag (afo c a d) (ab.some rfl)
  rw[a6 h];refine aQ (λh=>?_) λh=>?_
  ·rw[a1 h];exact ag (afn c a d) (ab.some rfl)
  rw[a6 h];refine aQ (λh=>?_) λh=>?_
  ·rw[a1 h];exact ag (afs c a _ _) (ab.some rfl)
  rw[a6 h];refine aQ (λh=>?_) λh=>?_
  ·rw[a1 h];exact ag (afu O a d) (ab.some rfl)
  rw[a6 h];refine aQ (λh=>?_) λh=>?_
  ·rw[a1 h];exact ag (WB O a d) (ab.some rfl)
  rw[a6 h];exact ag (R1 O a) (ab.some rfl)
def l7(R:Prog×Bool):Prop:=(R.2=true/\b2 R.1=true)\/R=ea
theorem fC:l7 ea:= .inr rfl
theorem sN(q:Prog):l7 (hE q):=by
 unfold hE;split
 ·rename_i h;exact .inl ⟨rfl,h⟩
 exact .inr rfl
theorem l7.Bw(h:l7 R):c9 1000 R.1:=by
 rcases h with h|h
 ·exact(kR h.2).mono O
 rw[h];exact ae4
theorem l7.v(h:l7 R)(a:R.2=true):b2 R.1=true:=by
 rcases h with h|h
 ·exact h.2
 rw[h] at a;cases a
theorem afQ(h:l7 R)(a:R.2=false):R=ea:=by
 rcases h with h|h
 ·rw[a] at h;cases h.1
 exact h
theorem KX(p:Prog)(a c:Int)(g f:ay->ay):l7 (uX p a c g f):=by
 unfold uX;split
 ·split
  ·exact sN _
  exact fC
 exact fC
theorem za(p:Prog)(s:Step):l7 (mO p s):=by
 unfold mO;split
 ·split
  ·unfold nG;split
   ·split
    ·split
     ·exact sN _
     exact fC
    exact fC
   exact fC
  split
  ·unfold po;split
   ·split
    ·split
     ·split
      ·exact sN _
      exact fC
     exact fC
    exact fC
   exact fC
  split
  ·unfold vf;split
   ·exact KX _ _ _ _ _
   exact fC
  split
  ·unfold ve;split
   ·exact KX _ _ _ _ _
   exact fC
  split
  ·unfold q0;split
   ·split
    ·split
     ·exact sN _
     exact fC
    exact fC
   exact fC
  split
  ·unfold uk;split
   ·split
    ·split
     ·exact sN _
     exact fC
    exact fC
   exact fC
  split
  ·unfold uh;split
   ·split
    ·split
     ·exact sN _
     exact fC
    exact fC
   exact fC
  split
  ·unfold qZ;split
   ·split
    ·split
     ·exact sN _
     exact fC
    exact fC
   exact fC
  split
  ·by_cases h:j1 p s.part (s.part+1)=true
   ·obtain⟨i,d,k,e,a,c,_⟩:=H3 h;rw[e] at h⊢;rw[IH h a c];exact .inl ⟨rfl,II (uI h).1 a c⟩
   unfold q1;rw[a6 h];exact fC
  split
  ·unfold tO;split
   ·rename_i h;simp only[Bool.and_eq_true] at h;exact .inl ⟨rfl,Gj h.1 _⟩
   exact fC
  unfold p3;split
  ·rename_i h;exact .inl ⟨rfl,ZG h⟩
  exact fC
 exact fC
noncomputable def oR:List Step->Prog->Prog×Bool
 | [],q=>(q,true)
 |s::l,q=>if(mO q s).2=true then oR l (mO q s).1 else ea
noncomputable def pS(p:Prog)(l:List Step):Prog×Bool:=if b2 p=true/\l.length<=12 then oR l p else ea
theorem LS: ∀{l:List Step} {q:Prog},b2 q=true->l7 (oR l q)
 | [],q,h=> .inl ⟨rfl,h⟩
 |s::l,q,h=>by
  simp only[oR];split
  ·rename_i a;exact LS ((za q s).v a)
  exact fC
theorem UX(p:Prog)(l:List Step):l7 (pS p l):=by
 unfold pS;split
 ·rename_i h;exact LS h.1
 exact fC
theorem OG(H:20000<=n){f:Prog->Step->Option (Prog×Bool)}(A: ∀p s,c9 1000 p->lZ s->f p s=some (mO p s))(I:l.length<=12)(B: ∀s∈l,lZ s)(C:b2 p=true):
  bo (λc ((q,r,k):(List cg)×(List Part)×Int)=>
    bif decide (k<(l.length:Int)) then(
     Option.bind (au l k) λD=>
     Option.bind (f (⟨q,r⟩:Prog) D) λe=>
     bif !e.2 then(
      some ((⟨[],[]⟩:Prog),false)
     ) else(
      c (e.1.aR,e.1.parts,wr (k+1))
     )
    ) else(
     some ((⟨q,r⟩:Prog),true)
    )
   ) n (p.aR,p.parts,0)=some (oR l p):=by
 refine ab.eq (ab.loop (λx:List cg×List Part×Int=> ∃j:Nat,x.2.2=j/\j<=l.length/\b2 ⟨x.1,x.2.1⟩=true/\oR (l.drop j) ⟨x.1,x.2.1⟩=oR l p) (λx=>l.length-x.2.2.toNat) ?_ n _ ⟨0,rfl,O,C,rfl⟩ Z);rintro m ⟨a,w,z⟩ ⟨j,rfl,K,y,d⟩ F;dsimp only at y d⊢;refine aQ (λh=>?_) λG=>ab.some ?_
 ·have h:j<l.length:=O
  have i:=bs h;generalize l[j]=s at i;rw[jW i] at d;simp only[oR] at d;have bN:=za ⟨a,w⟩ s;refine ag (bk i) (ag (A _ s ((kR y).mono O) (B s (bE i))) ?_);cases o:(mO ⟨a,w⟩ s).2 with
  |false=>
   rw[o,a6 aW] at d;exact bR (ab.some d)
  |true=>
   rw[o,a1 rfl] at d;rw[be O];exact b5 (F _ ⟨j+1,Z,O,bN.v o,d⟩ Z)
 rw[show j=l.length by omega,nz] at d;exact d
theorem KN(d:20000<=n)(a:c9 1000 p)(m:l.length<=1000)(c: ∀s∈l,lZ s):x7 n p l=some (pS p l):=by
 unfold x7 pS;refine ab.eq (ab.aA (λz=>z= !decide (b2 p=true/\l.length<=12)) (λj e=>ag (r0 O a.sm) (ab.cond (λh=>e _ ?_) λh=>e _ ?_)) λz i=>?_)
 ·rw[bu λk=>by rw[k.1] at h;cases h];rfl
 ·have h:b2 p=true:=by simpa using h
  rw[e8];simp only[Bool.not_eq_true',decide_eq_true_eq,decide_eq_false_iff_not,h,true_and];omega
 subst i;by_cases h:b2 p=true/\l.length<=12
 ·rw[a1 h,bA h];exact b5 (ag (qN O h.1) (ab.of (OG d (λp s a c=>LC d a c) h.2 c h.1) rfl))
 rw[a6 h,bu h];exact bR (ab.some rfl)
theorem U4(d:20000<=n)(a:c9 1000 p)(m:l.length<=1000)(c: ∀s∈l,lZ s):CT n p l=some (pS p l):=by
 unfold CT pS;refine ab.eq (ag (kB O a) (ab.aA (λz=>z= !decide (b2 p=true/\l.length<=12)) (λj e=>ag (jR O a.sm) (ab.cond (λh=>e _ ?_) λh=>e _ ?_)) λz i=>?_))
 ·rw[bu λk=>by rw[k.1] at h;cases h];rfl
 ·have h:b2 p=true:=by simpa using h
  rw[e8];simp only[Bool.not_eq_true',decide_eq_true_eq,decide_eq_false_iff_not,h,true_and];omega
 subst i;by_cases h:b2 p=true/\l.length<=12
 ·rw[a1 h,bA h];exact b5 (ag (nb O a) (ab.of (OG d (λp s a c=>Lt d a c) h.2 c h.1) rfl))
 rw[a6 h,bu h];exact bR (ab.some rfl)
end
section
variable {k:Int}{r:cA}
theorem Nj(i:cN k r)(A:0<=k/\k<=1000000):ab (yN N r) (λx=>lZ x.1/\cN (k+10) x.2):=by
 unfold yN;refine cc (jd N i O) λB ⟨_,_,l⟩=>cc (gI N l O aW) λh ⟨m,n⟩=>cc (gI N n O aW) λC ⟨_,o⟩=>cc (gI N o O aW) λD ⟨_,p⟩=>ag (Kj N _) ?_;have q:0<=h.1/\h.1<=1:=by simp at m;omega
 refine ab.aA (λ_=>True) (λj a=>aQ (λ_=>a _ trivial) λ_=>a _ trivial) λF _=>?_;refine ab.aA (λ_=>True) (λj a=>aQ (λ_=>a _ trivial) λ_=>a _ trivial) λG _=>?_;refine ab.aA (λz=>0<=z/\z<=1) (λj a=>aQ (λ_=>a _ ⟨O,O⟩) λ_=>a _ q) λs H=>?_;exact ab.aA (λz:List UInt8×Int×Int=>cN (k+10) ⟨z.1,z.2.1⟩) (λj a=>cc (jd N p O) λw ⟨_,_,c⟩=>aQ (λ_=>cc (gI N c O aW) λy ⟨_,d⟩=>a _ (d.mono O)) λ_=>a _ (c.mono O)) λz e=>ab.some ⟨⟨Z,Z⟩,e⟩
theorem Zz(R:cN k r)(hk:0<=k/\k<=400000){p:Prog}(U:c9 1000 p):ab (zi N r p) (λx=>(∀s∈x.1,lZ s)/\x.1.length<=8/\cN (k+1000) x.2):=by
 have fu:N=100000:=rfl;unfold zi;refine cc (gI N R O aW) λH ⟨W,X⟩=>?_;have I:0<=H.1/\H.1<=6:=by
  simp only[List.mem_cons,List.not_mem_nil,or_false] at W;omega
 refine ab.loop (λz:List UInt8×Int×List cg×List Part×List Step×Int=>0<=z.2.2.2.2.2/\z.2.2.2.2.2<=6/\cN (k+1+60*(6-z.2.2.2.2.2)) ⟨z.1,z.2.1⟩/\c9 1000 ⟨z.2.2.1,z.2.2.2.1⟩/\(∀s∈z.2.2.2.2.1,lZ s)/\(z.2.2.2.2.1.length:Int)<=6-z.2.2.2.2.2) (λz=>z.2.2.2.2.2.toNat) ?_ N _ ⟨I.1,I.2,X.mono Z,U,λs hs=>(by cases hs),by dsimp only;simp;omega⟩ Z;rintro w ⟨b,q,aG,ahs,out,c⟩ ⟨Y,f,y,A,a,g⟩ B;dsimp only at Y f y A a g⊢;refine aQ (λt=>?_) λu=>?_
 ·refine ab.aA (λz:List UInt8×Int×List cg×List Part×List Step=>cN (k+1+60*(6-c)+60) ⟨z.1,z.2.1⟩/\c9 1000 ⟨z.2.2.1,z.2.2.2.1⟩/\(∀s∈z.2.2.2.2,lZ s)/\(z.2.2.2.2.length:Int)<=6-c+1) (λv d=>?_) λz e=>?_
  ·refine ab.loop (λz:List UInt8×Int×Int=>0<=z.2.2/\z.2.2<=4/\cN (k+1+60*(6-c)+12*z.2.2) ⟨z.1,z.2.1⟩) (λz=>(4-z.2.2).toNat) ?_ N _ ⟨Z,Z,y.mono Z⟩ Z;rintro o ⟨eQ,pn,i⟩ ⟨E,M,C⟩ D;dsimp only at E M C⊢;refine aQ (λP=>cc (Nj C ⟨O,O⟩) λS ⟨l,m⟩=>ag (Lt O A l) (ab.cond (λh=>ag (cY bQ) (d _ ⟨m.mono O,(za _ _).Bw,λs hs=>?_,?_⟩)) λh=>?_)) λP=>d _ ⟨C.mono O,A,a,Z⟩
   ·rcases dZ.1 hs with hs|hs
    ·exact a s hs
    rw[mK.1 hs];exact l
   ·dsimp only;rw[dD,mI];omega
   rw[be O];exact D _ ⟨Z,Z,m.mono Z⟩ Z
  obtain⟨yX,z2,z3,z4,z5⟩:=z;obtain⟨K,L,Q,T⟩:=e;dsimp only at K L Q T⊢;rw[be O];exact B _ ⟨Z,Z,K.mono Z,L,Q,Z⟩ Z
 refine ab.aA (λz:List UInt8×Int×List Step=>cN (k+1000) ⟨z.1,z.2.1⟩/\(∀s∈z.2.2,lZ s)/\z.2.2.length<=8) (λj d=>cc (jd N y O) λV ⟨_,_,n⟩=>aQ (λ_=>cc (Nj n ⟨O,O⟩) λnF ⟨F,G⟩=>ag (cY bQ) (d _ ⟨G.mono O,λs hs=>?_,?_⟩)) λ_=>d _ ⟨n.mono O,a,Z⟩) λz e=>ab.some ⟨e.2.1,e.2.2,e.1⟩
 ·rcases dZ.1 hs with hs|hs
  ·exact a s hs
  rw[mK.1 hs];exact F
 dsimp only;rw[dD,mI];omega
theorem TY(a:List UInt8):ab (B2 N a) (λx=>c9 1000 x.1/\(∀s∈x.2,lZ s)/\x.2.length<=8):=by have m:N=100000:=rfl;unfold B2;exact cc (Z3 a) λn d=>cc (VW d O) λo ⟨c,e⟩=>cc (Zz e O (c.mono (O:10<=1000))) λp ⟨h,i,k⟩=>cc (Z7 O k O c) λq ⟨l,_⟩=>ab.some ⟨l.mono (O:30<=1000),h,i⟩
end
theorem ON(b:Bool):(b==b)=true:=by cases b<;>rfl
theorem Sq(c:List UInt8):IJ N c=some true:=by
 have y:N=100000:=rfl;refine ab.eq ?_;unfold IJ;refine aQ (λ_=>ab.some rfl) λ_=>cc (TY c) λm a=>?_;obtain⟨p,l⟩:=m;dsimp only at a⊢;obtain⟨a,d,A⟩:=a;have o:lZ (⟨11,0,0,0⟩:Step):=⟨by decide,by decide⟩
 have b3:mO p ⟨11,0,0,0⟩=p3 p:=rfl;have e:l7 (p3 p):=by rw[<-b3];exact za _ _
 have i:=LC (n:=N) O a o;rw[b3] at i;refine ag (KN O a O d) (ag (U4 O a O d) (ag (KN O a aW λs q=>by cases q) (ag i (ag (Ra O a) (ab.aA (λz=>z=true) (λj k=>?_) λz r=>ab.some r)))));rw[ON,ON];refine bR (ag (Ar (n:=N) O (UX p l).Bw) (bR (ag (r0 O a.sm) ?_)));have w:pS p []=if b2 p=true then(p,true) else ea:=by
  unfold pS oR;by_cases h:b2 p=true
  ·rw[a1 ⟨h,aW⟩,a1 h]
  rw[a6 λx=>h x.1,a6 h]
 rw[w];by_cases h:b2 p=true
 ·rw[a1 h,h];exact bR (b5 (ag (Ar (n:=N) O a) (bR (bR (ag (Ar (n:=N) O e.Bw) (k _ rfl))))))
 rw[a6 h,show b2 p=false by simpa using h];exact bR (bR (bR (ag (Ar (n:=N) O e.Bw) (k _ rfl))))
end Go.Lift
