/- Tools. -/
import Derived.Test.YtcihigfifglboabGreatGTran1
set_option maxRecDepth 100000
set_option linter.unusedVariables false
namespace Go.Lift
open Go
section
theorem zA: ∀a,cmpL a a=0
 | []=>rfl
 |x::a=>by unfold cmpL;rw[a6 O,a6 O];exact zA a
theorem sI: ∀a c,cmpL c a= -cmpL a c
 | [],[]=>by simp[cmpL]
 | [],_::_=>by simp[cmpL]
 |_::_,[]=>by simp[cmpL]
 |x::a,y::c=>by
  unfold cmpL;by_cases d:x<y
  ·simp[d,show¬y<x by omega]
  by_cases e:y<x
  ·simp[d,e]
  rw[a6 d,a6 e,a6 e,a6 d];exact sI a c
theorem wj: ∀{a c},cmpL a c=0->a=c
 | [],[],_=>rfl
 | [],_::_,h=>by simp[cmpL] at h
 |_::_,[],h=>by simp[cmpL] at h
 |x::a,y::c,h=>by
  unfold cmpL at h;by_cases d:x<y
  ·rw[a1 d] at h;omega
  by_cases e:y<x
  ·rw[a6 d,a1 e] at h;omega
  rw[a6 d,a6 e] at h;rw[wj h,show x=y by omega]
theorem wB: ∀{k l m},cmpL k l<0->cmpL l m<0->cmpL k m<0
 | [],[],_,h,_=>by simp[cmpL] at h
 | [],_::_,[],_,h=>by simp[cmpL] at h
 | [],_::_,_::_,_,_=>by simp[cmpL]
 |_::_,[],_,h,_=>by simp[cmpL] at h
 |_::_,_::_,[],_,h=>by simp[cmpL] at h
 |x::k,y::l,z::m,i,e=>by
  unfold cmpL at i e⊢;by_cases a:x<y
  ·by_cases b:y<z
   ·rw[a1 O];omega
   by_cases c:z<y
   ·rw[a6 b,a1 c] at e;omega
   rw[a1 O];omega
  by_cases b:y<x
  ·rw[a6 a,a1 b] at i;omega
  by_cases c:y<z
  ·rw[a1 O];omega
  by_cases d:z<y
  ·rw[a6 c,a1 d] at e;omega
  rw[a6 O,a6 O];rw[a6 a,a6 b] at i;rw[a6 c,a6 d] at e;exact wB i e
theorem MM: ∀a c,ir a c=decide (cmpL a c<0)
 | [],[]=>rfl
 | [],_::_=>rfl
 |_::_,[]=>rfl
 |x::a,y::c=>by
  unfold ir cmpL;by_cases h:x=y
  ·subst h;simp only[if_true,Int.lt_irrefl,if_false];exact MM a c
  by_cases d:x<y
  ·simp[h,d]
  have:y<x:=O
  simp[h,d,this]
abbrev hT(l:List (List Int)):Prop:=l.Pairwise λa b=>cmpL a b<0
theorem Oz: ∀{l m:List (List Int)},hT l->hT m->(∀x,x∈l↔x∈m)->l=m
 | [],[],_,_,_=>rfl
 | [],y::m,_,_,h=>by have:=(h y).2 aX;simp at this
 |x::l,[],_,_,h=>by have:=(h x).1 aX;simp at this
 |x::l,y::m,s,w,h=>by
  obtain⟨q,A⟩:=qZ.1 s;obtain⟨r,B⟩:=qZ.1 w;have e:x=y:=by
   rcases dN.1 ((h x).1 aX) with d|d
   ·exact d
   rcases dN.1 ((h y).2 aX) with i|i
   ·exact i.symm
   have a:=r x d;have b:=q y i
   have:=wB a b;rw[zA] at this;omega
  subst e;have k:x∉l:=λn=>by have:=q x n;rw[zA] at this;omega
  have o:x∉m:=λn=>by have:=r x n;rw[zA] at this;omega
  rw[Oz A B (λz=>⟨λc=>by
   rcases dN.1 ((h z).1 (ev _ c)) with rfl|p
   ·exact bA c k
   ·exact p,λc=>by
   rcases dN.1 ((h z).2 (ev _ c)) with rfl|p
   ·exact bA c o
   exact p⟩)]
def iu:List (List Int)->List Int->List (List Int)
 | [],d=>[d]
 |x::a,d=>if cmpL d x<0 then d::x::a else x::iu a d
theorem Fq{d z:List Int}: ∀{l:List (List Int)},z∈iu l d↔z=d\/z∈l
 | []=>by simp[iu]
 |x::a=>by
  unfold iu;split
  ·simp
  simp only[List.mem_cons,Fq (l:=a)];constructor
  ·rintro(h|h|h)
   ·exact .inr (.inl h)
   ·exact .inl h
   exact .inr (.inr h)
  rintro(h|h|h)
  ·exact .inr (.inl h)
  ·exact .inl h
  exact .inr (.inr h)
theorem NM{d:List Int}: ∀{l:List (List Int)},hT l->d∉l->hT (iu l d)
 | [],_,_=>by simp[iu]
 |x::o,c,i=>by
  obtain⟨k,m⟩:=qZ.1 c;unfold iu;split
  ·rename_i h;refine qZ.2 ⟨λz a=>?_,c⟩;rcases dN.1 a with rfl|a
   ·exact h
   exact wB h (k z a)
  rename_i h;refine qZ.2 ⟨λz a=>?_,NM m λn=>i (ev _ n)⟩;rcases Fq.1 a with rfl|a
  ·have p:=sI z x;have q:cmpL z x≠0:=λe=>i (by rw[wj e];simp);omega
  exact k z a
def hP(l:List (List Int))(d:List Int):List (List Int):=if d∈l then l else iu l d
theorem aal{l:List (List Int)}(h:hT l)(d:List Int):hT (hP l d):=by
 unfold hP;split
 ·exact h
 exact NM h ‹_›
variable {l:Loop}{d a b:List Int}{R:Type}{Q:R->Prop}{n k i:Nat}{p:Prog}{c:Int}{P:Part}{r:List cg}
theorem MV{l:List (List Int)}{z:List Int}:z∈hP l d↔z=d\/z∈l:=by
 unfold hP;split
 ·rename_i h;exact⟨.inr,λa=>by rcases a with rfl|a;exact h;exact a⟩
 exact Fq
theorem FG: ∀(a l:List (List Int)),hT l->hT (a.foldl hP l)/\ ∀z,z∈a.foldl hP l↔z∈l\/z∈a
 | [],l,h=>⟨h,λz=>aX⟩
 |d::a,l,h=>by
  obtain⟨c,e⟩:=FG a (hP l d) (aal h d);refine⟨c,λz=>?_⟩;rw[List.foldl_cons,e z,MV,dN];constructor
  ·rintro((h|h)|h)
   ·exact .inr (.inl h)
   ·exact .inl h
   exact .inr (.inr h)
  rintro(h|h|h)
  ·exact .inl (.inr h)
  ·exact .inl (.inl h)
  exact .inr h
def gi:List (List Int)->List (List Int)
 | []=>[]
 | [x]=>[x]
 |x::y::r=>if x=y then gi (y::r) else x::gi (y::r)
theorem DN{z:List Int}: ∀{l:List (List Int)},z∈gi l↔z∈l
 | []=>by simp[gi]
 | [x]=>by simp[gi]
 |x::y::r=>by
  have a:=DN (z:=z) (l:=y::r);unfold gi;split
  ·rename_i h;subst h;rw[a];simp
  rw[dN,a];simp
theorem D3: ∀{l:List (List Int)},l.Pairwise (λa b=> ¬cmpL b a<0)->hT (gi l)
 | [],_=>by simp[gi]
 | [x],_=>by simp[gi]
 |x::y::r,h=>by
  obtain⟨n,i⟩:=qZ.1 h;obtain⟨o,_⟩:=qZ.1 i;unfold gi;split
  ·exact D3 i
  rename_i k;refine qZ.2 ⟨λz m=>?_,D3 i⟩;have d:cmpL x y<0:=by
   have a:=n y aX;have b:=sI x y;have c:cmpL x y≠0:=λe=>k (wj e);omega
  rcases dN.1 (DN.1 m) with rfl|m
  ·exact d
  have a:=o z m;have b:=sI y z;by_cases e:cmpL y z=0
  ·rw[<-wj e];exact d
  exact wB d O
theorem TX(l:List (List Int)):(fh l).Pairwise (λa b=> ¬cmpL b a<0):=by
 have:=List.pairwise_mergeSort (le:=λx y=> !decide (cmpL y x<0)) (λa b c k d=>by
  simp only[Bool.not_eq_true',decide_eq_false_iff_not] at*;intro h;have i:=sI a b;have m:=sI b c;by_cases e:cmpL b a=0
  ·rw[wj e] at d;exact d h
  ·exact d (wB h O)) (λa b=>by
  have i:=sI a b;by_cases h:cmpL b a<0
  ·have: ¬cmpL a b<0:=O
   simp[h,this]
  simp[h]) l
 refine this.imp λh=>?_;simpa using h
theorem Zi(a:List (List Int)):gi (fh a)=a.foldl hP []:=by obtain⟨c,d⟩:=FG a [] List.Pairwise.nil;refine Oz (D3 (TX a)) c λz=>?_;rw[DN,d z];unfold fh;rw[List.mem_mergeSort];simp
def k3(b a:List Int):List Int:=List.zipWith (λx y=>x-y) b a
theorem MJ(F:a.length=b.length)(G:b.length<=1000)(H:1000<n)(m: ∀x∈a,cI 9999 x)(o: ∀x∈b,cI 9999 x){K:List Int->Option R}(A:ab (K (k3 b a)) Q):
  ab (bo (λc ((h,d):(List Int)×Int)=>
   bif decide (d<(b.length:Int)) then(
    Option.bind (au b d) λp=>
    Option.bind (au a d) λq=>
    Option.bind (app h [wr (p-q)]) λr=>
    c (r,wr (d+1))
   ) else(
    K h
   )) n ([],0)) Q:=by
 refine ab.loop (λx:List Int×Int=> ∃i:Nat,x.2=i/\i<=b.length/\x.1=(k3 b a).take i) (λx=>b.length-x.2.toNat) ?_ n _ ⟨0,rfl,O,aX⟩ Z;rintro s ⟨x,k⟩ ⟨i,w,I,l⟩ B;dsimp only at w l⊢;subst w;have C:(k3 b a).length=b.length:=by unfold k3;rw[vt];omega
 refine aQ (λe=>?_) λD=>?_
 ·have e:i<b.length:=O
  have y:=bs e;have z:=bs (O:i<a.length);have cT:=o _ (fx e);have cu:=m _ (fx (O:i<a.length));unfold cI at cT cu;refine ag (bk y) (ag (bk z) (ag (cX (by rw[l,cJ];simp;omega)) ?_));rw[be (n:=b[i]-a[i]) O,be O];refine B _ ⟨i+1,Z,O,?_⟩ Z;dsimp only;rw[ei,<-l];congr 1;unfold k3;rw[List.getElem?_zipWith,y,z];rfl
 have:i=b.length:=O
 subst this;rw[jd O] at l;rw[l];exact A
theorem VJ(e:a.length=b.length)(h:b.length<=1000)(i:1000<n)(c: ∀x∈a,cI 9999 x)(d: ∀x∈b,cI 9999 x):y' n b a=some (k3 b a):=by unfold y';exact ab.eq (MJ e h i c d (ab.some rfl))
theorem XN(t:20000<=n){l:List (List Int)}(u:l.length<=15000)(R: ∀x∈l,x.length<=1000)(U:d.length<=1000):Ax n l d=some (hP l d):=by
 unfold Ax;refine ab.eq (ab.loop (λx:List (List Int)×Bool×Int=> ∃i:Nat,x.2.2=i/\i<=l.length/\d∉l.take i/\(x.2.1=true->x.1.length<=i+1/\iu l d=x.1++l.drop i)/\(x.2.1=false->x.1.length<=i/\iu l d=x.1++iu (l.drop i) d)) (λx=>l.length-x.2.2.toNat) ?_ n _ ⟨0,rfl,O,aX,(λh=>by cases h),λ_=>⟨aX,aX⟩⟩ Z);rintro A ⟨v,m,k⟩ ⟨i,L,E,e,B,C⟩ W;dsimp only at L B C⊢;subst L;refine aQ (λc=>?_) λX=>?_
 ·have c:i<l.length:=O
  have Q:=bs c;have D:l[i].length<=1000:=R _ (fx c);refine ag (bk Q) (ag (Kj O O) (aQ (λF=>ab.some ?_) λG=>?_))
  ·unfold hP;rw[a1 (by rw[<-F];exact fx c)]
  have a:=k9 c;have p:d∉l.take (i+1):=by
   rw[ei,Q];simp only[List.mem_append,Option.toList_some,List.mem_singleton];rintro(h|h)
   ·exact e h
   exact G h.symm
  refine ab.aA (λz:List (List Int)×Bool=>(z.2=true->z.1.length<=i+1/\iu l d=z.1++l.drop i)/\(z.2=false->z.1.length<=i/\iu l d=z.1++l[i]::iu (l.drop (i+1)) d)) (λj o=>?_) λz q=>?_
  ·refine ab.aA (λz:Bool=>z=(!m&&ir d l[i])) (λM r=>ab.cond (λh=>?_) λh=>r _ ?_) λz q=>?_
   ·have h:m=false:=by simpa using h
    exact ag (L9 O U D) (r _ (by rw[h];rfl))
   ·have h:m=true:=by simpa using h
    rw[h];rfl
   subst q;cases s:m with
   |true=>exact b3 (o _ ⟨λ_=>B s,λh=>by cases h⟩)
   |false=>
    obtain⟨Y,H⟩:=C s;rw[a] at H;rw[MM];by_cases y:cmpL d l[i]<0
    ·rw[bz y];refine bS (ag (cX bQ) (o _ ⟨λ_=>⟨bQ,?_⟩,λh=>by cases h⟩));rw[H,a];unfold iu;rw[a1 y];simp
    rw[bx y];refine b3 (o _ ⟨(λh=>by cases h),λ_=>⟨Y,?_⟩⟩);rw[H]
    conv=>lhs;rw[iu]
    rw[a6 y]
  obtain⟨b,f⟩:=z;obtain⟨I,K⟩:=q;dsimp only at I K⊢;have g:b.length<=i+1:=by
   cases f with
   |true=>exact(I rfl).1
   |false=>have:=(K rfl).1;omega
  refine ag (cX bQ) ?_;rw[be O];refine W _ ⟨i+1,Z,O,p,λh=>?_,λh=>?_⟩ Z
  ·obtain⟨aJ,a2⟩:=I h;refine⟨bQ,?_⟩;rw[a2,a];simp
  obtain⟨aJ,a2⟩:=K h;refine⟨bQ,?_⟩;rw[a2];simp
 have:i=l.length:=O
 subst this;rw[c4] at e;have w:hP l d=iu l d:=by unfold hP;rw[a6 e]
 rw[w];refine ab.aA (λz=>z=iu l d) (λj o=>ab.cond (λh=>?_) λh=>o _ ?_) λz q=>ab.some q
 ·have h:m=false:=by simpa using h
  obtain⟨aJ,a2⟩:=C h;refine ag (cX bQ) (o _ ?_);rw[a2,ny];rfl
 have h:m=true:=by simpa using h
 obtain⟨aJ,a2⟩:=B h;rw[a2,ny,kG]
theorem MO(d:List Int): ∀l:List (List Int),(iu l d).length=l.length+1
 | []=>rfl
 |x::a=>by
  unfold iu;split
  ·rfl
  rw[List.length_cons,MO d a];rfl
theorem MW(l:List (List Int))(d:List Int):(hP l d).length<=l.length+1:=by
 unfold hP;split
 ·omega
 rw[MO];omega
def ko(I:List cx)(c:Int)(d:fH):Option (List Int):=match I[d.eA.toNat]?,I[d.eC.toNat]? with
 |some a,some b=>if a.part=c/\b.part=c then some (k3 b.cL a.cL) else none
 |_,_=>none
def mW(p:Prog)(a:Int):List (List Int):=(fW p (bB p.parts) (bB p.parts).length).filterMap (ko (bB p.parts) a)
theorem qx(l:b2 p=true){x:cx}(m:gk p x): ∃P,p.parts[x.part.toNat]? =some P/\0<=x.part/\x.cL.length=P.nest.length/\x.cL.length<=4/\ ∀y∈x.cL,cI 9999 y:=by obtain⟨D,F,G,c,n⟩:=ey l;obtain⟨i,k,P,s,o,H,e,q,h⟩:=m;obtain⟨r,I,K,w⟩:=gh (c P (bF e));obtain⟨L,z,d,A,B⟩:=rV r;have hs:=bF q;have a:=(w s hs _ h).2;unfold j5 at a;simp only[Bool.and_eq_true,decide_eq_true_eq,List.all_eq_true] at a;exact⟨P,by rw[o,cY];exact e,O,(d _ h).1,a.1,λy C=>a.2 y C⟩
theorem Zj{I:List cx}(h: ∀x∈I,x.cL.length<=4){d:fH}{v:List Int}(e:ko I c d=some v):v.length<=4:=by
 unfold ko at e;split at e
 ·rename_i a b k i;split at e
  ·cases e;unfold k3;rw[vt]
   have:=h b (bF i);omega
  cases e
 cases e
theorem Ju{k:Type}{f:k->Option R}{l:List k}{x:k}(h:l[i]? =some x):(l.take (i+1)).filterMap f=(l.take i).filterMap f++(f x).toList:=by rw[ei,h,List.filterMap_append];cases a:f x<;>simp[a]
theorem Ku(g:20000<=n)(hp:ln p)(s:b2 p=true)(a:Int):m7 n p a=some ((mW p a).foldl hP []):=by
 have G:=(ey s).2.2.2.2;unfold m7;refine ab.eq (ag (uE O s) (ag (EL O s) ?_));have m: ∀x∈bB p.parts,gk p x:=λx o=>iE o;have agS:=FC (p:=p) G;have a8:=Oa (p:=p) (l:=bB p.parts);unfold mW;generalize fW p (bB p.parts) (bB p.parts).length=D at*;generalize bB p.parts=I at*;have t: ∀x∈I,x.cL.length<=4:=λx o=>(qx s (m x o)).choose_spec.2.2.2.1;refine ab.loop (λx:List (List Int)×Int=> ∃i:Nat,x.2=i/\i<=D.length/\x.1=((D.take i).filterMap (ko I a)).foldl hP []/\x.1.length<=i/\ ∀y∈x.1,y.length<=4) (λx=>D.length-x.2.toNat) ?_ n _ ⟨0,rfl,O,aX,aX,aX⟩ Z;rintro H ⟨u,k⟩ ⟨i,b,aH,o,w,d⟩ v;dsimp only at b o w d⊢;subst b;refine aQ (λq=>?_) λE=>ab.some ?_
 ·have q:i<D.length:=O
  have f:=bs q;obtain⟨M,d2,d3⟩:=a8 _ (fx q);have N:=wW (l:=I) (c:=D[i].eA) M O;have P:=wW (l:=I) (c:=D[i].eC) O O;have S:=fx (O:D[i].eA.toNat<I.length);have K:=fx (O:D[i].eC.toNat<I.length);have L:I[D[i].eA.toNat]? =some I[D[i].eA.toNat]:=bs _;have Q:I[D[i].eC.toNat]? =some I[D[i].eC.toNat]:=bs _;obtain⟨T,A,V,ae5,ae6,R⟩:=qx s (m _ S);obtain⟨D',r,ae7,ae8,ae9,U⟩:=qx s (m _ K);refine ab.aA (λz=>z.2.2.2.2.2.2=((D.take (i+1)).filterMap (ko I a)).foldl hP []/\z.2.2.2.2.2.2.length<=i+1/\ ∀y∈z.2.2.2.2.2.2,y.length<=4) (λj W=>ag (bk f) (ag N (ag P ?_))) λz X=>?_
  ·rw[Ju f,List.foldl_append,<-o] at W;refine ab.aA (λz:Bool=>z=decide (I[D[i].eA.toNat].part=a/\I[D[i].eC.toNat].part=a)) (λiF B=>aQ (λh=>B _ ?_) λh=>B _ ?_) λz X=>?_
   ·exact decide_eq_decide.2 ⟨λC=>⟨h,C⟩,λC=>C.2⟩
   ·exact(bx λC=>h C.1).symm
   subst X;have e:ko I a D[i]=if I[D[i].eA.toNat].part=a/\I[D[i].eC.toNat].part=a then some (k3 I[D[i].eC.toNat].cL I[D[i].eA.toNat].cL) else none:=by
    unfold ko;rw[L,Q]
   refine aQ (λh=>?_) λh=>W _ ?_
   ·have Y:T=D':=by
     rw[h.1] at A;rw[h.2] at r;rw[A] at r;cases r;rfl
    subst Y;refine ag (VJ O O O R U) (ag (XN g O (λy F=>by have:=d y F;omega) (by unfold k3;rw[vt];omega)) (W _ ?_));rw[e,a1 h];dsimp only[Option.toList,List.foldl];refine⟨rfl,?_,λy F=>?_⟩
    ·have:=MW u (k3 I[D[i].eC.toNat].cL I[D[i].eA.toNat].cL);omega
    rcases MV.1 F with rfl|F
    ·unfold k3;rw[vt];omega
    exact d y F
   rw[e,a6 h];exact⟨rfl,Z,d⟩
  obtain⟨yU,z2,z3⟩:=X;rw[be O];exact v _ ⟨i+1,Z,O,yU,z2,z3⟩ Z
 have:i=D.length:=O
 subst this;rw[o,c4]
theorem JY(x:List Int): ∀(y:List Int) (a:List (List Int)),gi ((y::a)++[x])=if(y::a).getLast aX=x then gi (y::a) else gi (y::a)++[x]
 |y,[]=>by
  by_cases h:y=x
  ·subst h;simp[gi]
  simp[gi,h]
 |y,z::a=>by
  have d:=JY x z a;rw[List.getLast_cons aX];show gi (y::z::(a++[x]))=_;unfold gi;by_cases h:y=z
  ·rw[a1 h,a1 h];exact d
  rw[a6 h,a6 h];have c:gi (z::(a++[x]))=_:=d;rw[c];split<;>simp
theorem TV{s:List (List Int)}{m:Nat}(n:1<=m)(l:m<s.length):gi (s.take (m+1))=if s[m-1]=s[m] then gi (s.take m) else gi (s.take m)++[s[m]]:=by
 have e:s.take (m+1)=s.take m++[s[m]]:=by rw[ei,bs l];rfl
 have d:s.take m≠[]:=by
  intro h
  have:=congrArg List.length h;rw[cJ,vx O,List.length_nil] at this;omega
 have c: ∀h,(s.take m).getLast h=s[m-1]:=λh=>by
  rw[List.getLast_eq_getElem,List.getElem_take];congr 1;rw[cJ];omega
 rw[e];obtain⟨y,a,k⟩: ∃y a,s.take m=y::a:=by
  cases h:s.take m with
  |nil=>exact bA h d
  |cons y a=>exact⟨y,a,rfl⟩
 have i:=c d;simp only[k] at i⊢;rw[JY,i]
def k0(d:List Int):Option Nat:=d.findIdx? λx=> !decide (x=0)
def oP(d:List Int):Int:=match k0 d with
 |some i=>(i:Int)
 |none=> -1
theorem Vu(y:d.length<=1000)(A:1000<n):CJ n d=some (oP d):=by
 unfold CJ;refine ab.eq (ag (x:=oP d) ?_ (ab.some rfl));unfold xK;refine ab.eq (ab.loop (λx:Int=> ∃i:Nat,x=i/\i<=d.length/\ ∀j,j<i->d.getD j 0=0) (λx=>d.length-x.toNat) ?_ n _ ⟨0,rfl,O,λj a=>bA a (q0 _)⟩ O);rintro h z ⟨i,rfl,B,m⟩ q;have o: ∀j (a:j<d.length),j<i->d[j]=0:=λj a c=>by
  have:=m j c
  rwa [eu,bs a] at this
 refine aQ (λe=>?_) λr=>ab.some ?_
 ·have e:i<d.length:=O
  have p:=bs e;refine ag (bk p) (ag (x:= !decide (d[i]=0)) rfl (eP (λk=>ab.some ?_) λs=>?_))
  ·have:k0 d=some i:=by
    unfold k0;rw[IW];exact⟨e,by simp[k],λj a=>by simp[o j O a]⟩
   unfold oP;rw[this]
  rw[be O];refine q _ ⟨i+1,O,O,λj a=>?_⟩ O;by_cases c:j=i
  ·subst c;rw[eu,p];exact s
  exact m j O
 have:k0 d=none:=by
  unfold k0;rw[List.findIdx?_eq_none_iff];intro x w;obtain⟨j,a⟩:=j9.1 w;obtain⟨l,rfl⟩:=bR.1 a;simp[o j l O]
 unfold oP;rw[this]
theorem Yy(a:ln p)(c:p.parts[i]? =some P):kO n p (i:Int)=some true:=by have aH:=(bR.1 c).1;rw[qy n a.2.1,bz O]
theorem VS(a:Nat->Bool)(m:Nat):dY a (m+1)=dY a m++(if a m then [m] else []):=by unfold dY;rw[pD,vu];congr 1;by_cases h:a m<;>simp[h]
theorem Nj(l:List (List Int)): ∀m,m<=l.length->(dY (kP l) m).map (λj=>l.getD j [])=gi (l.take m)
 |0,_=>rfl
 |m+1,h=>by
  have o:=Nj l m O;have c:m<l.length:=O
  have d:l.getD m []=l[m]:=by rw[eu,bs c];rfl
  rw[VS,fQ,o];by_cases i:m=0
  ·subst i;have k:kP l 0=true:=by simp[kP]
   rw[k,a1 rfl,List.take_zero];show gi []++[l.getD 0 []]=_;rw[d,ei,bs c];rfl
  rw[TV O c];have k:l.getD (m-1) []=l[m-1]:=by rw[eu,bs O];rfl
  have p:kP l m= !decide (l[m-1]=l[m]):=by
   unfold kP;rw[d,k];by_cases a:l[m-1]=l[m]
   ·simp[i,a]
   have n:l[m]≠l[m-1]:=λe=>a e.symm;simp[i,a,n]
  rw[p];by_cases a:l[m-1]=l[m]
  ·rw[a1 a,bz a];simp
  rw[a6 a,bx a];show _++[l.getD m []]=_;rw[d]
theorem Vq(l:List (List Int)):gB l=gi l:=by have:=Nj l l.length (cN _);rw[c4] at this;exact this
theorem UD(cG:20000<=n)(s:b2 p=true)(a:Int):BO n (fX p) a=some ((mW p a).foldl hP []):=by
 have F:=(ey s).2.2.2.2;unfold BO;refine ab.eq (ag (EX O s) ?_);rw[show(fX p).list=bB p.parts from rfl];have o: ∀x∈bB p.parts,gk p x:=λx e=>iE e;have agS:=FC (p:=p) F;have a8:=Oa (p:=p) (l:=bB p.parts);unfold mW;generalize fW p (bB p.parts) (bB p.parts).length=D at*;generalize bB p.parts=I at*;have G: ∀x∈I,x.cL.length<=4:=λx e=>(qx s (o x e)).choose_spec.2.2.2.1;refine ab.loop (λx:List (List Int)×Int=> ∃i:Nat,x.2=i/\i<=D.length/\x.1=(D.take i).filterMap (ko I a)) (λx=>D.length-x.2.toNat) ?_ n _ ⟨0,rfl,O,aX⟩ Z;rintro H ⟨u,k⟩ ⟨i,v,aH,e⟩ N;dsimp only at v e⊢;subst v;have E:u.length<=i:=by
  rw[e];refine gr (List.length_filterMap_le _ _) ?_;rw[cJ];omega
 refine aQ (λq=>?_) λP=>?_
 ·have q:i<D.length:=O
  have M:=bs q;obtain⟨S,d2,d3⟩:=a8 _ (fx q);have T:=wW (l:=I) (c:=D[i].eA) S O;have V:=wW (l:=I) (c:=D[i].eC) O O;have fM:=fx (O:D[i].eA.toNat<I.length);have L:=fx (O:D[i].eC.toNat<I.length);have Q:I[D[i].eA.toNat]? =some I[D[i].eA.toNat]:=bs _;have R:I[D[i].eC.toNat]? =some I[D[i].eC.toNat]:=bs _;obtain⟨Rn,w,agy,ae5,ae6,U⟩:=qx s (o _ fM);obtain⟨D',r,ae7,ae8,ae9,W⟩:=qx s (o _ L);have m:ko I a D[i]=if I[D[i].eA.toNat].part=a/\I[D[i].eC.toNat].part=a then some (k3 I[D[i].eC.toNat].cL I[D[i].eA.toNat].cL) else none:=by
   unfold ko;rw[Q,R]
  refine ab.aA (λz=>z.1=(D.take (i+1)).filterMap (ko I a)) (λj X=>ag (bk M) (ag T (ag V ?_))) λz Y=>?_
  ·rw[Ju M,<-e] at X;refine ab.aA (λz:Bool=>z= !decide (I[D[i].eA.toNat].part=a/\I[D[i].eC.toNat].part=a)) (λiF A=>eP (λh=>A _ ?_) λh=>A _ ?_) λz Y=>?_
   ·rw[bx λB=>h B.1];rfl
   ·congr 1;exact decide_eq_decide.2 ⟨λB=>⟨h,B⟩,λB=>B.2⟩
   subst Y;refine eP (λh=>X _ ?_) λh=>?_
   ·rw[m,a6 h];simp
   have b:Rn=D':=by
    rw[h.1] at w;rw[h.2] at r;rw[w] at r;cases r;rfl
   subst b;refine MJ (K:=λf=>Option.bind (app u [f]) λg=>j (g,D[i].eA,D[i].eC,D[i].kinds,I[D[i].eA.toNat].part,I[D[i].eA.toNat].stmt,I[D[i].eA.toNat].cL,I[D[i].eC.toNat].part,I[D[i].eC.toNat].stmt,I[D[i].eC.toNat].cL)) O O O U W ?_;refine ag (cX bQ) (X _ ?_);rw[m,a1 h];rfl
  rw[be O];exact N _ ⟨i+1,Z,O,Y⟩ Z
 have:i=D.length:=O
 subst this;rw[c4] at e;subst e;have C: ∀y∈D.filterMap (ko I a),y.length<=4:=λy t=>by
  obtain⟨d,_,cv⟩:=List.mem_filterMap.1 t;exact Zj G cv
 have adF:(fh (D.filterMap (ko I a))).length<=15000:=by unfold fh;rw[List.length_mergeSort];omega
 refine ag (x:=fh (D.filterMap (ko I a))) (by unfold mo;rw[a1 ⟨O,λy t=>by have:=C y t;omega⟩]) (ab.some ?_);rw[Vq];exact Zi _
def jn(p:Prog)(i:Nat):List (List Int):=(mW p i).foldl hP []
theorem Vw(d:20000<=n)(a:ln p)(c:b2 p=true)(e:p.parts[i]? =some P):Cr n p (i:Int)=some (jn p i):=by unfold Cr;refine ab.eq (ag (yp O a) ?_);rw[a1 c];refine bS (ab.aA (λz=>z=false) (λj h=>b3 (ag (Yy a e) (h _ rfl))) λz k=>?_);rw[k];exact b3 (ag (UD d c _) (ab.some rfl))
theorem aay:d∈jn p i↔d∈mW p i:=by
 unfold jn
 have:=(FG (mW p i) [] .nil).2 d;simpa using this
theorem LD: ∀(a l:List (List Int)),(a.foldl hP l).length<=l.length+a.length
 | [],l=>aX
 |d::a,l=>by
  rw[List.foldl_cons]
  have:=LD a (hP l d)
  have:=MW l d;rw[List.length_cons];omega
theorem F9(c:b2 p=true):(jn p i).length<=15000:=by
 have a:=(ey c).2.2.2.2;have d:=FC (p:=p) a
 have:=LD (mW p i) [];have e:(mW p i).length<=(fW p (bB p.parts) (bB p.parts).length).length:=by unfold mW;exact List.length_filterMap_le _ _
 unfold jn;rw[List.length_nil] at this;omega
theorem sU(r:b2 p=true)(s:p.parts[i]? =some P)(cv:d∈jn p i):d.length=P.nest.length/\ ∀x∈d,cI 99999 x:=by
 have cv:=aay.1 cv;unfold mW at cv;obtain⟨e,_,h⟩:=List.mem_filterMap.1 cv;unfold ko at h;split at h
 ·rename_i a b A B;split at h
  ·rename_i w;cases h;have m:gk p a:=iE (bF A);have n:gk p b:=iE (bF B);obtain⟨F,aJ,a2,a3,a4,a5⟩:=qx r m;obtain⟨G,y,H,I,K,C⟩:=qx r n;rw[w.1,cY,s] at aJ;rw[w.2,cY,s] at y;cases aJ;cases y;unfold k3;refine⟨by rw[vt];omega,λx z=>?_⟩;obtain⟨u,v,D,o,rfl⟩: ∃u v,u∈b.cL/\v∈a.cL/\x=u-v:=by
    rw[j9] at z;obtain⟨k,c⟩:=z;rw[List.getElem?_zipWith] at c;cases l:b.cL[k]? with
    |none=>rw[l] at c;cases c
    |some u=>
     cases q:a.cL[k]? with
     |none=>rw[l,q] at c;cases c
     |some v=>
      rw[l,q] at c;cases c;exact⟨u,v,bF l,bF q,rfl⟩
   have L:=C u D;have Q:=a5 v o;unfold cI at*;omega
  cases h
 cases h
def hl(d:List Int):Bool:=match k0 d with
 |some k=>decide (0<=d.getD k 0)
 |none=>true
theorem N8(h:k0 d=some k):k<d.length/\d.getD k 0≠0:=by unfold k0 at h;rw[IW] at h;obtain⟨a,c,_⟩:=h;refine⟨a,?_⟩;rw[eu,bs a];simpa using c
theorem KI(L:20000<=n)(Q:ln p)(A:b2 p=true)(C:p.parts[i]? =some P){F:List Int->Option (List Int)}{f:List Int->List Int}(G: ∀d∈jn p i,F d=some (f d))(H: ∀d,(f d).length=d.length):
  wy n p (i:Int) F=some ((jn p i).all λd=>hl (f d)):=by
 unfold wy;refine ab.eq (ag (Vw L Q A C) ?_);have w:=F9 A (i:=i);have y:=λd s=>(sU A C (d:=d) s).1;have R:=(hX ((ey A).2.2.2.1 P (bF C))).1;generalize jn p i=D at G w y;refine ab.loop (λx:List (List Int)×Int=> ∃k:Nat,x.2=k/\k<=D.length/\x.1.length=D.length/\(∀t,k<=t->x.1[t]? =D[t]?)/\ ∀d∈D.take k,hl (f d)=true) (λx=>D.length-x.2.toNat) ?_ n _ ⟨0,rfl,O,rfl,λ_ _=>rfl,λd s=>by simp at s⟩ Z;rintro o ⟨m,j⟩ ⟨k,I,U,z,a,c⟩ W;dsimp only at I z a⊢;subst I;refine aQ (λl=>?_) λX=>ab.some ?_
 ·have l:k<D.length:=O
  have Y:m[k]? =some D[k]:=by rw[a k (cN _),bs l]
  have hm:=fx l;have b:(f D[k]).length<=4:=by rw[H,y _ hm];exact R
  refine ag (bk Y) (ag (G _ hm) (ag (oA (H _)) (ag (Vu O O) (ag (dH O _) ?_))));have e: ∀(B:hl (f D[k])=false),D.all (λd=>hl (f d))=false:=λB=>jf.2 ⟨_,hm,by simp[B]⟩;have go:hl (f D[k])=true->ab (o (m.set (k:Int).toNat (f D[k]),wr ((k:Int)+1))) (λr=>r=D.all λd=>hl (f d)):=λB=>by
   rw[be O,cY];refine W _ ⟨k+1,Z,O,by dsimp only;rw[eS];exact z,λt u=>?_,λd s=>?_⟩ Z
   ·dsimp only;rw[je O];exact a t O
   rw[ei,bs l] at s;rcases dZ.1 s with h|h
   ·exact c d h
   have:d=D[k]:=by simpa using h
   subst this;exact B
  unfold oP hl at*;cases q:k0 (f D[k]) with
  |none=>
   rw[q] at go e;exact aQ (λh=>bA h (by show¬(0:Int)<= -1;omega)) (λ_=>go rfl)
  |some t=>
   rw[q] at go e;obtain⟨g,v⟩:=N8 q;refine aQ (λ_=>?_) λh=>bA (show(0:Int)<=(t:Int) by omega) h;have K:=bs g;have E:(f D[k]).getD t 0=(f D[k])[t]:=by rw[eu,K];rfl
   refine ag (bk K) (aQ (λh=>ab.some ?_) λh=>go ?_)
   ·exact(e (bx O)).symm
   exact bz O
 have:k=D.length:=O
 subst this;rw[c4] at c;exact(fw.2 c).symm
theorem T4(y:d.length<=1000)(A:1000<n):CO n d=some (oP d):=by
 unfold CO;refine ab.eq (ab.loop (λx:Int=> ∃i:Nat,x=i/\i<=d.length/\ ∀j,j<i->d.getD j 0=0) (λx=>d.length-x.toNat) ?_ n _ ⟨0,rfl,O,λj a=>bA a (q0 _)⟩ O);rintro h z ⟨i,rfl,B,m⟩ q;have o: ∀j (a:j<d.length),j<i->d[j]=0:=λj a c=>by
  have:=m j c
  rwa [eu,bs a] at this
 refine aQ (λe=>?_) λr=>ab.some ?_
 ·have e:i<d.length:=O
  have p:=bs e;refine ag (bk p) (eP (λk=>ab.some ?_) λs=>?_)
  ·have:k0 d=some i:=by
    unfold k0;rw[IW];exact⟨e,by simp[k],λj a=>by simp[o j O a]⟩
   unfold oP;rw[this]
  rw[be O];refine q _ ⟨i+1,O,O,λj a=>?_⟩ O;by_cases c:j=i
  ·subst c;rw[eu,p];exact s
  exact m j O
 have:k0 d=none:=by
  unfold k0;rw[List.findIdx?_eq_none_iff];intro x w;obtain⟨j,a⟩:=j9.1 w;obtain⟨l,rfl⟩:=bR.1 a;simp[o j l O]
 unfold oP;rw[this]
theorem Lq(i:d.length<=1000)(k:1000<n):vX n d=some (hl d):=by
 unfold vX;refine ab.eq (ag (T4 i k) (ab.aA (λz:Bool=>z=hl d) (λj c=>?_) λz l=>ab.some l));unfold oP hl at*;cases a:k0 d with
 |none=>
  rw[a] at c;exact aQ (λ_=>c _ rfl) (λh=>bA (show(-1:Int)<0 by omega) h)
 |some t=>
  rw[a] at c;obtain⟨m,o⟩:=N8 a;have e:=bs m;have p:d.getD t 0=d[t]:=by rw[eu,e];rfl
  refine aQ (λh=>bA h (show¬(t:Int)<0 by omega)) λ_=>ag (bk e) (c _ ?_);exact decide_eq_decide.2 ⟨λh=>O,λh=>O⟩
def mD(k:Nat)(a:ay):ay:=⟨(a.aT.set k (a.aT.getD (k+1) 0)).set (k+1) (a.aT.getD k 0),a.const⟩
def pw(k:Nat)(d:List Int):List Int:=(d.set k (d.getD (k+1) 0)).set (k+1) (d.getD k 0)
theorem Ng(k:Nat)(d:List Int):(pw k d).length=d.length:=by simp[pw]
theorem NU: ∀x,cQ x=true->dm 4 (mD k x):=λx a=>by have:=(fK a).1;unfold dm mD;simp;omega
theorem gC{l:List R}(h:k<l.length)(z:R):l[k]? =some (l.getD k z):=by rw[eu,bs h];rfl
theorem Nd{h:Type}{l:List h}(a:k+1<l.length)(m:l.length<=1000000)(z:h){K:List h->Option R}(d:ab (K ((l.set k (l.getD (k+1) z)).set (k+1) (l.getD k z))) Q):
  ab (Option.bind (au l (wr ((k:Int)+1))) λe=>Option.bind (au l (k:Int)) λi=>Option.bind (b' l (k:Int) e) λc=>Option.bind (au c (wr ((k:Int)+1))) λo=>Option.bind (b' c (wr ((k:Int)+1)) i) K) Q:=by rw[be (n:=(k:Int)+1) O,show(k:Int)+1=((k+1:Nat):Int) by omega];refine ag (bk (gC a z)) (ag (bk (gC O z)) (ag (dH O _) ?_));rw[cY];refine ag (bk (gC (l:=l.set k (l.getD (k+1) z)) (k:=k+1) (by simpa using a) z)) (ag (dH (by rw[eS];omega) _) ?_);rw[cY];exact d
theorem YB(a:k+1<d.length)(c:d.length<=1000):uC n d (k:Int)=some (pw k d):=by unfold uC;exact ab.eq (Nd a O 0 (ab.some rfl))
theorem YA(n:Nat)(c:k+1<4): ∀x,cQ x=true->uB n x (k:Int)=some (mD k x):=λx a=>by have d:=(fK a).1;unfold uB;refine ab.eq (ag (zm n x a) (Nd O O 0 (ab.some rfl)))
theorem ZS(n:Nat)(d:k+1<4): ∀x,cQ x=true->js n x 0 (k:Int) ⟨[],0⟩=some (mD k x):=λx a=>by have e:=(fK a).1;unfold js;refine ab.eq (aQ (λ_=>ag (x:=mD k x) ?_ (ab.some rfl)) λh=>bA rfl h);unfold E8;have c:qb n x=some x:=y1 n O;rw[be (n:=(k:Int)+1) O,show(k:Int)+1=((k+1:Nat):Int) by omega];refine ab.eq (ag c (ag (bk (gC O 0)) (ag (bk (gC O 0)) (ag (dH O _) (ag (bk (gC O 0)) ?_)))));rw[cY];refine ag (bk (gC (l:=x.aT.set k (x.aT.getD (k+1) 0)) (k:=k+1) bQ 0)) (ag (dH (by rw[eS];omega) _) ?_);rw[cY];exact ab.some rfl
def mQ(k:Nat)(a:ay):Bool:= !decide (a.aT.getD k 0=0)
def tD(l:Loop)(k:Nat):Bool:=l.bf.any (mQ k)||l.aH.any (mQ k)
theorem Uz(p:5000<=n)(e:kg l)(q:k<4):Dn n l (k:Int)=some (tD l k):=by
 obtain⟨⟨r,i⟩,s,m⟩:=e;have c: ∀x,cQ x=true->qg n x (k:Int)=some (mQ k x):=λx a=>by
  have:=(fK a).1;unfold qg;exact ab.eq (ag (bk (gC O 0)) (ab.some rfl))
 unfold Dn tD;refine ab.eq (ab.aA (λz=>z=(l.bf.any (mQ k)||l.aH.any (mQ k))) (λj d=>?_) λz o=>ab.some o);refine ag (xP (λx a=>c x (i x a)) O O) (ab.cond (λh=>d _ (by rw[h];rfl)) λh=>ag (xP (λx a=>c x (m x a)) O O) (d _ (by rw[h];rfl)))
theorem MT{k:Type}{f:k->Bool}{l:List k}{x:k}(h:l[i]? =some x):(l.take (i+1)).any f=((l.take i).any f||f x):=by rw[ei,h,sZ];simp
theorem Ud(y:5000<=n)(q:kg l)(A:k<4):zK n l (k:Int)=some (tD l k):=by
 obtain⟨⟨B,r⟩,C,s⟩:=q;unfold zK tD;refine ab.eq (ab.loop (λx:Int=> ∃i:Nat,x=i/\i<=l.bf.length/\(l.bf.take i).any (mQ k)=false) (λx=>l.bf.length-x.toNat) ?_ n _ ⟨0,rfl,O,rfl⟩ O);rintro c z ⟨i,rfl,w,d⟩ m;refine aQ (λa=>?_) λo=>?_
 ·have a:i<l.bf.length:=O
  have h:=bs a
  have:=(fK (r _ (fx a))).1;refine ag (bk h) (ag (bk (gC O 0)) (eP (λe=>ab.some ?_) λp=>?_))
  ·rw[ig.2 ⟨_,fx a,by unfold mQ;simpa using e⟩];rfl
  rw[be O];exact m _ ⟨i+1,O,O,by rw[MT h,d];unfold mQ;simpa using p⟩ O
 have:i=l.bf.length:=O
 subst this;rw[c4] at d;rw[d,Bool.false_or];clear m;refine ab.loop (λx:Int=> ∃i:Nat,x=i/\i<=l.aH.length/\(l.aH.take i).any (mQ k)=false) (λx=>l.aH.length-x.toNat) ?_ n _ ⟨0,rfl,O,rfl⟩ O;rintro c z ⟨i,rfl,w,d⟩ m;refine aQ (λa=>?_) λo=>ab.some ?_
 ·have a:i<l.aH.length:=O
  have h:=bs a
  have:=(fK (s _ (fx a))).1;refine ag (bk h) (ag (bk (gC O 0)) (eP (λe=>ab.some ?_) λp=>?_))
  ·rw[ig.2 ⟨_,fx a,by unfold mQ;simpa using e⟩]
  rw[be O];exact m _ ⟨i+1,O,O,by rw[MT h,d];unfold mQ;simpa using p⟩ O
 have:i=l.aH.length:=O
 subst this;rw[c4] at d;exact d.symm
def jF(k:Nat)(l:List Loop):List Loop:=(l.set k (l.getD (k+1) ⟨[],[]⟩)).set (k+1) (l.getD k ⟨[],[]⟩)
theorem wu(k:Nat)(l:List Loop):(jF k l).length=l.length:=by simp[jF]
def vg(k:Nat)(P:Part):Part:=⟨(jF k P.nest).take (k+2)++((jF k P.nest).drop (k+2)).map (d7 (mD k)),P.body.map (iq (mD k))⟩
def p2(p:Prog)(i k:Nat)(P:Part):Bool:= !tD (P.nest.getD (k+1) ⟨[],[]⟩) k&&(jn p i).all λd=>hl (pw k d)
def nF(p:Prog)(a c:Int):Prog×Bool:=
 if cS p a c=true/\cS p a (c+1)=true then
  match au p.parts a with
  |some P=>if p2 p a.toNat c.toNat P=true then hD ⟨p.aS,p.parts.set a.toNat (vg c.toNat P)⟩ else d'
  |none=>d'
 else d'
theorem FU{l:List Loop}(c:k+1<l.length){y:Loop}(a:y∈jF k l):y∈l:=by
 unfold jF at a;rcases q3 a with h|h
 ·rcases q3 h with h|h
  ·exact h
  rw[h];exact bF (gC c _)
 rw[h];exact bF (gC O _)
theorem Oy(c:en r P=true)(e:k+1<P.nest.length):fv 4 (vg k P):=by
 obtain⟨n,h⟩:=hX c;obtain⟨_,i,l,_⟩:=gh c;refine⟨⟨by simp only[vg,List.length_append,List.length_map,List.length_take,List.length_drop,wu];omega,λy a=>?_⟩,by simp only[vg,List.length_map];exact i.2,λs m=>?_⟩
 ·rcases dZ.1 a with a|a
  ·exact(tC c).1.2 y (FU e (fR a))
  obtain⟨z,d,rfl⟩:=eK.1 a;exact wD NU (h z (FU e (eV d)))
 obtain⟨z,d,rfl⟩:=eK.1 m;exact A2 NU (l z d)
theorem NP(c:p.parts[i]? =some P)(h:cS p (i:Int) ((k:Int)+1)=true):k+1<P.nest.length:=by
 obtain⟨_,d,e,l,m,n,o,a,_,_,q,_⟩:=j2 h
 have:d=i:=O
 subst this;rw[c] at a;cases a;omega
theorem M7(a:cS p (i:Int) (k:Int)=true)(c:cS p (i:Int) ((k:Int)+1)=true)(d:p.parts[i]? =some P):nF p i k=if p2 p i k P=true then hD ⟨p.aS,p.parts.set i (vg k P)⟩ else d':=by unfold nF;rw[a1 ⟨a,c⟩,bk d];simp only[Int.toNat_natCast]
theorem ad8(I:20000<=n)(x:c5 1000 p)(a c:Int):Cz n p a c=some (nF p a c):=by
 unfold Cz;by_cases e:c= -1
 ·subst e;unfold nF;rw[a6 λh=>by rw[qL O] at h;cases h.1];exact ab.eq (cc (zB O x a) λY K=>ab.cond (λ_=>aQ (λ_=>ab.some rfl) λh=>bA (show(-1:Int)<0 by omega) h) λ_=>ab.some rfl)
 refine ab.eq (ag (wk O x a c e) ?_);by_cases m:cS p a c=true
 ·rw[a1 m];refine bS (aQ (λh=>by rw[qL h] at m;cases m) λb=>?_);obtain⟨z,i,k,P,l,rfl,rfl,o,g,j,L,q,t⟩:=j2 m;obtain⟨K,G⟩:=hX q;obtain⟨_,Q,R,_⟩:=gh q;refine ag (bk o) ?_;rw[be (n:=(k:Int)+1) O,be (n:=(k:Int)+2) O];refine aQ (λU=>ab.some ?_) λW=>?_
  ·unfold nF;rw[a6 λh=>by have:=NP o h.2;omega];rfl
  have r:k+1<P.nest.length:=O
  have A:cS p (i:Int) ((k:Int)+1)=true:=by
   unfold cS;rw[z,bk o];exact bz O
  rw[M7 m A o];have H:=gC r (⟨[],[]⟩:Loop);rw[show(k:Int)+1=((k+1:Nat):Int) by omega];refine ag (bk H) (ag (Uz O (G _ (bF H)) O) (ab.cond (λB=>ab.some ?_) λB=>?_))
  ·rw[a6 (by unfold p2;rw[B];simp)];rfl
  refine ag (KI I x.sm z o (F:=λC=>uC n C (k:Int)) (f:=pw k) (λd w=>YB (by have:=(sU z o w).1;omega) (by have:=(sU z o w).1;omega)) (Ng k)) (ab.cond (λw=>?_) λw=>ab.some ?_)
  ·rw[a1 (by unfold p2;rw[B,w];rfl)];refine ag (bk (gC O (⟨[],[]⟩:Loop))) (ag (dH O _) (ag (dH (by rw[eS];omega) _) (ag (dH Z _) ?_)));rw[cY,cY,cY];have D:=xV (n:=n) O (nest:=jF k P.nest) (body:=P.body) (s:=k+2) (by rw[wu];omega) (by rw[wu];omega) (λy X=>G y (FU r (eV X))) Q.2 R (F:=λC=>uB n C (k:Int)) (YA n O);rw[show(k:Int)+2=((k+2:Nat):Int) by omega];refine ag D (ag (dH bQ _) ?_);rw[cY,List.set_set];exact ag (qz O (wS x i (Oy q r))) (ab.some rfl)
  rw[a6 (by unfold p2;rw[w];simp)];rfl
 unfold nF;rw[a6 m,a6 λh=>m h.1];exact b3 (ab.some rfl)
theorem Nf{a b:List Loop}(c:k+1<a.length):jF k (a++b)=jF k a++b:=by
 have d:(a++b).getD (k+1) ⟨[],[]⟩=a.getD (k+1) ⟨[],[]⟩:=by rw[eu,eu,gJ c]
 have e:(a++b).getD k ⟨[],[]⟩=a.getD k ⟨[],[]⟩:=by rw[eu,eu,gJ O]
 unfold jF;rw[d,e,List.set_append_left _ _ O,List.set_append_left _ _ (by rw[eS];exact c)]
theorem XC{l:List Loop}(c:k+1<l.length):jF k (l.take (k+2))=(jF k l).take (k+2):=by have h:=Nf (k:=k) (a:=l.take (k+2)) (b:=l.drop (k+2)) (by rw[cJ];omega);rw[s6] at h;rw[h,pB (by rw[wu,cJ];omega)];exact(jd (by rw[wu,cJ];omega)).symm
theorem XD{l:List Loop}:(jF k l).drop (k+2)=l.drop (k+2):=by unfold jF;rw[pH O,pH O]
theorem aaM(a:k+1<P.nest.length)(r:List Loop):jF k (P.nest.take (k+2)++r)=(jF k P.nest).take (k+2)++r:=by rw[Nf (by rw[cJ];omega),XC a]
theorem afs(N:20000<=n)(q:c5 1000 p)(a c:Int):Cv n p a c=some (nF p a c):=by
 unfold Cv;by_cases F:cS p a c=true;rotate_left
 ·unfold nF;rw[a6 λh=>F h.1];refine ab.eq (ag (kx O q) (ab.aA (λz=>z=true) (λj H=>ag (mz O q a c) (ab.cond (λ_=>H _ rfl) λh=>bA (by simpa using h) F)) λz I=>by rw[I];exact bS (ab.some rfl)))
 obtain⟨U,i,k,P,l,rfl,rfl,K,cD,S,T,y,hk⟩:=j2 F;obtain⟨V,u⟩:=hX y;obtain⟨_,h4,h5,_⟩:=gh y;rw[be (n:=(k:Int)+1) O];by_cases e:cS p (i:Int) ((k:Int)+1)=true;rotate_left
 ·unfold nF;rw[a6 λh=>e h.2];refine ab.eq (ag (kx O q) (ab.aA (λz=>z=true) (λj H=>ag (mz O q _ _) (ab.cond (λh=>by rw[F] at h;cases h) λ_=>ag (mz O q _ _) (ab.cond (λ_=>H _ rfl) λh=>bA (by simpa using h) e))) λz I=>by rw[I];exact bS (ab.some rfl)))
 rw[M7 F e K];have B:=NP K e;have E:=gC B (⟨[],[]⟩:Loop);refine ab.eq (ag (kx O q) (ab.aA (λz=>z=tD (P.nest.getD (k+1) ⟨[],[]⟩) k) (λj H=>?_) λz I=>?_))
 ·refine ag (mz O q _ _) (ab.cond (λh=>by rw[F] at h;cases h) λ_=>ag (mz O q _ _) (ab.cond (λh=>by rw[e] at h;cases h) λ_=>ag (bk K) ?_));rw[show(k:Int)+1=((k+1:Nat):Int) by omega];exact ag (bk E) (ag (Ud O (u _ (bF E)) O) (H _ rfl))
 subst I;refine ab.cond (λW=>ab.some ?_) λW=>?_
 ·rw[a6 (by unfold p2;rw[W];simp)];rfl
 refine ag (x:=jn p i) (Ku N q.sm U _) ?_;have L:=F9 U (i:=i);have Q:=λd G=>(sU U K (d:=d) G).1;have X:p2 p i k P=(jn p i).all (λd=>hl (pw k d)):=by unfold p2;rw[W];rfl
 rw[X];generalize jn p i=D at L Q;refine ab.loop (λx:Int=> ∃m:Nat,x=m/\m<=D.length/\ ∀d∈D.take m,hl (pw k d)=true) (λx=>D.length-x.toNat) ?_ n _ ⟨0,rfl,O,λd G=>by simp at G⟩ O;rintro Y z ⟨m,rfl,hm,o⟩ b7;refine aQ (λC=>?_) λiC=>?_
 ·have C:m<D.length:=O
  have M:=bs C;have r:=fx C;have nh:=Q _ r;rw[show(k:Int)+1=((k+1:Nat):Int) by omega];refine ag (bk M) (ag (cX bQ) (ag (bk (gC O 0)) (ag (x:=D[m].getD k 0) (bk (gC (l:=D[m]) O 0)) (ag (dH (by rw[sY];omega) _) (ag (bk (gC O 0)) ?_)))));rw[sY,cY];refine ag (bk (gC (l:=D[m].set k (D[m].getD (k+1) 0)) (k:=k+1) bQ 0)) (ag (dH (by rw[eS];omega) _) ?_);rw[cY];refine ag (x:=hl (pw k D[m])) (Lq (d:=pw k D[m]) (by rw[Ng];omega) O) (ab.cond (λh=>ab.some ?_) λh=>?_)
  ·rw[a6 λR=>?_]
   ·rfl
   have:=fw.1 R _ r;rw[this] at h;cases h
  rw[be O];refine b7 _ ⟨m+1,O,O,λd G=>?_⟩ O;rw[ei,M] at G;rcases dZ.1 G with g|g
  ·exact o d g
  have:d=D[m]:=by simpa using g
  subst this;simpa using h
 have:m=D.length:=O
 subst this;rw[c4] at o;rw[a1 (fw.2 o)];have t:=Dx (n:=n) O (x:=P) (s:=k+1) O V u h4.2 h5 (way:=0) (v:=(k:Int)) (b:=⟨[],0⟩) (f:=mD k) λn _ x hx=>ZS n O x hx;rw[show(k:Int)+1=((k+1:Nat):Int) by omega];refine ag (bk K) (ag t ?_);have qi:(P.nest.take (k+2)++(P.nest.drop (k+2)).map (d7 (mD k))).length=P.nest.length:=by rw[dB,c6,cJ,e6];omega
 have w:=aaM B ((P.nest.drop (k+2)).map (d7 (mD k)));rw[show k+1+1=k+2 by omega];dsimp only;generalize P.nest.take (k+2)++(P.nest.drop (k+2)).map (d7 (mD k))=A at qi w;refine ag (bk (gC O (⟨[],[]⟩:Loop))) (ag (bk (gC O (⟨[],[]⟩:Loop))) (ag (dH O _) ?_));rw[cY];refine ag (bk (gC (l:=A.set k (A.getD (k+1) ⟨[],[]⟩)) (k:=k+1) (by rw[eS];omega) (⟨[],[]⟩:Loop))) (ag (dH (by rw[eS];omega) _) ?_);rw[cY];have ng:(⟨(A.set k (A.getD (k+1) ⟨[],[]⟩)).set (k+1) (A.getD k ⟨[],[]⟩),P.body.map (iq (mD k))⟩:Part)=vg k P:=by
  have:(A.set k (A.getD (k+1) ⟨[],[]⟩)).set (k+1) (A.getD k ⟨[],[]⟩)=jF k A:=rfl;rw[this,w,<-XD];rfl
 rw[ng];exact ag (wq O q S ((Oy y B).mono O)) (ab.some rfl)
def mS(k:Nat)(c:Int):ay:=⟨[0,0,0,0].set k (-1),c⟩
def p5(k:Nat)(c:Int)(x:ay):ay:=tU x k (mS k c)
def lp(k:Nat)(d:List Int):List Int:=d.set k (0-d.getD k 0)
def mR(l:Loop):Int:=d9 l.bf+d9 l.aH-1
def w1(k:Nat)(c:Int)(P:Part):Part:=⟨P.nest.take (k+1)++(P.nest.drop (k+1)).map (d7 (p5 k c)),P.body.map (iq (p5 k c))⟩
def rJ(p:Prog)(i k:Nat)(l:Loop):Bool:=eI l&&(jn p i).all λd=>hl (lp k d)
def pg(p:Prog)(a c:Int):Prog×Bool:=
 if cS p a c=true then
  match au p.parts a with
  |some P=>match au P.nest c with
   |some l=>if rJ p a.toNat c.toNat l=true then hD ⟨p.aS,p.parts.set a.toNat (w1 c.toNat (mR l) P)⟩ else d'
   |none=>d'
  |none=>d'
 else d'
theorem ME(k:Nat)(d:List Int):(lp k d).length=d.length:=by simp[lp]
theorem M4(h:cS p (i:Int) (k:Int)=true)(a:p.parts[i]? =some P)(c:P.nest[k]? =some l):pg p i k=if rJ p i k l=true then hD ⟨p.aS,p.parts.set i (w1 k (mR l) P)⟩ else d':=by unfold pg;rw[a1 h,bk a];dsimp only;rw[bk c];simp only[Int.toNat_natCast]
theorem M5(d:k<4)(a:cI 999 c):fe 1000 (mS k c):=by unfold cI at a;rcases(O:k=0\/k=1\/k=2\/k=3) with rfl|rfl|rfl|rfl<;>(unfold fe cI mS;simp;omega)
theorem M6(k:Nat)(c:Int): ∀x,cQ x=true->dm 4 (p5 k c x):=λx a=>by have:=Og ⟨x.aT.set k 0,x.const⟩ (mS k c) (x.aT.getD k 0) (by dsimp only;rw[eS];exact(fK a).1) (by simp[mS]);unfold dm p5 tU;omega
theorem tz{l:List ay}(h: ∀x∈l,cQ x=true):cI 99 (d9 l):=by
 unfold d9;cases l with
 |nil=>unfold cI;simp
 |cons x t=>exact(fK (h x eR)).2.1
theorem Gp(h:kg l):cI 999 (mR l):=by have a:=tz h.1.2;have c:=tz h.2.2;unfold cI at*;unfold mR;omega
theorem Xn(n:Nat)(a:k<d.length)(c: ∀x∈d,cI 99999 x):uA n d (k:Int)=some (lp k d):=by have e:=gC a (0:Int);have a8:=c _ (bF e);unfold cI at a8;unfold uA;refine ab.eq (ag (bk e) ?_);rw[be O];refine ag (dH O _) (ab.some ?_);rw[cY];rfl
theorem YZ(n:Nat)(a:k<4):nf n (k:Int) (-1)=some ⟨[0,0,0,0].set k (-1),0⟩:=by rcases(O:k=0\/k=1\/k=2\/k=3) with rfl|rfl|rfl|rfl<;>rfl
theorem Xm(d:5000<=n)(a:k<4)(e:cI 999 c): ∀x,cQ x=true->uz n x (k:Int) (mS k c)=some (p5 k c x):=λx h=>by unfold uz;rw[Ek d ((nv h).mono O) (M5 a e) a];rfl
theorem XK(a:k<4)(d:cI 999 c): ∀n,5000<=n-> ∀x,cQ x=true->js n x 1 (k:Int) (mS k c)=some (p5 k c x):=λn e x h=>by unfold js;rw[Kr e ((nv h).mono O) (M5 a d) a];rfl
theorem aaO(a:5000<=n)(d:k<4)(e:cI 999 c):hW n ⟨[0,0,0,0],c⟩ 1 (gP k) (-1)=some (mS k c):=by unfold cI at e;rw[sR a (by unfold fe cI;simp;omega) ((te d).mono O) ⟨O,O⟩ ⟨O,O⟩];rcases(O:k=0\/k=1\/k=2\/k=3) with rfl|rfl|rfl|rfl<;>simp[nS,gP,mS]
theorem NX(d:en r P=true)(n:k<P.nest.length)(c:Int):fv 4 (w1 k c P):=by
 obtain⟨o,h⟩:=hX d;obtain⟨_,i,l,_⟩:=gh d;refine⟨⟨by simp only[w1,List.length_append,List.length_map,List.length_take,List.length_drop];omega,λy a=>?_⟩,by simp only[w1,List.length_map];exact i.2,λs m=>?_⟩
 ·rcases dZ.1 a with a|a
  ·exact(tC d).1.2 y (fR a)
  obtain⟨z,e,rfl⟩:=eK.1 a;exact wD (M6 k c) (h z (eV e))
 obtain⟨z,e,rfl⟩:=eK.1 m;exact A2 (M6 k c) (l z e)
theorem ad2(W:20000<=n)(z:c5 1000 p)(a c:Int):Cy n p a c=some (pg p a c):=by
 unfold Cy;by_cases m:c= -1
 ·subst m;unfold pg;rw[a6 λh=>by rw[qL O] at h;cases h];exact ab.eq (cc (zB O z a) λj Q=>ab.cond (λ_=>aQ (λ_=>ab.some rfl) λh=>bA (show(-1:Int)<0 by omega) h) λ_=>ab.some rfl)
 refine ab.eq (ag (wk O z a c m) ?_);by_cases o:cS p a c=true
 ·rw[a1 o];refine bS (aQ (λh=>by rw[qL h] at o;cases o) λt=>?_);obtain⟨A,i,k,P,l,rfl,rfl,w,B,u,C,q,R⟩:=j2 o;obtain⟨Q,U⟩:=hX q;obtain⟨_,X,Y,_⟩:=gh q;have e:=U l (bF B);rw[M4 o w B];refine ag (bk w) (ag (bk B) (ag (Fi O e) ?_));cases D:eI l with
  |false=>exact b3 (ab.some (by rw[a6 (by unfold rJ;rw[D];simp)];rfl))
  |true=>
   refine bS (ag (KI W z.sm A w (F:=λG=>uA n G (k:Int)) (f:=lp k) (λd r=>Xn n (by have:=(sU A w r).1;omega) (sU A w r).2) (ME k)) (ab.cond (λr=>?_) λr=>ab.some ?_))
   ·rw[show rJ p i k l=true by unfold rJ;rw[D,r];rfl];refine ag (YZ n R) ?_;have bP:=Gp e;have H:=tz e.1.2;have I:=tz e.2.2;unfold cI at H I;have K:(⟨([0,0,0,0]:List Int).set k (-1),wr ((wr (d9 l.bf+d9 l.aH))-1)⟩:ay)=mS k (mR l):=by
     rw[be (n:=d9 l.bf+d9 l.aH) O,be O];rfl
    rw[be (n:=(k:Int)+1) O];have L:=xV (n:=n) O (nest:=P.nest) (body:=P.body) (s:=k+1) O Q (λy b=>U y (eV b)) X.2 Y (F:=λG=>uz n G (k:Int) (⟨([0,0,0,0]:List Int).set k (-1),wr ((wr (d9 l.bf+d9 l.aH))-1)⟩:ay)) (f:=p5 k (mR l)) λx g=>by rw[K];exact Xm O R bP x g
    rw[show(k:Int)+1=((k+1:Nat):Int) by omega];refine ag L (ag (dH Z _) ?_);rw[cY];exact ag (qz O (wS z i (NX q C (mR l)))) (ab.some rfl)
   rw[a6 (by unfold rJ;rw[D,r];simp)];rfl
 unfold pg;rw[a6 o,a6 o];exact b3 (ab.some rfl)
theorem afm(E:20000<=n)(B:c5 1000 p)(c e:Int):Cu n p c e=some (pg p c e):=by
 unfold Cu;refine ab.eq (ag (kx O B) (ag (mz O B c e) ?_));by_cases a8:cS p c e=true;rotate_left
 ·unfold pg;rw[a6 a8,show cS p c e=false by simpa using a8];exact bS (ab.some rfl)
 rw[a8];refine b3 ?_;obtain⟨F,i,k,P,l,rfl,rfl,G,H,M,I,o,K⟩:=j2 a8;obtain⟨N,g⟩:=hX o;obtain⟨_,S,T,_⟩:=gh o;have h:=g l (bF H);rw[M4 a8 G H];refine ag (bk G) (ag (bk H) (ag (EH O h) (ag (x:=jn p i) (Ku E B.sm F _) ?_)));have r:=F9 F (i:=i);have w:=λd V=>sU F G (d:=d) V;have L:rJ p i k l=(eI l&&(jn p i).all λd=>hl (lp k d)):=rfl;rw[L];have h3:(if eI l=true then(d9 l.bf,d9 l.aH,true) else((0:Int),(0:Int),false)).2.2=eI l:=by cases eI l<;>rfl
 generalize jn p i=D at r w;refine ab.loop (λx:Bool×Int=> ∃m:Nat,x.2=m/\m<=D.length/\x.1=(eI l&&(D.take m).all λd=>hl (lp k d))) (λx=>D.length-x.2.toNat) ?_ n _ ⟨0,rfl,O,by dsimp only;rw[h3,List.take_zero];simp⟩ Z;rintro Q ⟨ok,z⟩ ⟨m,C,hm,a⟩ b7;dsimp only at C a⊢;subst C;refine aQ (λq=>?_) λiC=>?_
 ·have q:m<D.length:=O
  have t:=bs q;obtain⟨g1,g2⟩:=w _ (fx q);have u:=gC (l:=D[m]) (k:=k) O 0;have a8:=g2 _ (bF u);unfold cI at a8;refine ab.aA (λz=>z.2=(eI l&&(D.take (m+1)).all λd=>hl (lp k d))) (λj R=>?_) λz C=>?_
  ·refine ag (bk t) (ag (cX bQ) ?_);rw[sY];refine ag (bk u) ?_;rw[be O];refine ag (dH O _) ?_;rw[cY];have y:(D.take (m+1)).all (λd=>hl (lp k d))=((D.take m).all (λd=>hl (lp k d))&&hl (lp k D[m])):=by
    rw[ei,t,List.all_append];simp
   rw[y,<-lV,<-a] at R;cases ok with
   |true=>exact bS (ag (x:=hl (lp k D[m])) (Lq (d:=lp k D[m]) (by rw[ME];omega) O) (R _ (by rw[fb])))
   |false=>exact b3 (R _ (by rw[Bool.false_and]))
  rw[be O];exact b7 _ ⟨m+1,Z,O,C⟩ Z
 have:m=D.length:=O
 subst this;rw[c4] at a;rw[<-a];cases A:ok with
 |false=>exact bS (ab.some (by rw[a6 aX];rfl))
 |true=>
  rw[a1 rfl];have U:eI l=true:=by
   rw[A] at a;cases U:eI l with
   |true=>rfl
   |false=>rw[U] at a;cases a
  have W:=tz h.1.2;have X:=tz h.2.2;unfold cI at W X;have Y:wr ((wr ((if eI l=true then(d9 l.bf,d9 l.aH,true) else((0:Int),(0:Int),false)).1+(if eI l=true then(d9 l.bf,d9 l.aH,true) else((0:Int),(0:Int),false)).2.1))-1)=mR l:=by
   rw[a1 U];dsimp only;rw[be (n:=d9 l.bf+d9 l.aH) O,be O];rfl
  rw[Y];refine b3 (ag (gW n _) (ag (zJ n K) (ag (aaO O K (Gp h)) (ag (Dx (n:=n) O (x:=P) (s:=k) O N g S.2 T (way:=1) (v:=(k:Int)) (b:=mS k (mR l)) (f:=p5 k (mR l)) (XK K (Gp h))) ?_))));exact ag (wq O B M ((NX o I (mR l)).mono O)) (ab.some rfl)
end
section
def l9(k:Int):Int:=if k=3\/k=4\/k=5 then 3 else if k=1\/k=2\/k=7\/k=8 then 2 else if k=6\/k=9\/k=10 then 1 else 0
def rn(s:Step):Bool:=decide (1<=s.kind/\s.kind<=11)&&((decide (0<l9 s.kind)||decide (s.part=0))&&((decide (1<l9 s.kind)||decide (s.a=0))&&(decide (2<l9 s.kind)||decide (s.b=0))))
theorem OJ(k:Int):0<=l9 k/\l9 k<=3:=by
 unfold l9;split
 ·omega
 split
 ·omega
 split<;>omega
theorem Kk(n:Nat)(k:Int):yc n k=some (l9 k):=by
 unfold yc l9;refine ab.eq (ab.aA (λz=>z=decide (k=3\/k=4\/k=5)) (λj a=>aQ (λh=>a _ ?_) λh=>aQ (λc=>a _ ?_) λc=>a _ ?_) λz d=>?_)
 ·rw[e5];simp only[decide_eq_true_eq];omega
 ·rw[e5];simp only[decide_eq_true_eq];omega
 ·rw[e5];simp only[decide_eq_true_eq];omega
 subst d;by_cases e:k=3\/k=4\/k=5
 ·rw[a1 e,bz e];exact bS (ab.some rfl)
 rw[a6 e,bx e];refine b3 (ab.aA (λz=>z=decide (k=1\/k=2\/k=7\/k=8)) (λj a=>aQ (λh=>a _ ?_) λh=>aQ (λc=>a _ ?_) λc=>aQ (λm=>a _ ?_) λm=>a _ ?_) λz d=>?_)
 ·rw[e5];simp only[decide_eq_true_eq];omega
 ·rw[e5];simp only[decide_eq_true_eq];omega
 ·rw[e5];simp only[decide_eq_true_eq];omega
 ·rw[e5];simp only[decide_eq_true_eq];omega
 subst d;by_cases i:k=1\/k=2\/k=7\/k=8
 ·rw[a1 i,bz i];exact bS (ab.some rfl)
 rw[a6 i,bx i];refine b3 (ab.aA (λz=>z=decide (k=6\/k=9\/k=10)) (λj a=>aQ (λh=>a _ ?_) λh=>aQ (λc=>a _ ?_) λc=>a _ ?_) λz d=>?_)
 ·rw[e5];simp only[decide_eq_true_eq];omega
 ·rw[e5];simp only[decide_eq_true_eq];omega
 ·rw[e5];simp only[decide_eq_true_eq];omega
 subst d;by_cases l:k=6\/k=9\/k=10
 ·rw[a1 l,bz l];exact bS (ab.some rfl)
 rw[a6 l,bx l];exact b3 (ab.some rfl)
theorem UB(n:Nat)(k:Int):zV n k=some (if 1<=k/\k<=11 then l9 k else-1):=by
 unfold zV l9;refine ab.eq (ab.aA (λz=>z=decide (k=1\/k=2\/k=7\/k=8)) (λj a=>aQ (λh=>a _ ?_) λh=>aQ (λc=>a _ ?_) λc=>aQ (λm=>a _ ?_) λm=>a _ ?_) λz d=>?_)
 ·rw[e5];simp only[decide_eq_true_eq];omega
 ·rw[e5];simp only[decide_eq_true_eq];omega
 ·rw[e5];simp only[decide_eq_true_eq];omega
 ·rw[e5];simp only[decide_eq_true_eq];omega
 subst d;by_cases e:k=1\/k=2\/k=7\/k=8
 ·rw[bz e,a1 O,a6 O,a1 e];exact bS (ab.some rfl)
 rw[bx e];refine b3 (ab.aA (λz=>z=decide (k=3\/k=4\/k=5)) (λj a=>aQ (λh=>a _ ?_) λh=>aQ (λc=>a _ ?_) λc=>a _ ?_) λz d=>?_)
 ·rw[e5];simp only[decide_eq_true_eq];omega
 ·rw[e5];simp only[decide_eq_true_eq];omega
 ·rw[e5];simp only[decide_eq_true_eq];omega
 subst d;by_cases i:k=3\/k=4\/k=5
 ·rw[bz i,a1 O,a1 i];exact bS (ab.some rfl)
 rw[bx i];refine b3 (ab.aA (λz=>z=decide (k=6\/k=9\/k=10)) (λj a=>aQ (λh=>a _ ?_) λh=>aQ (λc=>a _ ?_) λc=>a _ ?_) λz d=>?_)
 ·rw[e5];simp only[decide_eq_true_eq];omega
 ·rw[e5];simp only[decide_eq_true_eq];omega
 ·rw[e5];simp only[decide_eq_true_eq];omega
 subst d;by_cases l:k=6\/k=9\/k=10
 ·rw[bz l,a1 O,a6 i,a6 e,a1 l];exact bS (ab.some rfl)
 rw[bx l];refine b3 (aQ (λh=>ab.some ?_) λh=>ab.some ?_)
 ·rw[a1 O,a6 i,a6 e,a6 l]
 rw[a6 O]
theorem VI(n:Nat)(s:Step):DC n s=some (rn s):=by
 unfold DC rn;have B:=OJ s.kind;refine ab.eq (ag (Kk n s.kind) ?_);generalize l9 s.kind=f at*;refine ab.aA (λz=>z=(decide (1<=s.kind/\s.kind<=11)&&((decide (0<f)||decide (s.part=0))&&((decide (1<f)||decide (s.a=0))&&(decide (2<f)||decide (s.b=0)))))) (λj r=>?_) λz m=>ab.some m;have c: ∀z:Bool,(z=true↔((1<=s.kind/\s.kind<=11)/\(0<f\/s.part=0)/\(1<f\/s.a=0)/\(2<f\/s.b=0)))->ab (j z) (λx=>x=(decide (1<=s.kind/\s.kind<=11)&&((decide (0<f)||decide (s.part=0))&&((decide (1<f)||decide (s.a=0))&&(decide (2<f)||decide (s.b=0)))))):=λz m=>r z (by
  rw[e5,m];simp only[Bool.and_eq_true,Bool.or_eq_true,decide_eq_true_eq])
 have k:((1<=s.kind/\s.kind<=11)/\(0<f\/s.part=0)/\(1<f\/s.a=0)/\(2<f\/s.b=0))->ab (j true) _:=λh=>c true ⟨λ_=>h,λ_=>rfl⟩;have i: ¬((1<=s.kind/\s.kind<=11)/\(0<f\/s.part=0)/\(1<f\/s.a=0)/\(2<f\/s.b=0))->ab (j false) _:=λh=>c false ⟨λe=>(by cases e),λo=>bA o h⟩;have l:(1<=s.kind/\s.kind<=11)/\(0<f\/s.part=0)/\(1<f\/s.a=0)/\ ¬2<f->ab (j (decide (s.b=0))) _:=λh=>c _ (by rw[decide_eq_true_eq];exact⟨λe=>⟨h.1,h.2.1,h.2.2.1,.inr e⟩,λe=>e.2.2.2.resolve_left h.2.2.2⟩);refine aQ (λw=>aQ (λo=>aQ (λy=>aQ (λp=>aQ (λd=>k O) λd=>l O) λp=>aQ (λq=>aQ (λd=>k O) λd=>l O) λq=>i O) λy=>aQ (λA=>aQ (λp=>aQ (λd=>k O) λd=>l O) λp=>aQ (λq=>aQ (λd=>k O) λd=>l O) λq=>i O) λA=>i O) λo=>i O) λw=>i O
variable {n:Nat}{p:Prog}{s:Step}{R:Prog×Bool}{l:List Step}
theorem Vv(i:10<=n)(s:Step):zr n s=some (rn s):=by
 unfold zr rn;have k:=OJ s.kind;refine ab.eq (ag (UB n s.kind) ?_);generalize l9 s.kind=f at*;refine ab.aA (λz=>z=(decide (1<=s.kind/\s.kind<=11)&&((decide (0<f)||decide (s.part=0))&&((decide (1<f)||decide (s.a=0))&&(decide (2<f)||decide (s.b=0)))))) (λj c=>?_) λz e=>ab.some e;by_cases d:1<=s.kind/\s.kind<=11
 ·rw[a1 d];rw[bz d] at c⊢;refine aQ (λ_=>ag (show D1 n s=some [s.part,s.a,s.b] from rfl) (ag (gN O bQ aX) (ag (CV (p:=λv=> !decide (v=0)) (λx _=>rfl) bQ bQ) (c _ ?_)))) λh=>bA h O;rw[show([s.part,s.a,s.b].length:Int).toNat=[s.part,s.a,s.b].length from rfl,c4];rcases(O:f=0\/f=1\/f=2\/f=3) with rfl|rfl|rfl|rfl
  ·simp[show(0:Int).toNat=0 from rfl]
  ·simp[show(1:Int).toNat=1 from rfl]
  ·simp[show(2:Int).toNat=2 from rfl]
  simp[show(3:Int).toNat=3 from rfl]
 rw[a6 d];rw[bx d] at c⊢;exact aQ (λh=>bA h (by decide)) λ_=>c _ rfl
noncomputable def lb(p:Prog)(s:Step):Prog×Bool:=
 if rn s=true then
  (if s.kind=1 then nF p s.part s.a else if s.kind=2 then pg p s.part s.a else if s.kind=3 then vf p s.part s.a s.b else if s.kind=4 then ve p s.part s.a s.b
   else if s.kind=5 then qW p s.part s.a s.b else if s.kind=6 then ui p s.part else if s.kind=7 then ue p s.part s.a else if s.kind=8 then qV p s.part s.a
   else if s.kind=9 then qX p s.part else if s.kind=10 then tM p s.part else tJ p)
 else d'
def l4(s:Step):Prop:= -1<=s.part/\s.part<=9
theorem WH(c:20000<=n)(a:c5 1000 p)(d:l4 s):Dr n p s=some (lb p s):=by
 unfold Dr lb;refine ab.eq (ag (Vv O s) ?_);cases e:rn s with
 |false=>exact bS (ab.some rfl)
 |true=>
  rw[a1 rfl];refine b3 (aQ (λh=>?_) λh=>?_)
  ·rw[a1 h];exact ag (ad8 c a _ _) (ab.some rfl)
  rw[a6 h];refine aQ (λh=>?_) λh=>?_
  ·rw[a1 h];exact ag (ad2 c a _ _) (ab.some rfl)
  rw[a6 h];refine aQ (λh=>?_) λh=>?_
  ·rw[a1 h];exact ag (ad4 O a _ _ _) (ab.some rfl)
  rw[a6 h];refine aQ (λh=>?_) λh=>?_
  ·rw[a1 h];exact ag (ad3 O a _ _ _) (ab.some rfl)
  rw[a6 h];refine aQ (λh=>?_) λh=>?_
  ·rw[a1 h];exact ag (ad6 O a _ _ _) (ab.some rfl)
  rw[a6 h];refine aQ (λh=>?_) λh=>?_
  ·rw[a1 h];exact ag (ad1 c a d) (ab.some rfl)
  rw[a6 h];refine aQ (λh=>?_) λh=>?_
  ·rw[a1 h];exact ag (ad0 c a d) (ab.some rfl)
  rw[a6 h];refine aQ (λh=>?_) λh=>?_
  ·rw[a1 h];exact ag (ad5 c a _ _) (ab.some rfl)
  rw[a6 h];refine aQ (λh=>?_) λh=>?_
  ·rw[a1 h];exact ag (ad7 O a d) (ab.some rfl)
  rw[a6 h];refine aQ (λh=>?_) λh=>?_
  ·rw[a1 h];exact ag (WI O a d) (ab.some rfl)
  rw[a6 h];exact ag (RM O a) (ab.some rfl)
theorem LP(c:20000<=n)(a:c5 1000 p)(d:l4 s):yd n p s=some (lb p s):=by
 unfold yd lb;refine ab.eq (ag (kx O a) (ag (VI n s) ?_));cases e:rn s with
 |false=>exact bS (ab.some rfl)
 |true=>
  rw[a1 rfl];refine b3 (aQ (λh=>?_) λh=>?_)
  ·rw[a1 h];exact ag (afs c a _ _) (ab.some rfl)
  rw[a6 h];refine aQ (λh=>?_) λh=>?_
  ·rw[a1 h];exact ag (afm c a _ _) (ab.some rfl)
  rw[a6 h];refine aQ (λh=>?_) λh=>?_
  ·rw[a1 h];exact ag (afo O a _ _ _) (ab.some rfl)
  rw[a6 h];refine aQ (λh=>?_) λh=>?_
  ·rw[a1 h];exact ag (afn O a _ _ _) (ab.some rfl)
  rw[a6 h];refine aQ (λh=>?_) λh=>?_
  ·rw[a1 h];exact ag (afq O a _ _ _) (ab.some rfl)
  rw[a6 h];refine aQ (λh=>?_) λh=>?_
  ·rw[a1 h];exact ag (afl c a d) (ab.some rfl)
  rw[a6 h];refine aQ (λh=>?_) λh=>?_
  ·rw[a1 h];exact ag (afk c a d) (ab.some rfl)
  rw[a6 h];refine aQ (λh=>?_) λh=>?_
  ·rw[a1 h];exact ag (afp c a _ _) (ab.some rfl)
  rw[a6 h];refine aQ (λh=>?_) λh=>?_
  ·rw[a1 h];exact ag (afr O a d) (ab.some rfl)
  rw[a6 h];refine aQ (λh=>?_) λh=>?_
  ·rw[a1 h];exact ag (W8 O a d) (ab.some rfl)
  rw[a6 h];exact ag (RI O a) (ab.some rfl)
def mM(R:Prog×Bool):Prop:=(R.2=true/\b2 R.1=true)\/R=d'
theorem fA:mM d':= .inr rfl
theorem sH(q:Prog):mM (hD q):=by
 unfold hD;split
 ·rename_i h;exact .inl ⟨rfl,h⟩
 exact .inr rfl
theorem mM.Br(h:mM R):c5 1000 R.1:=by
 rcases h with h|h
 ·exact(kN h.2).mono O
 rw[h];exact ae1
theorem mM.v(h:mM R)(a:R.2=true):b2 R.1=true:=by
 rcases h with h|h
 ·exact h.2
 rw[h] at a;cases a
theorem afM(h:mM R)(a:R.2=false):R=d':=by
 rcases h with h|h
 ·rw[a] at h;cases h.1
 exact h
theorem KV(p:Prog)(a c:Int)(g f:ay->ay):mM (uX p a c g f):=by
 unfold uX;split
 ·split
  ·exact sH _
  exact fA
 exact fA
theorem E1(p:Prog)(s:Step):mM (lb p s):=by
 unfold lb;split
 ·split
  ·unfold nF;split
   ·split
    ·split
     ·exact sH _
     exact fA
    exact fA
   exact fA
  split
  ·unfold pg;split
   ·split
    ·split
     ·split
      ·exact sH _
      exact fA
     exact fA
    exact fA
   exact fA
  split
  ·unfold vf;split
   ·exact KV _ _ _ _ _
   exact fA
  split
  ·unfold ve;split
   ·exact KV _ _ _ _ _
   exact fA
  split
  ·unfold qW;split
   ·split
    ·split
     ·exact sH _
     exact fA
    exact fA
   exact fA
  split
  ·unfold ui;split
   ·split
    ·split
     ·exact sH _
     exact fA
    exact fA
   exact fA
  split
  ·unfold ue;split
   ·split
    ·split
     ·exact sH _
     exact fA
    exact fA
   exact fA
  split
  ·unfold qV;split
   ·split
    ·split
     ·exact sH _
     exact fA
    exact fA
   exact fA
  split
  ·by_cases h:j0 p s.part (s.part+1)=true
   ·obtain⟨i,d,k,e,a,c,_⟩:=H5 h;rw[e] at h⊢;rw[IK h a c];exact .inl ⟨rfl,IL (uH h).1 a c⟩
   unfold qX;rw[a6 h];exact fA
  split
  ·unfold tM;split
   ·rename_i h;simp only[Bool.and_eq_true] at h;exact .inl ⟨rfl,F' h.1 _⟩
   exact fA
  unfold tJ;split
  ·rename_i h;exact .inl ⟨rfl,ZD h⟩
  exact fA
 exact fA
noncomputable def hi:List Step->Prog->Prog×Bool
 | [],q=>(q,true)
 |s::l,q=>if(lb q s).2=true then hi l (lb q s).1 else d'
noncomputable def lO(p:Prog)(l:List Step):Prog×Bool:=if b2 p=true/\l.length<=12 then hi l p else d'
theorem EN: ∀{l:List Step} {q:Prog},b2 q=true->mM (hi l q)
 | [],q,h=> .inl ⟨rfl,h⟩
 |s::l,q,h=>by
  simp only[hi];split
  ·rename_i a;exact EN ((E1 q s).v a)
  exact fA
theorem UQ(p:Prog)(l:List Step):mM (lO p l):=by
 unfold lO;split
 ·rename_i h;exact EN h.1
 exact fA
theorem Ma: ∀{a b:List Step} {q:Prog},hi (a++b) q=if(hi a q).2=true then hi b (hi a q).1 else d'
 | [],b,q=>rfl
 |s::a,b,q=>by
  have c:hi (s::a) q=if(lb q s).2=true then hi a (lb q s).1 else d':=rfl
  have d:hi (s::a++b) q=if(lb q s).2=true then hi (a++b) (lb q s).1 else d':=rfl
  rw[c,d];split
  ·exact Ma
  rfl
theorem OH(H:20000<=n){f:Prog->Step->Option (Prog×Bool)}(A: ∀p s,c5 1000 p->l4 s->f p s=some (lb p s))(I:l.length<=12)(B: ∀s∈l,l4 s)(C:b2 p=true):
  bo (λc ((q,r,k):(List cg)×(List Part)×Int)=>
    bif decide (k<(l.length:Int)) then(
     Option.bind (au l k) λD=>
     Option.bind (f (⟨q,r⟩:Prog) D) λe=>
     bif !e.2 then(
      some ((⟨[],[]⟩:Prog),false)
     ) else(
      c (e.1.aS,e.1.parts,wr (k+1))
     )
    ) else(
     some ((⟨q,r⟩:Prog),true)
    )
   ) n (p.aS,p.parts,0)=some (hi l p):=by
 refine ab.eq (ab.loop (λx:List cg×List Part×Int=> ∃j:Nat,x.2.2=j/\j<=l.length/\b2 ⟨x.1,x.2.1⟩=true/\hi (l.drop j) ⟨x.1,x.2.1⟩=hi l p) (λx=>l.length-x.2.2.toNat) ?_ n _ ⟨0,rfl,O,C,rfl⟩ Z);rintro m ⟨a,w,z⟩ ⟨j,rfl,K,y,d⟩ F;dsimp only at y d⊢;refine aQ (λh=>?_) λG=>ab.some ?_
 ·have h:j<l.length:=O
  have i:=bs h;generalize l[j]=s at i;rw[jU i] at d;simp only[hi] at d;have bO:=E1 ⟨a,w⟩ s;refine ag (bk i) (ag (A _ s ((kN y).mono O) (B s (bF i))) ?_);cases o:(lb ⟨a,w⟩ s).2 with
  |false=>
   rw[o,a6 aX] at d;exact bS (ab.some d)
  |true=>
   rw[o,a1 rfl] at d;rw[be O];exact b3 (F _ ⟨j+1,Z,O,bO.v o,d⟩ Z)
 rw[show j=l.length by omega,ny] at d;exact d
theorem Em(d:20000<=n)(a:c5 1000 p)(m:l.length<=1000)(c: ∀s∈l,l4 s):uU n p l=some (lO p l):=by
 unfold uU lO;refine ab.eq (ab.aA (λz=>z= !decide (b2 p=true/\l.length<=12)) (λj e=>ag (uh O a.sm) (ab.cond (λh=>e _ ?_) λh=>e _ ?_)) λz i=>?_)
 ·rw[bx λk=>by rw[k.1] at h;cases h];rfl
 ·have h:b2 p=true:=by simpa using h
  rw[e5];simp only[Bool.not_eq_true',decide_eq_true_eq,decide_eq_false_iff_not,h,true_and];omega
 subst i;by_cases h:b2 p=true/\l.length<=12
 ·rw[a1 h,bz h];exact b3 (ag (qJ O h.1) (ab.of (OH d (λp s a c=>WH d a c) h.2 c h.1) rfl))
 rw[a6 h,bx h];exact bS (ab.some rfl)
theorem VH(d:20000<=n)(a:c5 1000 p)(m:l.length<=1000)(c: ∀s∈l,l4 s):CP n p l=some (lO p l):=by
 unfold CP lO;refine ab.eq (ag (kx O a) (ab.aA (λz=>z= !decide (b2 p=true/\l.length<=12)) (λj e=>ag (jP O a.sm) (ab.cond (λh=>e _ ?_) λh=>e _ ?_)) λz i=>?_))
 ·rw[bx λk=>by rw[k.1] at h;cases h];rfl
 ·have h:b2 p=true:=by simpa using h
  rw[e5];simp only[Bool.not_eq_true',decide_eq_true_eq,decide_eq_false_iff_not,h,true_and];omega
 subst i;by_cases h:b2 p=true/\l.length<=12
 ·rw[a1 h,bz h];exact b3 (ag (m' O a) (ab.of (OH d (λp s a c=>LP d a c) h.2 c h.1) rfl))
 rw[a6 h,bx h];exact bS (ab.some rfl)
end
variable {k:Int}{r:cA}
theorem MZ(i:cM k r)(A:0<=k/\k<=1000000):ab (yK N r) (λx=>l4 x.1/\cM (k+10) x.2):=by
 unfold yK;refine cc (iZ N i O) λB ⟨_,_,l⟩=>cc (gG N l O aX) λh ⟨m,n⟩=>cc (gG N n O aX) λC ⟨_,o⟩=>cc (gG N o O aX) λD ⟨_,p⟩=>ag (Kk N _) ?_;have q:0<=h.1/\h.1<=1:=by simp at m;omega
 refine ab.aA (λ_=>True) (λj a=>aQ (λ_=>a _ trivial) λ_=>a _ trivial) λF _=>?_;refine ab.aA (λ_=>True) (λj a=>aQ (λ_=>a _ trivial) λ_=>a _ trivial) λG _=>?_;refine ab.aA (λz=>0<=z/\z<=1) (λj a=>aQ (λ_=>a _ ⟨O,O⟩) λ_=>a _ q) λs H=>?_;exact ab.aA (λz:List UInt8×Int×Int=>cM (k+10) ⟨z.1,z.2.1⟩) (λj a=>cc (iZ N p O) λw ⟨_,_,c⟩=>aQ (λ_=>cc (gG N c O aX) λy ⟨_,d⟩=>a _ (d.mono O)) λ_=>a _ (c.mono O)) λz e=>ab.some ⟨⟨Z,Z⟩,e⟩
theorem Zw(R:cM k r)(hk:0<=k/\k<=400000){p:Prog}(U:c5 1000 p):ab (zf N r p) (λx=>(∀s∈x.1,l4 s)/\x.1.length<=8/\cM (k+1000) x.2):=by
 have fr:N=100000:=rfl;unfold zf;refine cc (gG N R O aX) λH ⟨W,X⟩=>?_;have I:0<=H.1/\H.1<=6:=by
  simp only[List.mem_cons,List.not_mem_nil,or_false] at W;omega
 refine ab.loop (λz:List UInt8×Int×List cg×List Part×List Step×Int=>0<=z.2.2.2.2.2/\z.2.2.2.2.2<=6/\cM (k+1+60*(6-z.2.2.2.2.2)) ⟨z.1,z.2.1⟩/\c5 1000 ⟨z.2.2.1,z.2.2.2.1⟩/\(∀s∈z.2.2.2.2.1,l4 s)/\(z.2.2.2.2.1.length:Int)<=6-z.2.2.2.2.2) (λz=>z.2.2.2.2.2.toNat) ?_ N _ ⟨I.1,I.2,X.mono Z,U,λs hs=>(by cases hs),by dsimp only;simp;omega⟩ Z;rintro w ⟨b,q,aE,ahs,out,c⟩ ⟨Y,f,y,A,a,g⟩ B;dsimp only at Y f y A a g⊢;refine aQ (λt=>?_) λu=>?_
 ·refine ab.aA (λz:List UInt8×Int×List cg×List Part×List Step=>cM (k+1+60*(6-c)+60) ⟨z.1,z.2.1⟩/\c5 1000 ⟨z.2.2.1,z.2.2.2.1⟩/\(∀s∈z.2.2.2.2,l4 s)/\(z.2.2.2.2.length:Int)<=6-c+1) (λv d=>?_) λz e=>?_
  ·refine ab.loop (λz:List UInt8×Int×Int=>0<=z.2.2/\z.2.2<=4/\cM (k+1+60*(6-c)+12*z.2.2) ⟨z.1,z.2.1⟩) (λz=>(4-z.2.2).toNat) ?_ N _ ⟨Z,Z,y.mono Z⟩ Z;rintro o ⟨eN,pf,i⟩ ⟨E,M,C⟩ D;dsimp only at E M C⊢;refine aQ (λP=>cc (MZ C ⟨O,O⟩) λS ⟨l,m⟩=>ag (LP O A l) (ab.cond (λh=>ag (cX bQ) (d _ ⟨m.mono O,(E1 _ _).Br,λs hs=>?_,?_⟩)) λh=>?_)) λP=>d _ ⟨C.mono O,A,a,Z⟩
   ·rcases dZ.1 hs with hs|hs
    ·exact a s hs
    rw[mI.1 hs];exact l
   ·dsimp only;rw[dB,mG];omega
   rw[be O];exact D _ ⟨Z,Z,m.mono Z⟩ Z
  obtain⟨yU,z2,z3,z4,z5⟩:=z;obtain⟨K,L,Q,T⟩:=e;dsimp only at K L Q T⊢;rw[be O];exact B _ ⟨Z,Z,K.mono Z,L,Q,Z⟩ Z
 refine ab.aA (λz:List UInt8×Int×List Step=>cM (k+1000) ⟨z.1,z.2.1⟩/\(∀s∈z.2.2,l4 s)/\z.2.2.length<=8) (λj d=>cc (iZ N y O) λV ⟨_,_,n⟩=>aQ (λ_=>cc (MZ n ⟨O,O⟩) λnE ⟨F,G⟩=>ag (cX bQ) (d _ ⟨G.mono O,λs hs=>?_,?_⟩)) λ_=>d _ ⟨n.mono O,a,Z⟩) λz e=>ab.some ⟨e.2.1,e.2.2,e.1⟩
 ·rcases dZ.1 hs with hs|hs
  ·exact a s hs
  rw[mI.1 hs];exact F
 dsimp only;rw[dB,mG];omega
theorem TU(a:List UInt8):ab (B5 N a) (λx=>c5 1000 x.1/\(∀s∈x.2,l4 s)/\x.2.length<=8):=by have m:N=100000:=rfl;unfold B5;exact cc (ZZ a) λn d=>cc (VR d O) λo ⟨c,e⟩=>cc (Zw e O (c.mono (O:10<=1000))) λp ⟨h,i,k⟩=>cc (Zr O k O c) λq ⟨l,_⟩=>ab.some ⟨l.mono (O:30<=1000),h,i⟩
theorem RU(d c:List UInt8):Iq N d c=some true:=by
 have Q:N=100000:=rfl;refine ab.eq ?_;unfold Iq;refine aat λC=>cc (TU d) λD e=>?_;obtain⟨p,l⟩:=D;dsimp only at e⊢;obtain⟨e,r,R⟩:=e;have w:=UQ p l;refine aas (REST:=λU W=>_) w.Br (Em O e O r) (VH O e O r) λh=>?_;have i:b2 p=true/\l.length<=12:=by
  by_cases i:b2 p=true/\l.length<=12
  ·exact i
  unfold lO at h;rw[a6 i] at h;cases h
 have F:c.length%(l.length+1)<l.length+1:=Nat.mod_lt _ O;have G:wr ((l.length:Int)+1)=((l.length+1:Nat):Int):=by rw[be O];omega
 have H:Int.tmod (c.length:Int) ((l.length+1:Nat):Int)=((c.length%(l.length+1):Nat):Int):=rfl;rw[G,H];generalize c.length%(l.length+1)=k at*;have x:l=l.take k++l.drop k:=(s6 k l).symm;have G2:lO p l=hi l p:=by unfold lO;rw[a1 i]
 have dU:lO p (l.take k)=hi (l.take k) p:=by unfold lO;rw[a1 ⟨i.1,by rw[cJ];omega⟩]
 have m:=Ma (a:=l.take k) (b:=l.drop k) (q:=p);rw[<-x] at m;rw[G2] at h w⊢;have y:(hi (l.take k) p).2=true:=by
  cases I:(hi (l.take k) p).2 with
  |true=>rfl
  |false=>
   rw[I,a6 aX] at m;rw[m] at h;cases h
 rw[a1 y] at m;have o:=EN (l:=l.take k) i.1;have A:=o.v y;have bu:lO (hi (l.take k) p).1 (l.drop k)=hi l p:=by unfold lO;rw[a1 ⟨A,by rw[e6];omega⟩,m]
 refine ag (tu O) (ag (gN O O O) ?_);rw[cY,show(0:Int).toNat=0 from rfl,nx];refine ag (Em O e (by rw[cJ];omega) λs B=>r s (fR B)) (ag (gN O O O) ?_);rw[cY,cY,c4,dU];refine ag (Em O o.Br (by rw[e6];omega) λs B=>r s (eV B)) ?_;rw[bu,y,h];exact ab.aA (λz=>z=true) (λj K=>bS (bS (ag (MG (n:=N) O w.Br) (K _ rfl)))) λz L=>ab.some L
end Go.Lift
