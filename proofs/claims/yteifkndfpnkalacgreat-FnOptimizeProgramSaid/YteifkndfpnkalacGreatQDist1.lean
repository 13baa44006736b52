/- Tools. -/
import Derived.Test.YteifkndfpnkalacGreatQTran1
set_option maxRecDepth 100000
set_option linter.unusedVariables false
namespace Go.Lift
open Go
open Option renaming some -> aa, bind -> bL
open Bool renaming true -> ab, false -> ak, and_eq_true -> b5
open Decidable renaming decide -> ah
section
theorem vu: ∀a,cmpL a a=0
 | []=>rfl
 |x::a=>by unfold cmpL;rw[aY O,aY O];exact vu a
theorem pM: ∀a c,cmpL c a= -cmpL a c
 | [],[]=>by simp[cmpL]
 | [],_::_=>by simp[cmpL]
 |_::_,[]=>by simp[cmpL]
 |x::a,y::c=>by
  unfold cmpL;by_cases d:x<y
  ·simp[d,show¬y<x by omega]
  by_cases e:y<x
  ·simp[d,e]
  rw[aY d,aY e,aY e,aY d];exact pM a c
theorem s8: ∀{a c},cmpL a c=0->a=c
 | [],[],_=>rfl
 | [],_::_,h=>by simp[cmpL] at h
 |_::_,[],h=>by simp[cmpL] at h
 |x::a,y::c,h=>by
  unfold cmpL at h;by_cases d:x<y
  ·rw[aX d] at h;omega
  by_cases e:y<x
  ·rw[aY d,aX e] at h;omega
  rw[aY d,aY e] at h;rw[s8 h,show x=y by omega]
theorem wH: ∀{k l m},cmpL k l<0->cmpL l m<0->cmpL k m<0
 | [],[],_,h,_=>by simp[cmpL] at h
 | [],_::_,[],_,h=>by simp[cmpL] at h
 | [],_::_,_::_,_,_=>by simp[cmpL]
 |_::_,[],_,h,_=>by simp[cmpL] at h
 |_::_,_::_,[],_,h=>by simp[cmpL] at h
 |x::k,y::l,z::m,i,e=>by
  unfold cmpL at i e⊢;by_cases a:x<y
  ·by_cases b:y<z
   ·rw[aX O];omega
   by_cases c:z<y
   ·rw[aY b,aX c] at e;omega
   rw[aX O];omega
  by_cases b:y<x
  ·rw[aY a,aX b] at i;omega
  by_cases c:y<z
  ·rw[aX O];omega
  by_cases d:z<y
  ·rw[aY c,aX d] at e;omega
  rw[aY O,aY O];rw[aY a,aY b] at i;rw[aY c,aY d] at e;exact wH i e
theorem M8: ∀a c,gZ a c=ah (cmpL a c<0)
 | [],[]=>rfl
 | [],_::_=>rfl
 |_::_,[]=>rfl
 |x::a,y::c=>by
  unfold gZ cmpL;by_cases h:x=y
  ·subst h;simp only[if_true,Int.lt_irrefl,if_false];exact M8 a c
  by_cases d:x<y
  ·simp[h,d]
  have:y<x:=O
  simp[h,d,this]
abbrev hZ(l:List (List Int)):Prop:=l.Pairwise λa b=>cmpL a b<0
theorem Pu: ∀{l m:List (List Int)},hZ l->hZ m->(∀x,x∈l↔x∈m)->l=m
 | [],[],_,_,_=>rfl
 | [],y::m,_,_,h=>by have:=(h y).2 aW;simp at this
 |x::l,[],_,_,h=>by have:=(h x).1 aW;simp at this
 |x::l,y::m,s,w,h=>by
  obtain⟨q,A⟩:=nM.1 s;obtain⟨r,B⟩:=nM.1 w;have e:x=y:=by
   rcases ef.1 ((h x).1 aW) with d|d
   ·exact d
   rcases ef.1 ((h y).2 aW) with i|i
   ·exact i.symm
   have a:=r x d;have b:=q y i
   have:=wH a b;rw[vu] at this;omega
  subst e;have k:x∉l:=λn=>by have:=q x n;rw[vu] at this;omega
  have o:x∉m:=λn=>by have:=r x n;rw[vu] at this;omega
  rw[Pu A B (λz=>⟨λc=>by
   rcases ef.1 ((h z).1 (ec _ c)) with rfl|p
   ·exact bz c k
   ·exact p,λc=>by
   rcases ef.1 ((h z).2 (ec _ c)) with rfl|p
   ·exact bz c o
   exact p⟩)]
def i':List (List Int)->List Int->List (List Int)
 | [],d=>[d]
 |x::a,d=>if cmpL d x<0 then d::x::a else x::i' a d
theorem Fz{d z:List Int}: ∀{l:List (List Int)},z∈i' l d↔z=d\/z∈l
 | []=>by simp[i']
 |x::a=>by
  unfold i';split
  ·simp
  simp only[List.mem_cons,Fz (l:=a)];constructor
  ·rintro(h|h|h)
   ·exact .inr (.inl h)
   ·exact .inl h
   exact .inr (.inr h)
  rintro(h|h|h)
  ·exact .inr (.inl h)
  ·exact .inl h
  exact .inr (.inr h)
theorem OB{d:List Int}: ∀{l:List (List Int)},hZ l->d∉l->hZ (i' l d)
 | [],_,_=>by simp[i']
 |x::o,c,i=>by
  obtain⟨k,m⟩:=nM.1 c;unfold i';split
  ·rename_i h;refine nM.2 ⟨λz a=>?_,c⟩;rcases ef.1 a with rfl|a
   ·exact h
   exact wH h (k z a)
  rename_i h;refine nM.2 ⟨λz a=>?_,OB m λn=>i (ec _ n)⟩;rcases Fz.1 a with rfl|a
  ·have p:=pM z x;have q:cmpL z x≠0:=λe=>i (by rw[s8 e];simp);omega
  exact k z a
def iz(l:List (List Int))(d:List Int):List (List Int):=if d∈l then l else i' l d
theorem abW{l:List (List Int)}(h:hZ l)(d:List Int):hZ (iz l d):=by
 unfold iz;split
 ·exact h
 exact OB h ‹_›
variable {l:Loop}{d b q:List Int}{R a:Type}{Q:R->Prop}{n i k:Nat}{p:Prog}{x:bU}{c:Int}{f H:List Int->List Int}{P C:Part}{F:aF->aF}{y:aF}{r:List ca}
theorem Np{l:List (List Int)}{z:List Int}:z∈iz l d↔z=d\/z∈l:=by
 unfold iz;split
 ·rename_i h
  grind
 exact Fz
theorem FZ: ∀(a l:List (List Int)),hZ l->hZ (a.foldl iz l)/\ ∀z,z∈a.foldl iz l↔z∈l\/z∈a
 | [],l,h=>⟨h,λz=>aW⟩
 |d::a,l,h=>by
  obtain⟨c,e⟩:=FZ a (iz l d) (abW h d);refine⟨c,λz=>?_⟩;rw[List.foldl_cons,e z,Np,ef];constructor
  ·rintro((h|h)|h)
   ·exact .inr (.inl h)
   ·exact .inl h
   exact .inr (.inr h)
  rintro(h|h|h)
  ·exact .inl (.inr h)
  ·exact .inl (.inl h)
  exact .inr h
def gD:List (List Int)->List (List Int)
 | []=>[]
 | [x]=>[x]
 |x::y::r=>if x=y then gD (y::r) else x::gD (y::r)
theorem DH{z:List Int}: ∀{l:List (List Int)},z∈gD l↔z∈l
 | []=>by simp[gD]
 | [x]=>by simp[gD]
 |x::y::r=>by
  have a:=DH (z:=z) (l:=y::r);unfold gD;split
  ·rename_i h;subst h;rw[a];simp
  rw[ef,a];simp
theorem D4: ∀{l:List (List Int)},l.Pairwise (λa b=> ¬cmpL b a<0)->hZ (gD l)
 | [],_=>by simp[gD]
 | [x],_=>by simp[gD]
 |x::y::r,h=>by
  obtain⟨n,i⟩:=nM.1 h;obtain⟨o,_⟩:=nM.1 i;unfold gD;split
  ·exact D4 i
  rename_i k;refine nM.2 ⟨λz m=>?_,D4 i⟩;have d:cmpL x y<0:=by
   have a:=n y aW;have b:=pM x y;have c:cmpL x y≠0:=λe=>k (s8 e);omega
  rcases ef.1 (DH.1 m) with rfl|m
  ·exact d
  have a:=o z m;have b:=pM y z;by_cases e:cmpL y z=0
  ·rw[<-s8 e];exact d
  exact wH d O
theorem UC(l:List (List Int)):(fB l).Pairwise (λa b=> ¬cmpL b a<0):=by
 have:=List.pairwise_mergeSort (le:=λx y=> !decide (cmpL y x<0)) (λa b c k d=>by
  simp only[Bool.not_eq_true',decide_eq_false_iff_not] at*;intro h;have i:=pM a b;have m:=pM b c;by_cases e:cmpL b a=0
  ·rw[s8 e] at d;exact d h
  ·exact d (wH h O)) (λa b=>by
  have i:=pM a b;by_cases h:cmpL b a<0
  ·have: ¬cmpL a b<0:=O
   simp[h,this]
  simp[h]) l
 refine this.imp λh=>?_;simpa using h
theorem ab6(a:List (List Int)):gD (fB a)=a.foldl iz []:=by obtain⟨c,d⟩:=FZ a [] List.Pairwise.nil;refine Pu (D4 (UC a)) c λz=>?_;rw[DH,d z];unfold fB;rw[List.mem_mergeSort];simp
def fK(b a:List Int):List Int:=List.zipWith (λx y=>x-y) b a
theorem Mn{a:List Int}(F:a.length=b.length)(G:b.length<=1000)(H:1000<n)(l: ∀x∈a,dj 9999 x)(m: ∀x∈b,dj 9999 x){K:List Int->Option R}(L:ad (K (fK b a)) Q):
  ad (bj (λc ((h,d):(List Int)×Int)=>
   bif ah (d<(b.length:Int)) then(
    bL (az b d) λo=>
    bL (az a d) λp=>
    bL (app h [wr (o-p)]) λq=>
    c (q,wr (d+1))
   ) else(
    K h
   )) n ([],0)) Q:=by
 refine ad.loop (λx:List Int×Int=> ∃i:Nat,x.2=i/\i<=b.length/\x.1=(fK b a).take i) (λx=>b.length-x.2.toNat) ?_ n _ ⟨0,rfl,O,aW⟩ J;rintro r ⟨x,k⟩ ⟨i,w,W,s⟩ y;dsimp only at w s⊢;subst w;have z:(fK b a).length=b.length:=by unfold fK;rw[C9];omega
 refine aU (λe=>?_) λA=>?_
 ·have e:i<b.length:=O
  have B:=bo e;have C:=bo (O:i<a.length);have di:=m _ (gp e);have cI:=l _ (gp (O:i<a.length));unfold dj at di cI;refine ai (bq B) (ai (bq C) (ai (cU (by rw[s,dr];simp;omega)) ?_));rw[bh (n:=b[i]-a[i]) O,bh O];refine y _ ⟨i+1,J,O,?_⟩ J;dsimp only;rw[ej,<-s];congr 1;unfold fK
  grind
 have:i=b.length:=O
 grind
theorem Wa{a:List Int}(e:a.length=b.length)(h:b.length<=1000)(i:1000<n)(c: ∀x∈a,dj 9999 x)(d: ∀x∈b,dj 9999 x):zn n b a=aa (fK b a):=by unfold zn;exact ad.eq (Mn e h i c d (ad.some rfl))
theorem Z0(D:20000<=n){l:List (List Int)}(E:l.length<=15000)(Q: ∀x∈l,x.length<=1000)(R:d.length<=1000):AD n l d=aa (iz l d):=by
 unfold AD;refine ad.eq (ad.loop (λx:List (List Int)×Bool×Int=> ∃i:Nat,x.2.2=i/\i<=l.length/\d∉l.take i/\(x.2.1=ab->x.1.length<=i+1/\i' l d=x.1++l.drop i)/\(x.2.1=ak->x.1.length<=i/\i' l d=x.1++i' (l.drop i) d)) (λx=>l.length-x.2.2.toNat) ?_ n _ ⟨0,rfl,O,aW,(λh=>by cases h),λ_=>⟨aW,aW⟩⟩ J);rintro A ⟨I,e,k⟩ ⟨i,K,M,o,L,B⟩ W;dsimp only at K L B⊢;subst K;refine aU (λc=>?_) λX=>?_
 ·have c:i<l.length:=O
  have Z:=bo c;have C:l[i].length<=1000:=Q _ (gp c);refine ai (bq Z) (ai (Kk O O) (aU (λb=>ad.some ?_) λf=>?_))
  ·unfold iz
   grind
  have a:=k6 c;have p:d∉l.take (i+1):=by
   grind
  refine ad.aE (λz:List (List Int)×Bool=>(z.2=ab->z.1.length<=i+1/\i' l d=z.1++l.drop i)/\(z.2=ak->z.1.length<=i/\i' l d=z.1++l[i]::i' (l.drop (i+1)) d)) (λj m=>?_) λz q=>?_
  ·refine ad.aE (λz:Bool=>z=(!e&&gZ d l[i])) (λN r=>ad.cond (λh=>?_) λh=>r _ ?_) λz q=>?_
   ·have h:e=ak:=by simpa using h
    exact ai (Mu O R C) (r _ (by rw[h];rfl))
   ·have h:e=ab:=by simpa using h
    grind
   subst q;cases s:e with
   |true=>exact cd (m _ ⟨λ_=>L s,λh=>by cases h⟩)
   |false=>
    obtain⟨g,F⟩:=B s;rw[a] at F;rw[M8];by_cases y:cmpL d l[i]<0
    ·rw[bW y];refine b' (ai (cU bZ) (m _ ⟨λ_=>⟨bZ,?_⟩,λh=>by cases h⟩));rw[F,a];unfold i';rw[aX y];simp
    rw[bT y];refine cd (m _ ⟨(λh=>by cases h),λ_=>⟨g,?_⟩⟩);rw[F]
    conv=>lhs;rw[i']
    rw[aY y]
  obtain⟨t,u⟩:=z;obtain⟨G,H⟩:=q;dsimp only at G H⊢;have v:t.length<=i+1:=by
   cases u with
   |true=>exact(G rfl).1
   |false=>have:=(H rfl).1;omega
  refine ai (cU bZ) ?_;rw[bh O];refine W _ ⟨i+1,J,O,p,λh=>?_,λh=>?_⟩ J
  ·obtain⟨aS,a2⟩:=G h
   grind
  obtain⟨aS,a2⟩:=H h
  grind
 have:i=l.length:=O
 subst this;rw[dF] at o;have w:iz l d=i' l d:=by unfold iz;rw[aY o]
 rw[w];refine ad.aE (λz=>z=i' l d) (λj m=>ad.cond (λh=>?_) λh=>m _ ?_) λz q=>ad.some q
 ·have h:e=ak:=by simpa using h
  obtain⟨aS,a2⟩:=B h;refine ai (cU bZ) (m _ ?_);rw[a2,oP];rfl
 have h:e=ab:=by simpa using h
 grind
theorem M'(d:List Int): ∀l:List (List Int),(i' l d).length=l.length+1
 | []=>rfl
 |x::a=>by
  unfold i';split
  ·rfl
  rw[nN,M' d a];rfl
theorem Nq(l:List (List Int))(d:List Int):(iz l d).length<=l.length+1:=by
 unfold iz;split
 ·omega
 rw[M'];omega
def jR(e:List bU)(c:Int)(d:gg):Option (List Int):=match e[d.e8.toNat]?,e[d.fa.toNat]? with
 |some a,aa b=>if a.part=c/\b.part=c then aa (fK b.b2 a.b2) else none
 |_,_=>none
def lH(p:Prog)(a:Int):List (List Int):=(gH p (I p.parts) (I p.parts).length).filterMap (jR (I p.parts) a)
theorem pD(l:bt p=ab)(m:dm p x): ∃P,p.parts[x.part.toNat]? =aa P/\0<=x.part/\x.b2.length=P.nest.length/\x.b2.length<=4/\ ∀y∈x.b2,dj 9999 y:=by obtain⟨F,G,H,c,n⟩:=ev l;obtain⟨i,k,P,s,o,K,e,q,h⟩:=m;obtain⟨r,L,Q,w⟩:=jx (c P (bJ e));obtain⟨R,z,d,A,B⟩:=pf r;have hs:=bJ q;have a:=(w s hs _ h).2;unfold ko at a;simp only[b5,decide_eq_true_eq,List.all_eq_true] at a;exact⟨P,by rw[o,c'];exact e,O,(d _ h).1,a.1,λy C=>a.2 y C⟩
theorem ab7{l:List bU}(h: ∀x∈l,x.b2.length<=4){d:gg}{v:List Int}(e:jR l c d=aa v):v.length<=4:=by
 unfold jR at e;split at e
 ·rename_i a b i k;split at e
  ·cases e;unfold fK
   grind
  cases e
 cases e
theorem Jt{f:a->Option R}{l:List a}{x:a}(h:l[i]? =aa x):(l.take (i+1)).filterMap f=(l.take i).filterMap f++(f x).toList:=by
 rw[ej,h,List.filterMap_append]
 grind
theorem KR(v:20000<=n)(hp:fP p)(w:bt p=ab)(a:Int):xZ n p a=aa ((lH p a).foldl iz []):=by
 have K:=(ev w).2.2.2.2;unfold xZ;refine ad.eq (ai (xU O w) (ai (LY O w) ?_));have q: ∀x∈I p.parts,dm p x:=λx A=>e9 A;have ajc:=FG (p:=p) K;have a7:=OW (p:=p) (l:=I p.parts);unfold lH;generalize gH p (I p.parts) (I p.parts).length=d at*;generalize I p.parts=e at*;have D: ∀x∈e,x.b2.length<=4:=λx A=>(pD w (q x A)).choose_spec.2.2.2.1;refine ad.loop (λx:List (List Int)×Int=> ∃i:Nat,x.2=i/\i<=d.length/\x.1=((d.take i).filterMap (jR e a)).foldl iz []/\x.1.length<=i/\ ∀y∈x.1,y.length<=4) (λx=>d.length-x.2.toNat) ?_ n _ ⟨0,rfl,O,aW,aW,aW⟩ J;rintro L ⟨E,k⟩ ⟨i,t,aP,A,B,m⟩ M;dsimp only at t A B m⊢;subst t;refine aU (λr=>?_) λN=>ad.some ?_
 ·have r:i<d.length:=O
  have u:=bo r;obtain⟨P,d2,d3⟩:=a7 _ (gp r);have S:=rR (l:=e) (c:=d[i].e8) P O;have T:=rR (l:=e) (c:=d[i].fa) O O;have U:=gp (O:d[i].e8.toNat<e.length);have Q:=gp (O:d[i].fa.toNat<e.length);have R:e[d[i].e8.toNat]? =aa e[d[i].e8.toNat]:=bo _;have W:e[d[i].fa.toNat]? =aa e[d[i].fa.toNat]:=bo _;obtain⟨V,C,ahm,ahn,aho,X⟩:=pD w (q _ U);obtain⟨Ed,s,ahp,ahq,ahr,Z⟩:=pD w (q _ Q);refine ad.aE (λz=>z.2.2.2.2.2.2=((d.take (i+1)).filterMap (jR e a)).foldl iz []/\z.2.2.2.2.2.2.length<=i+1/\ ∀y∈z.2.2.2.2.2.2,y.length<=4) (λj b=>ai (bq u) (ai S (ai T ?_))) λz f=>?_
  ·rw[Jt u,List.foldl_append,<-A] at b;refine ad.aE (λz:Bool=>z=ah (e[d[i].e8.toNat].part=a/\e[d[i].fa.toNat].part=a)) (λkY F=>aU (λh=>F _ ?_) λh=>F _ ?_) λz f=>?_
   ·exact decide_eq_decide.2 ⟨λG=>⟨h,G⟩,λG=>G.2⟩
   ·exact(bT λG=>h G.1).symm
   subst f;have o:jR e a d[i]=if e[d[i].e8.toNat].part=a/\e[d[i].fa.toNat].part=a then aa (fK e[d[i].fa.toNat].b2 e[d[i].e8.toNat].b2) else none:=by
    unfold jR;rw[R,W]
   refine aU (λh=>?_) λh=>b _ ?_
   ·have g:V=Ed:=by
     rw[h.1] at C;rw[h.2] at s;rw[C] at s;cases s;rfl
    subst g;refine ai (Wa O O O X Z) (ai (Z0 v O (λy H=>by have:=m y H;omega) (by unfold fK;rw[C9];omega)) (b _ ?_));rw[o,aX h];dsimp only[Option.toList,List.foldl];refine⟨rfl,?_,λy H=>?_⟩
    ·have:=Nq E (fK e[d[i].fa.toNat].b2 e[d[i].e8.toNat].b2);omega
    rcases Np.1 H with rfl|H
    ·unfold fK;rw[C9];omega
    exact m y H
   rw[o,aY h]
   grind
  obtain⟨Jb,z2,z3⟩:=f;rw[bh O];exact M _ ⟨i+1,J,O,Jb,z2,z3⟩ J
 have:i=d.length:=O
 grind
theorem J5(x:List Int): ∀(y:List Int) (a:List (List Int)),gD ((y::a)++[x])=if(y::a).getLast aW=x then gD (y::a) else gD (y::a)++[x]
 |y,[]=>by
  by_cases h:y=x
  ·subst h;simp[gD]
  simp[gD,h]
 |y,z::a=>by
  have d:=J5 x z a;rw[List.getLast_cons aW];show gD (y::z::(a++[x]))=_;unfold gD;by_cases h:y=z
  ·rw[aX h,aX h];exact d
  rw[aY h,aY h];have c:gD (z::(a++[x]))=_:=d;rw[c];split<;>simp
theorem Vi{s:List (List Int)}{m:Nat}(n:1<=m)(l:m<s.length):gD (s.take (m+1))=if s[m-1]=s[m] then gD (s.take m) else gD (s.take m)++[s[m]]:=by
 have e:s.take (m+1)=s.take m++[s[m]]:=by rw[ej,bo l];rfl
 have d:s.take m≠[]:=by
  intro h
  have:=congrArg List.length h
  grind
 have c: ∀h,(s.take m).getLast h=s[m-1]:=λh=>by
  grind
 rw[e];obtain⟨y,a,k⟩: ∃y a,s.take m=y::a:=by
  cases h:s.take m with
  |nil=>exact bz h d
  |cons y a=>exact⟨y,a,rfl⟩
 have i:=c d;simp only[k] at i⊢;rw[J5,i]
def jY(d:List Int):Option Nat:=d.findIdx? λx=> !decide (x=0)
def pa(d:List Int):Int:=match jY d with
 |some i=>(i:Int)
 |none=> -1
theorem WI(s:d.length<=1000)(w:1000<n):CT n d=aa (pa d):=by
 unfold CT;refine ad.eq (ai (x:=pa d) ?_ (ad.some rfl));unfold xL;refine ad.eq (ad.loop (λx:Int=> ∃i:Nat,x=i/\i<=d.length/\ ∀j,j<i->d.getD j 0=0) (λx=>d.length-x.toNat) ?_ n _ ⟨0,rfl,O,λj a=>bz a (p4 _)⟩ O);rintro e z ⟨i,rfl,y,A⟩ m;have l: ∀j (a:j<d.length),j<i->d[j]=0:=λj a o=>by
  grind
 refine aU (λc=>?_) λp=>ad.some ?_
 ·have c:i<d.length:=O
  have q:=bo c;refine ai (bq q) (ai (x:= !decide (d[i]=0)) rfl (eO (λh=>ad.some ?_) λB=>?_))
  ·have:jY d=aa i:=by
    unfold jY;rw[IP];exact⟨c,by simp[h],λj a=>by simp[l j O a]⟩
   unfold pa;rw[this]
  rw[bh O];refine m _ ⟨i+1,O,O,λj a=>?_⟩ O
  grind
 have:jY d=none:=by
  unfold jY;rw[List.findIdx?_eq_none_iff];intro x r;obtain⟨j,a⟩:=kx.1 r;obtain⟨k,rfl⟩:=bX.1 a;simp[l j k O]
 unfold pa;rw[this]
theorem aak(a:fP p)(c:p.parts[i]? =aa P):lb n p (i:Int)=aa ab:=by have aP:=(bX.1 c).1;rw[qU n a.2.1,bW O]
theorem W'(a:Nat->Bool)(m:Nat):ea a (m+1)=ea a m++(if a m then [m] else []):=by
 unfold ea;rw[mT,ma]
 grind
theorem NZ(l:List (List Int)): ∀m,m<=l.length->(ea (lg l) m).map (λj=>l.getD j [])=gD (l.take m)
 |0,_=>rfl
 |m+1,h=>by
  have o:=NZ l m O;have c:m<l.length:=O
  have d:l.getD m []=l[m]:=by rw[eB,bo c];rfl
  rw[W',eZ,o];by_cases i:m=0
  ·subst i;have k:lg l 0=ab:=by simp[lg]
   rw[k,aX rfl,List.take_zero];show gD []++[l.getD 0 []]=_;rw[d,ej,bo c];rfl
  rw[Vi O c];have k:l.getD (m-1) []=l[m-1]:=by rw[eB,bo O];rfl
  have p:lg l m= !decide (l[m-1]=l[m]):=by
   unfold lg;rw[d,k];by_cases a:l[m-1]=l[m]
   ·simp[i,a]
   have n:l[m]≠l[m-1]:=λe=>a e.symm;simp[i,a,n]
  rw[p];by_cases a:l[m-1]=l[m]
  ·rw[aX a,bW a];simp
  rw[aY a,bT a];show _++[l.getD m []]=_;rw[d]
theorem WE(l:List (List Int)):gS l=gD l:=by have:=NZ l l.length (cV _);rw[dF] at this;exact this
theorem V5(cG:20000<=n)(w:bt p=ab)(a:Int):BQ n (fV p) a=aa ((lH p a).foldl iz []):=by
 have G:=(ev w).2.2.2.2;unfold BQ;refine ad.eq (ai (LN O w) ?_);rw[show(fV p).list=I p.parts from rfl];have q: ∀x∈I p.parts,dm p x:=λx o=>e9 o;have ajc:=FG (p:=p) G;have a7:=OW (p:=p) (l:=I p.parts);unfold lH;generalize gH p (I p.parts) (I p.parts).length=e at*;generalize I p.parts=m at*;have H: ∀x∈m,x.b2.length<=4:=λx o=>(pD w (q x o)).choose_spec.2.2.2.1;refine ad.loop (λx:List (List Int)×Int=> ∃i:Nat,x.2=i/\i<=e.length/\x.1=(e.take i).filterMap (jR m a)) (λx=>e.length-x.2.toNat) ?_ n _ ⟨0,rfl,O,aW⟩ J;rintro L ⟨D,k⟩ ⟨i,E,aP,o⟩ P;dsimp only at E o⊢;subst E;have M:D.length<=i:=by
  grind
 refine aU (λr=>?_) λS=>?_
 ·have r:i<e.length:=O
  have N:=bo r;obtain⟨T,d2,d3⟩:=a7 _ (gp r);have U:=rR (l:=m) (c:=e[i].e8) T O;have V:=rR (l:=m) (c:=e[i].fa) O O;have hc:=gp (O:e[i].e8.toNat<m.length);have Q:=gp (O:e[i].fa.toNat<m.length);have R:m[e[i].e8.toNat]? =aa m[e[i].e8.toNat]:=bo _;have W:m[e[i].fa.toNat]? =aa m[e[i].fa.toNat]:=bo _;obtain⟨St,A,ahm,ahn,aho,X⟩:=pD w (q _ hc);obtain⟨Ed,s,ahp,ahq,ahr,Z⟩:=pD w (q _ Q);have B:jR m a e[i]=if m[e[i].e8.toNat].part=a/\m[e[i].fa.toNat].part=a then aa (fK m[e[i].fa.toNat].b2 m[e[i].e8.toNat].b2) else none:=by
   unfold jR;rw[R,W]
  refine ad.aE (λz=>z.1=(e.take (i+1)).filterMap (jR m a)) (λj b=>ai (bq N) (ai U (ai V ?_))) λz f=>?_
  ·rw[Jt N,<-o] at b;refine ad.aE (λz:Bool=>z= !decide (m[e[i].e8.toNat].part=a/\m[e[i].fa.toNat].part=a)) (λkY C=>eO (λh=>C _ ?_) λh=>C _ ?_) λz f=>?_
   ·rw[bT λh2=>h h2.1];rfl
   ·congr 1
    grind
   subst f;refine eO (λh=>b _ ?_) λh=>?_
   ·rw[B,aY h];simp
   have g:St=Ed:=by
    rw[h.1] at A;rw[h.2] at s;rw[A] at s;cases s;rfl
   subst g;refine Mn (K:=λt=>bL (app D [t]) λu=>j (u,e[i].e8,e[i].fa,e[i].kinds,m[e[i].e8.toNat].part,m[e[i].e8.toNat].stmt,m[e[i].e8.toNat].b2,m[e[i].fa.toNat].part,m[e[i].fa.toNat].stmt,m[e[i].fa.toNat].b2)) O O O X Z ?_;refine ai (cU bZ) (b _ ?_)
   grind
  rw[bh O];exact P _ ⟨i+1,J,O,f⟩ J
 have:i=e.length:=O
 subst this;rw[dF] at o;subst o;have F: ∀y∈e.filterMap (jR m a),y.length<=4:=λy v=>by
  obtain⟨d,_,cM⟩:=List.mem_filterMap.1 v;exact ab7 H cM
 have afT:(fB (e.filterMap (jR m a))).length<=15000:=by unfold fB;rw[List.length_mergeSort];omega
 refine ai (x:=fB (e.filterMap (jR m a))) (by unfold mE;rw[aX ⟨O,λy v=>by have:=F y v;omega⟩]) (ad.some ?_);rw[WE];exact ab6 _
def ie(p:Prog)(i:Nat):List (List Int):=(lH p i).foldl iz []
theorem WL(d:20000<=n)(a:fP p)(c:bt p=ab)(e:p.parts[i]? =aa P):Cu n p (i:Int)=aa (ie p i):=by unfold Cu;refine ad.eq (ai (yt O a) ?_);rw[aX c];refine b' (ad.aE (λz=>z=ak) (λj h=>cd (ai (aak a e) (h _ rfl))) λz k=>?_);rw[k];exact cd (ai (V5 d c _) (ad.some rfl))
theorem OU:d∈ie p i↔d∈lH p i:=by
 unfold ie
 have:=(FZ (lH p i) [] .nil).2 d
 grind
theorem Lo: ∀(a l:List (List Int)),(a.foldl iz l).length<=l.length+a.length
 | [],l=>aW
 |d::a,l=>by
  rw[List.foldl_cons]
  have:=Lo a (iz l d)
  have:=Nq l d;rw[nN];omega
theorem Gv(c:bt p=ab):(ie p i).length<=15000:=by
 have a:=(ev c).2.2.2.2;have d:=FG (p:=p) a
 have:=Lo (lH p i) [];have e:(lH p i).length<=(gH p (I p.parts) (I p.parts).length).length:=by unfold lH;exact List.length_filterMap_le _ _
 unfold ie
 grind
theorem s4(r:bt p=ab)(s:p.parts[i]? =aa P)(cM:d∈ie p i):d.length=P.nest.length/\ ∀x∈d,dj 99999 x:=by
 have cM:=OU.1 cM;unfold lH at cM;obtain⟨e,_,h⟩:=List.mem_filterMap.1 cM;unfold jR at h;split at h
 ·rename_i a b A B;split at h
  ·rename_i w;cases h;have m:dm p a:=e9 (bJ A);have n:dm p b:=e9 (bJ B);obtain⟨G,aS,a2,a3,a4,a5⟩:=pD r m;obtain⟨H,y,K,L,Q,C⟩:=pD r n;rw[w.1,c',s] at aS;rw[w.2,c',s] at y;cases aS;cases y;unfold fK;refine⟨by rw[C9];omega,λx z=>?_⟩;obtain⟨u,v,F,o,rfl⟩: ∃u v,u∈b.b2/\v∈a.b2/\x=u-v:=by
    rw[kx] at z;obtain⟨k,c⟩:=z;rw[List.getElem?_zipWith] at c;cases l:b.b2[k]? with
    |none=>rw[l] at c;cases c
    |some u=>
     cases q:a.b2[k]? with
     |none=>rw[l,q] at c;cases c
     |some v=>
      rw[l,q] at c;cases c;exact⟨u,v,bJ l,bJ q,rfl⟩
   have R:=C u F;have W:=a5 v o;unfold dj at*;omega
  cases h
 cases h
def gf(d:List Int):Bool:=match jY d with
 |some k=>decide (0<=d.getD k 0)
 |none=>ab
theorem OH(h:jY d=aa k):k<d.length/\d.getD k 0≠0:=by
 unfold jY at h;rw[IP] at h
 grind
theorem Lb(R:20000<=n)(W:fP p)(A:bt p=ab)(B:p.parts[i]? =aa P){F:List Int->Option (List Int)}(G: ∀d∈ie p i,F d=aa (f d))(H: ∀d,(f d).length=d.length):
  wG n p (i:Int) F=aa ((ie p i).all λd=>gf (f d)):=by
 unfold wG;refine ad.eq (ai (WL R W A B) ?_);have s:=Gv A (i:=i);have w:=λd y=>(s4 A B (d:=d) y).1;have X:=(lZ ((ev A).2.2.2.1 P (bJ B))).1;generalize ie p i=a at G s w;refine ad.loop (λx:List (List Int)×Int=> ∃k:Nat,x.2=k/\k<=a.length/\x.1.length=a.length/\(∀t,k<=t->x.1[t]? =a[t]?)/\ ∀d∈a.take k,gf (f d)=ab) (λx=>a.length-x.2.toNat) ?_ n _ ⟨0,rfl,O,rfl,λ_ _=>rfl,λd y=>by simp at y⟩ J;rintro o ⟨m,D⟩ ⟨k,K,Z,z,c,L⟩ b;dsimp only at K z c⊢;subst K;refine aU (λl=>?_) λg=>ad.some ?_
 ·have l:k<a.length:=O
  have j:m[k]? =aa a[k]:=by rw[c k (cV _),bo l]
  have hm:=gp l;have u:(f a[k]).length<=4:=by rw[H,w _ hm];exact X
  refine ai (bq j) (ai (G _ hm) (ai (oL (H _)) (ai (WI O O) (ai (eM O _) ?_))));have e: ∀(C:gf (f a[k])=ak),a.all (λd=>gf (f d))=ak:=λC=>mb.2 ⟨_,hm,by simp[C]⟩;have go:gf (f a[k])=ab->ad (o (m.set (k:Int).toNat (f a[k]),wr ((k:Int)+1))) (λr=>r=a.all λd=>gf (f d)):=λC=>by
   rw[bh O,c'];refine b _ ⟨k+1,J,O,by dsimp only;rw[e7];exact z,λt E=>?_,λd y=>?_⟩ J
   ·dsimp only
    grind
   rw[ej,bo l] at y
   grind
  unfold pa gf at*;cases q:jY (f a[k]) with
  |none=>
   rw[q] at go e;exact aU (λh=>bz h (by show¬(0:Int)<= -1;omega)) (λ_=>go rfl)
  |some t=>
   rw[q] at go e;obtain⟨v,I⟩:=OH q;refine aU (λ_=>?_) λh=>bz (show(0:Int)<=(t:Int) by omega) h;have Q:=bo v;have M:(f a[k]).getD t 0=(f a[k])[t]:=by rw[eB,Q];rfl
   refine ai (bq Q) (aU (λh=>ad.some ?_) λh=>go ?_)
   ·exact(e (bT O)).symm
   exact bW O
 have:k=a.length:=O
 grind
theorem Vm(s:d.length<=1000)(w:1000<n):CN n d=aa (pa d):=by
 unfold CN;refine ad.eq (ad.loop (λx:Int=> ∃i:Nat,x=i/\i<=d.length/\ ∀j,j<i->d.getD j 0=0) (λx=>d.length-x.toNat) ?_ n _ ⟨0,rfl,O,λj a=>bz a (p4 _)⟩ O);rintro e z ⟨i,rfl,y,A⟩ m;have l: ∀j (a:j<d.length),j<i->d[j]=0:=λj a o=>by
  grind
 refine aU (λc=>?_) λp=>ad.some ?_
 ·have c:i<d.length:=O
  have q:=bo c;refine ai (bq q) (eO (λh=>ad.some ?_) λB=>?_)
  ·have:jY d=aa i:=by
    unfold jY;rw[IP];exact⟨c,by simp[h],λj a=>by simp[l j O a]⟩
   unfold pa;rw[this]
  rw[bh O];refine m _ ⟨i+1,O,O,λj a=>?_⟩ O
  grind
 have:jY d=none:=by
  unfold jY;rw[List.findIdx?_eq_none_iff];intro x r;obtain⟨j,a⟩:=kx.1 r;obtain⟨k,rfl⟩:=bX.1 a;simp[l j k O]
 unfold pa;rw[this]
theorem LX(i:d.length<=1000)(k:1000<n):v' n d=aa (gf d):=by
 unfold v';refine ad.eq (ai (Vm i k) (ad.aE (λz:Bool=>z=gf d) (λj c=>?_) λz l=>ad.some l));unfold pa gf at*;cases a:jY d with
 |none=>
  rw[a] at c;exact aU (λ_=>c _ rfl) (λh=>bz (show(-1:Int)<0 by omega) h)
 |some t=>
  rw[a] at c;obtain⟨m,o⟩:=OH a;have e:=bo m;have p:d.getD t 0=d[t]:=by rw[eB,e];rfl
  refine aU (λh=>bz h (show¬(t:Int)<0 by omega)) λ_=>ai (bq e) (c _ ?_);exact decide_eq_decide.2 ⟨λh=>O,λh=>O⟩
def ku(k:Nat)(a:aF):aF:=⟨(a.a1.set k (a.a1.getD (k+1) 0)).set (k+1) (a.a1.getD k 0),a.const⟩
def fe(k:Nat)(d:List Int):List Int:=(d.set k (d.getD (k+1) 0)).set (k+1) (d.getD k 0)
theorem AB(k:Nat)(d:List Int):(fe k d).length=d.length:=by simp[fe]
theorem OP: ∀x,dc x=ab->ed 4 (ku k x):=λx a=>by have:=(gV a).1;unfold ed ku;simp;omega
theorem d4{l:List a}(h:k<l.length)(z:a):l[k]? =aa (l.getD k z):=by grind
theorem Nw{l:List a}(c:k+1<l.length)(i:l.length<=1000000)(z:a){K:List a->Option R}(m:ad (K ((l.set k (l.getD (k+1) z)).set (k+1) (l.getD k z))) Q):
  ad (bL (az l (wr ((k:Int)+1))) λe=>bL (az l (k:Int)) λh=>bL (cA l (k:Int) e) λd=>bL (az d (wr ((k:Int)+1))) λo=>bL (cA d (wr ((k:Int)+1)) h) K) Q:=by
 rw[bh (n:=(k:Int)+1) O,show(k:Int)+1=((k+1:Nat):Int) by omega];refine ai (bq (d4 c z)) (ai (bq (d4 O z)) (ai (eM O _) ?_));rw[c'];refine ai (bq (d4 (l:=l.set k (l.getD (k+1) z)) (k:=k+1) (by simpa using c) z)) (ai (eM (by rw[e7];omega) _) ?_)
 grind
theorem aan(a:k+1<d.length)(c:d.length<=1000):uI n d (k:Int)=aa (fe k d):=by unfold uI;exact ad.eq (Nw a O 0 (ad.some rfl))
theorem aam(n:Nat)(c:k+1<4): ∀x,dc x=ab->uH n x (k:Int)=aa (ku k x):=λx a=>by have d:=(gV a).1;unfold uH;refine ad.eq (ai (EY n x a) (Nw O O 0 (ad.some rfl)))
theorem abL(n:Nat)(d:k+1<4): ∀x,dc x=ab->lV n x 0 (k:Int) ⟨[],0⟩=aa (ku k x):=λx a=>by have e:=(gV a).1;unfold lV;refine ad.eq (aU (λ_=>ai (x:=ku k x) ?_ (ad.some rfl)) λh=>bz rfl h);unfold Ft;have c:qC n x=aa x:=za n O;rw[bh (n:=(k:Int)+1) O,show(k:Int)+1=((k+1:Nat):Int) by omega];refine ad.eq (ai c (ai (bq (d4 O 0)) (ai (bq (d4 O 0)) (ai (eM O _) (ai (bq (d4 O 0)) ?_)))));rw[c'];refine ai (bq (d4 (l:=x.a1.set k (x.a1.getD (k+1) 0)) (k:=k+1) bZ 0)) (ai (eM (by rw[e7];omega) _) ?_);rw[c'];exact ad.some rfl
def lG(k:Nat)(a:aF):Bool:= !decide (a.a1.getD k 0=0)
def o7(l:Loop)(k:Nat):Bool:=l.lo.any (lG k)||l.aP.any (lG k)
theorem V0(p:5000<=n)(e:jK l)(q:k<4):Dm n l (k:Int)=aa (o7 l k):=by
 obtain⟨⟨r,i⟩,s,m⟩:=e;have c: ∀x,dc x=ab->qG n x (k:Int)=aa (lG k x):=λx a=>by
  have:=(gV a).1;unfold qG;exact ad.eq (ai (bq (d4 O 0)) (ad.some rfl))
 unfold Dm o7;refine ad.eq (ad.aE (λz=>z=(l.lo.any (lG k)||l.aP.any (lG k))) (λj d=>?_) λz o=>ad.some o);refine ai (xQ (λx a=>c x (i x a)) O O) (ad.cond (λh=>d _ (by rw[h];rfl)) λh=>ai (xQ (λx a=>c x (m x a)) O O) (d _ (by rw[h];rfl)))
theorem Nl{f:a->Bool}{l:List a}{x:a}(h:l[i]? =aa x):(l.take (i+1)).any f=((l.take i).any f||f x):=by rw[ej,h,yJ];simp
theorem Vu(y:5000<=n)(q:jK l)(A:k<4):zU n l (k:Int)=aa (o7 l k):=by
 obtain⟨⟨B,r⟩,C,s⟩:=q;unfold zU o7;refine ad.eq (ad.loop (λx:Int=> ∃i:Nat,x=i/\i<=l.lo.length/\(l.lo.take i).any (lG k)=ak) (λx=>l.lo.length-x.toNat) ?_ n _ ⟨0,rfl,O,rfl⟩ O);rintro c z ⟨i,rfl,w,e⟩ m;refine aU (λa=>?_) λo=>?_
 ·have a:i<l.lo.length:=O
  have h:=bo a
  have:=(gV (r _ (gp a))).1;refine ai (bq h) (ai (bq (d4 O 0)) (eO (λd=>ad.some ?_) λp=>?_))
  ·rw[jE.2 ⟨_,gp a,by unfold lG;simpa using d⟩];rfl
  rw[bh O];exact m _ ⟨i+1,O,O,by rw[Nl h,e];unfold lG;simpa using p⟩ O
 have:i=l.lo.length:=O
 subst this;rw[dF] at e;rw[e,Bool.false_or];clear m;refine ad.loop (λx:Int=> ∃i:Nat,x=i/\i<=l.aP.length/\(l.aP.take i).any (lG k)=ak) (λx=>l.aP.length-x.toNat) ?_ n _ ⟨0,rfl,O,rfl⟩ O;rintro c z ⟨i,rfl,w,e⟩ m;refine aU (λa=>?_) λo=>ad.some ?_
 ·have a:i<l.aP.length:=O
  have h:=bo a
  have:=(gV (s _ (gp a))).1;refine ai (bq h) (ai (bq (d4 O 0)) (eO (λd=>ad.some ?_) λp=>?_))
  ·rw[jE.2 ⟨_,gp a,by unfold lG;simpa using d⟩]
  rw[bh O];exact m _ ⟨i+1,O,O,by rw[Nl h,e];unfold lG;simpa using p⟩ O
 have:i=l.aP.length:=O
 grind
def ho(k:Nat)(l:List Loop):List Loop:=(l.set k (l.getD (k+1) ⟨[],[]⟩)).set (k+1) (l.getD k ⟨[],[]⟩)
theorem wC(k:Nat)(l:List Loop):(ho k l).length=l.length:=by simp[ho]
def p1(k:Nat)(P:Part):Part:=⟨(ho k P.nest).take (k+2)++((ho k P.nest).drop (k+2)).map (ga (ku k)),P.body.map (jI (ku k))⟩
def oa(p:Prog)(i k:Nat)(P:Part):Bool:= !o7 (P.nest.getD (k+1) ⟨[],[]⟩) k&&(ie p i).all λd=>gf (fe k d)
def lC(p:Prog)(a c:Int):Prog×Bool:=
 if eD p a c=ab/\eD p a (c+1)=ab then
  match az p.parts a with
  |some P=>if oa p a.toNat c.toNat P=ab then kR ⟨p.aV,p.parts.set a.toNat (p1 c.toNat P)⟩ else gl
  |none=>gl
 else gl
theorem FL{l:List Loop}(c:k+1<l.length){y:Loop}(a:y∈ho k l):y∈l:=by
 unfold ho at a
 grind
theorem Pt(c:eI r P=ab)(e:k+1<P.nest.length):gN 4 (p1 k P):=by
 obtain⟨n,h⟩:=lZ c;obtain⟨_,i,l,_⟩:=jx c;refine⟨⟨by simp only[p1,List.length_append,List.length_map,List.length_take,List.length_drop,wC];omega,λy a=>?_⟩,by simp only[p1,List.length_map];exact i.2,λs m=>?_⟩
 ·rcases eS.1 a with a|a
  ·exact(GI c).1.2 y (FL e (hv a))
  obtain⟨z,d,rfl⟩:=eo.1 a;exact N' OP (h z (FL e (jl d)))
 obtain⟨z,d,rfl⟩:=eo.1 m;exact O7 OP (l z d)
theorem FY(a:p.parts[i]? =aa P)(h:eD p (i:Int) ((k:Int)+1)=ab):k+1<P.nest.length:=by
 obtain⟨_,c,d,e,l,m,n,o,_,_,q,_⟩:=qg h
 grind
theorem FV(a:eD p (i:Int) (k:Int)=ab)(c:eD p (i:Int) ((k:Int)+1)=ab)(d:p.parts[i]? =aa P):lC p i k=if oa p i k P=ab then kR ⟨p.aV,p.parts.set i (p1 k P)⟩ else gl:=by
 unfold lC;rw[aX ⟨a,c⟩,bq d]
 grind
theorem agk(L:20000<=n)(x:dJ 1000 p)(a c:Int):Cs n p a c=aa (lC p a c):=by
 unfold Cs;by_cases e:c= -1
 ·subst e;unfold lC;rw[aY λh=>by rw[As O] at h;cases h.1];exact ad.eq (cB (Me O x a) λj Q=>ad.cond (λ_=>aU (λ_=>ad.some rfl) λh=>bz (show(-1:Int)<0 by omega) h) λ_=>ad.some rfl)
 refine ad.eq (ai (Nj O x a c e) ?_);by_cases m:eD p a c=ab
 ·rw[aX m];refine b' (aU (λh=>by rw[As h] at m;cases m) λt=>?_);obtain⟨z,i,k,P,l,rfl,rfl,o,u,v,R,q,D⟩:=qg m;obtain⟨Q,H⟩:=lZ q;obtain⟨_,W,X,_⟩:=jx q;refine ai (bq o) ?_;rw[bh (n:=(k:Int)+1) O,bh (n:=(k:Int)+2) O];refine aU (λZ=>ad.some ?_) λb=>?_
  ·unfold lC;rw[aY λh=>by have:=FY o h.2;omega];rfl
  have r:k+1<P.nest.length:=O
  have A:eD p (i:Int) ((k:Int)+1)=ab:=by
   unfold eD;rw[z,bq o]
   grind
  rw[FV m A o];have K:=d4 r (⟨[],[]⟩:Loop);rw[show(k:Int)+1=((k+1:Nat):Int) by omega];refine ai (bq K) (ai (V0 O (H _ (bJ K)) O) (ad.cond (λB=>ad.some ?_) λB=>?_))
  ·rw[aY (by unfold oa;rw[B];simp)];rfl
  refine ai (Lb L x.sm z o (F:=λC=>uI n C (k:Int)) (f:=fe k) (λd w=>aan (by have:=(s4 z o w).1;omega) (by have:=(s4 z o w).1;omega)) (AB k)) (ad.cond (λw=>?_) λw=>ad.some ?_)
  ·rw[aX (by unfold oa;rw[B,w];rfl)];refine ai (bq (d4 O (⟨[],[]⟩:Loop))) (ai (eM O _) (ai (eM (by rw[e7];omega) _) (ai (eM J _) ?_)));rw[c',c',c'];have G:=JA (n:=n) O (nest:=ho k P.nest) (body:=P.body) (s:=k+2) (by rw[wC];omega) (by rw[wC];omega) (λy g=>H y (FL r (jl g))) W.2 X (F:=λC=>uH n C (k:Int)) (aam n O);rw[show(k:Int)+2=((k+2:Nat):Int) by omega];refine ai G (ai (eM bZ _) ?_);rw[c',List.set_set];exact ai (D2 O (O9 x i (Pt q r))) (ad.some rfl)
  rw[aY (by unfold oa;rw[w];simp)];rfl
 unfold lC;rw[aY m,aY λh=>m h.1];exact cd (ad.some rfl)
theorem acE{l:List Loop}(a:k+1<l.length)(j:Nat):(ho k l)[j]? =if j=k then l[k+1]? else if j=k+1 then l[k]? else l[j]? :=by
 unfold ho
 grind
theorem Nx{a b:List Loop}(c:k+1<a.length):ho k (a++b)=ho k a++b:=by
 have d:(a++b).getD (k+1) ⟨[],[]⟩=a.getD (k+1) ⟨[],[]⟩:=by rw[eB,eB,iV c]
 have e:(a++b).getD k ⟨[],[]⟩=a.getD k ⟨[],[]⟩:=by rw[eB,eB,iV O]
 unfold ho
 grind
theorem ZO{l:List Loop}(c:k+1<l.length):ho k (l.take (k+2))=(ho k l).take (k+2):=by have h:=Nx (k:=k) (a:=l.take (k+2)) (b:=l.drop (k+2)) (by rw[dr];omega);rw[nJ] at h;rw[h,C4 (by rw[wC,dr];omega)];exact(j2 (by rw[wC,dr];omega)).symm
theorem MQ{l:List Loop}:(ho k l).drop (k+2)=l.drop (k+2):=by unfold ho;rw[List.drop_set_of_lt O,List.drop_set_of_lt O]
theorem acD(a:k+1<P.nest.length)(r:List Loop):ho k (P.nest.take (k+2)++r)=(ho k P.nest).take (k+2)++r:=by rw[Nx (by rw[dr];omega),ZO a]
theorem ahF(S:20000<=n)(r:dJ 1000 p)(a c:Int):Cx n p a c=aa (lC p a c):=by
 unfold Cx;by_cases G:eD p a c=ab;rotate_left
 ·unfold lC;rw[aY λh=>G h.1];refine ad.eq (ai (oD O r) (ad.aE (λz=>z=ab) (λj K=>ai (tK O r a c) (ad.cond (λ_=>K _ rfl) λh=>bz (by simpa using h) G)) λz L=>by rw[L];exact b' (ad.some rfl)))
 obtain⟨Z,i,k,P,l,rfl,rfl,Q,cC,T,U,B,hk⟩:=qg G;obtain⟨V,I⟩:=lZ B;obtain⟨_,h4,h5,_⟩:=jx B;rw[bh (n:=(k:Int)+1) O];by_cases o:eD p (i:Int) ((k:Int)+1)=ab;rotate_left
 ·unfold lC;rw[aY λh=>o h.2];refine ad.eq (ai (oD O r) (ad.aE (λz=>z=ab) (λj K=>ai (tK O r _ _) (ad.cond (λh=>by rw[G] at h;cases h) λ_=>ai (tK O r _ _) (ad.cond (λ_=>K _ rfl) λh=>bz (by simpa using h) o))) λz L=>by rw[L];exact b' (ad.some rfl)))
 rw[FV G o Q];have C:=FY Q o;have M:=d4 C (⟨[],[]⟩:Loop);refine ad.eq (ai (oD O r) (ad.aE (λz=>z=o7 (P.nest.getD (k+1) ⟨[],[]⟩) k) (λj K=>?_) λz L=>?_))
 ·refine ai (tK O r _ _) (ad.cond (λh=>by rw[G] at h;cases h) λ_=>ai (tK O r _ _) (ad.cond (λh=>by rw[o] at h;cases h) λ_=>ai (bq Q) ?_));rw[show(k:Int)+1=((k+1:Nat):Int) by omega];exact ai (bq M) (ai (Vu O (I _ (bJ M)) O) (K _ rfl))
 subst L;refine ad.cond (λg=>ad.some ?_) λg=>?_
 ·rw[aY (by unfold oa;rw[g];simp)];rfl
 refine ai (x:=ie p i) (KR S r.sm Z _) ?_;have R:=Gv Z (i:=i);have W:=λd H=>(s4 Z Q (d:=d) H).1;have t:oa p i k P=(ie p i).all (λd=>gf (fe k d)):=by unfold oa;rw[g];rfl
 rw[t];generalize ie p i=e at R W;refine ad.loop (λx:Int=> ∃m:Nat,x=m/\m<=e.length/\ ∀d∈e.take m,gf (fe k d)=ab) (λx=>e.length-x.toNat) ?_ n _ ⟨0,rfl,O,λd H=>by simp at H⟩ O;rintro u z ⟨m,rfl,hm,q⟩ b3;refine aU (λF=>?_) λkW=>?_
 ·have F:m<e.length:=O
  have N:=bo F;have w:=gp F;have BH:=W _ w;rw[show(k:Int)+1=((k+1:Nat):Int) by omega];refine ai (bq N) (ai (cU bZ) (ai (bq (d4 O 0)) (ai (x:=e[m].getD k 0) (bq (d4 (l:=e[m]) O 0)) (ai (eM (by rw[vE];omega) _) (ai (bq (d4 O 0)) ?_)))));rw[vE,c'];refine ai (bq (d4 (l:=e[m].set k (e[m].getD (k+1) 0)) (k:=k+1) bZ 0)) (ai (eM (by rw[e7];omega) _) ?_);rw[c'];refine ai (x:=gf (fe k e[m])) (LX (d:=fe k e[m]) (by rw[AB];omega) O) (ad.cond (λh=>ad.some ?_) λh=>?_)
  ·rw[aY λX=>?_]
   ·rfl
   have:=gq.1 X _ w;rw[this] at h;cases h
  rw[bh O];refine b3 _ ⟨m+1,O,O,λd H=>?_⟩ O;rw[ej,N] at H;rcases eS.1 H with D|D
  ·exact q d D
  have:d=e[m]:=by simpa using D
  subst this;simpa using h
 have:m=e.length:=O
 subst this;rw[dF] at q;rw[aX (gq.2 q)];have E:=KA (n:=n) O (x:=P) (s:=k+1) O V I h4.2 h5 (way:=0) (v:=(k:Int)) (b:=⟨[],0⟩) (f:=ku k) λn _ x hx=>abL n O x hx;rw[show(k:Int)+1=((k+1:Nat):Int) by omega];refine ai (bq Q) (ai E ?_);have lR:(P.nest.take (k+2)++(P.nest.drop (k+2)).map (ga (ku k))).length=P.nest.length:=by rw[dp,dz,dr,im];omega
 have y:=acD C ((P.nest.drop (k+2)).map (ga (ku k)));rw[show k+1+1=k+2 by omega];dsimp only;generalize P.nest.take (k+2)++(P.nest.drop (k+2)).map (ga (ku k))=A at lR y;refine ai (bq (d4 O (⟨[],[]⟩:Loop))) (ai (bq (d4 O (⟨[],[]⟩:Loop))) (ai (eM O _) ?_));rw[c'];refine ai (bq (d4 (l:=A.set k (A.getD (k+1) ⟨[],[]⟩)) (k:=k+1) (by rw[e7];omega) (⟨[],[]⟩:Loop))) (ai (eM (by rw[e7];omega) _) ?_);rw[c'];have nr:(⟨(A.set k (A.getD (k+1) ⟨[],[]⟩)).set (k+1) (A.getD k ⟨[],[]⟩),P.body.map (jI (ku k))⟩:Part)=p1 k P:=by
  have:(A.set k (A.getD (k+1) ⟨[],[]⟩)).set (k+1) (A.getD k ⟨[],[]⟩)=ho k A:=rfl;rw[this,y,<-MQ];rfl
 rw[nr];exact ai (NG O r T ((Pt B C).mono O)) (ad.some rfl)
def pJ(x y:bU):Prop:=x.part<y.part\/x.part=y.part/\(cmpL x.b2 y.b2<0\/x.b2=y.b2/\x.stmt<y.stmt)
theorem Zk{y:bU}(h:pJ x y): ¬pJ y x:=λa=>by
 have i:=pM x.b2 y.b2;have hs:=vu x.b2;rcases h with h|⟨e,h|⟨c,h⟩⟩<;>rcases a with g|⟨_,g|⟨d,g⟩⟩
 ·omega
 ·omega
 ·omega
 ·omega
 ·omega
 ·rw[d] at h;omega
 ·omega
 ·rw[<-c] at g;omega
 omega
theorem N4: ∀p a b:List Int,cmpL (p++a) (p++b)=cmpL a b
 | [],_,_=>rfl
 |x::p,a,b=>by simp only[List.cons_append,cmpL];rw[aY O,aY O];exact N4 p a b
theorem Ff: ∀(bH:List Loop) (p:List Int) {x:List Int},x∈dE bH p-> ∃t,x=p++t/\t.length=bH.length
 | [],p,x,h=>⟨[],by simpa[dE] using h,rfl⟩
 |l::bH,p,x,h=>by simp only[dE] at h;obtain⟨v,_,h⟩:=jF.1 h;obtain⟨t,rfl,a⟩:=Ff bH _ h;exact⟨v::t,aW,by simp[a]⟩
theorem acI(c d:Int):(c5 c d).Pairwise (λa b=>a<b):=by unfold c5;rw[List.pairwise_map];exact List.pairwise_lt_range.imp λh=>O
theorem OK: ∀(bH:List Loop) (p:List Int),hZ (dE bH p)
 | [],p=>List.pairwise_singleton _ _
 |l::bH,p=>by simp only[dE];refine C7.2 ⟨λv _=>OK bH _,(acI _ _).imp fun {v w} h x a y c=>?_⟩;obtain⟨s,rfl,_⟩:=Ff bH _ a;obtain⟨t,rfl,_⟩:=Ff bH _ c;rw[fr,fr,N4];simp only[List.cons_append,cmpL];rw[aX h];omega
theorem QS(e:bt p=ab):(I p.parts).Pairwise pJ:=by
 unfold I;refine C7.2 ⟨λy a=>?_,?_⟩
 ·obtain⟨P,i⟩:=y;have k:=vD.1 a;have d:=(ev e).2.2.2.1 P (bJ k);dsimp only;unfold eV;rw[sC d];refine C7.2 ⟨λq _=>?_,(OK _ _).imp fun {q r} h x c y a=>?_⟩
  ·rw[List.pairwise_map];exact List.pairwise_lt_range.imp λh=> .inr ⟨rfl,.inr ⟨rfl,J⟩⟩
  obtain⟨_,_,rfl⟩:=eo.1 c;obtain⟨_,_,rfl⟩:=eo.1 a;exact .inr ⟨rfl,.inl h⟩
 rw[List.pairwise_iff_getElem];intro i j m n l x c y a;rw[List.getElem_zipIdx] at c a;unfold eV at c a;obtain⟨_,_,c⟩:=jF.1 c;obtain⟨_,_,rfl⟩:=eo.1 c;obtain⟨_,_,a⟩:=jF.1 a;obtain⟨_,_,rfl⟩:=eo.1 a;exact .inl J
theorem Mw{p:Prog}(a:bt p=ab){c:bU}(i:dm p c): ∀(S:List bU) (m:List Int),(∀s∈S,dm p s/\pj p c s)->fv p.aV m->c7 p (ey p m c) S=ey p (c7 p m S) c
 | [],_,_,_=>rfl
 |s::S,m,h,d=>by have e:=h s en;show c7 p (ey p (ey p m c) s) S=ey p (c7 p (ey p m s) S) c;rw[e.2 m d];exact Mw a i S _ (λx k=>h x (ec _ k)) (tm a d e.1)
theorem Mx{p:Prog}(n:bt p=ab): ∀(C B:List bU) (m:List Int),(∀x∈C,dm p x)->C.Perm B->B.Pairwise pJ->C.Pairwise (λa b=>pJ a b\/pj p a b)->fv p.aV m->c7 p m C=c7 p m B
 | [],B,m,_,l,_,_,_=>by rw[l.symm.eq_nil]
 |c::C,B,m,r,l,w,o,y=>by
  obtain⟨S,T,rfl⟩:=List.append_of_mem (l.subset en);have d:C.Perm (S++T):=(l.trans List.perm_middle).cons_inv;have e:=r c en;have i:=λx G=>r x (ec c G);rw[nM] at o;rw[List.pairwise_append] at w;obtain⟨H,z,A⟩:=w;rw[nM] at z;have q:(S++T).Pairwise pJ:=List.pairwise_append.2 ⟨H,z.2,λa K b L=>A a K b (ec c L)⟩;show c7 p (ey p m c) C=_;rw[Mx n C (S++T) _ i d q o.2 (tm n y e)];have Q: ∀s∈S,dm p s/\pj p c s:=λs F=>by
   have k:=d.symm.subset (l7 T F);refine⟨i s k,(o.1 s k).resolve_left λh=>Zk h (A s F c en)⟩
  rw[iF,iF,Mw n e S m Q y];rfl
theorem MF: ∀a b:List Int,a.length=b.length->gf (fK b a)= !decide (cmpL b a<0)
 | [],[],_=>rfl
 | [],_::_,h=>by simp at h
 |_::_,[],h=>by simp at h
 |x::a,y::b,h=>by
  have l:=MF a b (by simpa using h);have e:fK (y::b) (x::a)=(y-x)::fK b a:=rfl;have d:cmpL (y::b) (x::a)=if y<x then-1 else if x<y then 1 else cmpL b a:=rfl
  rw[e,d];clear d;by_cases c:y=x
  ·subst c;rw[aY O,aY O,<-l,Int.sub_self];unfold gf jY;rw[List.findIdx?_cons];simp only[decide_true,Bool.not_true,Bool.false_eq_true,if_false];cases (fK b a).findIdx? (λx=> !decide (x=0)) with
   |none=>rfl
   |some k=>rfl
  have m:jY ((y-x)::fK b a)=aa 0:=by
   unfold jY;rw[List.findIdx?_cons,aX bZ]
  unfold gf;rw[m];dsimp only;rw[List.getD_cons_zero];by_cases i:y<x
  ·rw[aX i,bT O,bW O];rfl
  rw[aY i,aX O,bW O,bT O];rfl
def hN(i:Nat)(a:List Int->List Int)(x:bU):bU:=if x.part=(i:Int) then⟨x.part,x.stmt,a x.b2⟩ else x
theorem Lx(i:Nat)(a:List Int->List Int)(x:bU):(hN i a x).part=x.part:=by unfold hN;split<;>rfl
theorem DD: ∀x:bU,x.part≠(i:Int)->hN i f x=x:=λx a=>by unfold hN;rw[aY a]
theorem E9{a R:Type}{f g:a->List R}: ∀{l:List a},(∀x∈l,(f x).Perm (g x))->(l.flatMap f).Perm (l.flatMap g)
 | [],_=> .nil
 |x::l,h=>by rw[mR,mR];exact(h x en).append (E9 λy c=>h y (ec x c))
theorem agu{l:List Part}(d:l[i]? =aa P){G:bU->bU}(n:(eV i C).Perm ((eV i P).map G))(o: ∀x,x.part≠(i:Int)->G x=x):(I (l.set i C)).Perm ((I l).map G):=by
 unfold I;rw[nO];have e:(l.set i C).zipIdx=l.zipIdx.map (λy=>if y.2=i then(C,i) else y):=by
  refine List.ext_getElem? λj=>?_;rw[List.getElem?_zipIdx,ek,List.getElem?_zipIdx];by_cases k:i=j
  ·subst k;rw[hU (bX.1 d).1,d];simp
  rw[jm k];cases l[j]? with
  |none=>rfl
  |some y=>
   have: ¬j=i:=λh=>k h.symm;simp[this]
 rw[e,vC];refine E9 λy p=>?_;obtain⟨x,j⟩:=y;have m:=vD.1 p;dsimp only at m⊢;by_cases a:j=i
 ·subst a;rw[d] at m;cases m;rw[aX rfl];exact n
 rw[aY a];refine .of_eq (pN λz c=>o z ?_).symm;unfold eV at c;obtain⟨q,_,c⟩:=jF.1 c;obtain⟨t,_,rfl⟩:=eo.1 c;dsimp only;omega
theorem agr{x:Part}(a:(eU x).Perm ((eU P).map f))(c:x.body.length=P.body.length):(eV i x).Perm ((eV i P).map (hN i f)):=by unfold eV;rw[c,nO];refine(a.flatMap_right _).trans (.of_eq ?_);rw[vC];refine tx λq _=>?_;rw[j3];refine sG λt _=>?_;show _=hN i f _;unfold hN;rw[aX rfl]
structure zj (p q:Prog) (i:Nat) (o1:List Int->List Int):Prop where
 arr:q.aV=p.aV
 perm:(I q.parts).Perm ((I p.parts).map (hN i o1))
 cells: ∀x∈I p.parts,rc q (hN i o1 x)=rc p x/\cT q (hN i o1 x)=cT p x
 run: ∀x∈I p.parts,∀m,ey q m (hN i o1 x)=ey p m x
theorem Ml(A:bt p=ab)(o:p.parts[i]? =aa P)(B:C.body=P.body.map (jI F))(e: ∀q:List Int,q.length=P.nest.length-> ∀y,dc y=ab->dK (F y) (f q)=dK y q)(G:dm p x):
  ∃s k d,fZ p x=aa s/\fZ ⟨p.aV,p.parts.set i C⟩ (hN i f x)=aa k/\eJ s d=ab/\
   (∀a,gb a d=ab->dU p.aV (if x.part=(i:Int) then ih F a else a) (hN i f x).b2 0=dU p.aV a x.b2 0)/\
   (k.write=if x.part=(i:Int) then ih F s.write else s.write)/\
   (dx 5 k.value=(dx 5 s.value).map λa=>if x.part=(i:Int) then ih F a else a)/\
   ∀m,et 5 p.aV m k.value (hN i f x).b2=et 5 p.aV m s.value x.b2:=by
 obtain⟨r,X,Q,s,d,H,K,w,L,n,l,R,Z⟩:=pC A G;have aP:=(bX.1 o).1;by_cases c:x.part=(i:Int)
 ·obtain rfl:r=i:=O
  rw[o] at w;cases w;have e:=e x.b2 R.1;have h:hN r f x=⟨x.part,x.stmt,f x.b2⟩:=by unfold hN;rw[aX c]
  refine⟨s,jI F s,d,n,?_,l,λa z=>?_,?_,?_,λm=>?_⟩
  ·rw[h];unfold fZ;dsimp only;rw[H,c',hU aP];show(C.body[x.stmt.toNat]?)=_;rw[B,ek,K,c',L];rfl
  ·rw[aX c,h];exact Gj (λy W=>e y ((mf z).2.2 y W)) _ _
  ·rw[aX c];rfl
  ·simp only[if_pos c];exact Oi (ig l).2.1
  rw[h];exact GJ e _ m (ig l).2.1
 have h:hN i f x=x:=DD x c;refine⟨s,s,d,n,?_,l,λa z=>?_,?_,?_,λm=>?_⟩
 ·rw[h,<-n];unfold fZ;dsimp only;rw[jm O]
 ·rw[aY c,h]
 ·rw[aY c]
 ·simp only[if_neg c,List.map_id']
 rw[h]
theorem ON(B:bt p=ab)(k:p.parts[i]? =aa P)(l:C.body=P.body.map (jI F))(c: ∀q:List Int,q.length=P.nest.length-> ∀y,dc y=ab->dK (F y) (f q)=dK y q)(e:(eU C).Perm ((eU P).map f)):zj p ⟨p.aV,p.parts.set i C⟩ i f where
 arr:=rfl
 perm:=agu k (agr e (by rw[l,dz])) DD
 cells x n:=by
  obtain⟨s,L,d,o,r,w,h,z,G,H⟩:=Ml B k l c (e9 n);obtain⟨A,_,K,_⟩:=ig w;unfold rc cT;rw[o,r];dsimp only;rw[z,G,j3,h _ A];exact⟨sG λa Q=>h a (K a Q),rfl⟩
 run x n m:=by obtain⟨s,L,d,o,r,w,h,z,G,H⟩:=Ml B k l c (e9 n);obtain⟨A,_,K,_⟩:=ig w;unfold ey;rw[o,r];dsimp only;rw[z,h _ A,H m]
theorem LJ{a b:bU}:lv p a b≠0↔nZ p a b:=by unfold lv nZ;by_cases c:(cT p a:Int)∈rc p b<;>by_cases d:(cT p b:Int)∈rc p a<;>by_cases e:cT p a=cT p b<;>(first|rw[aX c]|rw[aY c])<;>(first|rw[aX d]|rw[aY d])<;>(first|rw[aX e]|rw[aY e])<;>simp[c,d,e]
theorem Z5:d∈lH p i↔ ∃j k:Nat,∃a b:bU,j<k/\(I p.parts)[j]? =aa a/\(I p.parts)[k]? =aa b/\nZ p a b/\a.part=(i:Int)/\b.part=(i:Int)/\d=fK b.b2 a.b2:=by
 unfold lH;rw[List.mem_filterMap];constructor
 ·rintro⟨e,o,c⟩;obtain⟨j,k,h,q,m,rfl⟩:=wo.1 o;have l:=bo (O:j<(I p.parts).length);have a7:=bo q;rw[tw l a7] at m;unfold jR at c;dsimp only at c;rw[c',c',l,a7] at c;dsimp only at c;split at c
  ·rename_i n;cases c;exact⟨j,k,_,_,h,l,a7,LJ.1 m,n.1,n.2,rfl⟩
  cases c
 rintro⟨j,k,a,b,h,l,a7,r,s,w,rfl⟩;refine⟨_,wo.2 ⟨j,k,h,(bX.1 a7).1,?_,rfl⟩,?_⟩
 ·rw[tw l a7];exact LJ.2 r
 unfold jR;dsimp only;rw[c',c',l,a7];dsimp only;rw[aX ⟨s,w⟩]
theorem O3(d:bt p=ab)(e:p.parts[i]? =aa P){a:bU}(k:a∈I p.parts)(h:a.part=(i:Int)):a.b2.length=P.nest.length/\ ∀y∈a.b2,dj 9999 y:=by obtain⟨Q,c,_,l,_,m⟩:=pD d (e9 k);rw[h,c',e] at c;cases c;exact⟨l,m⟩
structure Kept (p:Prog) (i:Nat) (P:Part) (o1 f:List Int->List Int):Prop where
 pos:(ie p i).all (λd=>gf (f d))=ab
 Hg: ∀a b:List Int,a.length=P.nest.length->b.length=P.nest.length->f (fK b a)=fK (o1 b) (o1 a)
 len: ∀a:List Int,a.length=P.nest.length->(o1 a).length=P.nest.length
 inj: ∀a b:List Int,a.length=P.nest.length->b.length=P.nest.length->o1 a=o1 b->a=b
theorem aa'(o:bt p=ab)(s:p.parts[i]? =aa P)(l:Kept p i P H f):(I p.parts).Pairwise (λa b=>nZ p a b->pJ (hN i H a) (hN i H b)):=by
 rw[List.pairwise_iff_getElem];intro j k w x m A;have hs:=List.pairwise_iff_getElem.1 (QS o) j k w x m;have y:=bo w;have a7:=bo x;generalize (I p.parts)[j]=a at*;generalize (I p.parts)[k]=b at*;unfold pJ;rw[Lx,Lx];rcases hs with h|⟨h,hs⟩
 ·exact .inl h
 refine .inr ⟨h,?_⟩;by_cases n:a.part=(i:Int)
 ·have d:b.part=(i:Int):=O
  obtain⟨q,_⟩:=O3 o s (bJ y) n;obtain⟨r,_⟩:=O3 o s (bJ a7) d;have B:fK b.b2 a.b2∈ie p i:=OU.2 (Z5.2 ⟨j,k,a,b,m,y,a7,A,n,d,rfl⟩);have c:=gq.1 l.pos _ B;rw[l.Hg _ _ q r,MF _ _ (by rw[l.len _ q,l.len _ r])] at c;have C: ¬cmpL (H b.b2) (H a.b2)<0:=by simpa using c
  have F:=pM (H a.b2) (H b.b2);unfold hN;rw[aX n,aX d];dsimp only;by_cases z:cmpL (H a.b2) (H b.b2)=0
  ·have e:=l.inj _ _ q r (s8 z);refine .inr ⟨s8 z,?_⟩;rcases hs with hs|⟨_,hs⟩
   ·have:=vu b.b2;rw[e] at hs;omega
   exact hs
  exact .inl O
 rw[DD a n,DD b O];exact hs
theorem Q6{q:Prog}(s:bt p=ab)(e:bt q=ab)(w:p.parts[i]? =aa P)(c:zj p q i H)(y:Kept p i P H f): ∀m,fv p.aV m->c7 q m (I q.parts)=c7 p m (I p.parts):=λm z=>by
 have A: ∀x∈I q.parts,dm q x:=λx d=>e9 d;have k: ∀x∈(I p.parts).map (hN i H),dm q x:=λx d=>A x (c.perm.symm.subset d);have l:((I p.parts).map (hN i H)).Pairwise (λa b=>pJ a b\/pj q a b):=by
  rw[List.pairwise_map];refine(aa' s w y).imp_of_mem fun {a b} n o h=>?_;by_cases r:nZ p a b
  ·exact .inl (h r)
  refine .inr (swap e (k _ (C8 n)) (k _ (C8 o)) λg=>r ?_);obtain⟨aS,a2⟩:=c.cells a n;obtain⟨B,C⟩:=c.cells b o;unfold nZ at g⊢
  rwa [aS,a2,B,C] at g
 rw[<-Mx e _ _ m k c.perm.symm (QS e) l (by rw[c.arr];exact z)];unfold c7;rw[List.foldl_map];exact y9 λx d m=>c.run x d m
def kG(k:Nat)(c:Int):aF:=⟨[0,0,0,0].set k (-1),c⟩
def lF(k:Nat)(c:Int)(x:aF):aF:=xa x k (kG k c)
def jH(k:Nat)(d:List Int):List Int:=d.set k (0-d.getD k 0)
def iw(l:Loop):Int:=fD l.lo+fD l.aP-1
def pb(k:Nat)(c:Int)(P:Part):Part:=⟨P.nest.take (k+1)++(P.nest.drop (k+1)).map (ga (lF k c)),P.body.map (jI (lF k c))⟩
def o6(p:Prog)(i k:Nat)(l:Loop):Bool:=fE l&&(ie p i).all λd=>gf (jH k d)
def mN(p:Prog)(a c:Int):Prog×Bool:=
 if eD p a c=ab then
  match az p.parts a with
  |some P=>match az P.nest c with
   |some l=>if o6 p a.toNat c.toNat l=ab then kR ⟨p.aV,p.parts.set a.toNat (pb c.toNat (iw l) P)⟩ else gl
   |none=>gl
  |none=>gl
 else gl
theorem MC(k:Nat)(d:List Int):(jH k d).length=d.length:=by simp[jH]
theorem FN(h:eD p (i:Int) (k:Int)=ab)(a:p.parts[i]? =aa P)(c:P.nest[k]? =aa l):mN p i k=if o6 p i k l=ab then kR ⟨p.aV,p.parts.set i (pb k (iw l) P)⟩ else gl:=by
 unfold mN;rw[aX h,bq a];dsimp only;rw[bq c]
 grind
theorem Og(d:k<4)(a:dj 999 c):iD 1000 (kG k c):=by unfold dj at a;rcases(O:k=0\/k=1\/k=2\/k=3) with rfl|rfl|rfl|rfl<;>(unfold iD dj kG;simp;omega)
theorem Oh(k:Nat)(c:Int): ∀x,dc x=ab->ed 4 (lF k c x):=λx a=>by have:=adB ⟨x.a1.set k 0,x.const⟩ (kG k c) (x.a1.getD k 0) (by dsimp only;rw[e7];exact(gV a).1) (by simp[kG]);unfold ed lF xa;omega
theorem tI{l:List aF}(h: ∀x∈l,dc x=ab):dj 99 (fD l):=by
 unfold fD;cases l with
 |nil=>unfold dj;simp
 |cons x t=>exact(gV (h x en)).2.1
theorem Gd(h:jK l):dj 999 (iw l):=by have a:=tI h.1.2;have c:=tI h.2.2;unfold dj at*;unfold iw;omega
theorem Yf(n:Nat)(a:k<d.length)(c: ∀x∈d,dj 99999 x):uF n d (k:Int)=aa (jH k d):=by have e:=d4 a (0:Int);have a7:=c _ (bJ e);unfold dj at a7;unfold uF;refine ad.eq (ai (bq e) ?_);rw[bh O];refine ai (eM O _) (ad.some ?_);rw[c'];rfl
theorem aaU(n:Nat)(a:k<4):Eo n (k:Int) (-1)=aa ⟨[0,0,0,0].set k (-1),0⟩:=by rcases(O:k=0\/k=1\/k=2\/k=3) with rfl|rfl|rfl|rfl<;>rfl
theorem Ye(d:5000<=n)(a:k<4)(e:dj 999 c): ∀x,dc x=ab->uE n x (k:Int) (kG k c)=aa (lF k c x):=λx h=>by unfold uE;rw[Xc d ((Pb h).mono O) (Og a e) a];rfl
theorem ZU(a:k<4)(d:dj 999 c): ∀n,5000<=n-> ∀x,dc x=ab->lV n x 1 (k:Int) (kG k c)=aa (lF k c x):=λn e x h=>by unfold lV;rw[Wo e ((Pb h).mono O) (Og a d) a];rfl
theorem acG(a:5000<=n)(d:k<4)(e:dj 999 c):og n ⟨[0,0,0,0],c⟩ 1 (w3 k) (-1)=aa (kG k c):=by unfold dj at e;rw[Mt a (by unfold iD dj;simp;omega) ((aaV d).mono O) ⟨O,O⟩ ⟨O,O⟩];rcases(O:k=0\/k=1\/k=2\/k=3) with rfl|rfl|rfl|rfl<;>simp[Bx,w3,kG]
theorem OJ(d:eI r P=ab)(n:k<P.nest.length)(c:Int):gN 4 (pb k c P):=by
 obtain⟨o,h⟩:=lZ d;obtain⟨_,i,l,_⟩:=jx d;refine⟨⟨by simp only[pb,List.length_append,List.length_map,List.length_take,List.length_drop];omega,λy a=>?_⟩,by simp only[pb,List.length_map];exact i.2,λs m=>?_⟩
 ·rcases eS.1 a with a|a
  ·exact(GI d).1.2 y (hv a)
  obtain⟨z,e,rfl⟩:=eo.1 a;exact N' (Oh k c) (h z (jl e))
 obtain⟨z,e,rfl⟩:=eo.1 m;exact O7 (Oh k c) (l z e)
theorem agi(b:20000<=n)(z:dJ 1000 p)(a c:Int):CA n p a c=aa (mN p a c):=by
 unfold CA;by_cases m:c= -1
 ·subst m;unfold mN;rw[aY λh=>by rw[As O] at h;cases h];exact ad.eq (cB (Me O z a) λv W=>ad.cond (λ_=>aU (λ_=>ad.some rfl) λh=>bz (show(-1:Int)<0 by omega) h) λ_=>ad.some rfl)
 refine ad.eq (ai (Nj O z a c m) ?_);by_cases o:eD p a c=ab
 ·rw[aX o];refine b' (aU (λh=>by rw[As h] at o;cases o) λD=>?_);obtain⟨A,i,k,P,l,rfl,rfl,w,B,E,C,q,X⟩:=qg o;obtain⟨W,Z⟩:=lZ q;obtain⟨_,g,j,_⟩:=jx q;have e:=Z l (bJ B);rw[FN o w B];refine ai (bq w) (ai (bq B) (ai (aav O e) ?_));cases G:fE l with
  |false=>exact cd (ad.some (by rw[aY (by unfold o6;rw[G];simp)];rfl))
  |true=>
   refine b' (ai (Lb b z.sm A w (F:=λH=>uF n H (k:Int)) (f:=jH k) (λd r=>Yf n (by have:=(s4 A w r).1;omega) (s4 A w r).2) (MC k)) (ad.cond (λr=>?_) λr=>ad.some ?_))
   ·rw[show o6 p i k l=ab by unfold o6;rw[G,r];rfl];refine ai (aaU n X) ?_;have bN:=Gd e;have K:=tI e.1.2;have L:=tI e.2.2;unfold dj at K L;have Q:(⟨([0,0,0,0]:List Int).set k (-1),wr ((wr (fD l.lo+fD l.aP))-1)⟩:aF)=kG k (iw l):=by
     rw[bh (n:=fD l.lo+fD l.aP) O,bh O];rfl
    rw[bh (n:=(k:Int)+1) O];have R:=JA (n:=n) O (nest:=P.nest) (body:=P.body) (s:=k+1) O W (λy t=>Z y (jl t)) g.2 j (F:=λH=>uE n H (k:Int) (⟨([0,0,0,0]:List Int).set k (-1),wr ((wr (fD l.lo+fD l.aP))-1)⟩:aF)) (f:=lF k (iw l)) λx u=>by rw[Q];exact Ye O X bN x u
    rw[show(k:Int)+1=((k+1:Nat):Int) by omega];refine ai R (ai (eM J _) ?_);rw[c'];exact ai (D2 O (O9 z i (OJ q C (iw l)))) (ad.some rfl)
   rw[aY (by unfold o6;rw[G,r];simp)];rfl
 unfold mN;rw[aY o,aY o];exact cd (ad.some rfl)
theorem ahD(M:20000<=n)(C:dJ 1000 p)(c e:Int):Cw n p c e=aa (mN p c e):=by
 unfold Cw;refine ad.eq (ai (oD O C) (ai (tK O C c e) ?_));by_cases a7:eD p c e=ab;rotate_left
 ·unfold mN;rw[aY a7,show eD p c e=ak by simpa using a7];exact b' (ad.some rfl)
 rw[a7];refine cd ?_;obtain⟨G,i,k,P,l,rfl,rfl,H,K,N,L,q,Q⟩:=qg a7;obtain⟨S,D⟩:=lZ q;obtain⟨_,T,U,_⟩:=jx q;have o:=D l (bJ K);rw[FN a7 H K];refine ai (bq H) (ai (bq K) (ai (Y4 O o) (ai (x:=ie p i) (KR M C.sm G _) ?_)));have w:=Gv G (i:=i);have y:=λd V=>s4 G H (d:=d) V;have R:o6 p i k l=(fE l&&(ie p i).all λd=>gf (jH k d)):=rfl;rw[R];have h3:(if fE l=ab then(fD l.lo,fD l.aP,ab) else((0:Int),(0:Int),ak)).2.2=fE l:=by cases fE l<;>rfl
 generalize ie p i=h at w y;refine ad.loop (λx:Bool×Int=> ∃m:Nat,x.2=m/\m<=h.length/\x.1=(fE l&&(h.take m).all λd=>gf (jH k d))) (λx=>h.length-x.2.toNat) ?_ n _ ⟨0,rfl,O,by dsimp only;rw[h3,List.take_zero];simp⟩ J;rintro W ⟨ok,z⟩ ⟨m,F,hm,a⟩ b3;dsimp only at F a⊢;subst F;refine aU (λr=>?_) λkW=>?_
 ·have r:m<h.length:=O
  have E:=bo r;obtain⟨g1,g2⟩:=y _ (gp r);have I:=d4 (l:=h[m]) (k:=k) O 0;have a7:=g2 _ (bJ I);unfold dj at a7;refine ad.aE (λz=>z.2=(fE l&&(h.take (m+1)).all λd=>gf (jH k d))) (λj X=>?_) λz F=>?_
  ·refine ai (bq E) (ai (cU bZ) ?_);rw[vE];refine ai (bq I) ?_;rw[bh O];refine ai (eM O _) ?_;rw[c'];have A:(h.take (m+1)).all (λd=>gf (jH k d))=((h.take m).all (λd=>gf (jH k d))&&gf (jH k h[m])):=by
    rw[ej,E,List.all_append];simp
   rw[A,<-mc,<-a] at X;cases ok with
   |true=>exact b' (ai (x:=gf (jH k h[m])) (LX (d:=jH k h[m]) (by rw[MC];omega) O) (X _ (by rw[gL])))
   |false=>exact cd (X _ (by rw[Bool.false_and]))
  rw[bh O];exact b3 _ ⟨m+1,J,O,F⟩ J
 have:m=h.length:=O
 subst this;rw[dF] at a;rw[<-a];cases B:ok with
 |false=>exact b' (ad.some (by rw[aY aW];rfl))
 |true=>
  rw[aX rfl];have Z:fE l=ab:=by
   rw[B] at a;cases Z:fE l with
   |true=>rfl
   |false=>rw[Z] at a;cases a
  have g:=tI o.1.2;have t:=tI o.2.2;unfold dj at g t;have u:wr ((wr ((if fE l=ab then(fD l.lo,fD l.aP,ab) else((0:Int),(0:Int),ak)).1+(if fE l=ab then(fD l.lo,fD l.aP,ab) else((0:Int),(0:Int),ak)).2.1))-1)=iw l:=by
   rw[aX Z];dsimp only;rw[bh (n:=fD l.lo+fD l.aP) O,bh O];rfl
  rw[u];refine cd (ai (mD n _) (ai (ZS n Q) (ai (acG O Q (Gd o)) (ai (KA (n:=n) O (x:=P) (s:=k) O S D T.2 U (way:=1) (v:=(k:Int)) (b:=kG k (iw l)) (f:=lF k (iw l)) (ZU Q (Gd o))) ?_))));exact ai (NG O C N ((OJ q L (iw l)).mono O)) (ad.some rfl)
theorem Gf{F:aF->aF}{f:List Int->List Int}{m:Nat}(c: ∀q:List Int,m<=q.length-> ∀y,dc y=ab->dK (F y) (f q)=dK y q)(a: ∀(q:List Int) (v:Int),m<=q.length->f (q++[v])=f q++[v]): ∀(bH:List Loop) (p:List Int),(∀l∈bH,jK l)->m<=p.length->dE (bH.map (ga F)) (f p)=(dE bH p).map f
 | [],p,_,_=>rfl
 |l::bH,p,h,e=>by
  have cC:=h l en;have i: ∀{as:List aF},(∀x∈as,dc x=ab)->iH (as.map F) (f p)=iH as p:=λk=>by
   unfold iH;rw[j3];exact sG λx d=>c p e x (k x d)
  have n:c3 (ga F l) (f p)=c3 l p:=by unfold c3 ga;rw[i cC.1.2]
  have o:dG (ga F l) (f p)=dG l p:=by unfold dG ga;rw[i cC.2.2]
  simp only[List.map_cons,dE];rw[n,o,nO];refine tx λv _=>?_;rw[<-a p v e];exact Gf c a bH (p++[v]) (λx d=>h x (ec _ d)) bZ
theorem EW{A B:List Loop}{f:List Int->List Int}{k:Nat}(h: ∀p:List Int,p.length=k->(dE B p).Perm ((dE A p).map f)): ∀(os:List Loop) (p:List Int),p.length+os.length=k->(dE (os++B) p).Perm ((dE (os++A) p).map f)
 | [],p,a=>h p (by simpa using a)
 |o::os,p,a=>by simp only[List.cons_append,dE];rw[nO];exact E9 λv _=>EW h os (p++[v]) (by simp at a ⊢; omega)
theorem Nd{a R:Type}{f g:a->List R}: ∀l:List a,(l.flatMap f++l.flatMap g).Perm (l.flatMap λb=>f b++g b)
 | []=> .nil
 |x::l=>by simp only[List.flatMap_cons,List.append_assoc];refine List.Perm.append_left _ ?_;refine(List.perm_append_comm_assoc _ _ _).trans ?_;exact List.Perm.append_left _ (Nd l)
theorem Lp{R h W:Type}{F:R->h->List W}{B:List h}: ∀A:List R,(A.flatMap λa=>B.flatMap (F a)).Perm (B.flatMap λb=>A.flatMap λa=>F a b)
 | []=>by
  have:B.flatMap (λb=>([]:List R).flatMap λa=>F a b)=[]:=List.flatMap_eq_nil_iff.2 λ_ _=>rfl;rw[this];exact .nil
 |a::A=>by simp only[List.flatMap_cons];exact(List.Perm.append_left _ (Lp A)).trans (Nd B)
theorem zB: ∀(b a:List Int) (k:Nat) (x y:Int),fK (b.set k x) (a.set k y)=(fK b a).set k (x-y)
 | [],a,k,x,y=>by simp[fK]
 |b::c,[],k,x,y=>by simp[fK]
 |b::c,a::as,0,x,y=>rfl
 |b::c,a::as,k+1,x,y=>by show(b-a)::fK (c.set k x) (as.set k y)=(b-a)::(fK c as).set k (x-y);rw[zB c as k x y]
theorem zP: ∀(b a:List Int) (k:Nat),k<b.length->k<a.length->(fK b a).getD k 0=b.getD k 0-a.getD k 0
 | [],a,k,h,_=>by simp at h
 |b::c,[],k,_,h=>by simp at h
 |b::c,a::as,0,_,_=>rfl
 |b::c,a::as,k+1,d,e=>zP c as k (by simpa using d) (by simpa using e)
theorem FF: ∀(cs p:List Int) (k:Nat) (v:Int),k<cs.length->dX (cs.set k v) p=dX cs p+(v-cs.getD k 0)*p.getD k 0
 | [],p,k,v,h=>by simp at h
 |c::cs,[],k,v,_=>by cases k<;>simp[dX]
 |c::cs,x::p,0,v,_=>by
  simp only[List.set_cons_zero,dX,List.getD_cons_zero];rw[Int.sub_mul];omega
 |c::cs,x::p,k+1,v,h=>by simp only[List.set_cons_succ,dX,List.getD_cons_succ];rw[FF cs p k v (by simpa using h)];omega
theorem Y3: ∀p:List Int,dX [0,0,0,0] p=0:=λp=>w5 rfl p
def iv(k:Nat)(c:Int)(q:List Int):List Int:=q.set k (c-q.getD k 0)
theorem Zw(k:Nat)(c:Int)(q:List Int):(iv k c q).length=q.length:=by simp[iv]
theorem I6{l:List Int}(h:k<l.length)(v:Int):(l.set k v).getD k 0=v:=by rw[eB,hU h];rfl
theorem MB(a:k<q.length):iv k c (iv k c q)=q:=by
 have e:c-(c-q.getD k 0)=q.getD k 0:=O
 unfold iv;rw[I6 a,List.set_set,e];exact Rj (d4 a 0)
theorem Of(d:k<4)(a:k<q.length)(e:dc y=ab):dK (lF k c y) (iv k c q)=dK y q:=by
 have h:=(gV e).1;have i: ∀p:List Int,dK (kG k c) p=c-p.getD k 0:=λp=>by
  unfold dK kG;dsimp only;rw[FF _ _ _ _ (by simpa using d),Y3]
  have:([0,0,0,0]:List Int).getD k 0=0:=by rcases(O:k=0\/k=1\/k=2\/k=3) with rfl|rfl|rfl|rfl<;>rfl
  rw[this];omega
 have l:dK (lF k c y) (iv k c q)=dK ⟨y.a1.set k 0,y.const⟩ (iv k c q)+y.a1.getD k 0*dK (kG k c) (iv k c q):=by
  unfold lF xa r3 dK;dsimp only;rw[NW _ _ _ _ (by rw[e7,h];simp[kG]),Int.mul_add];omega
 rw[l,i];unfold dK iv;dsimp only;rw[I6 a,FF _ _ _ _ O,NX _ _ _ _ a,I6 a,show c-(c-q.getD k 0)=q.getD k 0 by omega,Int.zero_sub,Int.neg_mul,Int.mul_sub,Int.mul_sub];omega
theorem Zx(q:List Int)(v:Int)(h:k+1<=q.length):iv k c (q++[v])=iv k c q++[v]:=by unfold iv;rw[E8 O,List.set_append_left _ _ O]
theorem abj(h:q.length=k)(v:Int):iv k c (q++[v])=q++[c-v]:=by subst h;unfold iv;rw[Yn,p8 _ _ (cV _),lu];rfl
theorem abN(a c:Int):((c5 a c).map λv=>a+c-1-v).Perm (c5 a c):=by
 have:(c5 a c).map (λv=>a+c-1-v)=(c5 a c).reverse:=by
  unfold c5;rw[j3];apply List.ext_getElem
  ·simp
  intro i d e;simp at d e⊢;omega
 rw[this];exact List.reverse_perm _
theorem acu(h:fE l=ab)(p:List Int):c3 l p=fD l.lo/\dG l p=fD l.aP:=by
 unfold fE at h;simp only[b5,decide_eq_true_eq] at h;obtain⟨i,k,a,c⟩:=h;obtain⟨x,d⟩:=vz.1 i;obtain⟨y,e⟩:=vz.1 k;unfold ks at a c;rw[d] at a;rw[e] at c;have a:eP x.a1=0:=by simpa using a
 have c:eP y.a1=0:=by simpa using c
 unfold c3 dG iH fD;rw[d,e];simp[kn,nv,dK,w5 a,w5 c]
theorem abi(h:eI r P=ab)(c:P.nest[k]? =aa l)(n:fE l=ab)(a:eI r (pb k (iw l) P)=ab):(eU (pb k (iw l) P)).Perm ((eU P).map (iv k (iw l))):=by
 obtain⟨B,o⟩:=lZ h;have C:=(bX.1 c).1;rw[sC a,sC h];have e:P.nest=P.nest.take k++l::P.nest.drop (k+1):=by rw[<-jT c,nJ]
 have s:(pb k (iw l) P).nest=P.nest.take k++l::(P.nest.drop (k+1)).map (ga (lF k (iw l))):=by
  show P.nest.take (k+1)++_=_;rw[ej,c,fr];rfl
 rw[s]
 conv=>rhs;rw[e]
 have i: ∀y∈P.nest.drop (k+1),jK y:=λy d=>o y (jl d);generalize P.nest.drop (k+1)=bH at i;refine EW (k:=k) (λp w=>?_) _ _ bZ;obtain⟨x,z⟩:=acu n p;simp only[dE];rw[x,z,nO];have A:(c5 (fD l.lo) (fD l.aP)).flatMap (λv=>(dE bH (p++[v])).map (iv k (iw l)))=((c5 (fD l.lo) (fD l.aP)).map λv=>fD l.lo+fD l.aP-1-v).flatMap (λv=>dE (bH.map (ga (lF k (iw l)))) (p++[v])):=by
  rw[vC];refine tx λv _=>?_;rw[<-Gf (m:=k+1) (λq a y d=>Of O O d) (λq v a=>Zx q v a) bH _ i bZ,abj w];rfl
 rw[A];exact((abN _ _).flatMap_right _).symm
theorem Zv(m:k<P.nest.length)(h:(ie p i).all (λd=>gf (jH k d))=ab)(c:Int):Kept p i P (iv k c) (jH k) where
 pos:=h
 Hg a b l a7:=by
  unfold jH iv;rw[zB,zP _ _ _ O O];congr 1;omega
 len a l:=by rw[Zw,l]
 inj a b l a7 e:=by rw[<-MB (c:=c) (O:k<a.length),e,MB O]
theorem ahA{q:Prog}{a b:Int}(h:mN p a b=(q,ab)):bt p=ab/\bt q=ab/\ ∃(i k:Nat) (P:Part) (l:Loop),a=i/\b=k/\p.parts[i]? =aa P/\P.nest[k]? =aa l/\eD p a b=ab/\fE l=ab/\q=⟨p.aV,p.parts.set i (pb k (iw l) P)⟩/\zj p q i (iv k (iw l))/\Kept p i P (iv k (iw l)) (jH k):=by
 by_cases e:eD p a b=ab
 ·obtain⟨s,i,k,P,l,rfl,rfl,m,n,x,o,r,z⟩:=qg e;rw[FN e m n] at h;by_cases c:o6 p i k l=ab
  ·rw[aX c] at h;obtain⟨rfl,w⟩:=Gk h;unfold o6 at c;rw[mS] at c;have d:=(ev w).2.2.2.1 _ (bJ (hU x));exact⟨s,w,i,k,P,l,rfl,rfl,m,n,e,c.1,rfl,ON s m rfl (λq B y A=>Of z O A) (abi r n c.1 d),Zv o c.2 _⟩
  rw[aY c] at h;cases h
 unfold mN at h;rw[aY e] at h;cases h
theorem Ps(a:k+1<q.length)(j:Nat):(fe k q)[j]? =if j=k then q[k+1]? else if j=k+1 then q[k]? else q[j]? :=by
 unfold fe;by_cases c:j=k+1
 ·subst c;rw[hU (by rw[e7];exact a),aY O,aX rfl];exact(d4 O _).symm
 rw[jm O];by_cases d:j=k
 ·subst d;rw[hU O,aX rfl];exact(d4 a _).symm
 rw[jm O,aY d,aY c]
theorem Ny(d:k+1<q.length):fe k (fe k q)=q:=by
 apply List.ext_getElem?;intro j;have h:=Ps d;rw[Ps (by rw[AB];exact d),h,h,h];by_cases a:j=k
 ·subst a;rw[aX rfl,aY O,aX rfl]
 by_cases c:j=k+1
 ·subst c;rw[aY O,aX rfl,aX rfl]
 rw[aY a,aY c,aY a,aY c]
theorem OV: ∀(k:Nat) (cs q:List Int),k+1<cs.length->k+1<q.length->dX (fe k cs) (fe k q)=dX cs q
 |0,a::b::cs,x::y::q,_,_=>by
  show b*y+(a*x+dX cs q)=a*x+(b*y+dX cs q)
  omega
 |k+1,a::cs,x::q,c,d=>by
  show a*x+dX (fe k cs) (fe k q)=a*x+dX cs q;rw[OV k cs q (by simpa using c) (by simpa using d)]
 |0,[],_,h,_=>by simp at h
 |0,[_],_,h,_=>by simp at h
 |0,_::_::_,[],_,h=>by simp at h
 |0,_::_::_,[_],_,h=>by simp at h
 |k+1,[],_,h,_=>by simp at h
 |k+1,_::_,[],_,h=>by simp at h
theorem Pr(d:k+1<4)(a:k+1<q.length)(c:dc y=ab):dK (ku k y) (fe k q)=dK y q:=by have e:=(gV c).1;show y.const+dX (fe k y.a1) (fe k q)=y.const+dX y.a1 q;rw[OV k _ _ O a]
theorem acC(q:List Int)(v:Int)(h:k+2<=q.length):fe k (q++[v])=fe k q++[v]:=by unfold fe;rw[E8 O,E8 O,List.set_append_left _ _ O,List.set_append_left _ _ (by rw[e7];omega)]
theorem OO: ∀(q:List Int) (a b:Int),fe q.length (q++[a]++[b])=q++[b]++[a]
 | [],a,b=>rfl
 |x::q,a,b=>by show x::fe q.length (q++[a]++[b])=x::(q++[b]++[a]);rw[OO q a b]
theorem PN{l:List aF}{d:Nat}(h:fi l (d:Int)=ab): ∀x∈l,x.a1.getD d 0=0:=λx a=>by
 unfold fi fg at h;simp only[b5,List.all_eq_true,decide_eq_true_eq] at h;obtain⟨c,i⟩:=h.1 x a;have k:=(gV c).1;by_cases e:d<x.a1.length
 ·exact D3 (d4 e 0) O
 rw[eB,tb O];rfl
theorem Av{l:List aF}(h: ∀x∈l,x.a1.getD q.length 0=0)(v:Int):iH l (q++[v])=iH l q:=by unfold iH;exact sG λx a=>by unfold dK;rw[M3 _ _ _ (h x a)]
theorem ade(h:o7 l k=ak):(∀x∈l.lo,x.a1.getD k 0=0)/\ ∀x∈l.aP,x.a1.getD k 0=0:=by unfold o7 at h;rw[Bool.or_eq_false_iff,List.any_eq_false,List.any_eq_false] at h;exact⟨λx a=>by simpa[lG] using h.1 x a,λx a=>by simpa[lG] using h.2 x a⟩
theorem aaR(n:eI r P=ab)(x:k+1<P.nest.length)(C:o7 (P.nest.getD (k+1) ⟨[],[]⟩) k=ak)(l:eI r (p1 k P)=ab):(eU (p1 k P)).Perm ((eU P).map (fe k)):=by
 obtain⟨Z,o⟩:=lZ n;have a:=d4 (O:k<P.nest.length) (⟨[],[]⟩:Loop);have i:=d4 x (⟨[],[]⟩:Loop);rw[sC l,sC n];have c:=(pf (jx n).1).1.2 k _ a;have z:=o _ (bJ a);have A:=o _ (bJ i);have e:P.nest=P.nest.take k++P.nest.getD k ⟨[],[]⟩::P.nest.getD (k+1) ⟨[],[]⟩::P.nest.drop (k+2):=by
  rw[<-jT i,<-jT a,nJ]
 have F:(p1 k P).nest=P.nest.take k++P.nest.getD (k+1) ⟨[],[]⟩::P.nest.getD k ⟨[],[]⟩::(P.nest.drop (k+2)).map (ga (ku k)):=by
  show(ho k P.nest).take (k+2)++((ho k P.nest).drop (k+2)).map (ga (ku k))=_;have hs:=acE x;rw[MQ,ej,ej,hs,hs,aX rfl,aY O,aX rfl,a,i]
  have:(ho k P.nest).take k=P.nest.take k:=by
   unfold ho;rw[List.take_set_of_le O,List.take_set_of_le O]
  rw[this];simp
 rw[F]
 conv=>rhs;rw[e]
 obtain⟨G,H⟩:=ade C;have di:=PN c.1;have cI:=PN c.2;have B: ∀y∈P.nest.drop (k+2),jK y:=λy s=>o y (jl s);generalize P.nest.drop (k+2)=bH at B;generalize P.nest.getD k ⟨[],[]⟩=d at*;generalize P.nest.getD (k+1) ⟨[],[]⟩=h at*;refine EW (k:=k) (λp K=>?_) _ _ bZ;subst K;simp only[dE];have L: ∀v,c3 h (p++[v])=c3 h p:=λv=>by unfold c3;rw[Av G]
 have Q: ∀v,dG h (p++[v])=dG h p:=λv=>by unfold dG;rw[Av H]
 have R: ∀v,c3 d (p++[v])=c3 d p:=λv=>by unfold c3;rw[Av di]
 have W: ∀v,dG d (p++[v])=dG d p:=λv=>by unfold dG;rw[Av cI]
 simp only[L,Q,R,W];rw[nO];have X:(c5 (c3 d p) (dG d p)).flatMap (λv=>((c5 (c3 h p) (dG h p)).flatMap λw=>dE bH (p++[v]++[w])).map (fe p.length))=(c5 (c3 d p) (dG d p)).flatMap (λv=>(c5 (c3 h p) (dG h p)).flatMap λw=>dE (bH.map (ga (ku p.length))) (p++[w]++[v])):=by
  refine tx λv _=>?_;rw[nO];refine tx λw _=>?_;rw[<-Gf (m:=p.length+2) (λq l y s=>Pr O O s) (λq v l=>acC q v l) bH _ B aW,OO]
 rw[X];exact(Lp _).symm
theorem YR(l:k+1<P.nest.length)(h:(ie p i).all (λd=>gf (fe k d))=ab):Kept p i P (fe k) (fe k) where
 pos:=h
 Hg a b c a7:=by
  unfold fe;rw[zB,zB,zP _ _ _ O O,zP _ _ _ O O]
 len a c:=by rw[AB,c]
 inj a b c a7 e:=by rw[<-Ny (O:k+1<a.length),e,Ny O]
theorem ahS{q:Prog}{a b:Int}(h:lC p a b=(q,ab)):bt p=ab/\bt q=ab/\ ∃(i k:Nat) (P:Part),a=i/\b=k/\p.parts[i]? =aa P/\zj p q i (fe k)/\Kept p i P (fe k) (fe k):=by
 by_cases d:eD p a b=ab/\eD p a (b+1)=ab
 ·obtain⟨r,i,k,P,l,rfl,rfl,o,A,w,x,e,B⟩:=qg d.1;have m:=FY o d.2;rw[FV d.1 d.2 o] at h;by_cases c:oa p i k P=ab
  ·rw[aX c] at h;obtain⟨rfl,s⟩:=Gk h;have C:=(lZ e).1;unfold oa at c;rw[mS,Bool.not_eq_true'] at c;have n:=(ev s).2.2.2.1 _ (bJ (hU w));exact⟨r,s,i,k,P,rfl,rfl,o,ON r o rfl (λq F y z=>Pr O O z) (aaR e m c.1 n),YR m c.2⟩
  rw[aY c] at h;cases h
 unfold lC at h;rw[aY d] at h;cases h
end
def mo(k:Int):Int:=if k=3\/k=4\/k=5 then 3 else if k=1\/k=2\/k=7\/k=8 then 2 else if k=6\/k=9\/k=10 then 1 else 0
def rH(s:Step):Bool:=ah (1<=s.kind/\s.kind<=11)&&((ah (0<mo s.kind)||decide (s.part=0))&&((ah (1<mo s.kind)||decide (s.a=0))&&(ah (2<mo s.kind)||decide (s.b=0))))
theorem Ph(k:Int):0<=mo k/\mo k<=3:=by
 unfold mo
 grind
theorem Vn(n:Nat)(k:Int):Da n k=aa (mo k):=by
 unfold Da mo;refine ad.eq (ad.aE (λz=>z=ah (k=3\/k=4\/k=5)) (λj a=>aU (λh=>a _ ?_) λh=>aU (λc=>a _ ?_) λc=>a _ ?_) λz d=>?_)
 ·rw[hz];simp only[decide_eq_true_eq];omega
 ·rw[hz];simp only[decide_eq_true_eq];omega
 ·rw[hz];simp only[decide_eq_true_eq];omega
 subst d;by_cases e:k=3\/k=4\/k=5
 ·rw[aX e,bW e];exact b' (ad.some rfl)
 rw[aY e,bT e];refine cd (ad.aE (λz=>z=ah (k=1\/k=2\/k=7\/k=8)) (λj a=>aU (λh=>a _ ?_) λh=>aU (λc=>a _ ?_) λc=>aU (λm=>a _ ?_) λm=>a _ ?_) λz d=>?_)
 ·rw[hz];simp only[decide_eq_true_eq];omega
 ·rw[hz];simp only[decide_eq_true_eq];omega
 ·rw[hz];simp only[decide_eq_true_eq];omega
 ·rw[hz];simp only[decide_eq_true_eq];omega
 subst d;by_cases i:k=1\/k=2\/k=7\/k=8
 ·rw[aX i,bW i];exact b' (ad.some rfl)
 rw[aY i,bT i];refine cd (ad.aE (λz=>z=ah (k=6\/k=9\/k=10)) (λj a=>aU (λh=>a _ ?_) λh=>aU (λc=>a _ ?_) λc=>a _ ?_) λz d=>?_)
 ·rw[hz];simp only[decide_eq_true_eq];omega
 ·rw[hz];simp only[decide_eq_true_eq];omega
 ·rw[hz];simp only[decide_eq_true_eq];omega
 subst d;by_cases l:k=6\/k=9\/k=10
 ·rw[aX l,bW l];exact b' (ad.some rfl)
 rw[aY l,bT l];exact cd (ad.some rfl)
theorem V2(n:Nat)(k:Int):Aq n k=aa (if 1<=k/\k<=11 then mo k else-1):=by
 unfold Aq mo;refine ad.eq (ad.aE (λz=>z=ah (k=1\/k=2\/k=7\/k=8)) (λj a=>aU (λh=>a _ ?_) λh=>aU (λc=>a _ ?_) λc=>aU (λm=>a _ ?_) λm=>a _ ?_) λz d=>?_)
 ·rw[hz];simp only[decide_eq_true_eq];omega
 ·rw[hz];simp only[decide_eq_true_eq];omega
 ·rw[hz];simp only[decide_eq_true_eq];omega
 ·rw[hz];simp only[decide_eq_true_eq];omega
 subst d;by_cases e:k=1\/k=2\/k=7\/k=8
 ·rw[bW e,aX O,aY O,aX e];exact b' (ad.some rfl)
 rw[bT e];refine cd (ad.aE (λz=>z=ah (k=3\/k=4\/k=5)) (λj a=>aU (λh=>a _ ?_) λh=>aU (λc=>a _ ?_) λc=>a _ ?_) λz d=>?_)
 ·rw[hz];simp only[decide_eq_true_eq];omega
 ·rw[hz];simp only[decide_eq_true_eq];omega
 ·rw[hz];simp only[decide_eq_true_eq];omega
 subst d;by_cases i:k=3\/k=4\/k=5
 ·rw[bW i,aX O,aX i];exact b' (ad.some rfl)
 rw[bT i];refine cd (ad.aE (λz=>z=ah (k=6\/k=9\/k=10)) (λj a=>aU (λh=>a _ ?_) λh=>aU (λc=>a _ ?_) λc=>a _ ?_) λz d=>?_)
 ·rw[hz];simp only[decide_eq_true_eq];omega
 ·rw[hz];simp only[decide_eq_true_eq];omega
 ·rw[hz];simp only[decide_eq_true_eq];omega
 subst d;by_cases l:k=6\/k=9\/k=10
 ·rw[bW l,aX O,aY i,aY e,aX l];exact b' (ad.some rfl)
 rw[bT l];refine cd (aU (λh=>ad.some ?_) λh=>ad.some ?_)
 ·rw[aX O,aY i,aY e,aY l]
 rw[aY O]
theorem V'(n:Nat)(s:Step):Dv n s=aa (rH s):=by
 unfold Dv rH;have d:=Ph s.kind;refine ad.eq (ai (Vn n s.kind) ?_);generalize mo s.kind=f at*;refine ad.aE (λz=>z=(ah (1<=s.kind/\s.kind<=11)&&((ah (0<f)||decide (s.part=0))&&((ah (1<f)||decide (s.a=0))&&(ah (2<f)||decide (s.b=0)))))) (λj e=>?_) (λz c=>ad.some c)
 grind
variable {n:Nat}{p:Prog}{s:Step}{R:Prog×Bool}{l:List Step}
theorem WK(i:10<=n)(s:Step):zE n s=aa (rH s):=by
 unfold zE rH;have k:=Ph s.kind;refine ad.eq (ai (V2 n s.kind) ?_);generalize mo s.kind=f at*;refine ad.aE (λz=>z=(ah (1<=s.kind/\s.kind<=11)&&((ah (0<f)||decide (s.part=0))&&((ah (1<f)||decide (s.a=0))&&(ah (2<f)||decide (s.b=0)))))) (λj c=>?_) λz e=>ad.some e;by_cases d:1<=s.kind/\s.kind<=11
 ·rw[aX d];rw[bW d] at c⊢;refine aU (λ_=>ai (show D0 n s=aa [s.part,s.a,s.b] from rfl) (ai (km O bZ aW) (ai (ya (p:=λv=> !decide (v=0)) (λx _=>rfl) bZ bZ) (c _ ?_)))) λh=>bz h O;rw[show([s.part,s.a,s.b].length:Int).toNat=[s.part,s.a,s.b].length from rfl,dF];rcases(O:f=0\/f=1\/f=2\/f=3) with rfl|rfl|rfl|rfl
  ·simp[show(0:Int).toNat=0 from rfl]
  ·simp[show(1:Int).toNat=1 from rfl]
  ·simp[show(2:Int).toNat=2 from rfl]
  simp[show(3:Int).toNat=3 from rfl]
 rw[aY d];rw[bT d] at c⊢;exact aU (λh=>bz h (by decide)) λ_=>c _ rfl
noncomputable def fS(p:Prog)(s:Step):Prog×Bool:=
 if rH s=ab then(if s.kind=1 then lC p s.part s.a else if s.kind=2 then mN p s.part s.a else if s.kind=6 then ps p s.part else if s.kind=9 then oN p s.part else if s.kind=10 then ql p s.part else qo p)
 else gl
def t'(s:Step):Prop:=(-1<=s.part/\s.part<=9)/\ ¬s.kind=3/\ ¬s.kind=4/\ ¬s.kind=5/\ ¬s.kind=7/\ ¬s.kind=8
theorem E7(d:20000<=n)(c:dJ 1000 p)(a:t' s):qV n p s=aa (fS p s):=by
 unfold qV fS;refine ad.eq (ai (WK O s) ?_);cases e:rH s with
 |false=>exact b' (ad.some rfl)
 |true=>
  rw[aX rfl];refine cd (aU (λh=>?_) λh=>?_)
  ·rw[aX h];exact ai (agk d c _ _) (ad.some rfl)
  rw[aY h];refine aU (λh=>?_) λh=>?_
  ·rw[aX h];exact ai (agi d c _ _) (ad.some rfl)
  rw[aY h];refine aU (λh=>?_) λh=>?_
  ·exact bz h a.2.1
  refine aU (λh=>?_) λh=>?_
  ·exact bz h a.2.2.1
  refine aU (λh=>?_) λh=>?_
  ·exact bz h a.2.2.2.1
  refine aU (λh=>?_) λh=>?_
  ·rw[aX h];exact ai (agh d c a.1) (ad.some rfl)
  rw[aY h];refine aU (λh=>?_) λh=>?_
  ·exact bz h a.2.2.2.2.1
  refine aU (λh=>?_) λh=>?_
  ·exact bz h a.2.2.2.2.2
  refine aU (λh=>?_) λh=>?_
  ·rw[aX h];exact ai (agj O c a.1) (ad.some rfl)
  rw[aY h];refine aU (λh=>?_) λh=>?_
  ·rw[aX h];exact ai (Yk O c a.1) (ad.some rfl)
  rw[aY h];exact ai (Tf O c) (ad.some rfl)
theorem L0(d:20000<=n)(c:dJ 1000 p)(a:t' s):u0 n p s=aa (fS p s):=by
 unfold u0 fS;refine ad.eq (ai (oD O c) (ai (V' n s) ?_));cases e:rH s with
 |false=>exact b' (ad.some rfl)
 |true=>
  rw[aX rfl];refine cd (aU (λh=>?_) λh=>?_)
  ·rw[aX h];exact ai (ahF d c _ _) (ad.some rfl)
  rw[aY h];refine aU (λh=>?_) λh=>?_
  ·rw[aX h];exact ai (ahD d c _ _) (ad.some rfl)
  rw[aY h];refine aU (λh=>?_) λh=>?_
  ·exact bz h a.2.1
  refine aU (λh=>?_) λh=>?_
  ·exact bz h a.2.2.1
  refine aU (λh=>?_) λh=>?_
  ·exact bz h a.2.2.2.1
  refine aU (λh=>?_) λh=>?_
  ·rw[aX h];exact ai (ahC d c a.1) (ad.some rfl)
  rw[aY h];refine aU (λh=>?_) λh=>?_
  ·exact bz h a.2.2.2.2.1
  refine aU (λh=>?_) λh=>?_
  ·exact bz h a.2.2.2.2.2
  refine aU (λh=>?_) λh=>?_
  ·rw[aX h];exact ai (ahE O c a.1) (ad.some rfl)
  rw[aY h];refine aU (λh=>?_) λh=>?_
  ·rw[aX h];exact ai (Yx O c a.1) (ad.some rfl)
  rw[aY h];exact ai (SU O c) (ad.some rfl)
def o3(R:Prog×Bool):Prop:=(R.2=ab/\bt R.1=ab)\/R=gl
theorem kS:o3 gl:= .inr rfl
theorem EO(q:Prog):o3 (kR q):=by
 unfold kR;split
 ·rename_i h;exact .inl ⟨rfl,h⟩
 exact .inr rfl
theorem o3.PT(h:o3 R):dJ 1000 R.1:=by
 rcases h with h|h
 ·exact(kd h.2).mono O
 rw[h];exact Q9
theorem o3.v(h:o3 R)(a:R.2=ab):bt R.1=ab:=by
 rcases h with h|h
 ·exact h.2
 rw[h] at a;cases a
theorem ah5(h:o3 R)(a:R.2=ak):R=gl:=by
 rcases h with h|h
 ·rw[a] at h;cases h.1
 exact h
theorem sM(p:Prog)(s:Step):o3 (fS p s):=by
 unfold fS;split
 ·split
  ·unfold lC;split
   ·split
    ·split
     ·exact EO _
     exact kS
    exact kS
   exact kS
  split
  ·unfold mN;split
   ·split
    ·split
     ·split
      ·exact EO _
      exact kS
     exact kS
    exact kS
   exact kS
  split
  ·unfold ps;split
   ·split
    ·split
     ·exact EO _
     exact kS
    exact kS
   exact kS
  split
  ·by_cases h:jA p s.part (s.part+1)=ab
   ·obtain⟨i,d,k,e,a,c,_⟩:=BS h;rw[e] at h⊢;rw[CX h a c];exact .inl ⟨rfl,IH (sw h).1 a c⟩
   unfold oN;rw[aY h];exact kS
  split
  ·unfold ql;split
   ·rename_i h;simp only[b5] at h;exact .inl ⟨rfl,Gw h.1 _⟩
   exact kS
  unfold qo;split
  ·rename_i h;exact .inl ⟨rfl,ab1 h⟩
  exact kS
 exact kS
noncomputable def mm:List Step->Prog->Prog×Bool
 | [],q=>(q,ab)
 |s::l,q=>if(fS q s).2=ab then mm l (fS q s).1 else gl
noncomputable def wW(p:Prog)(l:List Step):Prog×Bool:=if bt p=ab/\l.length<=12 then mm l p else gl
theorem L1: ∀{l:List Step} {q:Prog},bt q=ab->o3 (mm l q)
 | [],q,h=> .inl ⟨rfl,h⟩
 |s::l,q,h=>by
  simp only[mm];split
  ·rename_i a;exact L1 ((sM q s).v a)
  exact kS
theorem adS(K:20000<=n){f:Prog->Step->Option (Prog×Bool)}(B: ∀q s,bt q=ab->s∈l->f q s=aa (fS q s))(L:l.length<=12)(C:bt p=ab):
  bj (λc ((r,w,k):(List ca)×(List Part)×Int)=>
    bif ah (k<(l.length:Int)) then(
     bL (az l k) λF=>
     bL (f (⟨r,w⟩:Prog) F) λe=>
     bif !e.2 then(
      aa ((⟨[],[]⟩:Prog),ak)
     ) else(
      c (e.1.aV,e.1.parts,wr (k+1))
     )
    ) else(
     aa ((⟨r,w⟩:Prog),ab)
    )
   ) n (p.aV,p.parts,0)=aa (mm l p):=by
 refine ad.eq (ad.loop (λx:List ca×List Part×Int=> ∃j:Nat,x.2.2=j/\j<=l.length/\bt ⟨x.1,x.2.1⟩=ab/\mm (l.drop j) ⟨x.1,x.2.1⟩=mm l p) (λx=>l.length-x.2.2.toNat) ?_ n _ ⟨0,rfl,O,C,rfl⟩ J);rintro m ⟨a,y,z⟩ ⟨j,rfl,Q,A,d⟩ G;dsimp only at A d⊢;refine aU (λh=>?_) λH=>ad.some ?_
 ·have h:j<l.length:=O
  have i:=bo h;generalize l[j]=s at i;rw[jT i] at d;simp only[mm] at d;have bG:=sM ⟨a,y⟩ s;refine ai (bq i) (ai (B _ s A (bJ i)) ?_);cases o:(fS ⟨a,y⟩ s).2 with
  |false=>
   rw[o,aY aW] at d;exact b' (ad.some d)
  |true=>
   rw[o,aX rfl] at d;rw[bh O];exact cd (G _ ⟨j+1,J,O,bG.v o,d⟩ J)
 rw[show j=l.length by omega,oP] at d;exact d
theorem V4(c:20000<=n)(d:fP p)(e: ∀q s,bt q=ab->s∈l->qV n q s=aa (fS q s)):x6 n p l=aa (wW p l):=by
 unfold x6 wW;refine ad.eq (ad.aE (λz=>z= !decide (bt p=ab/\l.length<=12)) (λj a=>ai (oe O d) (ad.cond (λh=>a _ ?_) λh=>a _ ?_)) λz i=>?_)
 ·rw[bT λk=>by rw[k.1] at h;cases h];rfl
 ·have h:bt p=ab:=by simpa using h
  rw[hz];simp only[Bool.not_eq_true',decide_eq_true_eq,decide_eq_false_iff_not,h,true_and];omega
 subst i;by_cases h:bt p=ab/\l.length<=12
 ·rw[aX h,bW h];exact cd (ai (oE O h.1) (ad.of (adS c e h.2 h.1) rfl))
 rw[aY h,bT h];exact b' (ad.some rfl)
theorem WJ(a:20000<=n)(c:dJ 1000 p)(i:l.length<=1000)(d: ∀s∈l,t' s):x6 n p l=aa (wW p l):=
 V4 a c.sm λq s e h=>E7 a ((kd e).mono O) (d s h)
end Go.Lift
