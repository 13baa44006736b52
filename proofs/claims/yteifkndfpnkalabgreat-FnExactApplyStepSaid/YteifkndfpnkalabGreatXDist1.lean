/- Tools. -/
import Derived.Test.YteifkndfpnkalabGreatXTran1
set_option maxRecDepth 110000000
set_option linter.unusedVariables false
namespace Go.Lift
open Go
open Option renaming some -> aa, bind -> bI
open Bool renaming true -> ab, false -> al, and_eq_true -> cB
open Decidable renaming decide -> aj
section
theorem Bc: ∀a,cmpL a a=0
 | []=>rfl
 |x::a=>by unfold cmpL;rw[be O,be O];exact Bc a
theorem tM: ∀a b,cmpL b a= -cmpL a b
 | [],[]=>by simp[cmpL]
 | [],_::_=>by simp[cmpL]
 |_::_,[]=>by simp[cmpL]
 |x::a,y::b=>by
  unfold cmpL;by_cases c:x<y
  ·simp[c,show¬y<x by omega]
  by_cases d:y<x
  ·simp[c,d]
  rw[be c,be d,be d,be c];exact tM a b
theorem xS: ∀{a b},cmpL a b=0->a=b
 | [],[],_=>rfl
 | [],_::_,h=>by simp[cmpL] at h
 |_::_,[],h=>by simp[cmpL] at h
 |x::a,y::b,h=>by
  unfold cmpL at h;by_cases c:x<y
  ·rw[bg c] at h;omega
  by_cases d:y<x
  ·rw[be c,bg d] at h;omega
  rw[be c,be d] at h;rw[xS h,show x=y by omega]
theorem x7: ∀{k l m},cmpL k l<0->cmpL l m<0->cmpL k m<0
 | [],[],_,h,_=>by simp[cmpL] at h
 | [],_::_,[],_,h=>by simp[cmpL] at h
 | [],_::_,_::_,_,_=>by simp[cmpL]
 |_::_,[],_,h,_=>by simp[cmpL] at h
 |_::_,_::_,[],_,h=>by simp[cmpL] at h
 |x::k,y::l,z::m,i,e=>by
  unfold cmpL at i e⊢;by_cases a:x<y
  ·by_cases b:y<z
   ·rw[bg O];omega
   by_cases c:z<y
   ·rw[be b,bg c] at e;omega
   rw[bg O];omega
  by_cases b:y<x
  ·rw[be a,bg b] at i;omega
  by_cases c:y<z
  ·rw[bg O];omega
  by_cases d:z<y
  ·rw[be c,bg d] at e;omega
  rw[be O,be O];rw[be a,be b] at i;rw[be c,be d] at e;exact x7 i e
theorem N5: ∀a b,iH a b=aj (cmpL a b<0)
 | [],[]=>rfl
 | [],_::_=>rfl
 |_::_,[]=>rfl
 |x::a,y::b=>by
  unfold iH cmpL;by_cases h:x=y
  ·subst h;simp only[if_true,Int.lt_irrefl,if_false];exact N5 a b
  by_cases c:x<y
  ·simp[h,c]
  have:y<x:=O
  simp[h,c,this]
abbrev ir(l:List (List Int)):Prop:=l.Pairwise λa b=>cmpL a b<0
theorem Qo: ∀{l m:List (List Int)},ir l->ir m->(∀x,x∈l↔x∈m)->l=m
 | [],[],_,_,_=>rfl
 | [],y::m,_,_,h=>by have:=(h y).2 bl;simp at this
 |x::l,[],_,_,h=>by have:=(h x).1 bl;simp at this
 |x::l,y::m,s,w,h=>by
  obtain⟨q,A⟩:=rR.1 s;obtain⟨r,B⟩:=rR.1 w;have e:x=y:=by
   rcases eh.1 ((h x).1 bl) with d|d
   ·exact d
   rcases eh.1 ((h y).2 bl) with i|i
   ·exact i.symm
   have a:=r x d;have b:=q y i
   have:=x7 a b;rw[Bc] at this;omega
  subst e;have k:x∉l:=λn=>by have:=q x n;rw[Bc] at this;omega
  have o:x∉m:=λn=>by have:=r x n;rw[Bc] at this;omega
  rw[Qo A B (λz=>⟨λc=>by
   rcases eh.1 ((h z).1 (eW _ c)) with rfl|p
   ·exact br c k
   ·exact p,λc=>by
   rcases eh.1 ((h z).2 (eW _ c)) with rfl|p
   ·exact br c o
   exact p⟩)]
def iI:List (List Int)->List Int->List (List Int)
 | [],d=>[d]
 |x::a,d=>if cmpL d x<0 then d::x::a else x::iI a d
theorem GY{d z:List Int}: ∀{l:List (List Int)},z∈iI l d↔z=d\/z∈l
 | []=>by simp[iI]
 |x::a=>by
  unfold iI;split
  ·simp
  simp only[List.mem_cons,GY (l:=a)];constructor
  ·rintro(h|h|h)
   ·exact .inr (.inl h)
   ·exact .inl h
   exact .inr (.inr h)
  rintro(h|h|h)
  ·exact .inr (.inl h)
  ·exact .inl h
  exact .inr (.inr h)
theorem Pw{d:List Int}: ∀{l:List (List Int)},ir l->d∉l->ir (iI l d)
 | [],_,_=>by simp[iI]
 |x::m,a,b=>by
  obtain⟨c,i⟩:=rR.1 a;unfold iI;split
  ·rename_i h;refine rR.2 ⟨λz et=>?_,a⟩;rcases eh.1 et with rfl|et
   ·exact h
   exact x7 h (c z et)
  rename_i h;refine rR.2 ⟨λz et=>?_,Pw i λk=>b (eW _ k)⟩;rcases GY.1 et with rfl|et
  ·have n:=tM z x;have o:cmpL z x≠0:=λe=>b (by rw[xS e];simp);omega
  exact c z et
def ik(l:List (List Int))(d:List Int):List (List Int):=if d∈l then l else iI l d
theorem aeg{l:List (List Int)}(h:ir l)(d:List Int):ir (ik l d):=by
 unfold ik;split
 ·exact h
 exact Pw h ‹_›
variable {l:Loop}{d a b:List Int}{R:Type}{Q:R->Prop}{n k i:Nat}{p:Prog}{c:Int}{P:Part}{r:List cC}
theorem Ou{l:List (List Int)}{z:List Int}:z∈ik l d↔z=d\/z∈l:=by
 unfold ik;split
 ·rename_i h
  grind
 exact GY
theorem Ho: ∀(a l:List (List Int)),ir l->ir (a.foldl ik l)/\ ∀z,z∈a.foldl ik l↔z∈l\/z∈a
 | [],l,h=>⟨h,λz=>bl⟩
 |d::a,l,h=>by
  obtain⟨b,c⟩:=Ho a (ik l d) (aeg h d);refine⟨b,λz=>?_⟩;rw[List.foldl_cons,c z,Ou,eh];constructor
  ·rintro((h|h)|h)
   ·exact .inr (.inl h)
   ·exact .inl h
   exact .inr (.inr h)
  rintro(h|h|h)
  ·exact .inl (.inr h)
  ·exact .inl (.inl h)
  exact .inr h
def gB:List (List Int)->List (List Int)
 | []=>[]
 | [x]=>[x]
 |x::y::r=>if x=y then gB (y::r) else x::gB (y::r)
theorem E3{z:List Int}: ∀{l:List (List Int)},z∈gB l↔z∈l
 | []=>by simp[gB]
 | [x]=>by simp[gB]
 |x::y::r=>by
  have a:=E3 (z:=z) (l:=y::r);unfold gB;split
  ·rename_i h;subst h;rw[a];simp
  rw[eh,a];simp
theorem Fg: ∀{l:List (List Int)},l.Pairwise (λa b=> ¬cmpL b a<0)->ir (gB l)
 | [],_=>by simp[gB]
 | [x],_=>by simp[gB]
 |x::y::r,h=>by
  obtain⟨m,i⟩:=rR.1 h;obtain⟨n,_⟩:=rR.1 i;unfold gB;split
  ·exact Fg i
  rename_i k;refine rR.2 ⟨λz et=>?_,Fg i⟩;have d:cmpL x y<0:=by
   have a:=m y bl;have b:=tM x y;have c:cmpL x y≠0:=λe=>k (xS e);omega
  rcases eh.1 (E3.1 et) with rfl|et
  ·exact d
  have a:=n z et;have b:=tM y z;by_cases e:cmpL y z=0
  ·rw[<-xS e];exact d
  exact x7 d O
theorem Xa(l:List (List Int)):(fD l).Pairwise (λa b=> ¬cmpL b a<0):=by
 have:=List.pairwise_mergeSort (le:=λx y=> !decide (cmpL y x<0)) (λa b c k d=>by
  simp only[Bool.not_eq_true',decide_eq_false_iff_not] at*;intro h;have i:=tM a b;have m:=tM b c;by_cases e:cmpL b a=0
  ·rw[xS e] at d;exact d h
  ·exact d (x7 h O)) (λa b=>by
  have i:=tM a b;by_cases h:cmpL b a<0
  ·have: ¬cmpL a b<0:=O
   simp[h,this]
  simp[h]) l
 refine this.imp λh=>?_;simpa using h
theorem ad6(a:List (List Int)):gB (fD a)=a.foldl ik []:=by obtain⟨b,c⟩:=Ho a [] List.Pairwise.nil;refine Qo (Fg (Xa a)) b λz=>?_;rw[E3,c z];unfold fD;rw[List.mem_mergeSort];simp
def ll(b a:List Int):List Int:=List.zipWith (λx y=>x-y) b a
theorem Ol(D:a.length=b.length)(F:b.length<=1100000)(G:1100000<n)(l: ∀x∈a,c3 9999 x)(m: ∀x∈b,c3 9999 x){K:List Int->Option R}(H:ad (K (ll b a)) Q):
  ad (bA (λc ((h,d):(List Int)×Int)=>
   bif aj (d<(b.length:Int)) then(
    bI (aB b d) λo=>
    bI (aB a d) λp=>
    bI (app h [wr (o-p)]) λq=>
    c (q,wr (d+1))
   ) else(
    K h
   )) n ([],0)) Q:=by
 refine ad.loop (λx:List Int×Int=> ∃i:Nat,x.2=i/\i<=b.length/\x.1=(ll b a).take i) (λx=>b.length-x.2.toNat) ?_ n _ ⟨0,rfl,O,bl⟩ Z;rintro r ⟨x,k⟩ ⟨i,w,L,s⟩ y;dsimp only at w s⊢;subst w;have z:(ll b a).length=b.length:=by unfold ll;rw[Eo];omega
 refine aV (λe=>?_) λA=>?_
 ·have e:i<b.length:=O
  have B:=bD e;have C:=bD (O:i<a.length);have dm:=m _ (fV e);have cM:=l _ (fV (O:i<a.length));unfold c3 at dm cM;refine ag (bq B) (ag (bq C) (ag (dM (by rw[s,c8];simp;omega)) ?_));rw[bf (n:=b[i]-a[i]) O,bf O];refine y _ ⟨i+1,Z,O,?_⟩ Z;dsimp only;rw[eN,<-s];congr 1;unfold ll
  grind
 have:i=b.length:=O
 grind
theorem YT(e:a.length=b.length)(h:b.length<=1100000)(i:1100000<n)(c: ∀x∈a,c3 9999 x)(d: ∀x∈b,c3 9999 x):AM n b a=aa (ll b a):=by unfold AM;exact ad.eq (Ol e h i c d (ad.some rfl))
theorem acz(E:22000000<=n){l:List (List Int)}(I:l.length<=15000)(K: ∀x∈l,x.length<=1100000)(L:d.length<=1100000):B9 n l d=aa (ik l d):=by
 unfold B9;refine ad.eq (ad.loop (λx:List (List Int)×Bool×Int=> ∃i:Nat,x.2.2=i/\i<=l.length/\d∉l.take i/\(x.2.1=ab->x.1.length<=i+1/\iI l d=x.1++l.drop i)/\(x.2.1=al->x.1.length<=i/\iI l d=x.1++iI (l.drop i) d)) (λx=>l.length-x.2.2.toNat) ?_ n _ ⟨0,rfl,O,bl,(λh=>by cases h),λ_=>⟨bl,bl⟩⟩ Z);rintro y ⟨M,c,k⟩ ⟨i,G,N,m,H,A⟩ Q;dsimp only at G H A⊢;subst G;refine aV (λb=>?_) λR=>?_
 ·have b:i<l.length:=O
  have W:=bD b;have B:l[i].length<=1100000:=K _ (fV b);refine ag (bq W) (ag (LR O O) (aV (λX=>ad.some ?_) λf=>?_))
  ·unfold ik
   grind
  have a:=km b;have o:d∉l.take (i+1):=by
   grind
  refine ad.aQ (λz:List (List Int)×Bool=>(z.2=ab->z.1.length<=i+1/\iI l d=z.1++l.drop i)/\(z.2=al->z.1.length<=i/\iI l d=z.1++l[i]::iI (l.drop (i+1)) d)) (λj e=>?_) λz p=>?_
  ·refine ad.aQ (λz:Bool=>z=(!c&&iH d l[i])) (λP q=>ad.cond (λh=>?_) λh=>q _ ?_) λz p=>?_
   ·have h:c=al:=by simpa using h
    exact ag (N' O L B) (q _ (by rw[h];rfl))
   ·have h:c=ab:=by simpa using h
    grind
   subst p;cases r:c with
   |true=>exact b1 (e _ ⟨λ_=>H r,λh=>by cases h⟩)
   |false=>
    obtain⟨g,C⟩:=A r;rw[a] at C;rw[N5];by_cases w:cmpL d l[i]<0
    ·rw[bS w];refine bW (ag (dM cd) (e _ ⟨λ_=>⟨cd,?_⟩,λh=>by cases h⟩));rw[C,a];unfold iI;rw[bg w];simp
    rw[bR w];refine b1 (e _ ⟨(λh=>by cases h),λ_=>⟨g,?_⟩⟩);rw[C]
    conv=>lhs;rw[iI]
    rw[be w]
  obtain⟨t,u⟩:=z;obtain⟨D,F⟩:=p;dsimp only at D F⊢;have v:t.length<=i+1:=by
   cases u with
   |true=>exact(D rfl).1
   |false=>have:=(F rfl).1;omega
  refine ag (dM cd) ?_;rw[bf O];refine Q _ ⟨i+1,Z,O,o,λh=>?_,λh=>?_⟩ Z
  ·obtain⟨aP,a2⟩:=D h
   grind
  obtain⟨aP,a2⟩:=F h
  grind
 have:i=l.length:=O
 subst this;rw[eb] at m;have s:ik l d=iI l d:=by unfold ik;rw[be m]
 rw[s];refine ad.aQ (λz=>z=iI l d) (λj e=>ad.cond (λh=>?_) λh=>e _ ?_) λz p=>ad.some p
 ·have h:c=al:=by simpa using h
  obtain⟨aP,a2⟩:=A h;refine ag (dM cd) (e _ ?_);rw[a2,qe];rfl
 have h:c=ab:=by simpa using h
 grind
theorem N7(d:List Int): ∀l:List (List Int),(iI l d).length=l.length+1
 | []=>rfl
 |x::a=>by
  unfold iI;split
  ·rfl
  rw[List.length_cons,N7 d a];rfl
theorem Ov(l:List (List Int))(d:List Int):(ik l d).length<=l.length+1:=by
 unfold ik;split
 ·omega
 rw[N7];omega
def kG(I:List cO)(c:Int)(d:fW):Option (List Int):=match I[d.eQ.toNat]?,I[d.eR.toNat]? with
 |some a,aa b=>if a.part=c/\b.part=c then aa (ll b.da a.da) else none
 |_,_=>none
def ns(p:Prog)(a:Int):List (List Int):=(gv p (bL p.parts) (bL p.parts).length).filterMap (kG (bL p.parts) a)
theorem rh(h:b9 p=ab){x:cO}(l:gG p x): ∃P,p.parts[x.part.toNat]? =aa P/\0<=x.part/\x.da.length=P.nest.length/\x.da.length<=4/\ ∀y∈x.da,c3 9999 y:=by obtain⟨C,D,F,b,m⟩:=ep h;obtain⟨i,k,P,s,n,G,d,o,e⟩:=l;obtain⟨q,H,K,r⟩:=gr (b P (bX d));obtain⟨L,w,c,z,A⟩:=sL q;have hs:=bX o;have a:=(r s hs _ e).2;unfold kh at a;simp only[cB,decide_eq_true_eq,List.all_eq_true] at a;exact⟨P,by rw[n,dh];exact d,O,(c _ e).1,a.1,λy B=>a.2 y B⟩
theorem ad7{I:List cO}(h: ∀x∈I,x.da.length<=4){d:fW}{v:List Int}(e:kG I c d=aa v):v.length<=4:=by
 unfold kG at e;split at e
 ·rename_i a b i k;split at e
  ·cases e;unfold ll
   grind
  cases e
 cases e
theorem K1{k:Type}{f:k->Option R}{l:List k}{x:k}(h:l[i]? =aa x):(l.take (i+1)).filterMap f=(l.take i).filterMap f++(f x).toList:=by
 rw[eN,h,List.filterMap_append]
 grind
theorem L8(u:22000000<=n)(hp:jw p)(q:b9 p=ab)(a:Int):zf n p a=aa ((ns p a).foldl ik []):=by
 have F:=(ep q).2.2.2.2;unfold zf;refine ad.eq (ag (vS O q) (ag (Gx O q) ?_));have e: ∀x∈bL p.parts,gG p x:=λx r=>iT r;have akM:=GW (p:=p) F;have bw:=Qc (p:=p) (l:=bL p.parts);unfold ns;generalize gv p (bL p.parts) (bL p.parts).length=D at*;generalize bL p.parts=I at*;have v: ∀x∈I,x.da.length<=4:=λx r=>(rh q (e x r)).choose_spec.2.2.2.1;refine ad.loop (λx:List (List Int)×Int=> ∃i:Nat,x.2=i/\i<=D.length/\x.1=((D.take i).filterMap (kG I a)).foldl ik []/\x.1.length<=i/\ ∀y∈x.1,y.length<=4) (λx=>D.length-x.2.toNat) ?_ n _ ⟨0,rfl,O,bl,bl,bl⟩ Z;rintro G ⟨E,k⟩ ⟨i,g,aL,r,s,b⟩ M;dsimp only at g r s b⊢;subst g;refine aV (λm=>?_) λN=>ad.some ?_
 ·have m:i<D.length:=O
  have t:=bD m;obtain⟨P,d2,d3⟩:=bw _ (fV m);have S:=yk (l:=I) (c:=D[i].eQ) P O;have T:=yk (l:=I) (c:=D[i].eR) O O;have U:=fV (O:D[i].eQ.toNat<I.length);have H:=fV (O:D[i].eR.toNat<I.length);have K:I[D[i].eQ.toNat]? =aa I[D[i].eQ.toNat]:=bD _;have L:I[D[i].eR.toNat]? =aa I[D[i].eR.toNat]:=bD _;obtain⟨V,w,Y,ajd,aje,Q⟩:=rh q (e _ U);obtain⟨Fq,o,ajf,ajg,ajh,R⟩:=rh q (e _ H);refine ad.aQ (λz=>z.2.2.2.2.2.2=((D.take (i+1)).filterMap (kG I a)).foldl ik []/\z.2.2.2.2.2.2.length<=i+1/\ ∀y∈z.2.2.2.2.2.2,y.length<=4) (λj W=>ag (bq t) (ag S (ag T ?_))) λz X=>?_
  ·rw[K1 t,List.foldl_append,<-r] at W;refine ad.aQ (λz:Bool=>z=aj (I[D[i].eQ.toNat].part=a/\I[D[i].eR.toNat].part=a)) (λnJ A=>aV (λh=>A _ ?_) λh=>A _ ?_) λz X=>?_
   ·exact decide_eq_decide.2 ⟨λB=>⟨h,B⟩,λB=>B.2⟩
   ·exact(bR λB=>h B.1).symm
   subst X;have d:kG I a D[i]=if I[D[i].eQ.toNat].part=a/\I[D[i].eR.toNat].part=a then aa (ll I[D[i].eR.toNat].da I[D[i].eQ.toNat].da) else none:=by
    unfold kG;rw[K,L]
   refine aV (λh=>?_) λh=>W _ ?_
   ·have f:V=Fq:=by
     rw[h.1] at w;rw[h.2] at o;rw[w] at o;cases o;rfl
    subst f;refine ag (YT O O O Q R) (ag (acz u O (λy C=>by have:=b y C;omega) (by unfold ll;rw[Eo];omega)) (W _ ?_));rw[d,bg h];dsimp only[Option.toList,List.foldl];refine⟨rfl,?_,λy C=>?_⟩
    ·have:=Ov E (ll I[D[i].eR.toNat].da I[D[i].eQ.toNat].da);omega
    rcases Ou.1 C with rfl|C
    ·unfold ll;rw[Eo];omega
    exact b y C
   rw[d,be h]
   grind
  obtain⟨TI,z2,z3⟩:=X;rw[bf O];exact M _ ⟨i+1,Z,O,TI,z2,z3⟩ Z
 have:i=D.length:=O
 grind
theorem LI(x:List Int): ∀(y:List Int) (a:List (List Int)),gB ((y::a)++[x])=if(y::a).getLast bl=x then gB (y::a) else gB (y::a)++[x]
 |y,[]=>by
  by_cases h:y=x
  ·subst h;simp[gB]
  simp[gB,h]
 |y,z::a=>by
  have c:=LI x z a;rw[List.getLast_cons bl];show gB (y::z::(a++[x]))=_;unfold gB;by_cases h:y=z
  ·rw[bg h,bg h];exact c
  rw[be h,be h];have b:gB (z::(a++[x]))=_:=c;rw[b];split<;>simp
theorem Xt{s:List (List Int)}{m:Nat}(l:1<=m)(k:m<s.length):gB (s.take (m+1))=if s[m-1]=s[m] then gB (s.take m) else gB (s.take m)++[s[m]]:=by
 have e:s.take (m+1)=s.take m++[s[m]]:=by rw[eN,bD k];rfl
 have c:s.take m≠[]:=by
  intro h
  have:=congrArg List.length h
  grind
 have b: ∀h,(s.take m).getLast h=s[m-1]:=λh=>by
  grind
 rw[e];obtain⟨y,a,i⟩: ∃y a,s.take m=y::a:=by
  cases h:s.take m with
  |nil=>exact br h c
  |cons y a=>exact⟨y,a,rfl⟩
 have d:=b c;simp only[i] at d⊢;rw[LI,d]
def lf(d:List Int):Option Nat:=d.findIdx? λx=> !decide (x=0)
def pq(d:List Int):Int:=match lf d with
 |some i=>(i:Int)
 |none=> -1
theorem YR(r:d.length<=1100000)(s:1100000<n):Ee n d=aa (pq d):=by
 unfold Ee;refine ad.eq (ag (x:=pq d) ?_ (ad.some rfl));unfold y6;refine ad.eq (ad.loop (λx:Int=> ∃i:Nat,x=i/\i<=d.length/\ ∀j,j<i->d.getD j 0=0) (λx=>d.length-x.toNat) ?_ n _ ⟨0,rfl,O,λj a=>br a (o6 _)⟩ O);rintro c z ⟨i,rfl,w,y⟩ l;have k: ∀j (a:j<d.length),j<i->d[j]=0:=λj a m=>by
  grind
 refine aV (λb=>?_) λo=>ad.some ?_
 ·have b:i<d.length:=O
  have p:=bD b;refine ag (bq p) (ag (x:= !decide (d[i]=0)) rfl (dV (λe=>ad.some ?_) λA=>?_))
  ·have:lf d=aa i:=by
    unfold lf;rw[Kr];exact⟨b,by simp[e],λj a=>by simp[k j O a]⟩
   unfold pq;rw[this]
  rw[bf O];refine l _ ⟨i+1,O,O,λj a=>?_⟩ O
  grind
 have:lf d=none:=by
  unfold lf;rw[List.findIdx?_eq_none_iff];intro x q;obtain⟨j,a⟩:=jq.1 q;obtain⟨h,rfl⟩:=d6.1 a;simp[k j h O]
 unfold pq;rw[this]
theorem acn(a:jw p)(b:p.parts[i]? =aa P):k3 n p (i:Int)=aa ab:=by have aL:=(d6.1 b).1;rw[oT n a.2.1,bS O]
theorem YM(a:Nat->Bool)(m:Nat):ej a (m+1)=ej a m++(if a m then [m] else []):=by
 unfold ej;rw[qf,xa]
 grind
theorem Pb(l:List (List Int)): ∀m,m<=l.length->(ej (k5 l) m).map (λj=>l.getD j [])=gB (l.take m)
 |0,_=>rfl
 |m+1,h=>by
  have n:=Pb l m O;have b:m<l.length:=O
  have c:l.getD m []=l[m]:=by rw[fa,bD b];rfl
  rw[YM,ib,n];by_cases d:m=0
  ·subst d;have i:k5 l 0=ab:=by simp[k5]
   rw[i,bg rfl,List.take_zero];show gB []++[l.getD 0 []]=_;rw[c,eN,bD b];rfl
  rw[Xt O b];have i:l.getD (m-1) []=l[m-1]:=by rw[fa,bD O];rfl
  have o:k5 l m= !decide (l[m-1]=l[m]):=by
   unfold k5;rw[c,i];by_cases a:l[m-1]=l[m]
   ·simp[d,a]
   have k:l[m]≠l[m-1]:=λe=>a e.symm;simp[d,a,k]
  rw[o];by_cases a:l[m-1]=l[m]
  ·rw[bg a,bS a];simp
  rw[be a,bR a];show _++[l.getD m []]=_;rw[c]
theorem ZD(l:List (List Int)):gC l=gB l:=by have:=Pb l l.length (df _);rw[eb] at this;exact this
theorem X2(ca:22000000<=n)(q:b9 p=ab)(a:Int):Ds n (gw p) a=aa ((ns p a).foldl ik []):=by
 have B:=(ep q).2.2.2.2;unfold Ds;refine ad.eq (ag (Gg O q) ?_);rw[show(gw p).list=bL p.parts from rfl];have e: ∀x∈bL p.parts,gG p x:=λx b=>iT b;have akM:=GW (p:=p) B;have bw:=Qc (p:=p) (l:=bL p.parts);unfold ns;generalize gv p (bL p.parts) (bL p.parts).length=D at*;generalize bL p.parts=I at*;have C: ∀x∈I,x.da.length<=4:=λx b=>(rh q (e x b)).choose_spec.2.2.2.1;refine ad.loop (λx:List (List Int)×Int=> ∃i:Nat,x.2=i/\i<=D.length/\x.1=(D.take i).filterMap (kG I a)) (λx=>D.length-x.2.toNat) ?_ n _ ⟨0,rfl,O,bl⟩ Z;rintro F ⟨v,k⟩ ⟨i,E,aL,b⟩ P;dsimp only at E b⊢;subst E;have M:v.length<=i:=by
  grind
 refine aV (λm=>?_) λS=>?_
 ·have m:i<D.length:=O
  have N:=bD m;obtain⟨T,d2,d3⟩:=bw _ (fV m);have U:=yk (l:=I) (c:=D[i].eQ) T O;have V:=yk (l:=I) (c:=D[i].eR) O O;have Y:=fV (O:D[i].eQ.toNat<I.length);have G:=fV (O:D[i].eR.toNat<I.length);have H:I[D[i].eQ.toNat]? =aa I[D[i].eQ.toNat]:=bD _;have L:I[D[i].eR.toNat]? =aa I[D[i].eR.toNat]:=bD _;obtain⟨TZ,r,akn,ajd,aje,Q⟩:=rh q (e _ Y);obtain⟨Fq,o,ajf,ajg,ajh,R⟩:=rh q (e _ G);have s:kG I a D[i]=if I[D[i].eQ.toNat].part=a/\I[D[i].eR.toNat].part=a then aa (ll I[D[i].eR.toNat].da I[D[i].eQ.toNat].da) else none:=by
   unfold kG;rw[H,L]
  refine ad.aQ (λz=>z.1=(D.take (i+1)).filterMap (kG I a)) (λj W=>ag (bq N) (ag U (ag V ?_))) λz X=>?_
  ·rw[K1 N,<-b] at W;refine ad.aQ (λz:Bool=>z= !decide (I[D[i].eQ.toNat].part=a/\I[D[i].eR.toNat].part=a)) (λnJ w=>dV (λh=>w _ ?_) λh=>w _ ?_) λz X=>?_
   ·rw[bR λh2=>h h2.1];rfl
   ·congr 1
    grind
   subst X;refine dV (λh=>W _ ?_) λh=>?_
   ·rw[s,be h];simp
   have f:TZ=Fq:=by
    rw[h.1] at r;rw[h.2] at o;rw[r] at o;cases o;rfl
   subst f;refine Ol (K:=λg=>bI (app v [g]) λt=>j (t,D[i].eQ,D[i].eR,D[i].kinds,I[D[i].eQ.toNat].part,I[D[i].eQ.toNat].stmt,I[D[i].eQ.toNat].da,I[D[i].eR.toNat].part,I[D[i].eR.toNat].stmt,I[D[i].eR.toNat].da)) O O O Q R ?_;refine ag (dM cd) (W _ ?_)
   grind
  rw[bf O];exact P _ ⟨i+1,Z,O,X⟩ Z
 have:i=D.length:=O
 subst this;rw[eb] at b;subst b;have A: ∀y∈D.filterMap (kG I a),y.length<=4:=λy u=>by
  obtain⟨d,_,cJ⟩:=List.mem_filterMap.1 u;exact ad7 C cJ
 have ahX:(fD (D.filterMap (kG I a))).length<=15000:=by unfold fD;rw[List.length_mergeSort];omega
 refine ag (x:=fD (D.filterMap (kG I a))) (by unfold mN;rw[bg ⟨O,λy u=>by have:=A y u;omega⟩]) (ad.some ?_);rw[ZD];exact ad6 _
def jy(p:Prog)(i:Nat):List (List Int):=(ns p i).foldl ik []
theorem Z0(c:22000000<=n)(a:jw p)(b:b9 p=ab)(d:p.parts[i]? =aa P):DX n p (i:Int)=aa (jy p i):=by unfold DX;refine ad.eq (ag (tz O a) ?_);rw[bg b];refine bW (ad.aQ (λz=>z=al) (λj e=>b1 (ag (acn a d) (e _ rfl))) λz h=>?_);rw[h];exact b1 (ag (X2 c b _) (ad.some rfl))
theorem ae':d∈jy p i↔d∈ns p i:=by
 unfold jy
 have:=(Ho (ns p i) [] .nil).2 d
 grind
theorem Nq: ∀(a l:List (List Int)),(a.foldl ik l).length<=l.length+a.length
 | [],l=>bl
 |d::a,l=>by
  rw[List.foldl_cons]
  have:=Nq a (ik l d)
  have:=Ov l d;rw[List.length_cons];omega
theorem H7(b:b9 p=ab):(jy p i).length<=15000:=by
 have a:=(ep b).2.2.2.2;have c:=GW (p:=p) a
 have:=Nq (ns p i) [];have d:(ns p i).length<=(gv p (bL p.parts) (bL p.parts).length).length:=by unfold ns;exact List.length_filterMap_le _ _
 unfold jy
 grind
theorem uf(r:b9 p=ab)(s:p.parts[i]? =aa P)(cJ:d∈jy p i):d.length=P.nest.length/\ ∀x∈d,c3 99999 x:=by
 have cJ:=ae'.1 cJ;unfold ns at cJ;obtain⟨e,_,h⟩:=List.mem_filterMap.1 cJ;unfold kG at h;split at h
 ·rename_i a b A B;split at h
  ·rename_i w;cases h;have m:gG p a:=iT (bX A);have n:gG p b:=iT (bX B);obtain⟨F,aP,a2,a3,a4,a5⟩:=rh r m;obtain⟨G,y,H,K,L,C⟩:=rh r n;rw[w.1,dh,s] at aP;rw[w.2,dh,s] at y;cases aP;cases y;unfold ll;refine⟨by rw[Eo];omega,λx z=>?_⟩;obtain⟨u,v,D,o,rfl⟩: ∃u v,u∈b.da/\v∈a.da/\x=u-v:=by
    rw[jq] at z;obtain⟨k,c⟩:=z;rw[List.getElem?_zipWith] at c;cases l:b.da[k]? with
    |none=>rw[l] at c;cases c
    |some u=>
     cases q:a.da[k]? with
     |none=>rw[l,q] at c;cases c
     |some v=>
      rw[l,q] at c;cases c;exact⟨u,v,bX l,bX q,rfl⟩
   have Q:=C u D;have R:=a5 v o;unfold c3 at*;omega
  cases h
 cases h
def hS(d:List Int):Bool:=match lf d with
 |some k=>decide (0<=d.getD k 0)
 |none=>ab
theorem PW(h:lf d=aa k):k<d.length/\d.getD k 0≠0:=by
 unfold lf at h;rw[Kr] at h
 grind
theorem Mr(L:22000000<=n)(Q:jw p)(y:b9 p=ab)(z:p.parts[i]? =aa P){F:List Int->Option (List Int)}{f:List Int->List Int}(B: ∀d∈jy p i,F d=aa (f d))(C: ∀d,(f d).length=d.length):
  x5 n p (i:Int) F=aa ((jy p i).all λd=>hS (f d)):=by
 unfold x5;refine ad.eq (ag (Z0 L Q y z) ?_);have o:=H7 y (i:=i);have q:=λd s=>(uf y z (d:=d) s).1;have R:=(h8 ((ep y).2.2.2.1 P (bX z))).1;generalize jy p i=D at B o q;refine ad.loop (λx:List (List Int)×Int=> ∃k:Nat,x.2=k/\k<=D.length/\x.1.length=D.length/\(∀t,k<=t->x.1[t]? =D[t]?)/\ ∀d∈D.take k,hS (f d)=ab) (λx=>D.length-x.2.toNat) ?_ n _ ⟨0,rfl,O,rfl,λ_ _=>rfl,λd s=>by simp at s⟩ Z;rintro l ⟨e,E⟩ ⟨k,G,W,w,a,H⟩ X;dsimp only at G w a⊢;subst G;refine aV (λc=>?_) λg=>ad.some ?_
 ·have c:k<D.length:=O
  have j:e[k]? =aa D[k]:=by rw[a k (df _),bD c]
  have hm:=fV c;have u:(f D[k]).length<=4:=by rw[C,q _ hm];exact R
  refine ag (bq j) (ag (B _ hm) (ag (gA (C _)) (ag (YR O O) (ag (dU O _) ?_))));have b: ∀(A:hS (f D[k])=al),D.all (λd=>hS (f d))=al:=λA=>l4.2 ⟨_,hm,by simp[A]⟩;have go:hS (f D[k])=ab->ad (l (e.set (k:Int).toNat (f D[k]),wr ((k:Int)+1))) (λr=>r=D.all λd=>hS (f d)):=λA=>by
   rw[bf O,dh];refine X _ ⟨k+1,Z,O,by dsimp only;rw[gf];exact w,λt I=>?_,λd s=>?_⟩ Z
   ·dsimp only
    grind
   rw[eN,bD c] at s
   grind
  unfold pq hS at*;cases m:lf (f D[k]) with
  |none=>
   rw[m] at go b;exact aV (λh=>br h (by show¬(0:Int)<= -1;omega)) (λ_=>go rfl)
  |some t=>
   rw[m] at go b;obtain⟨v,M⟩:=PW m;refine aV (λ_=>?_) λh=>br (show(0:Int)<=(t:Int) by omega) h;have K:=bD v;have N:(f D[k]).getD t 0=(f D[k])[t]:=by rw[fa,K];rfl
   refine ag (bq K) (aV (λh=>ad.some ?_) λh=>go ?_)
   ·exact(b (bR O)).symm
   exact bS O
 have:k=D.length:=O
 grind
theorem X6(r:d.length<=1100000)(s:1100000<n):Eb n d=aa (pq d):=by
 unfold Eb;refine ad.eq (ad.loop (λx:Int=> ∃i:Nat,x=i/\i<=d.length/\ ∀j,j<i->d.getD j 0=0) (λx=>d.length-x.toNat) ?_ n _ ⟨0,rfl,O,λj a=>br a (o6 _)⟩ O);rintro c z ⟨i,rfl,w,y⟩ l;have k: ∀j (a:j<d.length),j<i->d[j]=0:=λj a m=>by
  grind
 refine aV (λb=>?_) λo=>ad.some ?_
 ·have b:i<d.length:=O
  have p:=bD b;refine ag (bq p) (dV (λe=>ad.some ?_) λA=>?_)
  ·have:lf d=aa i:=by
    unfold lf;rw[Kr];exact⟨b,by simp[e],λj a=>by simp[k j O a]⟩
   unfold pq;rw[this]
  rw[bf O];refine l _ ⟨i+1,O,O,λj a=>?_⟩ O
  grind
 have:lf d=none:=by
  unfold lf;rw[List.findIdx?_eq_none_iff];intro x q;obtain⟨j,a⟩:=jq.1 q;obtain⟨h,rfl⟩:=d6.1 a;simp[k j h O]
 unfold pq;rw[this]
theorem NA(e:d.length<=1100000)(i:1100000<n):xF n d=aa (hS d):=by
 unfold xF;refine ad.eq (ag (X6 e i) (ad.aQ (λz:Bool=>z=hS d) (λj b=>?_) λz k=>ad.some k));unfold pq hS at*;cases a:lf d with
 |none=>
  rw[a] at b;exact aV (λ_=>b _ rfl) (λh=>br (show(-1:Int)<0 by omega) h)
 |some t=>
  rw[a] at b;obtain⟨l,m⟩:=PW a;have c:=bD l;have o:d.getD t 0=d[t]:=by rw[fa,c];rfl
  refine aV (λh=>br h (show¬(t:Int)<0 by omega)) λ_=>ag (bq c) (b _ ?_);exact decide_eq_decide.2 ⟨λh=>O,λh=>O⟩
def m'(k:Nat)(a:aE):aE:=⟨(a.aK.set k (a.aK.getD (k+1) 0)).set (k+1) (a.aK.getD k 0),a.const⟩
def p5(k:Nat)(d:List Int):List Int:=(d.set k (d.getD (k+1) 0)).set (k+1) (d.getD k 0)
theorem O1(k:Nat)(d:List Int):(p5 k d).length=d.length:=by simp[p5]
theorem PJ: ∀x,de x=ab->fr 4 (m' k x):=λx a=>by have:=(fS a).1;unfold fr m';simp;omega
theorem hJ{l:List R}(h:k<l.length)(z:R):l[k]? =aa (l.getD k z):=by grind
theorem OZ{h:Type}{l:List h}(a:k+1<l.length)(e:l.length<=500000000)(z:h){K:List h->Option R}(i:ad (K ((l.set k (l.getD (k+1) z)).set (k+1) (l.getD k z))) Q):
  ad (bI (aB l (wr ((k:Int)+1))) λc=>bI (aB l (k:Int)) λd=>bI (ch l (k:Int) c) λb=>bI (aB b (wr ((k:Int)+1))) λm=>bI (ch b (wr ((k:Int)+1)) d) K) Q:=by
 rw[bf (n:=(k:Int)+1) O,show(k:Int)+1=((k+1:Nat):Int) by omega];refine ag (bq (hJ a z)) (ag (bq (hJ O z)) (ag (dU O _) ?_));rw[dh];refine ag (bq (hJ (l:=l.set k (l.getD (k+1) z)) (k:=k+1) (by simpa using a) z)) (ag (dU (by rw[gf];omega) _) ?_)
 grind
theorem ab7(a:k+1<d.length)(b:d.length<=1100000):vL n d (k:Int)=aa (p5 k d):=by unfold vL;exact ad.eq (OZ a O 0 (ad.some rfl))
theorem acp(n:Nat)(b:k+1<4): ∀x,de x=ab->vK n x (k:Int)=aa (m' k x):=λx a=>by have c:=(fS a).1;unfold vK;refine ad.eq (ag (AW n x a) (OZ O O 0 (ad.some rfl)))
theorem adj(n:Nat)(c:k+1<4): ∀x,de x=ab->jB n x 0 (k:Int) ⟨[],0⟩=aa (m' k x):=λx a=>by have d:=(fS a).1;unfold jB;refine ad.eq (aV (λ_=>ag (x:=m' k x) ?_ (ad.some rfl)) λh=>br rfl h);unfold GM;have b:qW n x=aa x:=AB n O;rw[bf (n:=(k:Int)+1) O,show(k:Int)+1=((k+1:Nat):Int) by omega];refine ad.eq (ag b (ag (bq (hJ O 0)) (ag (bq (hJ O 0)) (ag (dU O _) (ag (bq (hJ O 0)) ?_)))));rw[dh];refine ag (bq (hJ (l:=x.aK.set k (x.aK.getD (k+1) 0)) (k:=k+1) cd 0)) (ag (dU (by rw[gf];omega) _) ?_);rw[dh];exact ad.some rfl
def nn(k:Nat)(a:aE):Bool:= !decide (a.aK.getD k 0=0)
def uT(l:Loop)(k:Nat):Bool:=l.bo.any (nn k)||l.aL.any (nn k)
theorem XU(o:5500000<=n)(d:kB l)(p:k<4):Et n l (k:Int)=aa (uT l k):=by
 obtain⟨⟨q,e⟩,r,i⟩:=d;have b: ∀x,de x=ab->q0 n x (k:Int)=aa (nn k x):=λx a=>by
  have:=(fS a).1;unfold q0;exact ad.eq (ag (bq (hJ O 0)) (ad.some rfl))
 unfold Et uT;refine ad.eq (ad.aQ (λz=>z=(l.bo.any (nn k)||l.aL.any (nn k))) (λj c=>?_) λz m=>ad.some m);refine ag (y8 (λx a=>b x (e x a)) O O) (ad.cond (λh=>c _ (by rw[h];rfl)) λh=>ag (y8 (λx a=>b x (i x a)) O O) (c _ (by rw[h];rfl)))
theorem Oq{k:Type}{f:k->Bool}{l:List k}{x:k}(h:l[i]? =aa x):(l.take (i+1)).any f=((l.take i).any f||f x):=by rw[eN,h,tY];simp
theorem Xf(w:5500000<=n)(p:kB l)(y:k<4):Bv n l (k:Int)=aa (uT l k):=by
 obtain⟨⟨A,q⟩,B,r⟩:=p;unfold Bv uT;refine ad.eq (ad.loop (λx:Int=> ∃i:Nat,x=i/\i<=l.bo.length/\(l.bo.take i).any (nn k)=al) (λx=>l.bo.length-x.toNat) ?_ n _ ⟨0,rfl,O,rfl⟩ O);rintro b z ⟨i,rfl,s,d⟩ h;refine aV (λa=>?_) λm=>?_
 ·have a:i<l.bo.length:=O
  have e:=bD a
  have:=(fS (q _ (fV a))).1;refine ag (bq e) (ag (bq (hJ O 0)) (dV (λc=>ad.some ?_) λo=>?_))
  ·rw[iZ.2 ⟨_,fV a,by unfold nn;simpa using c⟩];rfl
  rw[bf O];exact h _ ⟨i+1,O,O,by rw[Oq e,d];unfold nn;simpa using o⟩ O
 have:i=l.bo.length:=O
 subst this;rw[eb] at d;rw[d,Bool.false_or];clear h;refine ad.loop (λx:Int=> ∃i:Nat,x=i/\i<=l.aL.length/\(l.aL.take i).any (nn k)=al) (λx=>l.aL.length-x.toNat) ?_ n _ ⟨0,rfl,O,rfl⟩ O;rintro b z ⟨i,rfl,s,d⟩ h;refine aV (λa=>?_) λm=>ad.some ?_
 ·have a:i<l.aL.length:=O
  have e:=bD a
  have:=(fS (r _ (fV a))).1;refine ag (bq e) (ag (bq (hJ O 0)) (dV (λc=>ad.some ?_) λo=>?_))
  ·rw[iZ.2 ⟨_,fV a,by unfold nn;simpa using c⟩]
  rw[bf O];exact h _ ⟨i+1,O,O,by rw[Oq e,d];unfold nn;simpa using o⟩ O
 have:i=l.aL.length:=O
 grind
def jL(k:Nat)(l:List Loop):List Loop:=(l.set k (l.getD (k+1) ⟨[],[]⟩)).set (k+1) (l.getD k ⟨[],[]⟩)
theorem xY(k:Nat)(l:List Loop):(jL k l).length=l.length:=by simp[jL]
def wV(k:Nat)(P:Part):Part:=⟨(jL k P.nest).take (k+2)++((jL k P.nest).drop (k+2)).map (d8 (m' k)),P.body.map (iG (m' k))⟩
def qJ(p:Prog)(i k:Nat)(P:Part):Bool:= !uT (P.nest.getD (k+1) ⟨[],[]⟩) k&&(jy p i).all λd=>hS (p5 k d)
def nr(p:Prog)(a b:Int):Prog×Bool:=
 if dj p a b=ab/\dj p a (b+1)=ab then
  match aB p.parts a with
  |some P=>if qJ p a.toNat b.toNat P=ab then hc ⟨p.bb,p.parts.set a.toNat (wV b.toNat P)⟩ else dq
  |none=>dq
 else dq
theorem Hw{l:List Loop}(b:k+1<l.length){y:Loop}(a:y∈jL k l):y∈l:=by
 unfold jL at a
 grind
theorem Qn(b:eL r P=ab)(d:k+1<P.nest.length):im 4 (wV k P):=by
 obtain⟨m,e⟩:=h8 b;obtain⟨_,h,i,_⟩:=gr b;refine⟨⟨by simp only[wV,List.length_append,List.length_map,List.length_take,List.length_drop,xY];omega,λy a=>?_⟩,by simp only[wV,List.length_map];exact h.2,λs l=>?_⟩
 ·rcases eX.1 a with a|a
  ·exact(uE b).1.2 y (Hw d (gm a))
  obtain⟨z,c,rfl⟩:=eH.1 a;exact x2 PJ (e z (Hw d (ft c)))
 obtain⟨z,c,rfl⟩:=eH.1 l;exact CG PJ (i z c)
theorem PA(a:p.parts[i]? =aa P)(h:dj p (i:Int) ((k:Int)+1)=ab):k+1<P.nest.length:=by
 obtain⟨_,b,c,d,e,l,m,n,_,_,o,_⟩:=kf h
 grind
theorem OQ(a:dj p (i:Int) (k:Int)=ab)(b:dj p (i:Int) ((k:Int)+1)=ab)(c:p.parts[i]? =aa P):nr p i k=if qJ p i k P=ab then hc ⟨p.bb,p.parts.set i (wV k P)⟩ else dq:=by
 unfold nr;rw[bg ⟨a,b⟩,bq c]
 grind
theorem ab9(H:22000000<=n)(w:er 1100000 p)(a b:Int):wc n p a b=aa (nr p a b):=by
 unfold wc;by_cases c:b= -1
 ·subst c;unfold nr;rw[be λh=>by rw[rE O] at h;cases h.1];exact ad.eq (hE (Be O w a) λj K=>ad.cond (λ_=>aV (λ_=>ad.some rfl) λh=>br (show(-1:Int)<0 by omega) h) λ_=>ad.some rfl)
 refine ad.eq (ag (xT O w a b c) ?_);by_cases e:dj p a b=ab
 ·rw[bg e];refine bW (aV (λh=>by rw[rE h] at e;cases e) λt=>?_);obtain⟨x,i,k,P,l,rfl,rfl,m,u,v,L,o,E⟩:=kf e;obtain⟨K,D⟩:=h8 o;obtain⟨_,Q,R,_⟩:=gr o;refine ag (bq m) ?_;rw[bf (n:=(k:Int)+1) O,bf (n:=(k:Int)+2) O];refine aV (λW=>ad.some ?_) λX=>?_
  ·unfold nr;rw[be λh=>by have:=PA m h.2;omega];rfl
  have q:k+1<P.nest.length:=O
  have z:dj p (i:Int) ((k:Int)+1)=ab:=by
   unfold dj;rw[x,bq m]
   grind
  rw[OQ e z m];have G:=hJ q (⟨[],[]⟩:Loop);rw[show(k:Int)+1=((k+1:Nat):Int) by omega];refine ag (bq G) (ag (XU O (D _ (bX G)) O) (ad.cond (λA=>ad.some ?_) λA=>?_))
  ·rw[be (by unfold qJ;rw[A];simp)];rfl
  refine ag (Mr H w.sm x m (F:=λB=>vL n B (k:Int)) (f:=p5 k) (λd r=>ab7 (by have:=(uf x m r).1;omega) (by have:=(uf x m r).1;omega)) (O1 k)) (ad.cond (λr=>?_) λr=>ad.some ?_)
  ·rw[bg (by unfold qJ;rw[A,r];rfl)];refine ag (bq (hJ O (⟨[],[]⟩:Loop))) (ag (dU O _) (ag (dU (by rw[gf];omega) _) (ag (dU Z _) ?_)));rw[dh,dh,dh];have C:=zg (n:=n) O (nest:=jL k P.nest) (body:=P.body) (s:=k+2) (by rw[xY];omega) (by rw[xY];omega) (λy g=>D y (Hw q (ft g))) Q.2 R (F:=λB=>vK n B (k:Int)) (acp n O);rw[show(k:Int)+2=((k+2:Nat):Int) by omega];refine ag C (ag (dU cd _) ?_);rw[dh,nT];exact ag (rl O (yh w i (Qn o q))) (ad.some rfl)
  rw[be (by unfold qJ;rw[r];simp)];rfl
 unfold nr;rw[be e,be λh=>e h.1];exact b1 (ad.some rfl)
theorem O0{a b:List Loop}(c:k+1<a.length):jL k (a++b)=jL k a++b:=by
 have d:(a++b).getD (k+1) ⟨[],[]⟩=a.getD (k+1) ⟨[],[]⟩:=by rw[fa,fa,hz c]
 have e:(a++b).getD k ⟨[],[]⟩=a.getD k ⟨[],[]⟩:=by rw[fa,fa,hz O]
 unfold jL
 grind
theorem abq{l:List Loop}(c:k+1<l.length):jL k (l.take (k+2))=(jL k l).take (k+2):=by have h:=O0 (k:=k) (a:=l.take (k+2)) (b:=l.drop (k+2)) (by rw[c8];omega);rw[ua] at h;rw[h,tZ (by rw[xY,c8];omega)];exact(jM (by rw[xY,c8];omega)).symm
theorem abr{l:List Loop}:(jL k l).drop (k+2)=l.drop (k+2):=by unfold jL;rw[o5 O,o5 O]
theorem afk(a:k+1<P.nest.length)(r:List Loop):jL k (P.nest.take (k+2)++r)=(jL k P.nest).take (k+2)++r:=by rw[O0 (by rw[c8];omega),abq a]
theorem acx(T:22000000<=n)(q:er 1100000 p)(a c:Int):vX n p a c=aa (nr p a c):=by
 unfold vX;by_cases F:dj p a c=ab;rotate_left
 ·unfold nr;rw[be λh=>F h.1];refine ad.eq (ag (jh O q) (ad.aQ (λz=>z=ab) (λj H=>ag (mT O q a c) (ad.cond (λ_=>H _ rfl) λh=>br (by simpa using h) F)) λz K=>by rw[K];exact bW (ad.some rfl)))
 obtain⟨X,i,k,P,l,rfl,rfl,L,cS,U,V,y,hk⟩:=kf F;obtain⟨Y,M⟩:=h8 y;obtain⟨_,h4,h5,_⟩:=gr y;rw[bf (n:=(k:Int)+1) O];by_cases e:dj p (i:Int) ((k:Int)+1)=ab;rotate_left
 ·unfold nr;rw[be λh=>e h.2];refine ad.eq (ag (jh O q) (ad.aQ (λz=>z=ab) (λj H=>ag (mT O q _ _) (ad.cond (λh=>by rw[F] at h;cases h) λ_=>ag (mT O q _ _) (ad.cond (λ_=>H _ rfl) λh=>br (by simpa using h) e))) λz K=>by rw[K];exact bW (ad.some rfl)))
 rw[OQ F e L];have B:=PA L e;have N:=hJ B (⟨[],[]⟩:Loop);refine ad.eq (ag (jh O q) (ad.aQ (λz=>z=uT (P.nest.getD (k+1) ⟨[],[]⟩) k) (λj H=>?_) λz K=>?_))
 ·refine ag (mT O q _ _) (ad.cond (λh=>by rw[F] at h;cases h) λ_=>ag (mT O q _ _) (ad.cond (λh=>by rw[e] at h;cases h) λ_=>ag (bq L) ?_));rw[show(k:Int)+1=((k+1:Nat):Int) by omega];exact ag (bq N) (ag (Xf O (M _ (bX N)) O) (H _ rfl))
 subst K;refine ad.cond (λg=>ad.some ?_) λg=>?_
 ·rw[be (by unfold qJ;rw[g];simp)];rfl
 refine ag (x:=jy p i) (L8 T q.sm X _) ?_;have Q:=H7 X (i:=i);have R:=λd G=>(uf X L (d:=d) G).1;have t:qJ p i k P=(jy p i).all (λd=>hS (p5 k d)):=by unfold qJ;rw[g];rfl
 rw[t];generalize jy p i=D at Q R;refine ad.loop (λx:Int=> ∃m:Nat,x=m/\m<=D.length/\ ∀d∈D.take m,hS (p5 k d)=ab) (λx=>D.length-x.toNat) ?_ n _ ⟨0,rfl,O,λd G=>by simp at G⟩ O;rintro u z ⟨m,rfl,hm,o⟩ b6;refine aV (λC=>?_) λkJ=>?_
 ·have C:m<D.length:=O
  have S:=bD C;have r:=fV C;have nC:=R _ r;rw[show(k:Int)+1=((k+1:Nat):Int) by omega];refine ag (bq S) (ag (dM cd) (ag (bq (hJ O 0)) (ag (x:=D[m].getD k 0) (bq (hJ (l:=D[m]) O 0)) (ag (dU (by rw[tW];omega) _) (ag (bq (hJ O 0)) ?_)))));rw[tW,dh];refine ag (bq (hJ (l:=D[m].set k (D[m].getD (k+1) 0)) (k:=k+1) cd 0)) (ag (dU (by rw[gf];omega) _) ?_);rw[dh];refine ag (x:=hS (p5 k D[m])) (NA (d:=p5 k D[m]) (by rw[O1];omega) O) (ad.cond (λh=>ad.some ?_) λh=>?_)
  ·rw[be λW=>?_]
   ·rfl
   have:=gx.1 W _ r;rw[this] at h;cases h
  rw[bf O];refine b6 _ ⟨m+1,O,O,λd G=>?_⟩ O;rw[eN,S] at G;rcases eX.1 G with E|E
  ·exact o d E
  have:d=D[m]:=by simpa using E
  subst this;simpa using h
 have:m=D.length:=O
 subst this;rw[eb] at o;rw[bg (gx.2 o)];have I:=Av (n:=n) O (x:=P) (s:=k+1) O Y M h4.2 h5 (way:=0) (v:=(k:Int)) (b:=⟨[],0⟩) (f:=m' k) λn _ x hx=>adj n O x hx;rw[show(k:Int)+1=((k+1:Nat):Int) by omega];refine ag (bq L) (ag I ?_);have q5:(P.nest.take (k+2)++(P.nest.drop (k+2)).map (d8 (m' k))).length=P.nest.length:=by rw[dQ,dH,c8,fN];omega
 have w:=afk B ((P.nest.drop (k+2)).map (d8 (m' k)));rw[show k+1+1=k+2 by omega];dsimp only;generalize P.nest.take (k+2)++(P.nest.drop (k+2)).map (d8 (m' k))=A at q5 w;refine ag (bq (hJ O (⟨[],[]⟩:Loop))) (ag (bq (hJ O (⟨[],[]⟩:Loop))) (ag (dU O _) ?_));rw[dh];refine ag (bq (hJ (l:=A.set k (A.getD (k+1) ⟨[],[]⟩)) (k:=k+1) (by rw[gf];omega) (⟨[],[]⟩:Loop))) (ag (dU (by rw[gf];omega) _) ?_);rw[dh];have j8:(⟨(A.set k (A.getD (k+1) ⟨[],[]⟩)).set (k+1) (A.getD k ⟨[],[]⟩),P.body.map (iG (m' k))⟩:Part)=wV k P:=by
  have:(A.set k (A.getD (k+1) ⟨[],[]⟩)).set (k+1) (A.getD k ⟨[],[]⟩)=jL k A:=rfl;rw[this,w,<-abr];rfl
 rw[j8];exact ag (x0 O q U ((Qn y B).mono O)) (ad.some rfl)
def nm(k:Nat)(c:Int):aE:=⟨[0,0,0,0].set k (-1),c⟩
def qN(k:Nat)(c:Int)(x:aE):aE:=vc x k (nm k c)
def lD(k:Nat)(d:List Int):List Int:=d.set k (0-d.getD k 0)
def nl(l:Loop):Int:=dw l.bo+dw l.aL-1
def yt(k:Nat)(c:Int)(P:Part):Part:=⟨P.nest.take (k+1)++(P.nest.drop (k+1)).map (d8 (qN k c)),P.body.map (iG (qN k c))⟩
def su(p:Prog)(i k:Nat)(l:Loop):Bool:=eU l&&(jy p i).all λd=>hS (lD k d)
def pr(p:Prog)(a b:Int):Prog×Bool:=
 if dj p a b=ab then
  match aB p.parts a with
  |some P=>match aB P.nest b with
   |some l=>if su p a.toNat b.toNat l=ab then hc ⟨p.bb,p.parts.set a.toNat (yt b.toNat (nl l) P)⟩ else dq
   |none=>dq
  |none=>dq
 else dq
theorem Od(k:Nat)(d:List Int):(lD k d).length=d.length:=by simp[lD]
theorem O6(h:dj p (i:Int) (k:Int)=ab)(a:p.parts[i]? =aa P)(b:P.nest[k]? =aa l):pr p i k=if su p i k l=ab then hc ⟨p.bb,p.parts.set i (yt k (nl l) P)⟩ else dq:=by
 unfold pr;rw[bg h,bq a];dsimp only;rw[bq b]
 grind
theorem O7(b:k<4)(a:c3 999 c):fw 1000 (nm k c):=by unfold c3 at a;rcases(O:k=0\/k=1\/k=2\/k=3) with rfl|rfl|rfl|rfl<;>(unfold fw c3 nm;simp;omega)
theorem O8(k:Nat)(c:Int): ∀x,de x=ab->fr 4 (qN k c x):=λx a=>by have:=P4 ⟨x.aK.set k 0,x.const⟩ (nm k c) (x.aK.getD k 0) (by dsimp only;rw[gf];exact(fS a).1) (by simp[nm]);unfold fr qN vc;omega
theorem uS{l:List aE}(h: ∀x∈l,de x=ab):c3 99 (dw l):=by
 unfold dw;cases l with
 |nil=>unfold c3;simp
 |cons x t=>exact(fS (h x fh)).2.1
theorem HM(h:kB l):c3 999 (nl l):=by have a:=uS h.1.2;have b:=uS h.2.2;unfold c3 at*;unfold nl;omega
theorem abm(n:Nat)(a:k<d.length)(b: ∀x∈d,c3 99999 x):vJ n d (k:Int)=aa (lD k d):=by have e:=hJ a (0:Int);have bw:=b _ (bX e);unfold c3 at bw;unfold vJ;refine ad.eq (ag (bq e) ?_);rw[bf O];refine ag (dU O _) (ad.some ?_);rw[dh];rfl
theorem adT(n:Nat)(a:k<4):nI n (k:Int) (-1)=aa ⟨[0,0,0,0].set k (-1),0⟩:=by rcases(O:k=0\/k=1\/k=2\/k=3) with rfl|rfl|rfl|rfl<;>rfl
theorem abl(b:5500000<=n)(a:k<4)(d:c3 999 c): ∀x,de x=ab->vI n x (k:Int) (nm k c)=aa (qN k c x):=λx e=>by unfold vI;rw[FF b ((nZ e).mono O) (O7 a d) a];rfl
theorem acv(a:k<4)(b:c3 999 c): ∀n,5500000<=n-> ∀x,de x=ab->jB n x 1 (k:Int) (nm k c)=aa (qN k c x):=λn d x e=>by unfold jB;rw[Mf d ((nZ e).mono O) (O7 a b) a];rfl
theorem afl(a:5500000<=n)(b:k<4)(d:c3 999 c):j1 n ⟨[0,0,0,0],c⟩ 1 (hn k) (-1)=aa (nm k c):=by unfold c3 at d;rw[uc a (by unfold fw c3;simp;omega) ((um b).mono O) ⟨O,O⟩ ⟨O,O⟩];rcases(O:k=0\/k=1\/k=2\/k=3) with rfl|rfl|rfl|rfl<;>simp[ow,hn,nm]
theorem P2(b:eL r P=ab)(m:k<P.nest.length)(c:Int):im 4 (yt k c P):=by
 obtain⟨n,e⟩:=h8 b;obtain⟨_,h,i,_⟩:=gr b;refine⟨⟨by simp only[yt,List.length_append,List.length_map,List.length_take,List.length_drop];omega,λy a=>?_⟩,by simp only[yt,List.length_map];exact h.2,λs l=>?_⟩
 ·rcases eX.1 a with a|a
  ·exact(uE b).1.2 y (gm a)
  obtain⟨z,d,rfl⟩:=eH.1 a;exact x2 (O8 k c) (e z (ft d))
 obtain⟨z,d,rfl⟩:=eH.1 l;exact CG (O8 k c) (i z d)
theorem ab'(X:22000000<=n)(w:er 1100000 p)(a b:Int):wb n p a b=aa (pr p a b):=by
 unfold wb;by_cases e:b= -1
 ·subst e;unfold pr;rw[be λh=>by rw[rE O] at h;cases h];exact ad.eq (hE (Be O w a) λv Q=>ad.cond (λ_=>aV (λ_=>ad.some rfl) λh=>br (show(-1:Int)<0 by omega) h) λ_=>ad.some rfl)
 refine ad.eq (ag (xT O w a b e) ?_);by_cases m:dj p a b=ab
 ·rw[bg m];refine bW (aV (λh=>by rw[rE h] at m;cases m) λE=>?_);obtain⟨z,i,k,P,l,rfl,rfl,r,A,I,B,o,R⟩:=kf m;obtain⟨Q,W⟩:=h8 o;obtain⟨_,g,j,_⟩:=gr o;have c:=W l (bX A);rw[O6 m r A];refine ag (bq r) (ag (bq A) (ag (G1 O c) ?_));cases C:eU l with
  |false=>exact b1 (ad.some (by rw[be (by unfold su;rw[C];simp)];rfl))
  |true=>
   refine bW (ag (Mr X w.sm z r (F:=λD=>vJ n D (k:Int)) (f:=lD k) (λd q=>abm n (by have:=(uf z r q).1;omega) (uf z r q).2) (Od k)) (ad.cond (λq=>?_) λq=>ad.some ?_))
   ·rw[show su p i k l=ab by unfold su;rw[C,q];rfl];refine ag (adT n R) ?_;have bU:=HM c;have G:=uS c.1.2;have H:=uS c.2.2;unfold c3 at G H;have K:(⟨([0,0,0,0]:List Int).set k (-1),wr ((wr (dw l.bo+dw l.aL))-1)⟩:aE)=nm k (nl l):=by
     rw[bf (n:=dw l.bo+dw l.aL) O,bf O];rfl
    rw[bf (n:=(k:Int)+1) O];have L:=zg (n:=n) O (nest:=P.nest) (body:=P.body) (s:=k+1) O Q (λy t=>W y (ft t)) g.2 j (F:=λD=>vI n D (k:Int) (⟨([0,0,0,0]:List Int).set k (-1),wr ((wr (dw l.bo+dw l.aL))-1)⟩:aE)) (f:=qN k (nl l)) λx u=>by rw[K];exact abl O R bU x u
    rw[show(k:Int)+1=((k+1:Nat):Int) by omega];refine ag L (ag (dU Z _) ?_);rw[dh];exact ag (rl O (yh w i (P2 o B (nl l)))) (ad.some rfl)
   rw[be (by unfold su;rw[C,q];simp)];rfl
 unfold pr;rw[be m,be m];exact b1 (ad.some rfl)
theorem acy(N:22000000<=n)(B:er 1100000 p)(c e:Int):vW n p c e=aa (pr p c e):=by
 unfold vW;refine ad.eq (ag (jh O B) (ag (mT O B c e) ?_));by_cases bw:dj p c e=ab;rotate_left
 ·unfold pr;rw[be bw,show dj p c e=al by simpa using bw];exact bW (ad.some rfl)
 rw[bw];refine b1 ?_;obtain⟨F,i,k,P,l,rfl,rfl,G,H,S,K,o,L⟩:=kf bw;obtain⟨T,E⟩:=h8 o;obtain⟨_,U,V,_⟩:=gr o;have h:=E l (bX H);rw[O6 bw G H];refine ag (bq G) (ag (bq H) (ag (Gl O h) (ag (x:=jy p i) (L8 N B.sm F _) ?_)));have r:=H7 F (i:=i);have w:=λd Y=>uf F G (d:=d) Y;have Q:su p i k l=(eU l&&(jy p i).all λd=>hS (lD k d)):=rfl;rw[Q];have h3:(if eU l=ab then(dw l.bo,dw l.aL,ab) else((0:Int),(0:Int),al)).2.2=eU l:=by cases eU l<;>rfl
 generalize jy p i=D at r w;refine ad.loop (λx:Bool×Int=> ∃m:Nat,x.2=m/\m<=D.length/\x.1=(eU l&&(D.take m).all λd=>hS (lD k d))) (λx=>D.length-x.2.toNat) ?_ n _ ⟨0,rfl,O,by dsimp only;rw[h3,List.take_zero];simp⟩ Z;rintro R ⟨ok,z⟩ ⟨m,C,hm,a⟩ b6;dsimp only at C a⊢;subst C;refine aV (λq=>?_) λkJ=>?_
 ·have q:m<D.length:=O
  have I:=bD q;obtain⟨g1,g2⟩:=w _ (fV q);have M:=hJ (l:=D[m]) (k:=k) O 0;have bw:=g2 _ (bX M);unfold c3 at bw;refine ad.aQ (λz=>z.2=(eU l&&(D.take (m+1)).all λd=>hS (lD k d))) (λj W=>?_) λz C=>?_
  ·refine ag (bq I) (ag (dM cd) ?_);rw[tW];refine ag (bq M) ?_;rw[bf O];refine ag (dU O _) ?_;rw[dh];have y:(D.take (m+1)).all (λd=>hS (lD k d))=((D.take m).all (λd=>hS (lD k d))&&hS (lD k D[m])):=by
    rw[eN,I,List.all_append];simp
   rw[y,<-l5,<-a] at W;cases ok with
   |true=>exact bW (ag (x:=hS (lD k D[m])) (NA (d:=lD k D[m]) (by rw[Od];omega) O) (W _ (by rw[gg])))
   |false=>exact b1 (W _ (by rw[Bool.false_and]))
  rw[bf O];exact b6 _ ⟨m+1,Z,O,C⟩ Z
 have:m=D.length:=O
 subst this;rw[eb] at a;rw[<-a];cases A:ok with
 |false=>exact bW (ad.some (by rw[be bl];rfl))
 |true=>
  rw[bg rfl];have X:eU l=ab:=by
   rw[A] at a;cases X:eU l with
   |true=>rfl
   |false=>rw[X] at a;cases a
  have g:=uS h.1.2;have t:=uS h.2.2;unfold c3 at g t;have u:wr ((wr ((if eU l=ab then(dw l.bo,dw l.aL,ab) else((0:Int),(0:Int),al)).1+(if eU l=ab then(dw l.bo,dw l.aL,ab) else((0:Int),(0:Int),al)).2.1))-1)=nl l:=by
   rw[bg X];dsimp only;rw[bf (n:=dw l.bo+dw l.aL) O,bf O];rfl
  rw[u];refine b1 (ag (nL n _) (ag (Bu n L) (ag (afl O L (HM h)) (ag (Av (n:=n) O (x:=P) (s:=k) O T E U.2 V (way:=1) (v:=(k:Int)) (b:=nm k (nl l)) (f:=qN k (nl l)) (acv L (HM h))) ?_))));exact ag (x0 O B S ((P2 o K (nl l)).mono O)) (ad.some rfl)
end
section
def mx(k:Int):Int:=if k=3\/k=4\/k=5 then 3 else if k=1\/k=2\/k=7\/k=8 then 2 else if k=6\/k=9\/k=10 then 1 else 0
def o9(s:Step):Bool:=aj (1<=s.kind/\s.kind<=11)&&((aj (0<mx s.kind)||decide (s.part=0))&&((aj (1<mx s.kind)||decide (s.a=0))&&(aj (2<mx s.kind)||decide (s.b=0))))
theorem QF(k:Int):0<=mx k/\mx k<=3:=by
 unfold mx
 grind
theorem Ya(n:Nat)(k:Int):EA n k=aa (mx k):=by
 unfold EA mx;refine ad.eq (ad.aQ (λz=>z=aj (k=3\/k=4\/k=5)) (λj a=>aV (λh=>a _ ?_) λh=>aV (λb=>a _ ?_) λb=>a _ ?_) λz c=>?_)
 ·rw[hv];simp only[decide_eq_true_eq];omega
 ·rw[hv];simp only[decide_eq_true_eq];omega
 ·rw[hv];simp only[decide_eq_true_eq];omega
 subst c;by_cases d:k=3\/k=4\/k=5
 ·rw[bg d,bS d];exact bW (ad.some rfl)
 rw[be d,bR d];refine b1 (ad.aQ (λz=>z=aj (k=1\/k=2\/k=7\/k=8)) (λj a=>aV (λh=>a _ ?_) λh=>aV (λb=>a _ ?_) λb=>aV (λl=>a _ ?_) λl=>a _ ?_) λz c=>?_)
 ·rw[hv];simp only[decide_eq_true_eq];omega
 ·rw[hv];simp only[decide_eq_true_eq];omega
 ·rw[hv];simp only[decide_eq_true_eq];omega
 ·rw[hv];simp only[decide_eq_true_eq];omega
 subst c;by_cases e:k=1\/k=2\/k=7\/k=8
 ·rw[bg e,bS e];exact bW (ad.some rfl)
 rw[be e,bR e];refine b1 (ad.aQ (λz=>z=aj (k=6\/k=9\/k=10)) (λj a=>aV (λh=>a _ ?_) λh=>aV (λb=>a _ ?_) λb=>a _ ?_) λz c=>?_)
 ·rw[hv];simp only[decide_eq_true_eq];omega
 ·rw[hv];simp only[decide_eq_true_eq];omega
 ·rw[hv];simp only[decide_eq_true_eq];omega
 subst c;by_cases i:k=6\/k=9\/k=10
 ·rw[bg i,bS i];exact bW (ad.some rfl)
 rw[be i,bR i];exact b1 (ad.some rfl)
theorem XW(n:Nat)(k:Int):BX n k=aa (if 1<=k/\k<=11 then mx k else-1):=by
 unfold BX mx;refine ad.eq (ad.aQ (λz=>z=aj (k=1\/k=2\/k=7\/k=8)) (λj a=>aV (λh=>a _ ?_) λh=>aV (λb=>a _ ?_) λb=>aV (λl=>a _ ?_) λl=>a _ ?_) λz c=>?_)
 ·rw[hv];simp only[decide_eq_true_eq];omega
 ·rw[hv];simp only[decide_eq_true_eq];omega
 ·rw[hv];simp only[decide_eq_true_eq];omega
 ·rw[hv];simp only[decide_eq_true_eq];omega
 subst c;by_cases d:k=1\/k=2\/k=7\/k=8
 ·rw[bS d,bg O,be O,bg d];exact bW (ad.some rfl)
 rw[bR d];refine b1 (ad.aQ (λz=>z=aj (k=3\/k=4\/k=5)) (λj a=>aV (λh=>a _ ?_) λh=>aV (λb=>a _ ?_) λb=>a _ ?_) λz c=>?_)
 ·rw[hv];simp only[decide_eq_true_eq];omega
 ·rw[hv];simp only[decide_eq_true_eq];omega
 ·rw[hv];simp only[decide_eq_true_eq];omega
 subst c;by_cases e:k=3\/k=4\/k=5
 ·rw[bS e,bg O,bg e];exact bW (ad.some rfl)
 rw[bR e];refine b1 (ad.aQ (λz=>z=aj (k=6\/k=9\/k=10)) (λj a=>aV (λh=>a _ ?_) λh=>aV (λb=>a _ ?_) λb=>a _ ?_) λz c=>?_)
 ·rw[hv];simp only[decide_eq_true_eq];omega
 ·rw[hv];simp only[decide_eq_true_eq];omega
 ·rw[hv];simp only[decide_eq_true_eq];omega
 subst c;by_cases i:k=6\/k=9\/k=10
 ·rw[bS i,bg O,be e,be d,bg i];exact bW (ad.some rfl)
 rw[bR i];refine b1 (aV (λh=>ad.some ?_) λh=>ad.some ?_)
 ·rw[bg O,be e,be d,be i]
 rw[be O]
theorem Mi(n:Nat)(s:Step):ER n s=aa (o9 s):=by
 unfold ER o9;have d:=QF s.kind;refine ad.eq (ag (Ya n s.kind) ?_);generalize mx s.kind=f at*;refine ad.aQ (λz=>z=(aj (1<=s.kind/\s.kind<=11)&&((aj (0<f)||decide (s.part=0))&&((aj (1<f)||decide (s.a=0))&&(aj (2<f)||decide (s.b=0)))))) (λj e=>?_) (λz c=>ad.some c)
 grind
variable {n:Nat}{p:Prog}{s:Step}{R:Prog×Bool}
theorem Mu(i:10<=n)(s:Step):A3 n s=aa (o9 s):=by
 unfold A3 o9;have k:=QF s.kind;refine ad.eq (ag (XW n s.kind) ?_);generalize mx s.kind=f at*;refine ad.aQ (λz=>z=(aj (1<=s.kind/\s.kind<=11)&&((aj (0<f)||decide (s.part=0))&&((aj (1<f)||decide (s.a=0))&&(aj (2<f)||decide (s.b=0)))))) (λj d=>?_) λz e=>ad.some e;by_cases c:1<=s.kind/\s.kind<=11
 ·rw[bg c];rw[bS c] at d⊢;refine aV (λ_=>ag (show Fe n s=aa [s.part,s.a,s.b] from rfl) (ag (iU O cd bl) (ag (t6 (p:=λv=> !decide (v=0)) (λx _=>rfl) cd cd) (d _ ?_)))) λh=>br h O;rw[show([s.part,s.a,s.b].length:Int).toNat=[s.part,s.a,s.b].length from rfl,eb];rcases(O:f=0\/f=1\/f=2\/f=3) with rfl|rfl|rfl|rfl
  ·simp[show(0:Int).toNat=0 from rfl]
  ·simp[show(1:Int).toNat=1 from rfl]
  ·simp[show(2:Int).toNat=2 from rfl]
  simp[show(3:Int).toNat=3 from rfl]
 rw[be c]
 grind
noncomputable def qD(p:Prog)(s:Step):Prog×Bool:=
 if o9 s=ab then
  (if s.kind=1 then nr p s.part s.a else if s.kind=2 then pr p s.part s.a else if s.kind=3 then uV p s.part s.a s.b else if s.kind=4 then uM p s.part s.a s.b
   else if s.kind=5 then qq p s.part s.a s.b else if s.kind=6 then mj p s.part else if s.kind=7 then mn p s.part s.a else if s.kind=8 then qs p s.part s.a
   else if s.kind=9 then lv p s.part else if s.kind=10 then mm p s.part else u3 p)
 else dq
theorem ZO(c:22000000<=n)(b:er 1100000 p)(e:pQ n p s.part=aa (mj p s.part))(i:px n p s.part s.a=aa (mn p s.part s.a))(k:i8 n p s.part=aa (lv p s.part))(d:pV n p s.part=aa (mm p s.part)):oE n p s=aa (qD p s):=by
 unfold oE qD;refine ad.eq (ag (Mu O s) ?_);cases l:o9 s with
 |false=>exact bW (ad.some rfl)
 |true=>
  rw[bg rfl];refine b1 (aV (λh=>?_) λh=>?_)
  ·rw[bg h];exact ag (ab9 c b _ _) (ad.some rfl)
  rw[be h];refine aV (λh=>?_) λh=>?_
  ·rw[bg h];exact ag (ab' c b _ _) (ad.some rfl)
  rw[be h];refine aV (λh=>?_) λh=>?_
  ·rw[bg h];exact ag (aaK O b _ _ _) (ad.some rfl)
  rw[be h];refine aV (λh=>?_) λh=>?_
  ·rw[bg h];exact ag (ZS O b _ _ _) (ad.some rfl)
  rw[be h];refine aV (λh=>?_) λh=>?_
  ·rw[bg h];exact ag (ZM O b _ _ _) (ad.some rfl)
  rw[be h];refine aV (λh=>?_) λh=>?_
  ·rw[bg h];exact ag e (ad.some rfl)
  rw[be h];refine aV (λh=>?_) λh=>?_
  ·rw[bg h];exact ag i (ad.some rfl)
  rw[be h];refine aV (λh=>?_) λh=>?_
  ·rw[bg h];exact ag (ZQ c b _ _) (ad.some rfl)
  rw[be h];refine aV (λh=>?_) λh=>?_
  ·rw[bg h];exact ag k (ad.some rfl)
  rw[be h];refine aV (λh=>?_) λh=>?_
  ·rw[bg h];exact ag d (ad.some rfl)
  rw[be h];exact ag (UT O b) (ad.some rfl)
theorem Zm(c:22000000<=n)(b:er 1100000 p)(e:pM n p s.part=aa (mj p s.part))(i:pw n p s.part s.a=aa (mn p s.part s.a))(k:pL n p s.part=aa (lv p s.part))(d:pT n p s.part=aa (mm p s.part)):rj n p s=aa (qD p s):=by
 unfold rj qD;refine ad.eq (ag (jh O b) (ag (Mi n s) ?_));cases l:o9 s with
 |false=>exact bW (ad.some rfl)
 |true=>
  rw[bg rfl];refine b1 (aV (λh=>?_) λh=>?_)
  ·rw[bg h];exact ag (acx c b _ _) (ad.some rfl)
  rw[be h];refine aV (λh=>?_) λh=>?_
  ·rw[bg h];exact ag (acy c b _ _) (ad.some rfl)
  rw[be h];refine aV (λh=>?_) λh=>?_
  ·rw[bg h];exact ag (aa6 O b _ _ _) (ad.some rfl)
  rw[be h];refine aV (λh=>?_) λh=>?_
  ·rw[bg h];exact ag (YS O b _ _ _) (ad.some rfl)
  rw[be h];refine aV (λh=>?_) λh=>?_
  ·rw[bg h];exact ag (Zk O b _ _ _) (ad.some rfl)
  rw[be h];refine aV (λh=>?_) λh=>?_
  ·rw[bg h];exact ag e (ad.some rfl)
  rw[be h];refine aV (λh=>?_) λh=>?_
  ·rw[bg h];exact ag i (ad.some rfl)
  rw[be h];refine aV (λh=>?_) λh=>?_
  ·rw[bg h];exact ag (Zo c b _ _) (ad.some rfl)
  rw[be h];refine aV (λh=>?_) λh=>?_
  ·rw[bg h];exact ag k (ad.some rfl)
  rw[be h];refine aV (λh=>?_) λh=>?_
  ·rw[bg h];exact ag d (ad.some rfl)
  rw[be h];exact ag (UX O b) (ad.some rfl)
def pd(R:Prog×Bool):Prop:=(R.2=ab/\b9 R.1=ab)\/R=dq
theorem gh:pd dq:= .inr rfl
theorem tL(q:Prog):pd (hc q):=by
 unfold hc;split
 ·rename_i h;exact .inl ⟨rfl,h⟩
 exact .inr rfl
theorem pd.v(h:pd R)(a:R.2=ab):b9 R.1=ab:=by
 rcases h with h|h
 ·exact h.2
 rw[h] at a;cases a
theorem ajG(h:pd R)(a:R.2=al):R=dq:=by
 rcases h with h|h
 ·rw[a] at h;cases h.1
 exact h
theorem MF(p:Prog)(a b:Int)(g f:aE->aE):pd (uR p a b g f):=by
 unfold uR;split
 ·split
  ·exact tL _
  exact gh
 exact gh
theorem aao(p:Prog)(s:Step):pd (qD p s):=by
 unfold qD;split
 ·split
  ·unfold nr;split
   ·split
    ·split
     ·exact tL _
     exact gh
    exact gh
   exact gh
  split
  ·unfold pr;split
   ·split
    ·split
     ·split
      ·exact tL _
      exact gh
     exact gh
    exact gh
   exact gh
  split
  ·unfold uV;split
   ·exact MF _ _ _ _ _
   exact gh
  split
  ·unfold uM;split
   ·exact MF _ _ _ _ _
   exact gh
  split
  ·unfold qq;split
   ·split
    ·split
     ·exact tL _
     exact gh
    exact gh
   exact gh
  split
  ·unfold mj;split
   ·split
    ·split
     ·exact tL _
     exact gh
    exact gh
   exact gh
  split
  ·unfold mn;split
   ·split
    ·split
     ·exact tL _
     exact gh
    exact gh
   exact gh
  split
  ·unfold qs;split
   ·split
    ·split
     ·exact tL _
     exact gh
    exact gh
   exact gh
  split
  ·by_cases h:iL p s.part (s.part+1)=ab
   ·obtain⟨i,c,d,e,a,b,_⟩:=Hn h;rw[e] at h⊢;rw[GI h a b];exact .inl ⟨rfl,HW (pb h).1 a b⟩
   unfold lv;rw[be h];exact gh
  split
  ·unfold mm;split
   ·rename_i h;simp only[cB] at h;exact .inl ⟨rfl,H8 h.1 _⟩
   exact gh
  unfold u3;split
  ·rename_i h;exact .inl ⟨rfl,ad0 h⟩
  exact gh
 exact gh
end
set_option maxRecDepth 100000
def jT(B:Nat)(a:aE):Prop:=a.aK.length<=B
def kv(B:Nat)(l:List aE):Prop:=l.length<=B/\ ∀a∈l,jT B a
def oc(B:Nat)(a:cx):Prop:=a.array.length<=B/\kv B a.a7
def iM(B:Nat):Nat->Expr->Prop
 |0,_=>False
 |m+1,e=>jT B e.index/\oc B e.read/\e.a1.length<=B/\ ∀k∈e.a1,iM B m k
def oe(B m:Nat)(s:Stmt):Prop:=oc B s.write/\iM B m s.value
def od(B:Nat)(l:Loop):Prop:=kv B l.bo/\kv B l.aL
def sf(B m:Nat)(x:Part):Prop:=(x.nest.length<=B/\ ∀l∈x.nest,od B l)/\x.body.length<=B/\ ∀s∈x.body,oe B m s
def pe(B:Nat)(x:cC):Prop:=x.name.length<=B/\x.b8.length<=B
def iN(B m:Nat)(p:Prog):Prop:=(p.bb.length<=B/\ ∀x∈p.bb,pe B x)/\p.parts.length<=B/\ ∀x∈p.parts,sf B m x
theorem Qr: ∀{m:Nat} {e:Expr},iM 1048576 m e-> ∀j,uC j e
 |0,e,h,_=>h.elim
 |m+1,e,h,0=>trivial
 |m+1,e,h,j+1=>by
  obtain⟨c,b,o,d⟩:=h;unfold jT at c;refine⟨O,?_,⟨?_,λa i=>?_⟩,λk l=>Qr (d k l) j⟩
  ·unfold iu;omega
  ·have:=b.2.1;omega
  have:=b.2.2 a i;unfold jT at this;unfold iu;omega
variable {l:List aE}{m C D i B:Nat}{w v:Int->Option Int}{P Q:Prop}{k a gu:Int}{x:Part}{s:Stmt}{R:Type}{r:Prog×Bool}
theorem Ik(h:kv 1048576 l):jY l:=⟨by have:=h.1;omega,λa b=>by have:=h.2 a b;unfold jT at this;unfold iu;omega⟩
theorem Qq{p:Prog}(h:iN 1048576 m p):jw p:=by obtain⟨⟨o,i⟩,q,k⟩:=h;refine⟨⟨O,λx a=>by have:=(i x a).2;omega⟩,O,λx a=>?_⟩;obtain⟨⟨r,b⟩,w,c⟩:=k x a;exact⟨⟨O,λl d=>⟨Ik (b l d).1,Ik (b l d).2⟩⟩,O,λs e=>⟨Ik (c s e).1.2,Qr (c s e).2 _⟩⟩
def e7{k:Type}(c:k->Nat)(l:List k):Nat:=l.length+(l.map c).sum
def lS(a:aE):Nat:=a.aK.length
def tq(a:cx):Nat:=e7 lS a.a7
def nK:Nat->Expr->Nat
 |0,_=>0
 |m+1,e=>lS e.index+(tq e.read+e7 (nK m) e.a1)
def rq(m:Nat)(s:Stmt):Nat:=tq s.write+nK m s.value
def rm(l:Loop):Nat:=e7 lS l.bo+e7 lS l.aL
def ts(m:Nat)(x:Part):Nat:=e7 rm x.nest+e7 (rq m) x.body
def tt(x:cC):Nat:=x.b8.length
def tr(m:Nat)(p:Prog):Nat:=e7 tt p.bb+e7 (ts m) p.parts
def eS(w:Int->Option Int)(C:Nat)(P:Prop):Prop:= ∀left:Int,0<=left->left<=1048576-> ∃r,w left=aa r/\(r= -1\/(0<=r/\r+C<=left/\P))
theorem eS.mono(h:eS w C P)(d:D<=C)(k:P->Q):eS w D Q:=λleft a b=>by obtain⟨r,e,c⟩:=h left a b;exact⟨r,e,c.imp id λh=>⟨h.1,O,k h.2.2⟩⟩
theorem eS.two(h:eS w C P)(k:eS v D Q):eS (λleft=>bI (w left) λa=>bif aj (a<0) then aa (-1) else v a) (C+D) (P/\Q):=λleft b c=>by
 obtain⟨r,e,d⟩:=h left b c;dsimp only;rw[e];rcases d with rfl|⟨i,y,l⟩
 ·exact⟨-1,rfl,.inl rfl⟩
 obtain⟨s,m,o⟩:=k r i O;refine⟨s,?_,?_⟩
 ·show(bif aj (r<0) then aa (-1) else v r)=aa s;rw[bR O];exact m
 rcases o with rfl|⟨q,z,x⟩
 ·exact .inl rfl
 exact .inr ⟨q,O,l,x⟩
theorem eS.end(h:eS w C P):eS (λleft=>bI (w left) λa=>bif aj (a<0) then aa (-1) else aa a) C P:=
 (h.two (v:=λx=>aa x) (D:=0) (Q:=True) λleft b _=>⟨left,rfl,.inr ⟨b,O,trivial⟩⟩).mono (df _) And.left
theorem eS.len{k:Nat}(i:k<=9223372036854775807)(h:eS v D Q):eS (λleft=>bif aj (wr (left-(k:Int))<0) then aa (-1) else v (wr (left-(k:Int)))) (k+D) (k<=1048576/\Q):=λleft l m=>by
 dsimp only;rw[bf O];by_cases a:left-(k:Int)<0
 ·rw[bS a];exact⟨-1,rfl,.inl rfl⟩
 rw[bR a];obtain⟨s,e,b⟩:=h (left-(k:Int)) O O;refine⟨s,e,?_⟩;rcases b with rfl|⟨c,o,d⟩
 ·exact .inl rfl
 exact .inr ⟨c,O,O,d⟩
theorem Nf{k:Type}{l:List k}{x:k}(c:k->Nat)(h:l[i]? =aa x):((l.take (i+1)).map c).sum=((l.take i).map c).sum+c x:=by rw[fQ h];simp
theorem afj{k:Type}{a:List k}{g:k->Int->Option Int}{c:k->Nat}{P:k->Prop}{n:Nat}(f:a.length<=1048576)(t:2000000<=n)(C: ∀x∈a,eS (g x) (c x) (P x)):
  eS (λleft=>bA (λb ((A,l):Int×Int)=>
   bif aj (l<(a.length:Int)) then(
    bI (aB a l) λD=>
    bI (g D A) λB=>
    bif aj (B<0) then(
     aa (-1)
    ) else(
     b (B,wr (l+1))
    )
   ) else(
    aa A
   )
  ) n (left,0)) (a.map c).sum (∀x∈a,P x):=λleft F u=>by
 refine ad.loop (Q:=λr=>r= -1\/(0<=r/\r+((a.map c).sum:Nat)<=left/\ ∀x∈a,P x)) (λz:Int×Int=> ∃j:Nat,z.2=j/\j<=a.length/\0<=z.1/\z.1+(((a.take j).map c).sum:Nat)<=left/\ ∀x∈a.take j,P x) (λz=>a.length-z.2.toNat) ?_ n _ ⟨0,rfl,O,F,bl,λx d=>by simp at d⟩ Z;rintro m ⟨G,v⟩ ⟨j,rfl,E,o,q,w⟩ H;dsimp only at o q⊢;refine aV (λK=>?_) λL=>ad.some (.inr ⟨o,by rw[jM O] at q;exact q,by rw[jM O] at w;exact w⟩);have d:=bD (O:j<a.length);generalize a[j]=x at d;obtain⟨s,e,R⟩:=C x (bX d) G o O;refine ag (bq d) (ag e ?_);rcases R with rfl|⟨W,I,X⟩
 ·exact aV (λ_=>ad.some (.inl rfl)) λh=>br h (by decide)
 refine aV (λh=>br h O) λ_=>?_;rw[bf O];refine H _ ⟨j+1,Z,O,W,by dsimp only;rw[Nf c d];omega,λy i=>?_⟩ Z;rw[fQ d] at i;rcases eX.1 i with i|i
 ·exact w y i
 rw[qj.1 i];exact X
theorem uK{k:Type}{a:List k}{g:k->Int->Option Int}{c:k->Nat}{P:k->Prop}{n:Nat}(i:a.length<=9223372036854775807)(l:2000000<=n)(m: ∀x∈a,eS (g x) (c x) (P x)):
  eS (λleft=>bif aj (wr (left-(a.length:Int))<0) then aa (-1) else bA (λb ((e,d):Int×Int)=>
   bif aj (d<(a.length:Int)) then(
    bI (aB a d) λo=>
    bI (g o e) λh=>
    bif aj (h<0) then(
     aa (-1)
    ) else(
     b (h,wr (d+1))
    )
   ) else(
    aa e
   )
  ) n (wr (left-(a.length:Int)),0)) (e7 c a) (a.length<=1048576/\ ∀x∈a,P x):=λleft q r=>by
 by_cases s:a.length<=1048576
 ·exact(eS.len i (afj s l m)) left q r
 dsimp only;rw[bf O,bS O];exact⟨-1,rfl,.inl rfl⟩
theorem OW{n:Nat}{a:List Int}(h:a.length<=9223372036854775807):eS (BM n a) a.length (a.length<=1048576):=by have:=(eS.len h (v:=λx=>aa x) (D:=0) (Q:=True) λleft b _=>⟨left,rfl,.inr ⟨b,O,trivial⟩⟩).mono (df _) And.left;exact this
theorem afi{n:Nat}{a:cC}(h:pe 9223372036854775807 a):eS (F4 n a) (tt a) (pe 1048576 a):=(eS.len h.1 ((OW h.2).end)).mono (Nat.le_add_left _ _) id
theorem ac'{n:Nat}(b:2000000<=n){a:List cC}(h:a.length<=9223372036854775807)(c: ∀x∈a,pe 9223372036854775807 x):eS (Fx n a) (e7 tt a) (a.length<=1048576/\ ∀x∈a,pe 1048576 x):=uK h b λx d=>afi (c x d)
theorem PH{n:Nat}{a:aE}(h:jT 9223372036854775807 a):eS (EU n a) (lS a) (jT 1048576 a):=(OW h).end
theorem Hv{n:Nat}(b:2000000<=n){a:List aE}(h:kv 9223372036854775807 a):eS (zx n a) (e7 lS a) (kv 1048576 a):=uK h.1 b λx c=>PH (h.2 x c)
theorem PI{n:Nat}(b:2000000<=n){a:cx}(h:oc 9223372036854775807 a):eS (EV n a) (tq a) (oc 1048576 a):=(eS.len h.1 ((Hv b h.2).end)).mono (Nat.le_add_left _ _) id
theorem OX: ∀(m n:Nat) {e:Expr},2000000+m<=n->iM 9223372036854775807 m e->eS (rY n e) (nK m e) (iM 1048576 m e)
 |0,n,e,_,h=>h.elim
 |m+1,n,e,ca,h=>by
  obtain⟨n,rfl⟩: ∃j,n=j+1:=⟨n-1,O⟩
  obtain⟨l,o,q,r⟩:=h;have i:eS (F3 n (rY n) e.a1) (e7 (nK m) e.a1) (e.a1.length<=1048576/\ ∀k∈e.a1,iM 1048576 m k):=uK q O λk i=>OX m n O (r k i);exact eS.mono ((PH (n:=n) l).two ((PI (n:=n) O o).two i.end)) (df _) (λ⟨a,b,c,d⟩=>⟨a,b,c,d⟩)
theorem adG{n:Nat}(a:2000000+m<=n)(h:oe 9223372036854775807 m s):eS (GQ n s) (rq m s) (oe 1048576 m s):=(PI O h.1).two ((OX m n a h.2).end)
theorem abp{n:Nat}(b:2000000+m<=n){a:List Stmt}(h:a.length<=9223372036854775807)(c: ∀x∈a,oe 9223372036854775807 m x):eS (F1 n a) (e7 (rq m) a) (a.length<=1048576/\ ∀x∈a,oe 1048576 m x):=uK h O λx d=>adG b (c x d)
theorem afH{n:Nat}(a:2000000<=n){l:Loop}(h:od 9223372036854775807 l):eS (GS n l) (rm l) (od 1048576 l):=(Hv a h.1).two ((Hv a h.2).end)
theorem afh{n:Nat}(b:2000000<=n){a:List Loop}(h:a.length<=9223372036854775807)(c: ∀x∈a,od 9223372036854775807 x):eS (F2 n a) (e7 rm a) (a.length<=1048576/\ ∀x∈a,od 1048576 x):=uK h b λx d=>afH b (c x d)
theorem adI{n:Nat}(a:2000000+m<=n)(h:sf 9223372036854775807 m x):eS (GR n x) (ts m x) (sf 1048576 m x):=(afh O h.1.1 h.1.2).two ((abp a h.2.1 h.2.2).end)
theorem adH{n:Nat}(a:2000000+m<=n){p:Prog}(h:iN 9223372036854775807 m p):eS (Ex n p) (tr m p) (iN 1048576 m p):=
 (ac' O h.1.1 h.1.2).two (eS.end (uK h.2.1 O λx b=>adI a (h.2.2 x b)))
theorem tF{k:Type}{a:List k}{g:k->Option k}{z:k}{n:Nat}(C:a.length<=1048576)(D:2000000<=n)(q: ∀x∈a,g x=aa x):
  (bI (mk (a.length:Int) z) λr=>
 bA (λc ((m,h):(List k)×Int)=>
  bif aj (h<(a.length:Int)) then(
   bI (aB a h) λs=>
   bI (g s) λw=>
   bI (aB m h) λF=>
   bI (ch m h w) λy=>
   c (y,wr (h+1))
  ) else(
   aa m
  )
 ) n (r,0))=aa a:=by
 refine ad.eq (ag (Io ⟨O,O⟩ z) (ad.loop (λx:List k×Int=> ∃j:Nat,x.2=j/\j<=a.length/\x.1=a.take j++List.replicate (a.length-j) z) (λx=>a.length-x.2.toNat) ?_ n _ ⟨0,rfl,O,bl⟩ Z));rintro o ⟨b,i⟩ ⟨j,rfl,G,rfl⟩ A;dsimp only;have d:(a.take j++List.replicate (a.length-j) z).length=a.length:=cd
 refine aV (λe=>?_) λB=>ad.some (by rw[show a.length-j=0 by omega,jM O];simp);have e:j<a.length:=O
 have l:=bD e;generalize a[j]=x at l;refine ag (bq l) (ag (q x (bX l)) (ag (bq (bD (show j<_ by rw[d];exact e))) (ag (dU (by rw[d];omega) _) ?_)));rw[bf O,dh];refine A _ ⟨j+1,Z,O,?_⟩ Z;dsimp only;rw[fQ l,nd _ _ (by rw[c8];omega),c8,zT O,l6,show a.length-j=(a.length-(j+1))+1 by omega,List.replicate_succ,tV];simp
theorem OT{n:Nat}(b:2000000<=n){a:List Int}(h:a.length<=1048576):xz n a=aa a:=by
 unfold xz
 have:=tF (z:=(0:Int)) (g:=λx=>aa x) h b λx _=>rfl;exact this
theorem PL{n:Nat}(b:2000000<=n){a:aE}(h:jT 1048576 a):zL n a=aa a:=by unfold zL;rw[OT b h];rfl
theorem Hu{n:Nat}(b:2000000<=n){a:List aE}(h:kv 1048576 a):zw n a=aa a:=tF h.1 b λx c=>PL b (h.2 x c)
theorem PM{n:Nat}(b:2000000<=n){a:cx}(h:oc 1048576 a):zM n a=aa a:=by unfold zM;rw[Hu b h.2];rfl
theorem aff{n:Nat}(b:2000000<=n){a:cC}(h:pe 1048576 a):AH n a=aa a:=by unfold AH;rw[OT b h.2];rfl
theorem OU: ∀(m n:Nat) {e:Expr},2000000+m<=n->iM 1048576 m e->qm n e=aa e
 |0,n,e,_,h=>h.elim
 |m+1,n,e,ca,h=>by
  obtain⟨n,rfl⟩: ∃j,n=j+1:=⟨n-1,O⟩
  obtain⟨b,c,d,i⟩:=h;have a:F0 n (qm n) e.a1=aa e.a1:=tF d O λk a=>OU m n O (i k a);unfold qm;rw[PL O b,PM O c,a];cases e;rfl
theorem adD{n:Nat}(a:2000000+m<=n)(h:oe 1048576 m s):BI n s=aa s:=by unfold BI;rw[PM O h.1,OU m n a h.2];rfl
theorem abS{n:Nat}(b:2000000+m<=n){a:List Stmt}(h:a.length<=1048576)(c: ∀x∈a,oe 1048576 m x):F9 n a=aa a:=tF h O λx d=>adD b (c x d)
theorem afF{n:Nat}(a:2000000<=n){l:Loop}(h:od 1048576 l):BL n l=aa l:=by unfold BL;rw[Hu a h.1,Hu a h.2];rfl
theorem afe{n:Nat}(b:2000000<=n){a:List Loop}(h:a.length<=1048576)(c: ∀x∈a,od 1048576 x):FZ n a=aa a:=tF h b λx d=>afF b (c x d)
theorem adF{n:Nat}(a:2000000+m<=n)(h:sf 1048576 m x):BK n x=aa x:=by unfold BK;rw[afe O h.1.1 h.1.2,abS a h.2.1 h.2.2];rfl
theorem adE{n:Nat}(b:2000000+m<=n){p:Prog}(h:iN 1048576 m p):nz n p=aa p:=by unfold nz;rw[show Fw n p.bb=aa p.bb from tF h.1.1 O (λx a=>aff O (h.1.2 x a)),show FY n p.parts=aa p.parts from tF h.2.1 O λx a=>adF b (h.2.2 x a)];rfl
theorem uJ{k:Type}{a:List k}{g:k->k->Option Bool}{n:Nat}(s:a.length<=1048576)(w:2000000<=n)(h: ∀x∈a,g x x=aa ab):
  (bif !decide ((a.length:Int)=(a.length:Int)) then(
  aa al
 ) else(
  bA (λb (c:Int)=>
   bif aj (c<(a.length:Int)) then(
    bI (aB a c) λl=>
    bI (aB a c) λm=>
    bI (g l m) λo=>
    bif !o then(
     aa al
    ) else(
     b (wr (c+1))
    )
   ) else(
    aa ab
   )
  ) n 0
 ))=aa ab:=by rw[bS rfl];refine ad.eq (b1 (ad.loop (λx:Int=> ∃j:Nat,x=j/\j<=a.length) (λx=>a.length-x.toNat) ?_ n _ ⟨0,rfl,O⟩ O));rintro d i ⟨j,rfl,y⟩ q;refine aV (λr=>?_) λ_=>ad.some rfl;have e:=bD (O:j<a.length);refine ag (bq e) (ag (bq e) (ag (h _ (bX e)) ?_));rw[bf O];exact b1 (q _ ⟨j+1,O,O⟩ O)
theorem PE{n:Nat}(k:2000000<=n){a:List Int}(h:a.length<=1048576):xA n a a=aa ab:=by unfold xA;rw[bS rfl];refine ad.eq (b1 (ad.loop (λx:Int=> ∃j:Nat,x=j/\j<=a.length) (λx=>a.length-x.toNat) ?_ n _ ⟨0,rfl,O⟩ O));rintro b i ⟨j,rfl,l⟩ d;refine aV (λe=>?_) λ_=>ad.some rfl;have c:=bD (O:j<a.length);refine ag (bq c) (ag (bq c) (dV (λh=>br rfl h) λ_=>?_));rw[bf O];exact d _ ⟨j+1,O,O⟩ O
theorem Qa{n:Nat}(b:2000000<=n){a:aE}(h:jT 1048576 a):zN n a a=aa ab:=by unfold zN;rw[PE b h];exact ad.eq (ag rfl (b1 (dV (λh=>br rfl h) λ_=>ad.some rfl)))
theorem Hf{n:Nat}(b:2000000<=n){a:List aE}(h:kv 1048576 a):zy n a a=aa ab:=uJ h.1 b λx c=>Qa b (h.2 x c)
theorem Qb{n:Nat}(b:2000000<=n){a:cx}(h:oc 1048576 a):zO n a a=aa ab:=by unfold zO;exact ad.eq (dV (λh=>br rfl h) λ_=>ag (Hf b h.2) (ad.some rfl))
theorem ae9{n:Nat}(b:2000000<=n){a:cC}(h:pe 1048576 a):AJ n a a=aa ab:=by unfold AJ;exact ad.eq (dV (λh=>br rfl h) λ_=>ag (PE b h.2) (ad.some rfl))
theorem PF: ∀(m n:Nat) {e:Expr},2000000+m<=n->iM 1048576 m e->ql n e e=aa ab
 |0,n,e,_,h=>h.elim
 |m+1,n,e,ca,h=>by
  obtain⟨n,rfl⟩: ∃j,n=j+1:=⟨n-1,O⟩
  obtain⟨b,c,d,i⟩:=h;have a:Gs n (ql n) e.a1 e.a1=aa ab:=uJ d O λk a=>PF m n O (i k a);unfold ql;exact ad.eq (dV (λh=>br rfl h) λ_=>dV (λh=>br rfl h) λ_=>ag (Qa O b) (b1 (ag (Qb O c) (b1 (ag a (b1 (ad.some rfl)))))))
theorem ad4{n:Nat}(a:2000000+m<=n)(h:oe 1048576 m s):BN n s s=aa ab:=by unfold BN;exact ad.eq (ag (Qb O h.1) (b1 (ag (PF m n a h.2) (b1 (ad.some rfl)))))
theorem Uq{n:Nat}(a:2000000<=n){l:Loop}(h:od 1048576 l):BP n l l=aa ab:=by unfold BP;exact ad.eq (ag (Hf a h.1) (b1 (ag (Hf a h.2) (b1 (ad.some rfl)))))
theorem ad5{n:Nat}(a:2000000+m<=n)(h:sf 1048576 m x):BO n x x=aa ab:=by unfold BO;exact ad.eq (ag (show F7 n x.nest x.nest=aa ab from uJ h.1.1 O λl b=>Uq O (h.1.2 l b)) (b1 (ag (show F5 n x.body x.body=aa ab from uJ h.2.1 O λs c=>ad4 a (h.2.2 s c)) (b1 (ad.some rfl)))))
theorem PD{n:Nat}(b:2000000+m<=n){p:Prog}(h:iN 1048576 m p):nA n p p=aa ab:=by unfold nA;exact ad.eq (ag (show Fy n p.bb p.bb=aa ab from uJ h.1.1 O λx a=>ae9 O (h.1.2 x a)) (b1 (ag (show F6 n p.parts p.parts=aa ab from uJ h.2.1 O λx a=>ad5 b (h.2.2 x a)) (b1 (ad.some rfl)))))
theorem ED{n:Nat}(r:2000000<=n)(l:0<=k)(d:k<=1099511627776): ∃t,j3 n k=aa t:=by
 have:ad (j3 n k) (λ_=>True):=by
  unfold j3;refine aV (λ_=>ad.some trivial) λ_=>?_;refine ad.loop (λz:Int×List UInt8=> ∃j:Nat,z.2.length=j/\0<=z.1/\z.1<=1099511627776/\j<=13/\z.1<10^(13-j)) (λz=>14-z.2.length) ?_ n _ ⟨0,rfl,l,d,O,Int.lt_of_le_of_lt d (by decide)⟩ Z;rintro c ⟨s,w⟩ ⟨j,e,i,m,x,b⟩ o;dsimp only at e i b m⊢;refine aV (λhp=>?_) λ_=>ag (Qg cd) (ad.some trivial);have q:j<13:=by
   apply nV;intro h;rw[show 13-j=0 by omega] at b
   have:(10:Int)^0=1:=by decide
   omega
  refine ag (Qg cd) ?_;rw[Int.tdiv_eq_ediv_of_nonneg i,bf O];refine o _ ⟨j+1,by simp[e],Z,Z,O,?_⟩ cd;dsimp only;have a:(10:Int)^(13-j)=10^(13-(j+1))*10:=by rw[<-Int.pow_succ];congr 1;omega
  rw[a] at b;exact Int.ediv_lt_of_lt_mul (by decide) b
 obtain⟨t,h,_⟩:=this;exact⟨t,h⟩
def na(k:Int)(m:Nat):List Int:=(List.range m).map λi:Nat=>k+i
theorem rV(k:Int)(m:Nat):(na k m).length=m:=by simp[na]
theorem adU(h:i<m):(na k m)[i]? =aa (k+i):=by simp[na,h]
theorem ab3(k:Int)(m:Nat):na k (m+1)=na k m++[k+m]:=by simp[na,List.range_succ]
theorem EE{n:Nat}(m:2000000<=n){a:List Int}(o:a.length<=1048576)(q:0<=k)(r:k+a.length<=1099511627776):tB n a k=aa (k+a.length,na k a.length):=by
 unfold tB;refine ad.eq (ad.loop (λz:Int×List Int×Int=> ∃j:Nat,z.2.2=j/\j<=a.length/\z.1=k+j/\z.2.1=na k j++a.drop j) (λz=>a.length-z.2.2.toNat) ?_ n _ ⟨0,rfl,O,bl,by simp[na]⟩ Z);rintro d ⟨cA,l,i⟩ ⟨j,rfl,s,rfl,rfl⟩ h;dsimp only;have c:(na k j++a.drop j).length=a.length:=by simp[rV];omega
 refine aV (λb=>?_) λe=>?_
 ·have b:j<a.length:=by rw[c] at b;omega
  refine ag (bq (bD (show j<_ by rw[c];exact b))) (ag (dU (by rw[c];omega) _) ?_);rw[bf O,bf O,dh];refine h _ ⟨j+1,Z,O,Z,?_⟩ Z;dsimp only;rw[nd _ _ (by rw[rV];omega),rV,l6,km b,tV,ab3,hf];rfl
 have:j=a.length:=by rw[c] at e;omega
 subst this;exact ad.some bl
def mr{R:Type}(B:(Int×Int->Option Int)->R->Int->Int->Option Int)(k:Int)(y:R)(b:Int):Prop:= ∀(a:Int×Int->Option Int) (Q:Int->Prop) (j:Nat),j<=1048576->ad (a (b,(j:Int)+1)) Q->ad (B a y k j) Q
inductive jt {α:Type} (H:Int->α->Int->Prop):Int->List α->Int->Prop
 |nil (k:Int):jt H k [] k
 |cons {k cD gu:Int} {x:α} {l:List α} (h:H k x cD) (t:jt H cD l gu):jt H k (x::l) gu
theorem jt.snoc{H:Int->R->Int->Prop}{x:R}{l:List R}(t:jt H k l a)(h:H a x gu):jt H k (l++[x]) gu:=by
 induction t with
 |nil k=>exact .cons h (.nil _)
 |cons g _ b=>exact .cons g (b h)
theorem w5{B:(Int×Int->Option Int)->R->Int->Int->Option Int}{l:List R}{n:Nat}(s:2000000<=n)(w:l.length<=1048576)(b:jt (mr B) k l gu):
  bA (λa ((m,e):Int×Int)=>bif aj (e<(l.length:Int)) then(bI (aB l e) λo=>B a o m e) else(aa m)) n (k,0)=aa gu:=by
 refine ad.eq (ad.loop (λz:Int×Int=> ∃j:Nat,z.2=j/\j<=l.length/\jt (mr B) z.1 (l.drop j) gu) (λz=>l.length-z.2.toNat) ?_ n _ ⟨0,rfl,O,b⟩ Z);rintro c ⟨cA,i⟩ ⟨j,rfl,x,b⟩ q;dsimp only at b⊢;refine aV (λd=>?_) λr=>?_
 ·have d:j<l.length:=O
  refine ag (bq (bD d)) ?_;rw[km d] at b;cases b with
  |cons h t=>exact h c _ j O (q _ ⟨j+1,Z,O,t⟩ Z)
 rw[jN O] at b;cases b;exact ad.some rfl
theorem B0{n:Nat}(e:2000000<=n)(l:m<=1048576)(o:0<=k)(q:k+m<=1099511627776):nB n (na k m) k=aa (k+m):=by unfold nB;refine ad.eq (ad.loop (λz:Int×Int=> ∃j:Nat,z.2=j/\j<=m/\z.1=k+j) (λz=>m-z.2.toNat) ?_ n _ ⟨0,rfl,O,bl⟩ Z);rintro a ⟨cA,i⟩ ⟨j,rfl,r,rfl⟩ b;dsimp only;rw[rV];refine aV (λc=>?_) λd=>ad.some (O:k+(j:Int)=k+(m:Int));refine ag (bq (adU O)) (dV (λh=>br rfl h) λ_=>?_);rw[bf O,bf O];exact b _ ⟨j+1,Z,O,Z⟩ Z
def Ru(n:Nat)(a:Int×Int->Option Int)(b:cC)(c e:Int):Option Int:=bI (j3 n c) λh=>bif !decide (b.name=h) then aa (-1) else(bI (nB n b.b8 (wr (c+1))) λd=>bif aj (d<0) then aa (-1) else(a (d,wr (e+1))))
theorem afD{n:Nat}(a:2000000<=n)(l:List cC)(k gu:Int)(b:l.length<=1048576)(c:jt (mr (Ru n)) k l gu):wi n l k=aa gu:=by unfold wi;exact w5 a b c
def Rq(n:Nat)(a:Int×Int->Option Int)(c:aE)(d e:Int):Option Int:=bI (nB n c.aK d) λb=>bif aj (b<0) then aa (-1) else(bif !decide (c.const=b) then aa (-1) else(a (wr (b+1),wr (e+1))))
theorem afE{n:Nat}(a:2000000<=n)(l:List aE)(k gu:Int)(b:l.length<=1048576)(c:jt (mr (Rq n)) k l gu):kD n l k=aa gu:=by unfold kD;exact w5 a b c
def Rs(n:Nat)(a:Int×Int->Option Int)(b:Loop)(e h:Int):Option Int:=bI (kD n b.bo e) λc=>bif aj (c<0) then aa (-1) else(bI (kD n b.aL c) λd=>bif aj (d<0) then aa (-1) else(a (d,wr (h+1))))
theorem ae4{n:Nat}(a:2000000<=n)(l:List Loop)(k gu:Int)(b:l.length<=1048576)(c:jt (mr (Rs n)) k l gu):tw n l k=aa gu:=by unfold tw;exact w5 a b c
def Rr(n:Nat)(a:Int×Int->Option Int)(b:Expr)(d i:Int):Option Int:=bif !decide (b.kind=d) then aa (-1) else(bif !decide (b.num=wr (d+1)) then aa (-1) else(bI (nB n b.index.aK (wr ((wr (d+1))+1))) λc=>bif aj (c<0) then aa (-1) else(bif !decide (b.index.const=c) then aa (-1) else(bI (j3 n (wr (c+1))) λk=>bif !decide (b.read.array=k) then aa (-1) else(bI (kD n b.read.a7 (wr ((wr (c+1))+1))) λe=>bif aj (e<0) then aa (-1) else(bI (ng n b.a1 e) λh=>bif aj (h<0) then aa (-1) else(a (h,wr (i+1)))))))))
theorem PR{n:Nat}(a:2000000<=n)(l:List Expr)(k gu:Int)(b:l.length<=1048576)(c:jt (mr (Rr n)) k l gu):ng (n+1) l k=aa gu:=by rw[ng.eq_def];exact w5 a b c
def Rv(n:Nat)(a:Int×Int->Option Int)(b:Stmt)(h k:Int):Option Int:=bI (j3 n h) λl=>bif !decide (b.write.array=l) then aa (-1) else(bI (kD n b.write.a7 (wr (h+1))) λd=>bif aj (d<0) then aa (-1) else(bif !decide (b.value.kind=d) then aa (-1) else(bif !decide (b.value.num=wr (d+1)) then aa (-1) else(bI (nB n b.value.index.aK (wr ((wr (d+1))+1))) λe=>bif aj (e<0) then aa (-1) else(bif !decide (b.value.index.const=e) then aa (-1) else(bI (j3 n (wr (e+1))) λm=>bif !decide (b.value.read.array=m) then aa (-1) else(bI (kD n b.value.read.a7 (wr ((wr (e+1))+1))) λi=>bif aj (i<0) then aa (-1) else(bI (ng n b.value.a1 i) λc=>bif aj (c<0) then aa (-1) else(a (c,wr (k+1)))))))))))
theorem ae2{n:Nat}(a:2000000<=n)(l:List Stmt)(k gu:Int)(b:l.length<=1048576)(c:jt (mr (Rv n)) k l gu):tv n l k=aa gu:=by unfold tv;exact w5 a b c
def Rt(n:Nat)(a:Int×Int->Option Int)(b:Part)(e h:Int):Option Int:=bI (tw n b.nest e) λc=>bif aj (c<0) then aa (-1) else(bI (tv n b.body c) λd=>bif aj (d<0) then aa (-1) else(a (d,wr (h+1))))
theorem ae3{n:Nat}(a:2000000<=n)(l:List Part)(k gu:Int)(b:l.length<=1048576)(c:jt (mr (Rt n)) k l gu):wv n l k=aa gu:=by unfold wv;exact w5 a b c
theorem r8{B:(Int×Int->Option Int)->R->Int->Int->Option Int}{Hh:List R->Int->Option Int}{a:List R}{n:Nat}{c:R->Nat}{F:(Int×List R×Int->Option (Int×List R))->Int×List R×Int->Option (Int×List R)}(K: ∀(l:List R) (k d:Int),l.length<=1048576->jt (mr B) k l d->Hh l k=aa d)(M:2000000<=n)(L:a.length<=1048576)(N:0<=k)(W:k+5*(e7 c a:Nat)<=1099511627776)
  (X: ∀(Q:Int×List R->Prop) (b:Int×List R×Int->Option (Int×List R)) (e:Int) (l:List R) (j:Nat) (x:R),l[j]? =aa x->x∈a->j<l.length->j<=1048576->0<=e->e+5*(1+c x:Nat)<=1099511627776->
   (∀(d:Int) (y:R),e<=d->d<=e+5*(1+c x:Nat)->mr B e y d->ad (b (d,l.set j y,(j:Int)+1)) Q)->ad (F b (e,l,j)) Q)
  (f: ∀(b:Int×List R×Int->Option (Int×List R)) (e:Int) (l:List R),F b (e,l,l.length)=aa (e,l)):
  ∃r,bA F n (k,a,0)=aa r/\k<=r.1/\r.1<=k+5*(e7 c a:Nat)/\r.2.length=a.length/\
   Hh r.2 k=aa r.1:=by
 suffices H:ad (bA F n (k,a,0)) (λr=>k<=r.1/\r.1<=k+5*(e7 c a:Nat)/\r.2.length=a.length/\jt (mr B) k r.2 r.1) by
  obtain⟨r,m,g,t,D,u⟩:=H;exact⟨r,m,g,t,D,K _ _ _ (by rw[D];exact L) u⟩
 refine ad.loop (λz:Int×List R×Int=> ∃j:Nat,z.2.2=j/\j<=a.length/\z.2.1.length=a.length/\z.2.1.drop j=a.drop j/\k<=z.1/\z.1<=k+5*(j+((a.take j).map c).sum:Nat)/\jt (mr B) k (z.2.1.take j) z.1) (λz=>a.length-z.2.2.toNat) ?_ n _ ⟨0,rfl,O,rfl,rfl,hA _,bl,.nil _⟩ Z;rintro b ⟨cA,l,i⟩ ⟨j,rfl,P,s,w,G,v,o⟩ E;dsimp only at s w G v o;have h: ∀i,((a.take i).map c).sum<=(a.map c).sum:=λi=>by
  have:=congrArg (λl=>(l.map c).sum) (ua i a);simp only[List.map_append,List.sum_append] at this;omega
 by_cases A:j<a.length
 ·have q:=bD A;generalize a[j]=x at q;have C:l[j]? =aa x:=by
   have m:(l.drop j)[0]? =(a.drop j)[0]? :=by rw[w]
   rw[fv,fv] at m;simp only[Nat.add_zero] at m;rw[m];exact q
  have hs:=Nf c q;have S:=h (j+1);unfold e7 at W;refine X _ b cA l j x C (bX q) O O O O λd y T U I=>?_;refine E _ ⟨j+1,Z,O,by simpa using s,?_,Z,by dsimp only;rw[hs];omega,?_⟩ Z;rotate_left
  ·dsimp only;rw[fQ (ia O),List.take_set_of_le (df _)];exact o.snoc I
  dsimp only;rw[o5 O]
  have:=congrArg (List.drop 1) w;simpa[List.drop_drop,Nat.add_comm] using this
 have:j=l.length:=O
 subst this;rw[f];rw[eb] at o;refine ad.some ⟨G,?_,s,o⟩
 have:=h l.length;dsimp only;unfold e7;omega
theorem aft{n:Nat}(c:2000000<=n){a:List cC}(q:a.length<=1048576)(d: ∀x∈a,pe 1048576 x)(s:0<=k)(w:k+5*(e7 tt a:Nat)<=1099511627776):
  ∃r,D9 n a k=aa r/\k<=r.1/\r.1<=k+5*(e7 tt a:Nat)/\r.2.length=a.length/\wi n r.2 k=aa r.1:=by
 unfold D9;refine r8 (Hh:=wi n) (afD O) c q s w (λQ b e l j x y i z A B C m=>?_) λb e l=>by dsimp only;rw[bR O];rfl
 dsimp only;refine aV (λ_=>?_) λh=>br z O;unfold tt at C m;obtain⟨t,o⟩:=ED c B O;refine ag (bq y) (ag o ?_);rw[bf O,bf O];refine ag (EE c (d x i).2 O O) (ag (gA (rV _ _)) (ag (dU O _) ?_));rw[dh];refine m _ _ O O λF Q j A D=>?_;unfold Ru;refine ag o (dV (λh=>br rfl h) λ_=>?_);rw[bf (n:=e+1) O];refine ag (B0 c (d x i).2 O O) (aV (λh=>br h O) λ_=>?_);rw[bf O];exact D
theorem ye{n:Nat}(c:2000000<=n){a:List aE}(d:kv 1048576 a)(o:0<=k)(q:k+5*(e7 lS a:Nat)<=1099511627776):
  ∃r,qZ n a k=aa r/\k<=r.1/\r.1<=k+5*(e7 lS a:Nat)/\r.2.length=a.length/\kD n r.2 k=aa r.1:=by
 unfold qZ;refine r8 (Hh:=kD n) (afE O) c d.1 o q (λQ b s l j x w e y z i A m=>?_) λb s l=>by dsimp only;rw[bR O];rfl
 dsimp only;refine aV (λ_=>?_) λh=>br y O;unfold lS at A m;refine ag (bq w) (ag (EE c (d.2 x e) i O) (ag (gA (rV _ _)) (ag (dU O _) ?_)));rw[bf Z,bf O,dh];refine m _ _ Z Z λC Q j z B=>?_;unfold Rq;refine ag (B0 c (d.2 x e) i O) (aV (λh=>br h O) λ_=>dV (λh=>br rfl h) λ_=>?_);rw[bf O,bf O];exact B
theorem aev{n:Nat}(c:2000000<=n){a:List Loop}(m:a.length<=1048576)(d: ∀x∈a,od 1048576 x)(o:0<=k)(q:k+5*(e7 rm a:Nat)<=1099511627776):
  ∃r,Ez n a k=aa r/\k<=r.1/\r.1<=k+5*(e7 rm a:Nat)/\r.2.length=a.length/\tw n r.2 k=aa r.1:=by
 unfold Ez;refine r8 (Hh:=tw n) (ae4 O) c m o q (λQ b s l j x w e y z A B i=>?_) λb s l=>by dsimp only;rw[bR O];rfl
 dsimp only;refine aV (λ_=>?_) λh=>br y O;unfold rm at B i;obtain⟨C,D,W,X,F,G⟩:=ye c (d x e).1 A O;obtain⟨f,H,g,t,K,L⟩:=ye c (d x e).2 (k:=C.1) O O;refine ag (bq w) (ag D (ag (gA F) (ag H (ag (gA K) (ag (dU O _) ?_)))));rw[bf O,dh];refine i _ _ O O λu Q j z R=>?_;unfold Rs;refine ag G (aV (λh=>br h O) λ_=>ag L (aV (λh=>br h O) λ_=>?_));rw[bf O];exact R
theorem OO: ∀(m n:Nat) {a:List Expr},2000001+m<=n->a.length<=1048576->(∀x∈a,iM 1048576 m x)-> ∀{k:Int},0<=k->k+5*(e7 (nK m) a:Nat)<=1099511627776->
  ∃r,rT n a k=aa r/\k<=r.1/\r.1<=k+5*(e7 (nK m) a:Nat)/\r.2.length=a.length/\ng n r.2 k=aa r.1
 |0,n,a,ca,i,o,k,q,s=>by
  obtain⟨n,rfl⟩: ∃j,n=j+1:=⟨n-1,O⟩
  rw[rT.eq_def];dsimp only;exact r8 (Hh:=ng (n+1)) (PR O) O i q s (λQ b c l j x z w A B F y e=>(o x w).elim) (λb c l=>by dsimp only;rw[bR O];rfl)
 |m+1,n,a,ca,i,o,k,q,s=>by
  obtain⟨n,rfl⟩: ∃j,n=j+1:=⟨n-1,O⟩
  have d:2000000<=n:=O
  rw[rT.eq_def];dsimp only;refine r8 (Hh:=ng (n+1)) (PR O) O i q s (λQ b c l j x z w A B F y e=>?_) λb c l=>by dsimp only;rw[bR O];rfl
  dsimp only;refine aV (λ_=>?_) λh=>br A O;obtain⟨C,G,H,K⟩:=o x w;unfold nK lS tq at y e;refine ag (bq z) ?_;rw[bf (n:=c+1) O,bf (n:=c+1+1) O];refine ag (EE d C O O) (ag (gA (rV _ _)) ?_);dsimp only;generalize L:x.index.aK.length=u at y e;rw[bf (n:=c+1+1+(u:Int)+1) O];obtain⟨t,D⟩:=ED d (k:=c+1+1+(u:Int)+1) O O;refine ag D ?_;rw[bf (n:=c+1+1+(u:Int)+1+1) O];obtain⟨R,W,M,N,X,f⟩:=ye d G.2 (k:=c+1+1+(u:Int)+1+1) O O;obtain⟨P,g,S,T,v,E⟩:=OO m n O H K (k:=R.1) O O;refine ag W (ag (gA X) (ag g (ag (gA v) (ag (dU O _) ?_))));rw[bf O,dh];refine e _ _ O O λU Q j B I=>?_;unfold Rr e8;refine dV (λh=>br rfl h) λ_=>?_;rw[bf (n:=c+1) O];refine dV (λh=>br rfl h) λ_=>?_;rw[bf (n:=c+1+1) O];refine ag (B0 d (L▸C) O O) (aV (λh=>br h O) λ_=>dV (λh=>br rfl h) λ_=>?_);rw[bf (n:=c+1+1+(u:Int)+1) O];refine ag D (dV (λh=>br rfl h) λ_=>?_);rw[bf (n:=c+1+1+(u:Int)+1+1) O];refine ag f (aV (λh=>br h O) λ_=>ag E (aV (λh=>br h O) λ_=>?_));rw[bf O];exact I
theorem aet{n:Nat}(Y:2000001+m<=n){a:List Stmt}(z:a.length<=1048576)(A: ∀x∈a,oe 1048576 m x)(B:0<=k)(C:k+5*(e7 (rq m) a:Nat)<=1099511627776):
  ∃r,Ey n a k=aa r/\k<=r.1/\r.1<=k+5*(e7 (rq m) a:Nat)/\r.2.length=a.length/\tv n r.2 k=aa r.1:=by
 have b:2000000<=n:=O
 unfold Ey;refine r8 (Hh:=tv n) (ae2 O) b z B C (λQ d i l j x D F G H K q o=>?_) λd i l=>by dsimp only;rw[bR O];rfl
 dsimp only;refine aV (λ_=>?_) λh=>br G O;obtain⟨L,s⟩:=A x F;cases m with
 |zero=>exact s.elim
 |succ m=>
  obtain⟨w,R,W,X⟩:=s;unfold rq nK lS tq at q o;obtain⟨t,y⟩:=ED b K O;refine ag (bq D) (ag y ?_);rw[bf (n:=i+1) O];obtain⟨c,f,c1,c2,g,v⟩:=ye b L.2 (k:=i+1) O O;refine ag f (ag (gA g) ?_);rw[bf (n:=c.1+1) O,bf (n:=c.1+1+1) O];refine ag (EE b w O O) (ag (gA (rV _ _)) ?_);dsimp only;generalize E:x.value.index.aK.length=u at q o;rw[bf (n:=c.1+1+1+(u:Int)+1) O];obtain⟨t2,e⟩:=ED b (k:=c.1+1+1+(u:Int)+1) O O;refine ag e ?_;rw[bf (n:=c.1+1+1+(u:Int)+1+1) O];obtain⟨I,M,dm,cM,N,P⟩:=ye b R.2 (k:=c.1+1+1+(u:Int)+1+1) O O;obtain⟨Sp,S,d1,d2,T,U⟩:=OO m n O W X (k:=I.1) O O;refine ag M (ag (gA N) (ag S (ag (gA T) (ag (dU O _) ?_))));rw[bf O,dh];refine o _ _ O O λak' Q j H V=>?_;unfold Rv ez e8;refine ag y (dV (λh=>br rfl h) λ_=>?_);rw[bf (n:=i+1) O];refine ag v (aV (λh=>br h O) λ_=>?_);refine dV (λh=>br rfl h) λ_=>?_;rw[bf (n:=c.1+1) O];refine dV (λh=>br rfl h) λ_=>?_;rw[bf (n:=c.1+1+1) O];refine ag (B0 b (E▸w) O O) (aV (λh=>br h O) λ_=>dV (λh=>br rfl h) λ_=>?_);rw[bf (n:=c.1+1+1+(u:Int)+1) O];refine ag e (dV (λh=>br rfl h) λ_=>?_);rw[bf (n:=c.1+1+1+(u:Int)+1+1) O];refine ag P (aV (λh=>br h O) λ_=>ag U (aV (λh=>br h O) λ_=>?_));rw[bf O];exact V
theorem aeu{n:Nat}(i:2000001+m<=n){a:List Part}(o:a.length<=1048576)(c: ∀x∈a,sf 1048576 m x)(q:0<=k)(s:k+5*(e7 (ts m) a:Nat)<=1099511627776):
  ∃r,zz n a k=aa r/\k<=r.1/\r.1<=k+5*(e7 (ts m) a:Nat)/\r.2.length=a.length/\wv n r.2 k=aa r.1:=by
 unfold zz;refine r8 (Hh:=wv n) (ae3 O) O o q s (λQ b w l j x y d z A B C e=>?_) λb w l=>by dsimp only;rw[bR O];rfl
 dsimp only;refine aV (λ_=>?_) λh=>br z O;unfold ts at C e;obtain⟨D,F,X,f,G,H⟩:=aev (n:=n) O (c x d).1.1 (c x d).1.2 B O;obtain⟨g,K,t,u,L,R⟩:=aet i (c x d).2.1 (c x d).2.2 (k:=D.1) O O;refine ag (bq y) (ag F (ag (gA G) (ag K (ag (gA L) (ag (dU O _) ?_)))));rw[bf O,dh];refine e _ _ O O λv Q j A W=>?_;unfold Rt;refine ag H (aV (λh=>br h O) λ_=>ag R (aV (λh=>br h O) λ_=>?_));rw[bf O];exact W
theorem PU{n:Nat}(c:2000001+m<=n){p:Prog}(h:iN 1048576 m p)(d:0<=k)(e:k+5*(tr m p:Nat)<=1099511627776): ∃r,tk n p k=aa r/\k<=r.1/\r.1<=k+5*(tr m p:Nat)/\r.2.1.length=p.bb.length/\r.2.2.length=p.parts.length/\tj n ⟨r.2.1,r.2.2⟩ k=aa r.1:=by
 unfold tr at e;obtain⟨a,i,x,y,l,o⟩:=aft (n:=n) O h.1.1 h.1.2 d O;obtain⟨b,q,z,A,s,w⟩:=aeu c h.2.1 h.2.2 (k:=a.1) O O;refine⟨(b.1,a.2,b.2),?_,Z,by dsimp only;unfold tr;omega,l,s,?_⟩;rotate_left
 ·unfold tj;exact ad.eq (ag o (aV (λh=>br h O) λ_=>ag w (aV (λh=>br h O) λ_=>ad.some rfl)))
 unfold tk;rw[i];show bI (zz n p.parts a.1) _=_;rw[q];rfl
def Ib(n:Nat)(e:Prog)(S I:Prog->Option (Prog×Bool)):Option Bool:=(
 bI (Ex n e 1048576) λA=>
 bif aj (A<0) then(
  aa ab
 ) else(
  bI (nz n e) λB=>
  bI (S B) λd=>
  bI (nz n e) λm=>
  bI (I m) λb=>
  aQ (fun(C:Bool)=>
   bif C then(
    aa al
   ) else(
    bI (nz n e) λD=>
    bI (nA n m D) λo=>
    bif !o then(
     aa al
    ) else(
     bI (tk n m 1) λq=>
     aQ (fun(r:Bool)=>
      bif r then(
       aa al
      ) else(
       bI (tk n b.1 1) λa=>
       bI (e6 b.1.bb a.2.1) λ_=>
       bI (e6 b.1.parts a.2.2) λ_=>
       bI (tj n (⟨a.2.1,a.2.2⟩:Prog) 1) λh=>
       bif aj (h<0) then(
        aa al
       ) else(
        bif !decide (h=a.1) then(
         aa al
        ) else(
         bI (nz n e) λs=>
         bI (I s) λi=>
         aQ (fun(w:Bool)=>
          bif w then(
           aa al
          ) else(
           bI (tj n (⟨a.2.1,a.2.2⟩:Prog) 1) λk=>
           bif aj (k<0) then(
            aa al
           ) else(
            bif !decide (k=a.1) then(
             aa al
            ) else(
             aa ab
            )
           )
          )
         ) (λl=>
          bI (nA n i.1 d.1) λx=>
          bif !x then(
           l ab
          ) else(
           l (!(i.2==d.2))
          )
         )
        )
       )
      )
     ) (λc=>
      bif aj (q.1<0) then(
       c ab
      ) else(
       bI (nA n b.1 d.1) λy=>
       bif !y then(
        c ab
       ) else(
        c (!(b.2==d.2))
       )
      )
     )
    )
   )
  ) (λz=>
   bI (nA n b.1 d.1) λF=>
   bif !F then(
    z ab
   ) else(
    z (!(b.2==d.2))
   )
  )
 ))
theorem Qx{a:aE}(h:de a=ab):jT 4 a:=by have:=(fS h).1;unfold jT;omega
theorem HP(d:l.length<=2)(b: ∀x∈l,de x=ab):kv 4 l:=⟨O,λa c=>Qx (b a c)⟩
theorem Qy{s:List UInt8}(h:nX s=ab):s.length<=4:=by
 by_cases a:s.length=1
 ·omega
 rw[Au a] at h;cases h
theorem Qw{a:cx}{d:Int}(h:fU a d=ab):oc 4 a:=⟨Qy (by simp only[fU,cB] at h;exact h.2.1),HP (me h).2.1 (me h).2.2⟩
theorem Qv{d:Int}: ∀{L:Nat} {e:Expr},dF L e d=ab->iM 4 L e
 |0,_,h=>by cases h
 |L+1,e,h=>by
  obtain⟨i,c6,l⟩:=hl h
  have:=oX e.kind;refine⟨?_,?_,O,λk i=>Qv (l k i)⟩
  ·by_cases a:e.kind=2
   ·exact Qx (o8 c6 a).1
   by_cases b:e.kind=3
   ·rw[p0 (o' c6 b).2];unfold jT;simp
   rw[p0 (sk c6 a b).1];unfold jT;simp
  by_cases b:e.kind=3
  ·exact Qw (o' c6 b).1
  by_cases a:e.kind=2
  ·rw[p1 (o8 c6 a).2];exact⟨bl,bl,λx c=>by cases c⟩
  rw[p1 (sk c6 a b).2];exact⟨bl,bl,λx c=>by cases c⟩
theorem afK{p:Prog}(h:b9 p=ab):iN 4 5 p:=by
 have k:iV p.bb=ab:=by
  simp only[b9,jJ,cB] at h;exact h.1.1
 obtain⟨o,q,r,m,_⟩:=ep h;refine⟨⟨o,λx c=>⟨?_,?_⟩⟩,r,λx c=>?_⟩
 ·obtain⟨i,w⟩:=kT c
  have:=FE (show uG (mv p.bb) p.bb=ab by simp only[iV,cB] at k;exact k.1) w;simp only[mv,cB] at this;exact Qy this.1
 ·have:=q x c;simp only[m9,cB,decide_eq_true_eq] at this;omega
 obtain⟨y,d⟩:=h8 (m x c);obtain⟨_,z,A,_⟩:=gr (m x c);exact⟨⟨y,λl e=>⟨HP (d l e).1.1 (d l e).1.2,HP (d l e).2.1 (d l e).2.2⟩⟩,z.2,λs B=>by obtain⟨a,b,_⟩:=kd (A s B);exact⟨Qw a,Qv b⟩⟩
theorem Qt(h:B<=C){a:aE}(k:jT B a):jT C a:=eO k h
theorem Ij(h:B<=C)(k:kv B l):kv C l:=⟨eO k.1 h,λa b=>Qt h (k.2 a b)⟩
theorem Qs(h:B<=C){a:cx}(k:oc B a):oc C a:=⟨eO k.1 h,Ij h k.2⟩
theorem P6{B C:Nat}(h:B<=C): ∀{m:Nat} {e:Expr},iM B m e->iM C m e
 |0,_,k=>k.elim
 |m+1,e,⟨a,b,c,d⟩=>⟨Qt h a,Qs h b,eO c h,λk i=>P6 h (d k i)⟩
theorem Uu(h:B<=C){p:Prog}(k:iN B m p):iN C m p:=⟨⟨eO k.1.1 h,λx e=>⟨eO (k.1.2 x e).1 h,eO (k.1.2 x e).2 h⟩⟩,eO k.2.1 h,λx e=>by obtain⟨⟨a,b⟩,c,d⟩:=k.2.2 x e;exact⟨⟨eO a h,λl i=>⟨Ij h (b l i).1,Ij h (b l i).2⟩⟩,eO c h,λs o=>⟨Qs h (d s o).1,P6 h (d s o).2⟩⟩⟩
theorem uZ{k:Type}{c:k->Nat}: ∀{l:List k},l.length<=4->(∀x∈l,c x<=C)->e7 c l<=4+4*C:=by
 intro l d e
 have: ∀l:List k,(∀x∈l,c x<=C)->(l.map c).sum<=l.length*C:=by
  intro l;induction l with
  |nil=>intro _;simp
  |cons x l i=>
   intro h;have a:=h x fh;have b:=i λy m=>h y (eW _ m);simp only[List.map_cons,List.sum_cons,List.length_cons,Nat.add_mul];omega
 have o:=this l e;have q:l.length*C<=4*C:=dR _ d;unfold e7;omega
theorem CM(h:kv 4 l):e7 lS l<=20:=uZ (C:=4) h.1 h.2
theorem QD: ∀{m:Nat} {e:Expr},iM 4 m e->nK m e<=100*5^m
 |0,_,h=>h.elim
 |m+1,e,⟨a,b,c,d⟩=>by have l:=CM b.2;have o:e7 (nK m) e.a1<=4+4*(100*5^m):=uZ c λk i=>QD (d k i);have q:0<5^m:=Nat.pow_pos O;have r:lS e.index<=4:=a;unfold nK tq;rw[Nat.pow_succ];omega
theorem afy{p:Prog}(h:iN 4 5 p):tr 5 p<=1000000000:=by
 have o:=uZ (c:=tt) (C:=4) h.1.1 λx i=>(h.1.2 x i).2;have q:=uZ (c:=ts 5) (C:=4+4*40+(4+4*312520)) h.2.1 (λx i=>by
  obtain⟨⟨a,b⟩,c,d⟩:=h.2.2 x i;have r:=uZ (c:=rm) (C:=40) a (λl k=>by
   have:=CM (b l k).1
   have:=CM (b l k).2;unfold rm;omega)
  have w:=uZ (c:=rq 5) (C:=312520) c (λs m=>by
   have:=CM (d s m).1.2
   have:=QD (d s m).2;have e:100*5^5=312500:=by decide
   unfold rq tq;omega)
  unfold ts;omega)
 unfold tr;omega
theorem Uf{n:Nat}{e:Expr}(q:6600000+m<=n)(h:iM 1048576 m e):o2 n e=aa e:=by
 obtain⟨n,rfl⟩: ∃j,n=j+1:=⟨n-1,O⟩
 have: ∀{m:Nat} {e:Expr},iM 1048576 m e->kr 1100000 m e:=by
  intro m;induction m with
  |zero=>intro e h;exact h.elim
  |succ m i=>
   rintro e ⟨a,b,c,d⟩;exact⟨O,eO a O,⟨eO b.2.1 O,λx l=>eO (b.2.2 x l) O⟩,λk o=>i (d k o)⟩
 exact FD m n e O (this h)
theorem Ue{n:Nat}(r:6600000+m<=n){p:Prog}(h:iN 1048576 m p):jf n p=aa p:=by
 obtain⟨⟨D,w⟩,F,y⟩:=h;have k: ∀{l:List aE},kv 1048576 l->sO n l=aa l:=λh=>As O ⟨eO h.1 O,λx o=>eO (h.2 x o) O⟩;have z:vk n p.bb=aa p.bb:=by
  unfold vk;refine ad.eq (mM (K:=λe=>aa e) (λl i=>?_) O O (ad.some rfl));unfold DV;rw[mB _ (by have:=(w l i).2;omega)];rfl
 have A:vo n p.parts=aa p.parts:=by
  unfold vo;refine ad.eq (mM (K:=λe=>aa e) (λx o=>?_) O O (ad.some rfl));obtain⟨⟨a,b⟩,c,d⟩:=y x o;have B:vp n x.nest=aa x.nest:=by
   unfold vp;refine ad.eq (mM (K:=λe=>aa e) (λl i=>?_) O O (ad.some rfl));unfold D';rw[k (b l i).1,k (b l i).2];rfl
  have C:vn n x.body=aa x.body:=by
   unfold vn;refine ad.eq (mM (K:=λe=>aa e) (λs q=>?_) O O (ad.some rfl));have g:tg n s.write=aa s.write:=by
    unfold tg;rw[k (d s q).1.2];rfl
   unfold zm;rw[g,Uf r (d s q).2];rfl
  unfold zn;rw[B,C];rfl
 unfold jf;rw[z,A];rfl
theorem rz{n:Nat}(c:7700000<=n){p:Prog}(d:jw p)(e:b9 p=al)(a b:Int):iv n p a b=aa (⟨[],[]⟩,al):=by unfold iv;refine ad.eq (ad.aQ (λz=>z=ab) (λj h=>ag (d0 c d) ?_) λz i=>by subst i;exact bW (ad.some rfl));rw[e];exact bW (h _ rfl)
theorem uA{n:Nat}(c:7700000<=n){p:Prog}(d:jw p)(e:b9 p=al)(a b:Int):lT n p a b=aa al:=by unfold lT;refine ad.eq (ad.aQ (λz=>z=al) (λj h=>ag (iO c d) ?_) λz i=>ad.some i);rw[e];exact b1 (h _ rfl)
def AF(r:Prog×Bool):Prop:=r=(⟨[],[]⟩,al)\/ ∃q,r=hc q
theorem AF.St(h:AF r):iN 4 5 r.1:=by
 have b:iN 4 5 ⟨[],[]⟩:=⟨⟨bl,λx a=>by cases a⟩,bl,λx a=>by cases a⟩
 rcases h with rfl|⟨q,rfl⟩
 ·exact b
 unfold hc;split
 ·rename_i bx;exact afK bx
 exact b
theorem My{n:Nat}(K:20000001+m<=n){p:Prog}(x:iN 9223372036854775807 m p){S I:Prog->Option (Prog×Bool)}{G:Prog×Bool}(i:AF G)(y:iN 1048576 m p->S p=aa G)(A:iN 1048576 m p->I p=aa G):Ib n p S I=aa ab:=by
 have s:=Uu (C:=1048576) O i.St;have B:=afy i.St;obtain⟨r,e,i⟩:=adH (n:=n) O x 1048576 O O;unfold Ib;refine ad.eq (ag e ?_);rcases i with rfl|⟨L,Q,b⟩
 ·exact aV (λ_=>ad.some rfl) λh=>br h (by decide)
 have l:=adE (n:=n) O b;have hs:=y b;have aL:=A b;obtain⟨q,o,R,W,_,_,_⟩:=PU (n:=n) (m:=m) O b (k:=1) O O;obtain⟨u,D,X,f,F,H,w⟩:=PU (n:=n) (m:=5) O s (k:=1) O O;have a:=PD (n:=n) (m:=5) O s;refine aV (λh=>br h O) λ_=>ag l (ag hs (ag l (ag aL ?_)));refine ad.aQ (λz=>z=al) (λj c=>ag a (b1 (c _ bl))) λz d=>?_;subst d;refine b1 (ag l (ag (PD O b) (b1 (ag o ?_))));refine ad.aQ (λz=>z=al) (λj c=>aV (λh=>br h O) λ_=>ag a (b1 (c _ bl))) λz d=>?_;subst d;refine b1 (ag D (ag (gA F) (ag (gA H) (ag w (aV (λh=>br h O) λ_=>dV (λh=>br rfl h) λ_=>ag l (ag aL ?_))))));refine ad.aQ (λz=>z=al) (λj c=>ag a (b1 (c _ bl))) λz d=>?_;subst d;exact b1 (ag w (aV (λh=>br h O) λ_=>dV (λh=>br rfl h) λ_=>ad.some rfl))
section
variable {n:Nat}(ca:7810000<=n){p:Prog}(hp:jw p)(bx:b9 p=al)
include ca hp bx
theorem aaI(a b:Int):wc n p a b=aa dq:=by unfold wc;exact ad.eq (ag (rz O hp bx _ _) (b1 (ad.some rfl)))
theorem aaL(a b:Int):wb n p a b=aa dq:=by unfold wb;exact ad.eq (ag (rz O hp bx _ _) (b1 (ad.some rfl)))
theorem ZR(a b s:Int):wQ n p a b s=aa dq:=by unfold wQ;exact ad.eq (ag (rz O hp bx _ _) (b1 (ad.some rfl)))
theorem X0(a b s:Int):wH n p a b s=aa dq:=by unfold wH;exact ad.eq (ag (rz O hp bx _ _) (b1 (ad.some rfl)))
theorem XY(a b s:Int):wF n p a b s=aa dq:=by unfold wF;exact ad.eq (ag (rz O hp bx _ _) (b1 (ad.some rfl)))
theorem ZT(a:Int):pQ n p a=aa dq:=by unfold pQ;exact ad.eq (ag (rz O hp bx _ _) (b1 (ad.some rfl)))
theorem ZY(a s:Int):px n p a s=aa dq:=by unfold px;exact ad.eq (ag (rz O hp bx _ _) (b1 (ad.some rfl)))
theorem XZ(a s:Int):wG n p a s=aa dq:=by unfold wG;exact ad.eq (ag (rz O hp bx _ _) (b1 (ad.some rfl)))
omit ca hp in
theorem Py(a b:Int):iL p a b=al:=by
 cases c:iL p a b with
 |false=>rfl
 |true=>have:=(pb c).1;rw[bx] at this;cases this
theorem ZK(a:Int):i8 n p a=aa dq:=by unfold i8;refine ad.eq (ad.aQ (λz=>z=ab) (λj b=>aV (λh=>b _ rfl) λh=>aV (λc=>b _ rfl) λc=>ag (N8 O hp _ _) (b _ (by rw[Py bx];rfl))) λz d=>by subst d;exact bW (ad.some rfl))
theorem ZW(a:Int):pV n p a=aa dq:=by unfold pV;refine ad.eq (ag (tz O hp) ?_);rw[be (by rw[bx];simp)];exact b1 (ad.aQ (λz=>z=ab) (λj b=>bW (b _ rfl)) λz c=>by subst c;exact bW (ad.some rfl))
theorem ZV:we n p=aa dq:=by unfold we;refine ad.eq (ag (d0 O hp) ?_);rw[bx];exact bW (ad.some rfl)
variable (c6:jf n p=aa p)
include c6
theorem aa4(a b:Int):vX n p a b=aa dq:=by unfold vX;exact ad.eq (ag c6 (ad.aQ (λz=>z=ab) (λj c=>ag (uA O hp bx _ _) (bW (c _ rfl))) λz d=>by subst d;exact bW (ad.some rfl)))
theorem aa7(a b:Int):vW n p a b=aa dq:=by unfold vW;exact ad.eq (ag c6 (ag (uA O hp bx _ _) (bW (ad.some rfl))))
theorem Zp(a b s:Int):wK n p a b s=aa dq:=by unfold wK;exact ad.eq (ag c6 (ad.aQ (λz=>z=ab) (λj c=>ag (uA O hp bx _ _) (bW (c _ rfl))) λz d=>by subst d;exact bW (ad.some rfl)))
theorem X9(a b s:Int):wD n p a b s=aa dq:=by unfold wD;exact ad.eq (ag c6 (ad.aQ (λz=>z=ab) (λj c=>ag (uA O hp bx _ _) (bW (c _ rfl))) λz d=>by subst d;exact bW (ad.some rfl)))
theorem X7(a b s:Int):wz n p a b s=aa dq:=by unfold wz;exact ad.eq (ag c6 (ad.aQ (λz=>z=ab) (λj c=>ag (uA O hp bx _ _) (bW (c _ rfl))) λz d=>by subst d;exact bW (ad.some rfl)))
omit c6 in
theorem AL:lF n p=aa al:=by rw[iO O hp,bx]
theorem YU(a:Int):pM n p a=aa dq:=by unfold pM;exact ad.eq (ag c6 (ad.aQ (λz=>z=ab) (λj b=>ag (AL ca hp bx) (bW (b _ rfl))) λz c=>by subst c;exact bW (ad.some rfl)))
theorem YZ(a s:Int):pw n p a s=aa dq:=by unfold pw;exact ad.eq (ag c6 (ad.aQ (λz=>z=ab) (λj b=>ag (AL ca hp bx) (bW (b _ rfl))) λz c=>by subst c;exact bW (ad.some rfl)))
theorem X8(a s:Int):wC n p a s=aa dq:=by unfold wC;exact ad.eq (ag c6 (ag (uA O hp bx _ _) (bW (ad.some rfl))))
theorem Zi(a:Int):pL n p a=aa dq:=by unfold pL;refine ad.eq (ag c6 (ag (GN O hp _ _) ?_));rw[Py bx];exact bW (ad.some rfl)
theorem YX(a:Int):pT n p a=aa dq:=by unfold pT;exact ad.eq (ag c6 (ad.aQ (λz=>z=ab) (λj b=>ag (AL ca hp bx) (bW (b _ rfl))) λz c=>by subst c;exact bW (ad.some rfl)))
theorem YW:vY n p=aa dq:=by unfold vY;exact ad.eq (ag c6 (ag (AL ca hp bx) (bW (ad.some rfl))))
omit c6 in
theorem ZN(s:Step):oE n p s=aa dq:=by
 unfold oE;refine ad.eq (ag (Mu O s) ?_);cases o9 s with
 |false=>exact bW (ad.some rfl)
 |true=>exact b1 (aV (λ_=>ag (aaI ca hp bx _ _) (ad.some rfl)) λ_=>aV (λ_=>ag (aaL ca hp bx _ _) (ad.some rfl)) λ_=>aV (λ_=>ag (ZR ca hp bx _ _ _) (ad.some rfl)) λ_=>aV (λ_=>ag (X0 ca hp bx _ _ _) (ad.some rfl)) λ_=>aV (λ_=>ag (XY ca hp bx _ _ _) (ad.some rfl)) λ_=>aV (λ_=>ag (ZT ca hp bx _) (ad.some rfl)) λ_=>aV (λ_=>ag (ZY ca hp bx _ _) (ad.some rfl)) λ_=>aV (λ_=>ag (XZ ca hp bx _ _) (ad.some rfl)) λ_=>aV (λ_=>ag (ZK ca hp bx _) (ad.some rfl)) λ_=>aV (λ_=>ag (ZW ca hp bx _) (ad.some rfl)) λ_=>ag (ZV ca hp bx) (ad.some rfl))
theorem Zl(s:Step):rj n p s=aa dq:=by
 unfold rj;refine ad.eq (ag c6 (ag (Mi n s) ?_));cases o9 s with
 |false=>exact bW (ad.some rfl)
 |true=>exact b1 (aV (λ_=>ag (aa4 ca hp bx c6 _ _) (ad.some rfl)) λ_=>aV (λ_=>ag (aa7 ca hp bx c6 _ _) (ad.some rfl)) λ_=>aV (λ_=>ag (Zp ca hp bx c6 _ _ _) (ad.some rfl)) λ_=>aV (λ_=>ag (X9 ca hp bx c6 _ _ _) (ad.some rfl)) λ_=>aV (λ_=>ag (X7 ca hp bx c6 _ _ _) (ad.some rfl)) λ_=>aV (λ_=>ag (YU ca hp bx c6 _) (ad.some rfl)) λ_=>aV (λ_=>ag (YZ ca hp bx c6 _ _) (ad.some rfl)) λ_=>aV (λ_=>ag (X8 ca hp bx c6 _ _) (ad.some rfl)) λ_=>aV (λ_=>ag (Zi ca hp bx c6 _) (ad.some rfl)) λ_=>aV (λ_=>ag (YX ca hp bx c6 _) (ad.some rfl)) λ_=>ag (YW ca hp bx c6) (ad.some rfl))
end
theorem M0{p:Prog}(h: ¬(0<=a/\a<(p.parts.length:Int))):lv p a=dq:=by unfold lv;exact be λb=>h (pb b).2.1
theorem ZL{n:Nat}(d:7810000<=n){p:Prog}(b:b9 p=ab)(a:Int):i8 n p a=aa (lv p a):=by
 have k:=(ep b).2.2.1;by_cases h:0<=a/\a<(p.parts.length:Int)
 ·exact aaJ d ((gX b).mono O) ⟨O,O⟩
 rw[M0 h];unfold i8;exact ad.eq (ad.aQ (λz=>z=ab) (λj c=>aV (λh=>c _ rfl) λl=>aV (λe=>c _ rfl) λe=>br ⟨O,O⟩ h) λz i=>by subst i;exact bW (ad.some rfl))
theorem Zj{n:Nat}(c:7810000<=n){p:Prog}(b:b9 p=ab)(a:Int):pL n p a=aa (lv p a):=by
 have e:=(ep b).2.2.1;by_cases h:0<=a/\a<(p.parts.length:Int)
 ·exact aa5 c ((gX b).mono O) ⟨O,O⟩
 rw[M0 h];have hp:=(gX b).mono (O:4<=1100000);unfold pL;refine ad.eq (ag (jh O hp) (ag (GN O hp.sm _ _) ?_));cases d:iL p a (wr (a+1)) with
 |true=>exact br (pb d).2.1 h
 |false=>exact bW (ad.some rfl)
theorem M5{p:Prog}(h: ¬(0<=a/\a<(p.parts.length:Int))):mm p a=dq:=by unfold mm;exact be λb=>by simp only[cB] at b;exact h (e4 b.2.1)
theorem ZX{n:Nat}(c:7810000<=n){p:Prog}(b:b9 p=ab)(a:Int):pV n p a=aa (mm p a):=by
 have i:=(ep b).2.2.1;have hp:=(gX b).mono (O:4<=1100000);by_cases h:0<=a/\a<(p.parts.length:Int)
 ·exact aaN c hp ⟨O,O⟩
 rw[M5 h];unfold pV;refine ad.eq (ag (tz O hp.sm) ?_);rw[bg b];refine bW (ad.aQ (λz=>z=ab) (λj d=>b1 (ag (oT n hp.2.1 a) (d _ (by rw[bR h];rfl)))) λz e=>by subst e;exact bW (ad.some rfl))
theorem YY{n:Nat}(d:7810000<=n){p:Prog}(b:b9 p=ab)(a:Int):pT n p a=aa (mm p a):=by
 have i:=(ep b).2.2.1;have hp:=(gX b).mono (O:4<=1100000);by_cases h:0<=a/\a<(p.parts.length:Int)
 ·exact aa9 d hp ⟨O,O⟩
 rw[M5 h];unfold pT;refine ad.eq (ag (jh O hp) (ad.aQ (λz=>z=ab) (λj c=>?_) λz e=>by subst e;exact bW (ad.some rfl)));refine ag (iO O hp.sm) ?_;rw[b];exact b1 (aV (λ_=>c _ rfl) λk=>c _ (bS O))
theorem Ps{p:Prog}(h: ¬(0<=a/\a<(p.parts.length:Int))):eA p a=al:=bR h
theorem M'{n:Nat}(i:7700000<=n){p:Prog}(c:b9 p=ab)(h: ¬(0<=a/\a<(p.parts.length:Int)))(b:Int):iv n p a b=aa (⟨[],[]⟩,al):=by have hp:=(gX c).mono (O:4<=1100000);unfold iv;refine ad.eq (ad.aQ (λz=>z=ab) (λj d=>ag (d0 O hp.sm) ?_) λz e=>by subst e;exact bW (ad.some rfl));rw[c];refine b1 (ag (oT n hp.2.1 a) ?_);rw[bR h];exact bW (d _ rfl)
theorem Nn{p:Prog}(h: ¬(0<=a/\a<(p.parts.length:Int))):mj p a=dq:=by unfold mj;exact be λb=>by rw[Ps h] at b;cases b.2
theorem M7{p:Prog}(h: ¬(0<=a/\a<(p.parts.length:Int))):mn p a k=dq:=by unfold mn;exact be λb=>by rw[Ps h] at b;cases b.2
theorem ZU{n:Nat}(c:22000000<=n){p:Prog}(b:b9 p=ab)(a:Int):pQ n p a=aa (mj p a):=by
 have d:=(ep b).2.2.1;by_cases h:0<=a/\a<(p.parts.length:Int)
 ·exact aaM c ((gX b).mono O) ⟨O,O⟩
 rw[Nn h];unfold pQ;exact ad.eq (ag (M' O b h _) (b1 (ad.some rfl)))
theorem YV{n:Nat}(d:22000000<=n){p:Prog}(b:b9 p=ab)(a:Int):pM n p a=aa (mj p a):=by
 have i:=(ep b).2.2.1;have hp:=(gX b).mono (O:4<=1100000);by_cases h:0<=a/\a<(p.parts.length:Int)
 ·exact aa8 d hp ⟨O,O⟩
 rw[Nn h];unfold pM;refine ad.eq (ag (jh O hp) (ad.aQ (λz=>z=ab) (λj c=>ag (iO O hp.sm) ?_) λz e=>by subst e;exact bW (ad.some rfl)));rw[b];refine b1 (aV (λ_=>c _ rfl) λk=>?_);rw[bf O];exact aV (λ_=>c _ rfl) λl=>br ⟨O,O⟩ h
theorem ZZ{n:Nat}(c:22000000<=n){p:Prog}(b:b9 p=ab)(a k:Int):px n p a k=aa (mn p a k):=by
 have d:=(ep b).2.2.1;by_cases h:0<=a/\a<(p.parts.length:Int)
 ·exact aaO c ((gX b).mono O) ⟨O,O⟩
 rw[M7 h];unfold px;exact ad.eq (ag (M' O b h _) (b1 (ad.some rfl)))
theorem Y0{n:Nat}(d:22000000<=n){p:Prog}(b:b9 p=ab)(a k:Int):pw n p a k=aa (mn p a k):=by
 have i:=(ep b).2.2.1;have hp:=(gX b).mono (O:4<=1100000);by_cases h:0<=a/\a<(p.parts.length:Int)
 ·exact aa' d hp ⟨O,O⟩
 rw[M7 h];unfold pw;refine ad.eq (ag (jh O hp) (ad.aQ (λz=>z=ab) (λj c=>ag (iO O hp.sm) ?_) λz e=>by subst e;exact bW (ad.some rfl)));rw[b];exact b1 (aV (λ_=>c _ rfl) λl=>aV (λ_=>c _ rfl) λm=>br ⟨O,O⟩ h)
theorem ZP{n:Nat}(b:22000000<=n){p:Prog}(a:b9 p=ab)(s:Step):oE n p s=aa (qD p s):=
 ZO b ((gX a).mono O) (ZU b a _) (ZZ b a _ _) (ZL O a _) (ZX O a _)
theorem Zn{n:Nat}(b:22000000<=n){p:Prog}(a:b9 p=ab)(s:Step):rj n p s=aa (qD p s):=
 Zm b ((gX a).mono O) (YV b a _) (Y0 b a _ _) (Zj O a _) (YY O a _)
theorem pd.fin(h:pd r):AF r:=by
 rcases h with ⟨a,b⟩|rfl
 ·refine .inr ⟨r.1,?_⟩;unfold hc;rw[bg b,<-a]
 exact .inl rfl
theorem T5{p:Prog}(b:iN 9223372036854775807 m p)(s:Step):Tr (30000000+m) p s=aa ab:=by
 show Ib (30000000+m) p (λx=>rj (30000000+m) x s) (λx=>oE (30000000+m) x s)=aa ab;cases bx:b9 p with
 |true=>exact My O b (aao p s).fin (λa=>Zn O bx s) (λa=>ZP O bx s)
 |false=>exact My O b (.inl rfl) (λa=>Zl O (Qq a) bx (Ue O a) s) λa=>ZN O (Qq a) bx s
end Go.Lift
