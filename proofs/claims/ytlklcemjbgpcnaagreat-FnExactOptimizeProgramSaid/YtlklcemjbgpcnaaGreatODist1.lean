/- Tools. -/
import Derived.Test.YtlklcemjbgpcnaaGreatOTran1
set_option maxRecDepth 110000000
set_option linter.unusedVariables false
namespace Go.Lift
open Go
open Option renaming some -> aa, bind -> bH
open Bool renaming true -> ab, false -> ak, and_eq_true -> cx
open Decidable renaming decide -> ai
open List renaming length_append -> hn, all_eq_true -> js, length_take -> kI, length_drop -> lj, range -> gi
section
theorem BF: ∀a,cmpL a a=0
 | []=>rfl
 |x::a=>by unfold cmpL;rw[a8 O,a8 O];exact BF a
theorem tY: ∀a b,cmpL b a= -cmpL a b
 | [],[]=>by simp[cmpL]
 | [],_::_=>by simp[cmpL]
 |_::_,[]=>by simp[cmpL]
 |x::a,y::b=>by
  unfold cmpL;by_cases c:x<y
  ·simp[c,show¬y<x by omega]
  by_cases d:y<x
  ·simp[c,d]
  rw[a8 c,a8 d,a8 d,a8 c];exact tY a b
theorem xZ: ∀{a b},cmpL a b=0->a=b
 | [],[],_=>rfl
 | [],_::_,h=>by simp[cmpL] at h
 |_::_,[],h=>by simp[cmpL] at h
 |x::a,y::b,h=>by
  unfold cmpL at h;by_cases c:x<y
  ·rw[bb c] at h;omega
  by_cases d:y<x
  ·rw[a8 c,bb d] at h;omega
  rw[a8 c,a8 d] at h;rw[xZ h,show x=y by omega]
theorem yd: ∀{k l m},cmpL k l<0->cmpL l m<0->cmpL k m<0
 | [],[],_,h,_=>by simp[cmpL] at h
 | [],_::_,[],_,h=>by simp[cmpL] at h
 | [],_::_,_::_,_,_=>by simp[cmpL]
 |_::_,[],_,h,_=>by simp[cmpL] at h
 |_::_,_::_,[],_,h=>by simp[cmpL] at h
 |x::k,y::l,z::m,i,e=>by
  unfold cmpL at i e⊢;by_cases a:x<y
  ·by_cases b:y<z
   ·rw[bb O];omega
   by_cases c:z<y
   ·rw[a8 b,bb c] at e;omega
   rw[bb O];omega
  by_cases b:y<x
  ·rw[a8 a,bb b] at i;omega
  by_cases c:y<z
  ·rw[bb O];omega
  by_cases d:z<y
  ·rw[a8 c,bb d] at e;omega
  rw[a8 O,a8 O];rw[a8 a,a8 b] at i;rw[a8 c,a8 d] at e;exact yd i e
theorem O3: ∀a b,iV a b=ai (cmpL a b<0)
 | [],[]=>rfl
 | [],_::_=>rfl
 |_::_,[]=>rfl
 |x::a,y::b=>by
  unfold iV cmpL;by_cases h:x=y
  ·subst h;simp only[if_true,Int.lt_irrefl,if_false];exact O3 a b
  by_cases c:x<y
  ·simp[h,c]
  have:y<x:=O
  simp[h,c,this]
abbrev iD(l:List (List Int)):Prop:=l.Pairwise λa b=>cmpL a b<0
theorem Rx: ∀{l m:List (List Int)},iD l->iD m->(∀x,x∈l↔x∈m)->l=m
 | [],[],_,_,_=>rfl
 | [],y::m,_,_,h=>by have:=(h y).2 a7;simp at this
 |x::l,[],_,_,h=>by have:=(h x).1 a7;simp at this
 |x::l,y::m,s,w,h=>by
  obtain⟨q,A⟩:=rW.1 s;obtain⟨r,B⟩:=rW.1 w;have e:x=y:=by
   rcases d'.1 ((h x).1 a7) with d|d
   ·exact d
   rcases d'.1 ((h y).2 a7) with i|i
   ·exact i.symm
   have a:=r x d;have b:=q y i
   have:=yd a b;rw[BF] at this;omega
  subst e;have k:x∉l:=λn=>by have:=q x n;rw[BF] at this;omega
  have o:x∉m:=λn=>by have:=r x n;rw[BF] at this;omega
  rw[Rx A B (λz=>⟨λc=>by
   rcases d'.1 ((h z).1 (eZ _ c)) with rfl|p
   ·exact bs c k
   ·exact p,λc=>by
   rcases d'.1 ((h z).2 (eZ _ c)) with rfl|p
   ·exact bs c o
   exact p⟩)]
def iW:List (List Int)->List Int->List (List Int)
 | [],d=>[d]
 |x::a,d=>if cmpL d x<0 then d::x::a else x::iW a d
theorem HL{d z:List Int}: ∀{l:List (List Int)},z∈iW l d↔z=d\/z∈l
 | []=>by simp[iW]
 |x::a=>by
  unfold iW;split
  ·simp
  simp only[List.mem_cons,HL (l:=a)];constructor
  ·rintro(h|h|h)
   ·exact .inr (.inl h)
   ·exact .inl h
   exact .inr (.inr h)
  rintro(h|h|h)
  ·exact .inr (.inl h)
  ·exact .inl h
  exact .inr (.inr h)
theorem PJ{d:List Int}: ∀{l:List (List Int)},iD l->d∉l->iD (iW l d)
 | [],_,_=>by simp[iW]
 |x::m,a,b=>by
  obtain⟨c,i⟩:=rW.1 a;unfold iW;split
  ·rename_i h;refine rW.2 ⟨λz ep=>?_,a⟩;rcases d'.1 ep with rfl|ep
   ·exact h
   exact yd h (c z ep)
  rename_i h;refine rW.2 ⟨λz ep=>?_,PJ i λk=>b (eZ _ k)⟩;rcases HL.1 ep with rfl|ep
  ·have n:=tY z x;have o:cmpL z x≠0:=λe=>b (by rw[xZ e];simp);omega
  exact c z ep
def iz(l:List (List Int))(d:List Int):List (List Int):=if d∈l then l else iW l d
theorem afo{l:List (List Int)}(h:iD l)(d:List Int):iD (iz l d):=by
 unfold iz;split
 ·exact h
 exact PJ h ‹_›
variable {d b:List Int}{R a:Type}{Q:R->Prop}{n i k:Nat}{p:Prog}{x:a}{c:Int}{P:Part}{r:List ch}{l:List a}
theorem Ps{l:List (List Int)}{z:List Int}:z∈iz l d↔z=d\/z∈l:=by
 unfold iz;split
 ·rename_i h
  grind
 exact HL
theorem H3: ∀(a l:List (List Int)),iD l->iD (a.foldl iz l)/\ ∀z,z∈a.foldl iz l↔z∈l\/z∈a
 | [],l,h=>⟨h,λz=>a7⟩
 |d::a,l,h=>by
  obtain⟨b,c⟩:=H3 a (iz l d) (afo h d);refine⟨b,λz=>?_⟩;rw[List.foldl_cons,c z,Ps,d'];constructor
  ·rintro((h|h)|h)
   ·exact .inr (.inl h)
   ·exact .inl h
   exact .inr (.inr h)
  rintro(h|h|h)
  ·exact .inl (.inr h)
  ·exact .inl (.inl h)
  exact .inr h
def gG:List (List Int)->List (List Int)
 | []=>[]
 | [x]=>[x]
 |x::y::r=>if x=y then gG (y::r) else x::gG (y::r)
theorem H1{z:List Int}: ∀{l:List (List Int)},z∈gG l↔z∈l
 | []=>by simp[gG]
 | [x]=>by simp[gG]
 |x::y::r=>by
  have a:=H1 (z:=z) (l:=y::r);unfold gG;split
  ·rename_i h;subst h;rw[a];simp
  rw[d',a];simp
theorem FY: ∀{l:List (List Int)},l.Pairwise (λa b=> ¬cmpL b a<0)->iD (gG l)
 | [],_=>by simp[gG]
 | [x],_=>by simp[gG]
 |x::y::r,h=>by
  obtain⟨m,i⟩:=rW.1 h;obtain⟨n,_⟩:=rW.1 i;unfold gG;split
  ·exact FY i
  rename_i k;refine rW.2 ⟨λz ep=>?_,FY i⟩;have d:cmpL x y<0:=by
   have a:=m y a7;have b:=tY x y;have c:cmpL x y≠0:=λe=>k (xZ e);omega
  rcases d'.1 (H1.1 ep) with rfl|ep
  ·exact d
  have a:=n z ep;have b:=tY y z;by_cases e:cmpL y z=0
  ·rw[<-xZ e];exact d
  exact yd d O
theorem YI(l:List (List Int)):(fC l).Pairwise (λa b=> ¬cmpL b a<0):=by
 have:=List.pairwise_mergeSort (le:=λx y=> !decide (cmpL y x<0)) (λa b c k d=>by
  simp only[Bool.not_eq_true',decide_eq_false_iff_not] at*;intro h;have i:=tY a b;have m:=tY b c;by_cases e:cmpL b a=0
  ·rw[xZ e] at d;exact d h
  ·exact d (yd h O)) (λa b=>by
  have i:=tY a b;by_cases h:cmpL b a<0
  ·have: ¬cmpL a b<0:=O
   simp[h,this]
  simp[h]) l
 refine this.imp λh=>?_;simpa using h
theorem afF(a:List (List Int)):gG (fC a)=a.foldl iz []:=by obtain⟨b,c⟩:=H3 a [] List.Pairwise.nil;refine Rx (FY (YI a)) b λz=>?_;rw[H1,c z];unfold fC;rw[List.mem_mergeSort];simp
def lK(b a:List Int):List Int:=List.zipWith (λx y=>x-y) b a
theorem OZ{a:List Int}(D:a.length=b.length)(F:b.length<=1100000)(G:1100000<n)(l: ∀x∈a,cZ 9999 x)(m: ∀x∈b,cZ 9999 x){K:List Int->Option R}(H:ae (K (lK b a)) Q):
  ae (bk (λc ((h,d):(List Int)×Int)=>
   bif ai (d<(b.length:Int)) then(
    bH (aD b d) λo=>
    bH (aD a d) λp=>
    bH (app h [wr (o-p)]) λq=>
    c (q,wr (d+1))
   ) else(
    K h
   )) n ([],0)) Q:=by
 refine ae.loop (λx:List Int×Int=> ∃i:Nat,x.2=i/\i<=b.length/\x.1=(lK b a).take i) (λx=>b.length-x.2.toNat) ?_ n _ ⟨0,rfl,O,a7⟩ Z;rintro r ⟨x,k⟩ ⟨i,w,L,s⟩ y;dsimp only at w s⊢;subst w;have z:(lK b a).length=b.length:=by unfold lK;rw[E1];omega
 refine aW (λe=>?_) λA=>?_
 ·have e:i<b.length:=O
  have B:=bu e;have C:=bu (O:i<a.length);have dd:=m _ (gg e);have cB:=l _ (gg (O:i<a.length));unfold cZ at dd cB;refine ag (bl B) (ag (bl C) (ag (dr (by rw[s,c7];simp;omega)) ?_));rw[a6 (n:=b[i]-a[i]) O,a6 O];refine y _ ⟨i+1,Z,O,?_⟩ Z;dsimp only;rw[eE,<-s];congr 1;unfold lK
  grind
 have:i=b.length:=O
 grind
theorem aak{a:List Int}(e:a.length=b.length)(h:b.length<=1100000)(i:1100000<n)(c: ∀x∈a,cZ 9999 x)(d: ∀x∈b,cZ 9999 x):Bc n b a=aa (lK b a):=by unfold Bc;exact ae.eq (OZ e h i c d (ae.some rfl))
theorem adV(E:22000000<=n){l:List (List Int)}(I:l.length<=15000)(K: ∀x∈l,x.length<=1100000)(L:d.length<=1100000):Cy n l d=aa (iz l d):=by
 unfold Cy;refine ae.eq (ae.loop (λx:List (List Int)×Bool×Int=> ∃i:Nat,x.2.2=i/\i<=l.length/\d∉l.take i/\(x.2.1=ab->x.1.length<=i+1/\iW l d=x.1++l.drop i)/\(x.2.1=ak->x.1.length<=i/\iW l d=x.1++iW (l.drop i) d)) (λx=>l.length-x.2.2.toNat) ?_ n _ ⟨0,rfl,O,a7,(λh=>by cases h),λ_=>⟨a7,a7⟩⟩ Z);rintro y ⟨M,c,k⟩ ⟨i,G,N,m,H,A⟩ Q;dsimp only at G H A⊢;subst G;refine aW (λb=>?_) λR=>?_
 ·have b:i<l.length:=O
  have W:=bu b;have B:l[i].length<=1100000:=K _ (gg b);refine ag (bl W) (ag (MS O O) (aW (λX=>ae.some ?_) λf=>?_))
  ·unfold iz
   grind
  have a:=jJ b;have o:d∉l.take (i+1):=by
   grind
  refine ae.aP (λz:List (List Int)×Bool=>(z.2=ab->z.1.length<=i+1/\iW l d=z.1++l.drop i)/\(z.2=ak->z.1.length<=i/\iW l d=z.1++l[i]::iW (l.drop (i+1)) d)) (λj e=>?_) λz p=>?_
  ·refine ae.aP (λz:Bool=>z=(!c&&iV d l[i])) (λP q=>ae.cond (λh=>?_) λh=>q _ ?_) λz p=>?_
   ·have h:c=ak:=by simpa using h
    exact ag (O' O L B) (q _ (by rw[h];rfl))
   ·have h:c=ab:=by simpa using h
    grind
   subst p;cases r:c with
   |true=>exact b3 (e _ ⟨λ_=>H r,λh=>by cases h⟩)
   |false=>
    obtain⟨g,C⟩:=A r;rw[a] at C;rw[O3];by_cases w:cmpL d l[i]<0
    ·rw[bU w];refine cf (ag (dr b6) (e _ ⟨λ_=>⟨b6,?_⟩,λh=>by cases h⟩));rw[C,a];unfold iW;rw[bb w];simp
    rw[bR w];refine b3 (e _ ⟨(λh=>by cases h),λ_=>⟨g,?_⟩⟩);rw[C]
    conv=>lhs;rw[iW]
    rw[a8 w]
  obtain⟨t,u⟩:=z;obtain⟨D,F⟩:=p;dsimp only at D F⊢;have v:t.length<=i+1:=by
   cases u with
   |true=>exact(D rfl).1
   |false=>have:=(F rfl).1;omega
  refine ag (dr b6) ?_;rw[a6 O];refine Q _ ⟨i+1,Z,O,o,λh=>?_,λh=>?_⟩ Z
  ·obtain⟨aL,a2⟩:=D h
   grind
  obtain⟨aL,a2⟩:=F h
  grind
 have:i=l.length:=O
 subst this;rw[dR] at m;have s:iz l d=iW l d:=by unfold iz;rw[a8 m]
 rw[s];refine ae.aP (λz=>z=iW l d) (λj e=>ae.cond (λh=>?_) λh=>e _ ?_) λz p=>ae.some p
 ·have h:c=ak:=by simpa using h
  obtain⟨aL,a2⟩:=A h;refine ag (dr b6) (e _ ?_);rw[a2,qs];rfl
 have h:c=ab:=by simpa using h
 grind
theorem O5(d:List Int): ∀l:List (List Int),(iW l d).length=l.length+1
 | []=>rfl
 |x::a=>by
  unfold iW;split
  ·rfl
  rw[rX,O5 d a];rfl
theorem Pt(l:List (List Int))(d:List Int):(iz l d).length<=l.length+1:=by
 unfold iz;split
 ·omega
 rw[O5];omega
def kY(I:List cG)(c:Int)(d:fZ):Option (List Int):=match I[d.eV.toNat]?,I[d.eX.toNat]? with
 |some a,aa b=>if a.part=c/\b.part=c then aa (lK b.dc a.dc) else none
 |_,_=>none
def nG(p:Prog)(a:Int):List (List Int):=(gA p (bz p.parts) (bz p.parts).length).filterMap (kY (bz p.parts) a)
theorem ru(h:b1 p=ab){x:cG}(l:gJ p x): ∃P,p.parts[x.part.toNat]? =aa P/\0<=x.part/\x.dc.length=P.nest.length/\x.dc.length<=4/\ ∀y∈x.dc,cZ 9999 y:=by obtain⟨C,D,F,b,m⟩:=eH h;obtain⟨i,k,P,s,n,G,d,o,e⟩:=l;obtain⟨q,H,K,r⟩:=gy (b P (bT d));obtain⟨L,w,c,z,A⟩:=s0 q;have hs:=bT o;have a:=(r s hs _ e).2;unfold ky at a;simp only[cx,decide_eq_true_eq,js] at a;exact⟨P,by rw[n,c8];exact d,O,(c _ e).1,a.1,λy B=>a.2 y B⟩
theorem afG{I:List cG}(h: ∀x∈I,x.dc.length<=4){d:fZ}{v:List Int}(e:kY I c d=aa v):v.length<=4:=by
 unfold kY at e;split at e
 ·rename_i a b i k;split at e
  ·cases e;unfold lK
   grind
  cases e
 cases e
theorem LN{f:a->Option R}(h:l[i]? =aa x):(l.take (i+1)).filterMap f=(l.take i).filterMap f++(f x).toList:=by
 rw[eE,h,List.filterMap_append]
 grind
theorem Na(u:22000000<=n)(hp:ho p)(q:b1 p=ab)(a:Int):zv n p a=aa ((nG p a).foldl iz []):=by
 have F:=(eH q).2.2.2.2;unfold zv;refine ae.eq (ag (wa O q) (ag (GF O q) ?_));have e: ∀x∈bz p.parts,gJ p x:=λx r=>hX r;have al2:=HE (p:=p) F;have a1:=Q2 (p:=p) (l:=bz p.parts);unfold nG;generalize gA p (bz p.parts) (bz p.parts).length=D at*;generalize bz p.parts=I at*;have v: ∀x∈I,x.dc.length<=4:=λx r=>(ru q (e x r)).choose_spec.2.2.2.1;refine ae.loop (λx:List (List Int)×Int=> ∃i:Nat,x.2=i/\i<=D.length/\x.1=((D.take i).filterMap (kY I a)).foldl iz []/\x.1.length<=i/\ ∀y∈x.1,y.length<=4) (λx=>D.length-x.2.toNat) ?_ n _ ⟨0,rfl,O,a7,a7,a7⟩ Z;rintro G ⟨E,k⟩ ⟨i,g,aJ,r,s,b⟩ M;dsimp only at g r s b⊢;subst g;refine aW (λm=>?_) λN=>ae.some ?_
 ·have m:i<D.length:=O
  have t:=bu m;obtain⟨P,d2,d3⟩:=a1 _ (gg m);have S:=yu (l:=I) (c:=D[i].eV) P O;have T:=yu (l:=I) (c:=D[i].eX) O O;have U:=gg (O:D[i].eV.toNat<I.length);have H:=gg (O:D[i].eX.toNat<I.length);have K:I[D[i].eV.toNat]? =aa I[D[i].eV.toNat]:=bu _;have L:I[D[i].eX.toNat]? =aa I[D[i].eX.toNat]:=bu _;obtain⟨V,w,Y,akt,aku,Q⟩:=ru q (e _ U);obtain⟨F5,o,akv,akw,akx,R⟩:=ru q (e _ H);refine ae.aP (λz=>z.2.2.2.2.2.2=((D.take (i+1)).filterMap (kY I a)).foldl iz []/\z.2.2.2.2.2.2.length<=i+1/\ ∀y∈z.2.2.2.2.2.2,y.length<=4) (λj W=>ag (bl t) (ag S (ag T ?_))) λz X=>?_
  ·rw[LN t,List.foldl_append,<-r] at W;refine ae.aP (λz:Bool=>z=ai (I[D[i].eV.toNat].part=a/\I[D[i].eX.toNat].part=a)) (λn0 A=>aW (λh=>A _ ?_) λh=>A _ ?_) λz X=>?_
   ·exact decide_eq_decide.2 ⟨λB=>⟨h,B⟩,λB=>B.2⟩
   ·exact(bR λB=>h B.1).symm
   subst X;have d:kY I a D[i]=if I[D[i].eV.toNat].part=a/\I[D[i].eX.toNat].part=a then aa (lK I[D[i].eX.toNat].dc I[D[i].eV.toNat].dc) else none:=by
    unfold kY;rw[K,L]
   refine aW (λh=>?_) λh=>W _ ?_
   ·have f:V=F5:=by
     rw[h.1] at w;rw[h.2] at o;rw[w] at o;cases o;rfl
    subst f;refine ag (aak O O O Q R) (ag (adV u O (λy C=>by have:=b y C;omega) (by unfold lK;rw[E1];omega)) (W _ ?_));rw[d,bb h];dsimp only[Option.toList,List.foldl];refine⟨rfl,?_,λy C=>?_⟩
    ·have:=Pt E (lK I[D[i].eX.toNat].dc I[D[i].eV.toNat].dc);omega
    rcases Ps.1 C with rfl|C
    ·unfold lK;rw[E1];omega
    exact b y C
   rw[d,a8 h]
   grind
  obtain⟨UA,z2,z3⟩:=X;rw[a6 O];exact M _ ⟨i+1,Z,O,UA,z2,z3⟩ Z
 have:i=D.length:=O
 grind
theorem My(x:List Int): ∀(y:List Int) (a:List (List Int)),gG ((y::a)++[x])=if(y::a).getLast a7=x then gG (y::a) else gG (y::a)++[x]
 |y,[]=>by
  by_cases h:y=x
  ·subst h;simp[gG]
  simp[gG,h]
 |y,z::a=>by
  have c:=My x z a;rw[List.getLast_cons a7];show gG (y::z::(a++[x]))=_;unfold gG;by_cases h:y=z
  ·rw[bb h,bb h];exact c
  rw[a8 h,a8 h];have b:gG (z::(a++[x]))=_:=c;rw[b];split<;>simp
theorem Yw{s:List (List Int)}{m:Nat}(l:1<=m)(k:m<s.length):gG (s.take (m+1))=if s[m-1]=s[m] then gG (s.take m) else gG (s.take m)++[s[m]]:=by
 have e:s.take (m+1)=s.take m++[s[m]]:=by rw[eE,bu k];rfl
 have c:s.take m≠[]:=by
  intro h
  have:=congrArg List.length h
  grind
 have b: ∀h,(s.take m).getLast h=s[m-1]:=λh=>by
  grind
 rw[e];obtain⟨y,a,i⟩: ∃y a,s.take m=y::a:=by
  cases h:s.take m with
  |nil=>exact bs h c
  |cons y a=>exact⟨y,a,rfl⟩
 have d:=b c;simp only[i] at d⊢;rw[My,d]
def lG(d:List Int):Option Nat:=d.findIdx? λx=> !decide (x=0)
def pO(d:List Int):Int:=match lG d with
 |some i=>(i:Int)
 |none=> -1
theorem aae(r:d.length<=1100000)(s:1100000<n):EK n d=aa (pO d):=by
 unfold EK;refine ae.eq (ag (x:=pO d) ?_ (ae.some rfl));unfold zj;refine ae.eq (ae.loop (λx:Int=> ∃i:Nat,x=i/\i<=d.length/\ ∀j,j<i->d.getD j 0=0) (λx=>d.length-x.toNat) ?_ n _ ⟨0,rfl,O,λj a=>bs a (pv _)⟩ O);rintro c z ⟨i,rfl,w,y⟩ l;have k: ∀j (a:j<d.length),j<i->d[j]=0:=λj a m=>by
  grind
 refine aW (λb=>?_) λo=>ae.some ?_
 ·have b:i<d.length:=O
  have p:=bu b;refine ag (bl p) (ag (x:= !decide (d[i]=0)) rfl (dF (λe=>ae.some ?_) λA=>?_))
  ·have:lG d=aa i:=by
    unfold lG;rw[K4];exact⟨b,by simp[e],λj a=>by simp[k j O a]⟩
   unfold pO;rw[this]
  rw[a6 O];refine l _ ⟨i+1,O,O,λj a=>?_⟩ O
  grind
 have:lG d=none:=by
  unfold lG;rw[List.findIdx?_eq_none_iff];intro x q;obtain⟨j,a⟩:=j1.1 q;obtain⟨h,rfl⟩:=b5.1 a;simp[k j h O]
 unfold pO;rw[this]
theorem adI(a:ho p)(b:p.parts[i]? =aa P):lq n p (i:Int)=aa ab:=by have aJ:=(b5.1 b).1;rw[rK n a.2.1,bU O]
theorem aat(a:Nat->Bool)(m:Nat):ei a (m+1)=ei a m++(if a m then [m] else []):=by
 unfold ei;rw[om,qx]
 grind
theorem Qr(l:List (List Int)): ∀m,m<=l.length->(ei (lr l) m).map (λj=>l.getD j [])=gG (l.take m)
 |0,_=>rfl
 |m+1,h=>by
  have n:=Qr l m O;have b:m<l.length:=O
  have c:l.getD m []=l[m]:=by rw[fh,bu b];rfl
  rw[aat,h7,n];by_cases d:m=0
  ·subst d;have i:lr l 0=ab:=by simp[lr]
   rw[i,bb rfl,List.take_zero];show gG []++[l.getD 0 []]=_;rw[c,eE,bu b];rfl
  rw[Yw O b];have i:l.getD (m-1) []=l[m-1]:=by rw[fh,bu O];rfl
  have o:lr l m= !decide (l[m-1]=l[m]):=by
   unfold lr;rw[c,i];by_cases a:l[m-1]=l[m]
   ·simp[d,a]
   have k:l[m]≠l[m-1]:=λe=>a e.symm;simp[d,a,k]
  rw[o];by_cases a:l[m-1]=l[m]
  ·rw[bb a,bU a];simp
  rw[a8 a,bR a];show _++[l.getD m []]=_;rw[c]
theorem aaU(l:List (List Int)):gW l=gG l:=by have:=Qr l l.length (da _);rw[dR] at this;exact this
theorem Zt(cK:22000000<=n)(q:b1 p=ab)(a:Int):DO n (fX p) a=aa ((nG p a).foldl iz []):=by
 have B:=(eH q).2.2.2.2;unfold DO;refine ae.eq (ag (Hb O q) ?_);rw[show(fX p).list=bz p.parts from rfl];have e: ∀x∈bz p.parts,gJ p x:=λx b=>hX b;have al2:=HE (p:=p) B;have a1:=Q2 (p:=p) (l:=bz p.parts);unfold nG;generalize gA p (bz p.parts) (bz p.parts).length=D at*;generalize bz p.parts=I at*;have C: ∀x∈I,x.dc.length<=4:=λx b=>(ru q (e x b)).choose_spec.2.2.2.1;refine ae.loop (λx:List (List Int)×Int=> ∃i:Nat,x.2=i/\i<=D.length/\x.1=(D.take i).filterMap (kY I a)) (λx=>D.length-x.2.toNat) ?_ n _ ⟨0,rfl,O,a7⟩ Z;rintro F ⟨v,k⟩ ⟨i,E,aJ,b⟩ P;dsimp only at E b⊢;subst E;have M:v.length<=i:=by
  grind
 refine aW (λm=>?_) λS=>?_
 ·have m:i<D.length:=O
  have N:=bu m;obtain⟨T,d2,d3⟩:=a1 _ (gg m);have U:=yu (l:=I) (c:=D[i].eV) T O;have V:=yu (l:=I) (c:=D[i].eX) O O;have Y:=gg (O:D[i].eV.toNat<I.length);have G:=gg (O:D[i].eX.toNat<I.length);have H:I[D[i].eV.toNat]? =aa I[D[i].eV.toNat]:=bu _;have L:I[D[i].eX.toNat]? =aa I[D[i].eX.toNat]:=bu _;obtain⟨UM,r,alG,akt,aku,Q⟩:=ru q (e _ Y);obtain⟨F5,o,akv,akw,akx,R⟩:=ru q (e _ G);have s:kY I a D[i]=if I[D[i].eV.toNat].part=a/\I[D[i].eX.toNat].part=a then aa (lK I[D[i].eX.toNat].dc I[D[i].eV.toNat].dc) else none:=by
   unfold kY;rw[H,L]
  refine ae.aP (λz=>z.1=(D.take (i+1)).filterMap (kY I a)) (λj W=>ag (bl N) (ag U (ag V ?_))) λz X=>?_
  ·rw[LN N,<-b] at W;refine ae.aP (λz:Bool=>z= !decide (I[D[i].eV.toNat].part=a/\I[D[i].eX.toNat].part=a)) (λn0 w=>dF (λh=>w _ ?_) λh=>w _ ?_) λz X=>?_
   ·rw[bR λh2=>h h2.1];rfl
   ·congr 1
    grind
   subst X;refine dF (λh=>W _ ?_) λh=>?_
   ·rw[s,a8 h];simp
   have f:UM=F5:=by
    rw[h.1] at r;rw[h.2] at o;rw[r] at o;cases o;rfl
   subst f;refine OZ (K:=λg=>bH (app v [g]) λt=>j (t,D[i].eV,D[i].eX,D[i].kinds,I[D[i].eV.toNat].part,I[D[i].eV.toNat].stmt,I[D[i].eV.toNat].dc,I[D[i].eX.toNat].part,I[D[i].eX.toNat].stmt,I[D[i].eX.toNat].dc)) O O O Q R ?_;refine ag (dr b6) (W _ ?_)
   grind
  rw[a6 O];exact P _ ⟨i+1,Z,O,X⟩ Z
 have:i=D.length:=O
 subst this;rw[dR] at b;subst b;have A: ∀y∈D.filterMap (kY I a),y.length<=4:=λy u=>by
  obtain⟨d,_,cO⟩:=List.mem_filterMap.1 u;exact afG C cO
 have ai3:(fC (D.filterMap (kY I a))).length<=15000:=by unfold fC;rw[List.length_mergeSort];omega
 refine ag (x:=fC (D.filterMap (kY I a))) (by unfold mZ;rw[bb ⟨O,λy u=>by have:=A y u;omega⟩]) (ae.some ?_);rw[aaU];exact afF _
def jR(p:Prog)(i:Nat):List (List Int):=(nG p i).foldl iz []
theorem abi(c:22000000<=n)(a:ho p)(b:b1 p=ab)(d:p.parts[i]? =aa P):Ey n p (i:Int)=aa (jR p i):=by unfold Ey;refine ae.eq (ag (wS O a) ?_);rw[bb b];refine cf (ae.aP (λz=>z=ak) (λj e=>b3 (ag (adI a d) (e _ rfl))) λz h=>?_);rw[h];exact b3 (ag (Zt c b _) (ae.some rfl))
theorem agp:d∈jR p i↔d∈nG p i:=by
 unfold jR
 have:=(H3 (nG p i) [] .nil).2 d
 grind
theorem Oa: ∀(a l:List (List Int)),(a.foldl iz l).length<=l.length+a.length
 | [],l=>a7
 |d::a,l=>by
  rw[List.foldl_cons]
  have:=Oa a (iz l d)
  have:=Pt l d;rw[rX];omega
theorem IV(b:b1 p=ab):(jR p i).length<=15000:=by
 have a:=(eH b).2.2.2.2;have c:=HE (p:=p) a
 have:=Oa (nG p i) [];have d:(nG p i).length<=(gA p (bz p.parts) (bz p.parts).length).length:=by unfold nG;exact List.length_filterMap_le _ _
 unfold jR
 grind
theorem uu(r:b1 p=ab)(s:p.parts[i]? =aa P)(cO:d∈jR p i):d.length=P.nest.length/\ ∀x∈d,cZ 99999 x:=by
 have cO:=agp.1 cO;unfold nG at cO;obtain⟨e,_,h⟩:=List.mem_filterMap.1 cO;unfold kY at h;split at h
 ·rename_i a b A B;split at h
  ·rename_i w;cases h;have m:gJ p a:=hX (bT A);have n:gJ p b:=hX (bT B);obtain⟨F,aL,a2,a3,a4,a5⟩:=ru r m;obtain⟨G,y,H,K,L,C⟩:=ru r n;rw[w.1,c8,s] at aL;rw[w.2,c8,s] at y;cases aL;cases y;unfold lK;refine⟨by rw[E1];omega,λx z=>?_⟩;obtain⟨u,v,D,o,rfl⟩: ∃u v,u∈b.dc/\v∈a.dc/\x=u-v:=by
    rw[j1] at z;obtain⟨k,c⟩:=z;rw[List.getElem?_zipWith] at c;cases l:b.dc[k]? with
    |none=>rw[l] at c;cases c
    |some u=>
     cases q:a.dc[k]? with
     |none=>rw[l,q] at c;cases c
     |some v=>
      rw[l,q] at c;cases c;exact⟨u,v,bT l,bT q,rfl⟩
   have Q:=C u D;have R:=a5 v o;unfold cZ at*;omega
  cases h
 cases h
def ia(d:List Int):Bool:=match lG d with
 |some k=>decide (0<=d.getD k 0)
 |none=>ab
theorem QO(h:lG d=aa k):k<d.length/\d.getD k 0≠0:=by
 unfold lG at h;rw[K4] at h
 grind
theorem NL(L:22000000<=n)(Q:ho p)(y:b1 p=ab)(z:p.parts[i]? =aa P){F:List Int->Option (List Int)}{f:List Int->List Int}(B: ∀d∈jR p i,F d=aa (f d))(C: ∀d,(f d).length=d.length):
  x4 n p (i:Int) F=aa ((jR p i).all λd=>ia (f d)):=by
 unfold x4;refine ae.eq (ag (abi L Q y z) ?_);have o:=IV y (i:=i);have q:=λd s=>(uu y z (d:=d) s).1;have R:=(im ((eH y).2.2.2.1 P (bT z))).1;generalize jR p i=D at B o q;refine ae.loop (λx:List (List Int)×Int=> ∃k:Nat,x.2=k/\k<=D.length/\x.1.length=D.length/\(∀t,k<=t->x.1[t]? =D[t]?)/\ ∀d∈D.take k,ia (f d)=ab) (λx=>D.length-x.2.toNat) ?_ n _ ⟨0,rfl,O,rfl,λ_ _=>rfl,λd s=>by simp at s⟩ Z;rintro l ⟨e,E⟩ ⟨k,G,W,w,a,H⟩ X;dsimp only at G w a⊢;subst G;refine aW (λc=>?_) λg=>ae.some ?_
 ·have c:k<D.length:=O
  have j:e[k]? =aa D[k]:=by rw[a k (da _),bu c]
  have hm:=gg c;have u:(f D[k]).length<=4:=by rw[C,q _ hm];exact R
  refine ag (bl j) (ag (B _ hm) (ag (gw (C _)) (ag (aae O O) (ag (dP O _) ?_))));have b: ∀(A:ia (f D[k])=ak),D.all (λd=>ia (f d))=ak:=λA=>mx.2 ⟨_,hm,by simp[A]⟩;have go:ia (f D[k])=ab->ae (l (e.set (k:Int).toNat (f D[k]),wr ((k:Int)+1))) (λr=>r=D.all λd=>ia (f d)):=λA=>by
   rw[a6 O,c8];refine X _ ⟨k+1,Z,O,by dsimp only;rw[gr];exact w,λt I=>?_,λd s=>?_⟩ Z
   ·dsimp only
    grind
   rw[eE,bu c] at s
   grind
  unfold pO ia at*;cases m:lG (f D[k]) with
  |none=>
   rw[m] at go b;exact aW (λh=>bs h (by show¬(0:Int)<= -1;omega)) (λ_=>go rfl)
  |some t=>
   rw[m] at go b;obtain⟨v,M⟩:=QO m;refine aW (λ_=>?_) λh=>bs (show(0:Int)<=(t:Int) by omega) h;have K:=bu v;have N:(f D[k]).getD t 0=(f D[k])[t]:=by rw[fh,K];rfl
   refine ag (bl K) (aW (λh=>ae.some ?_) λh=>go ?_)
   ·exact(b (bR O)).symm
   exact bU O
 have:k=D.length:=O
 grind
theorem ZA(r:d.length<=1100000)(s:1100000<n):EH n d=aa (pO d):=by
 unfold EH;refine ae.eq (ae.loop (λx:Int=> ∃i:Nat,x=i/\i<=d.length/\ ∀j,j<i->d.getD j 0=0) (λx=>d.length-x.toNat) ?_ n _ ⟨0,rfl,O,λj a=>bs a (pv _)⟩ O);rintro c z ⟨i,rfl,w,y⟩ l;have k: ∀j (a:j<d.length),j<i->d[j]=0:=λj a m=>by
  grind
 refine aW (λb=>?_) λo=>ae.some ?_
 ·have b:i<d.length:=O
  have p:=bu b;refine ag (bl p) (dF (λe=>ae.some ?_) λA=>?_)
  ·have:lG d=aa i:=by
    unfold lG;rw[K4];exact⟨b,by simp[e],λj a=>by simp[k j O a]⟩
   unfold pO;rw[this]
  rw[a6 O];refine l _ ⟨i+1,O,O,λj a=>?_⟩ O
  grind
 have:lG d=none:=by
  unfold lG;rw[List.findIdx?_eq_none_iff];intro x q;obtain⟨j,a⟩:=j1.1 q;obtain⟨h,rfl⟩:=b5.1 a;simp[k j h O]
 unfold pO;rw[this]
theorem NT(e:d.length<=1100000)(i:1100000<n):xM n d=aa (ia d):=by
 unfold xM;refine ae.eq (ag (ZA e i) (ae.aP (λz:Bool=>z=ia d) (λj b=>?_) λz k=>ae.some k));unfold pO ia at*;cases a:lG d with
 |none=>
  rw[a] at b;exact aW (λ_=>b _ rfl) (λh=>bs (show(-1:Int)<0 by omega) h)
 |some t=>
  rw[a] at b;obtain⟨l,m⟩:=QO a;have c:=bu l;have o:d.getD t 0=d[t]:=by rw[fh,c];rfl
  refine aW (λh=>bs h (show¬(t:Int)<0 by omega)) λ_=>ag (bl c) (b _ ?_);exact decide_eq_decide.2 ⟨λh=>O,λh=>O⟩
def nh(k:Nat)(a:aF):aF:=⟨(a.aU.set k (a.aU.getD (k+1) 0)).set (k+1) (a.aU.getD k 0),a.const⟩
def qj(k:Nat)(d:List Int):List Int:=(d.set k (d.getD (k+1) 0)).set (k+1) (d.getD k 0)
theorem PN(k:Nat)(d:List Int):(qj k d).length=d.length:=by simp[qj]
theorem QI: ∀x,de x=ab->fr 4 (nh k x):=λx a=>by have:=(fU a).1;unfold fr nh;simp;omega
theorem hS(h:k<l.length)(z:a):l[k]? =aa (l.getD k z):=by grind
theorem PL(b:k+1<l.length)(h:l.length<=500000000)(z:a){K:List a->Option R}(i:ae (K ((l.set k (l.getD (k+1) z)).set (k+1) (l.getD k z))) Q):
  ae (bH (aD l (wr ((k:Int)+1))) λd=>bH (aD l (k:Int)) λe=>bH (cn l (k:Int) d) λc=>bH (aD c (wr ((k:Int)+1))) λm=>bH (cn c (wr ((k:Int)+1)) e) K) Q:=by
 rw[a6 (n:=(k:Int)+1) O,show(k:Int)+1=((k+1:Nat):Int) by omega];refine ag (bl (hS b z)) (ag (bl (hS O z)) (ag (dP O _) ?_));rw[c8];refine ag (bl (hS (l:=l.set k (l.getD (k+1) z)) (k:=k+1) (by simpa using b) z)) (ag (dP (by rw[gr];omega) _) ?_)
 grind
theorem adL(a:k+1<d.length)(b:d.length<=1100000):vX n d (k:Int)=aa (qj k d):=by unfold vX;exact ae.eq (PL a O 0 (ae.some rfl))
theorem adK(n:Nat)(b:k+1<4): ∀x,de x=ab->vW n x (k:Int)=aa (nh k x):=λx a=>by have c:=(fU a).1;unfold vW;refine ae.eq (ag (Bp n x a) (PL O O 0 (ae.some rfl)))
theorem afN(n:Nat)(c:k+1<4): ∀x,de x=ab->jT n x 0 (k:Int) ⟨[],0⟩=aa (nh k x):=λx a=>by have d:=(fU a).1;unfold jT;refine ae.eq (aW (λ_=>ag (x:=nh k x) ?_ (ae.some rfl)) λh=>bs rfl h);unfold Hf;have b:rb n x=aa x:=AY n O;rw[a6 (n:=(k:Int)+1) O,show(k:Int)+1=((k+1:Nat):Int) by omega];refine ae.eq (ag b (ag (bl (hS O 0)) (ag (bl (hS O 0)) (ag (dP O _) (ag (bl (hS O 0)) ?_)))));rw[c8];refine ag (bl (hS (l:=x.aU.set k (x.aU.getD (k+1) 0)) (k:=k+1) b6 0)) (ag (dP (by rw[gr];omega) _) ?_);rw[c8];exact ae.some rfl
def nE(k:Nat)(a:aF):Bool:= !decide (a.aU.getD k 0=0)
def u6(l:Loop)(k:Nat):Bool:=l.lo.any (nE k)||l.aJ.any (nE k)
theorem Zp(o:5500000<=n){l:Loop}(d:kS l)(p:k<4):Fw n l (k:Int)=aa (u6 l k):=by
 obtain⟨⟨q,e⟩,r,i⟩:=d;have b: ∀x,de x=ab->rj n x (k:Int)=aa (nE k x):=λx a=>by
  have:=(fU a).1;unfold rj;exact ae.eq (ag (bl (hS O 0)) (ae.some rfl))
 unfold Fw u6;refine ae.eq (ae.aP (λz=>z=(l.lo.any (nE k)||l.aJ.any (nE k))) (λj c=>?_) λz m=>ae.some m);refine ag (zl (λx a=>b x (e x a)) O O) (ae.cond (λh=>c _ (by rw[h];rfl)) λh=>ag (zl (λx a=>b x (i x a)) O O) (c _ (by rw[h];rfl)))
theorem Pq{f:a->Bool}(h:l[i]? =aa x):(l.take (i+1)).any f=((l.take i).any f||f x):=by rw[eE,h,uh];simp
theorem Zw(w:5500000<=n){l:Loop}(p:kS l)(y:k<4):Cg n l (k:Int)=aa (u6 l k):=by
 obtain⟨⟨A,q⟩,B,r⟩:=p;unfold Cg u6;refine ae.eq (ae.loop (λx:Int=> ∃i:Nat,x=i/\i<=l.lo.length/\(l.lo.take i).any (nE k)=ak) (λx=>l.lo.length-x.toNat) ?_ n _ ⟨0,rfl,O,rfl⟩ O);rintro b z ⟨i,rfl,s,d⟩ h;refine aW (λa=>?_) λm=>?_
 ·have a:i<l.lo.length:=O
  have e:=bu a
  have:=(fU (q _ (gg a))).1;refine ag (bl e) (ag (bl (hS O 0)) (dF (λc=>ae.some ?_) λo=>?_))
  ·rw[jo.2 ⟨_,gg a,by unfold nE;simpa using c⟩];rfl
  rw[a6 O];exact h _ ⟨i+1,O,O,by rw[Pq e,d];unfold nE;simpa using o⟩ O
 have:i=l.lo.length:=O
 subst this;rw[dR] at d;rw[d,Bool.false_or];clear h;refine ae.loop (λx:Int=> ∃i:Nat,x=i/\i<=l.aJ.length/\(l.aJ.take i).any (nE k)=ak) (λx=>l.aJ.length-x.toNat) ?_ n _ ⟨0,rfl,O,rfl⟩ O;rintro b z ⟨i,rfl,s,d⟩ h;refine aW (λa=>?_) λm=>ae.some ?_
 ·have a:i<l.aJ.length:=O
  have e:=bu a
  have:=(fU (r _ (gg a))).1;refine ag (bl e) (ag (bl (hS O 0)) (dF (λc=>ae.some ?_) λo=>?_))
  ·rw[jo.2 ⟨_,gg a,by unfold nE;simpa using c⟩]
  rw[a6 O];exact h _ ⟨i+1,O,O,by rw[Pq e,d];unfold nE;simpa using o⟩ O
 have:i=l.aJ.length:=O
 grind
def jZ(k:Nat)(l:List Loop):List Loop:=(l.set k (l.getD (k+1) ⟨[],[]⟩)).set (k+1) (l.getD k ⟨[],[]⟩)
theorem x8(k:Nat)(l:List Loop):(jZ k l).length=l.length:=by simp[jZ]
def wX(k:Nat)(P:Part):Part:=⟨(jZ k P.nest).take (k+2)++((jZ k P.nest).drop (k+2)).map (eB (nh k)),P.body.map (iU (nh k))⟩
def qW(p:Prog)(i k:Nat)(P:Part):Bool:= !u6 (P.nest.getD (k+1) ⟨[],[]⟩) k&&(jR p i).all λd=>ia (qj k d)
def nD(p:Prog)(a b:Int):Prog×Bool:=
 if dj p a b=ab/\dj p a (b+1)=ab then
  match aD p.parts a with
  |some P=>if qW p a.toNat b.toNat P=ab then iy ⟨p.bc,p.parts.set a.toNat (wX b.toNat P)⟩ else eF
  |none=>eF
 else eF
theorem Ic{l:List Loop}(b:k+1<l.length){y:Loop}(a:y∈jZ k l):y∈l:=by
 unfold jZ at a
 grind
theorem Rw(b:eO r P=ab)(d:k+1<P.nest.length):iB 4 (wX k P):=by
 obtain⟨m,e⟩:=im b;obtain⟨_,h,i,_⟩:=gy b;refine⟨⟨by simp only[wX,hn,List.length_map,kI,lj,x8];omega,λy a=>?_⟩,by simp only[wX,List.length_map];exact h.2,λs l=>?_⟩
 ·rcases eY.1 a with a|a
  ·exact(uS b).1.2 y (Ic d (gP a))
  obtain⟨z,c,rfl⟩:=eK.1 a;exact yb QI (e z (Ic d (fN c)))
 obtain⟨z,c,rfl⟩:=eK.1 l;exact CW QI (i z c)
theorem Qk(a:p.parts[i]? =aa P)(h:dj p (i:Int) ((k:Int)+1)=ab):k+1<P.nest.length:=by
 obtain⟨_,b,c,d,e,l,m,n,_,_,o,_⟩:=ku h
 grind
theorem P9(a:dj p (i:Int) (k:Int)=ab)(b:dj p (i:Int) ((k:Int)+1)=ab)(c:p.parts[i]? =aa P):nD p i k=if qW p i k P=ab then iy ⟨p.bc,p.parts.set i (wX k P)⟩ else eF:=by
 unfold nD;rw[bb ⟨a,b⟩,bl c]
 grind
theorem adO(H:22000000<=n)(w:ee 1100000 p)(a b:Int):Ew n p a b=aa (nD p a b):=by
 unfold Ew;by_cases c:b= -1
 ·subst c;unfold nD;rw[a8 λh=>by rw[rO O] at h;cases h.1];exact ae.eq (ht (BI O w a) λj K=>ae.cond (λ_=>aW (λ_=>ae.some rfl) λh=>bs (show(-1:Int)<0 by omega) h) λ_=>ae.some rfl)
 refine ae.eq (ag (x2 O w a b c) ?_);by_cases e:dj p a b=ab
 ·rw[bb e];refine cf (aW (λh=>by rw[rO h] at e;cases e) λt=>?_);obtain⟨x,i,k,P,l,rfl,rfl,m,u,v,L,o,E⟩:=ku e;obtain⟨K,D⟩:=im o;obtain⟨_,Q,R,_⟩:=gy o;refine ag (bl m) ?_;rw[a6 (n:=(k:Int)+1) O,a6 (n:=(k:Int)+2) O];refine aW (λW=>ae.some ?_) λX=>?_
  ·unfold nD;rw[a8 λh=>by have:=Qk m h.2;omega];rfl
  have q:k+1<P.nest.length:=O
  have z:dj p (i:Int) ((k:Int)+1)=ab:=by
   unfold dj;rw[x,bl m]
   grind
  rw[P9 e z m];have G:=hS q (⟨[],[]⟩:Loop);rw[show(k:Int)+1=((k+1:Nat):Int) by omega];refine ag (bl G) (ag (Zp O (D _ (bT G)) O) (ae.cond (λA=>ae.some ?_) λA=>?_))
  ·rw[a8 (by unfold qW;rw[A];simp)];rfl
  refine ag (NL H w.sm x m (F:=λB=>vX n B (k:Int)) (f:=qj k) (λd r=>adL (by have:=(uu x m r).1;omega) (by have:=(uu x m r).1;omega)) (PN k)) (ae.cond (λr=>?_) λr=>ae.some ?_)
  ·rw[bb (by unfold qW;rw[A,r];rfl)];refine ag (bl (hS O (⟨[],[]⟩:Loop))) (ag (dP O _) (ag (dP (by rw[gr];omega) _) (ag (dP Z _) ?_)));rw[c8,c8,c8];have C:=zy (n:=n) O (nest:=jZ k P.nest) (body:=P.body) (s:=k+2) (by rw[x8];omega) (by rw[x8];omega) (λy g=>D y (Ic q (fN g))) Q.2 R (F:=λB=>vW n B (k:Int)) (adK n O);rw[show(k:Int)+2=((k+2:Nat):Int) by omega];refine ag C (ag (dP b6 _) ?_);rw[c8,oi];exact ag (rC O (yr w i (Rw o q))) (ae.some rfl)
  rw[a8 (by unfold qW;rw[r];simp)];rfl
 unfold nD;rw[a8 e,a8 λh=>e h.1];exact b3 (ae.some rfl)
theorem PM{a b:List Loop}(c:k+1<a.length):jZ k (a++b)=jZ k a++b:=by
 have d:(a++b).getD (k+1) ⟨[],[]⟩=a.getD (k+1) ⟨[],[]⟩:=by rw[fh,fh,jI c]
 have e:(a++b).getD k ⟨[],[]⟩=a.getD k ⟨[],[]⟩:=by rw[fh,fh,jI O]
 unfold jZ
 grind
theorem ac9{l:List Loop}(c:k+1<l.length):jZ k (l.take (k+2))=(jZ k l).take (k+2):=by have h:=PM (k:=k) (a:=l.take (k+2)) (b:=l.drop (k+2)) (by rw[c7];omega);rw[qw] at h;rw[h,r1 (by rw[x8,c7];omega)];exact(hi (by rw[x8,c7];omega)).symm
theorem ac'{l:List Loop}:(jZ k l).drop (k+2)=l.drop (k+2):=by unfold jZ;rw[ps O,ps O]
theorem ag1(a:k+1<P.nest.length)(r:List Loop):jZ k (P.nest.take (k+2)++r)=(jZ k P.nest).take (k+2)++r:=by rw[PM (by rw[c7];omega),ac9 a]
theorem acU(T:22000000<=n)(q:ee 1100000 p)(a c:Int):Ej n p a c=aa (nD p a c):=by
 unfold Ej;by_cases F:dj p a c=ab;rotate_left
 ·unfold nD;rw[a8 λh=>F h.1];refine ae.eq (ag (lu O q) (ae.aP (λz=>z=ab) (λj H=>ag (nm O q a c) (ae.cond (λ_=>H _ rfl) λh=>bs (by simpa using h) F)) λz K=>by rw[K];exact cf (ae.some rfl)))
 obtain⟨X,i,k,P,l,rfl,rfl,L,cC,U,V,y,hk⟩:=ku F;obtain⟨Y,M⟩:=im y;obtain⟨_,h4,h5,_⟩:=gy y;rw[a6 (n:=(k:Int)+1) O];by_cases e:dj p (i:Int) ((k:Int)+1)=ab;rotate_left
 ·unfold nD;rw[a8 λh=>e h.2];refine ae.eq (ag (lu O q) (ae.aP (λz=>z=ab) (λj H=>ag (nm O q _ _) (ae.cond (λh=>by rw[F] at h;cases h) λ_=>ag (nm O q _ _) (ae.cond (λ_=>H _ rfl) λh=>bs (by simpa using h) e))) λz K=>by rw[K];exact cf (ae.some rfl)))
 rw[P9 F e L];have B:=Qk L e;have N:=hS B (⟨[],[]⟩:Loop);refine ae.eq (ag (lu O q) (ae.aP (λz=>z=u6 (P.nest.getD (k+1) ⟨[],[]⟩) k) (λj H=>?_) λz K=>?_))
 ·refine ag (nm O q _ _) (ae.cond (λh=>by rw[F] at h;cases h) λ_=>ag (nm O q _ _) (ae.cond (λh=>by rw[e] at h;cases h) λ_=>ag (bl L) ?_));rw[show(k:Int)+1=((k+1:Nat):Int) by omega];exact ag (bl N) (ag (Zw O (M _ (bT N)) O) (H _ rfl))
 subst K;refine ae.cond (λg=>ae.some ?_) λg=>?_
 ·rw[a8 (by unfold qW;rw[g];simp)];rfl
 refine ag (x:=jR p i) (Na T q.sm X _) ?_;have Q:=IV X (i:=i);have R:=λd G=>(uu X L (d:=d) G).1;have t:qW p i k P=(jR p i).all (λd=>ia (qj k d)):=by unfold qW;rw[g];rfl
 rw[t];generalize jR p i=D at Q R;refine ae.loop (λx:Int=> ∃m:Nat,x=m/\m<=D.length/\ ∀d∈D.take m,ia (qj k d)=ab) (λx=>D.length-x.toNat) ?_ n _ ⟨0,rfl,O,λd G=>by simp at G⟩ O;rintro u z ⟨m,rfl,hm,o⟩ b8;refine aW (λC=>?_) λk3=>?_
 ·have C:m<D.length:=O
  have S:=bu C;have r:=gg C;have nR:=R _ r;rw[show(k:Int)+1=((k+1:Nat):Int) by omega];refine ag (bl S) (ag (dr b6) (ag (bl (hS O 0)) (ag (x:=D[m].getD k 0) (bl (hS (l:=D[m]) O 0)) (ag (dP (by rw[rY];omega) _) (ag (bl (hS O 0)) ?_)))));rw[rY,c8];refine ag (bl (hS (l:=D[m].set k (D[m].getD (k+1) 0)) (k:=k+1) b6 0)) (ag (dP (by rw[gr];omega) _) ?_);rw[c8];refine ag (x:=ia (qj k D[m])) (NT (d:=qj k D[m]) (by rw[PN];omega) O) (ae.cond (λh=>ae.some ?_) λh=>?_)
  ·rw[a8 λW=>?_]
   ·rfl
   have:=gD.1 W _ r;rw[this] at h;cases h
  rw[a6 O];refine b8 _ ⟨m+1,O,O,λd G=>?_⟩ O;rw[eE,S] at G;rcases eY.1 G with E|E
  ·exact o d E
  have:d=D[m]:=by simpa using E
  subst this;simpa using h
 have:m=D.length:=O
 subst this;rw[dR] at o;rw[bb (gD.2 o)];have I:=AQ (n:=n) O (x:=P) (s:=k+1) O Y M h4.2 h5 (way:=0) (v:=(k:Int)) (b:=⟨[],0⟩) (f:=nh k) λn _ x hx=>afN n O x hx;rw[show(k:Int)+1=((k+1:Nat):Int) by omega];refine ag (bl L) (ag I ?_);have mc:(P.nest.take (k+2)++(P.nest.drop (k+2)).map (eB (nh k))).length=P.nest.length:=by rw[dm,dJ,c7,fY];omega
 have w:=ag1 B ((P.nest.drop (k+2)).map (eB (nh k)));rw[show k+1+1=k+2 by omega];dsimp only;generalize P.nest.take (k+2)++(P.nest.drop (k+2)).map (eB (nh k))=A at mc w;refine ag (bl (hS O (⟨[],[]⟩:Loop))) (ag (bl (hS O (⟨[],[]⟩:Loop))) (ag (dP O _) ?_));rw[c8];refine ag (bl (hS (l:=A.set k (A.getD (k+1) ⟨[],[]⟩)) (k:=k+1) (by rw[gr];omega) (⟨[],[]⟩:Loop))) (ag (dP (by rw[gr];omega) _) ?_);rw[c8];have nQ:(⟨(A.set k (A.getD (k+1) ⟨[],[]⟩)).set (k+1) (A.getD k ⟨[],[]⟩),P.body.map (iU (nh k))⟩:Part)=wX k P:=by
  have:(A.set k (A.getD (k+1) ⟨[],[]⟩)).set (k+1) (A.getD k ⟨[],[]⟩)=jZ k A:=rfl;rw[this,w,<-ac'];rfl
 rw[nQ];exact ag (x6 O q U ((Rw y B).mono O)) (ae.some rfl)
def nB(k:Nat)(c:Int):aF:=⟨[0,0,0,0].set k (-1),c⟩
def q1(k:Nat)(c:Int)(x:aF):aF:=vr x k (nB k c)
def l0(k:Nat)(d:List Int):List Int:=d.set k (0-d.getD k 0)
def nA(l:Loop):Int:=dy l.lo+dy l.aJ-1
def yE(k:Nat)(c:Int)(P:Part):Part:=⟨P.nest.take (k+1)++(P.nest.drop (k+1)).map (eB (q1 k c)),P.body.map (iU (q1 k c))⟩
def sJ(p:Prog)(i k:Nat)(l:Loop):Bool:=e4 l&&(jR p i).all λd=>ia (l0 k d)
def pP(p:Prog)(a b:Int):Prog×Bool:=
 if dj p a b=ab then
  match aD p.parts a with
  |some P=>match aD P.nest b with
   |some l=>if sJ p a.toNat b.toNat l=ab then iy ⟨p.bc,p.parts.set a.toNat (yE b.toNat (nA l) P)⟩ else eF
   |none=>eF
  |none=>eF
 else eF
theorem Pe(k:Nat)(d:List Int):(l0 k d).length=d.length:=by simp[l0]
theorem PT{l:Loop}(h:dj p (i:Int) (k:Int)=ab)(a:p.parts[i]? =aa P)(b:P.nest[k]? =aa l):pP p i k=if sJ p i k l=ab then iy ⟨p.bc,p.parts.set i (yE k (nA l) P)⟩ else eF:=by
 unfold pP;rw[bb h,bl a];dsimp only;rw[bl b]
 grind
theorem PU(b:k<4)(a:cZ 999 c):fw 1000 (nB k c):=by unfold cZ at a;rcases(O:k=0\/k=1\/k=2\/k=3) with rfl|rfl|rfl|rfl<;>(unfold fw cZ nB;simp;omega)
theorem PV(k:Nat)(c:Int): ∀x,de x=ab->fr 4 (q1 k c x):=λx a=>by have:=Q' ⟨x.aU.set k 0,x.const⟩ (nB k c) (x.aU.getD k 0) (by dsimp only;rw[gr];exact(fU a).1) (by simp[nB]);unfold fr q1 vr;omega
theorem uY{l:List aF}(h: ∀x∈l,de x=ab):cZ 99 (dy l):=by
 unfold dy;cases l with
 |nil=>unfold cZ;simp
 |cons x t=>exact(fU (h x ff)).2.1
theorem Is{l:Loop}(h:kS l):cZ 999 (nA l):=by have a:=uY h.1.2;have b:=uY h.2.2;unfold cZ at*;unfold nA;omega
theorem acB(n:Nat)(a:k<d.length)(b: ∀x∈d,cZ 99999 x):vU n d (k:Int)=aa (l0 k d):=by have e:=hS a (0:Int);have a1:=b _ (bT e);unfold cZ at a1;unfold vU;refine ae.eq (ag (bl e) ?_);rw[a6 O];refine ag (dP O _) (ae.some ?_);rw[c8];rfl
theorem afd(n:Nat)(a:k<4):nY n (k:Int) (-1)=aa ⟨[0,0,0,0].set k (-1),0⟩:=by rcases(O:k=0\/k=1\/k=2\/k=3) with rfl|rfl|rfl|rfl<;>rfl
theorem acA(b:5500000<=n)(a:k<4)(d:cZ 999 c): ∀x,de x=ab->vT n x (k:Int) (nB k c)=aa (q1 k c x):=λx e=>by unfold vT;rw[Gf b ((ow e).mono O) (PU a d) a];rfl
theorem acR(a:k<4)(b:cZ 999 c): ∀n,5500000<=n-> ∀x,de x=ab->jT n x 1 (k:Int) (nB k c)=aa (q1 k c x):=λn d x e=>by unfold jT;rw[M8 d ((ow e).mono O) (PU a b) a];rfl
theorem ag2(a:5500000<=n)(b:k<4)(d:cZ 999 c):kj n ⟨[0,0,0,0],c⟩ 1 (hB k) (-1)=aa (nB k c):=by unfold cZ at d;rw[uo a (by unfold fw cZ;simp;omega) ((sl b).mono O) ⟨O,O⟩ ⟨O,O⟩];rcases(O:k=0\/k=1\/k=2\/k=3) with rfl|rfl|rfl|rfl<;>simp[oN,hB,nB]
theorem QT(b:eO r P=ab)(m:k<P.nest.length)(c:Int):iB 4 (yE k c P):=by
 obtain⟨n,e⟩:=im b;obtain⟨_,h,i,_⟩:=gy b;refine⟨⟨by simp only[yE,hn,List.length_map,kI,lj];omega,λy a=>?_⟩,by simp only[yE,List.length_map];exact h.2,λs l=>?_⟩
 ·rcases eY.1 a with a|a
  ·exact(uS b).1.2 y (gP a)
  obtain⟨z,d,rfl⟩:=eK.1 a;exact yb (PV k c) (e z (fN d))
 obtain⟨z,d,rfl⟩:=eK.1 l;exact CW (PV k c) (i z d)
theorem adP(X:22000000<=n)(w:ee 1100000 p)(a b:Int):Eu n p a b=aa (pP p a b):=by
 unfold Eu;by_cases e:b= -1
 ·subst e;unfold pP;rw[a8 λh=>by rw[rO O] at h;cases h];exact ae.eq (ht (BI O w a) λv Q=>ae.cond (λ_=>aW (λ_=>ae.some rfl) λh=>bs (show(-1:Int)<0 by omega) h) λ_=>ae.some rfl)
 refine ae.eq (ag (x2 O w a b e) ?_);by_cases m:dj p a b=ab
 ·rw[bb m];refine cf (aW (λh=>by rw[rO h] at m;cases m) λE=>?_);obtain⟨z,i,k,P,l,rfl,rfl,r,A,I,B,o,R⟩:=ku m;obtain⟨Q,W⟩:=im o;obtain⟨_,g,j,_⟩:=gy o;have c:=W l (bT A);rw[PT m r A];refine ag (bl r) (ag (bl A) (ag (HP O c) ?_));cases C:e4 l with
  |false=>exact b3 (ae.some (by rw[a8 (by unfold sJ;rw[C];simp)];rfl))
  |true=>
   refine cf (ag (NL X w.sm z r (F:=λD=>vU n D (k:Int)) (f:=l0 k) (λd q=>acB n (by have:=(uu z r q).1;omega) (uu z r q).2) (Pe k)) (ae.cond (λq=>?_) λq=>ae.some ?_))
   ·rw[show sJ p i k l=ab by unfold sJ;rw[C,q];rfl];refine ag (afd n R) ?_;have bS:=Is c;have G:=uY c.1.2;have H:=uY c.2.2;unfold cZ at G H;have K:(⟨([0,0,0,0]:List Int).set k (-1),wr ((wr (dy l.lo+dy l.aJ))-1)⟩:aF)=nB k (nA l):=by
     rw[a6 (n:=dy l.lo+dy l.aJ) O,a6 O];rfl
    rw[a6 (n:=(k:Int)+1) O];have L:=zy (n:=n) O (nest:=P.nest) (body:=P.body) (s:=k+1) O Q (λy t=>W y (fN t)) g.2 j (F:=λD=>vT n D (k:Int) (⟨([0,0,0,0]:List Int).set k (-1),wr ((wr (dy l.lo+dy l.aJ))-1)⟩:aF)) (f:=q1 k (nA l)) λx u=>by rw[K];exact acA O R bS x u
    rw[show(k:Int)+1=((k+1:Nat):Int) by omega];refine ag L (ag (dP Z _) ?_);rw[c8];exact ag (rC O (yr w i (QT o B (nA l)))) (ae.some rfl)
   rw[a8 (by unfold sJ;rw[C,q];simp)];rfl
 unfold pP;rw[a8 m,a8 m];exact b3 (ae.some rfl)
theorem acV(N:22000000<=n)(B:ee 1100000 p)(c e:Int):Ei n p c e=aa (pP p c e):=by
 unfold Ei;refine ae.eq (ag (lu O B) (ag (nm O B c e) ?_));by_cases a1:dj p c e=ab;rotate_left
 ·unfold pP;rw[a8 a1,show dj p c e=ak by simpa using a1];exact cf (ae.some rfl)
 rw[a1];refine b3 ?_;obtain⟨F,i,k,P,l,rfl,rfl,G,H,S,K,o,L⟩:=ku a1;obtain⟨T,E⟩:=im o;obtain⟨_,U,V,_⟩:=gy o;have h:=E l (bT H);rw[PT a1 G H];refine ag (bl G) (ag (bl H) (ag (GY O h) (ag (x:=jR p i) (Na N B.sm F _) ?_)));have r:=IV F (i:=i);have w:=λd Y=>uu F G (d:=d) Y;have Q:sJ p i k l=(e4 l&&(jR p i).all λd=>ia (l0 k d)):=rfl;rw[Q];have h3:(if e4 l=ab then(dy l.lo,dy l.aJ,ab) else((0:Int),(0:Int),ak)).2.2=e4 l:=by cases e4 l<;>rfl
 generalize jR p i=D at r w;refine ae.loop (λx:Bool×Int=> ∃m:Nat,x.2=m/\m<=D.length/\x.1=(e4 l&&(D.take m).all λd=>ia (l0 k d))) (λx=>D.length-x.2.toNat) ?_ n _ ⟨0,rfl,O,by dsimp only;rw[h3,List.take_zero];simp⟩ Z;rintro R ⟨ok,z⟩ ⟨m,C,hm,a⟩ b8;dsimp only at C a⊢;subst C;refine aW (λq=>?_) λk3=>?_
 ·have q:m<D.length:=O
  have I:=bu q;obtain⟨g1,g2⟩:=w _ (gg q);have M:=hS (l:=D[m]) (k:=k) O 0;have a1:=g2 _ (bT M);unfold cZ at a1;refine ae.aP (λz=>z.2=(e4 l&&(D.take (m+1)).all λd=>ia (l0 k d))) (λj W=>?_) λz C=>?_
  ·refine ag (bl I) (ag (dr b6) ?_);rw[rY];refine ag (bl M) ?_;rw[a6 O];refine ag (dP O _) ?_;rw[c8];have y:(D.take (m+1)).all (λd=>ia (l0 k d))=((D.take m).all (λd=>ia (l0 k d))&&ia (l0 k D[m])):=by
    rw[eE,I,List.all_append];simp
   rw[y,<-my,<-a] at W;cases ok with
   |true=>exact cf (ag (x:=ia (l0 k D[m])) (NT (d:=l0 k D[m]) (by rw[Pe];omega) O) (W _ (by rw[gh])))
   |false=>exact b3 (W _ (by rw[Bool.false_and]))
  rw[a6 O];exact b8 _ ⟨m+1,Z,O,C⟩ Z
 have:m=D.length:=O
 subst this;rw[dR] at a;rw[<-a];cases A:ok with
 |false=>exact cf (ae.some (by rw[a8 a7];rfl))
 |true=>
  rw[bb rfl];have X:e4 l=ab:=by
   rw[A] at a;cases X:e4 l with
   |true=>rfl
   |false=>rw[X] at a;cases a
  have g:=uY h.1.2;have t:=uY h.2.2;unfold cZ at g t;have u:wr ((wr ((if e4 l=ab then(dy l.lo,dy l.aJ,ab) else((0:Int),(0:Int),ak)).1+(if e4 l=ab then(dy l.lo,dy l.aJ,ab) else((0:Int),(0:Int),ak)).2.1))-1)=nA l:=by
   rw[bb X];dsimp only;rw[a6 (n:=dy l.lo+dy l.aJ) O,a6 O];rfl
  rw[u];refine b3 (ag (ob n _) (ag (Cf n L) (ag (ag2 O L (Is h)) (ag (AQ (n:=n) O (x:=P) (s:=k) O T E U.2 V (way:=1) (v:=(k:Int)) (b:=nB k (nA l)) (f:=q1 k (nA l)) (acR L (Is h))) ?_))));exact ag (x6 O B S ((QT o K (nA l)).mono O)) (ae.some rfl)
end
section
def k6(p:Prog)(j:Nat):Nat:=match p.parts[j]? with
 |some x=>x.nest.length
 |none=>0
def q8(i m:Nat):List Step:=(gi m).map λk:Nat=>⟨1,i,k,0⟩
def vv(i m:Nat):List Step:=(gi m).map λk:Nat=>⟨2,i,k,0⟩
def RQ(p:Prog)(j:Nat):List Step:=q8 j (k6 p j-1)++vv j (k6 p j)
def kh(p:Prog)(i:Nat):List Step:=(gi i).flatMap (RQ p)
def q9(i:Nat):List Step:=(gi i).flatMap λj:Nat=>[⟨6,j,0,0⟩,⟨9,j,0,0⟩]
def vu(i:Nat):List Step:=(gi i).map λj:Nat=>⟨10,j,0,0⟩
def oO(p:Prog):List Step:=kh p p.parts.length++q9 (p.parts.length-1)++vu p.parts.length++[⟨11,0,0,0⟩]
variable {a:Type}{n i m:Nat}{xs:List Step}
theorem I6(f:Nat->a)(i:Nat):(gi (i+1)).map f=(gi i).map f++[f i]:=by rw[om,h7];rfl
theorem yw(f:Nat->List a)(i:Nat):(gi (i+1)).flatMap f=(gi i).flatMap f++f i:=by rw[om,nv];simp
theorem C3(i m:Nat):(q8 i m).length=m:=by simp[q8]
theorem Q7(i m:Nat):(vv i m).length=m:=by simp[vv]
theorem IF(m:Nat):(vu m).length=m:=by simp[vu]
theorem yq: ∀(m:Nat),(q9 m).length=2*m
 |0=>rfl
 |m+1=>by rw[q9,yw,dm,<-q9,yq m];simp;omega
theorem ye{p:Prog}(h: ∀j,k6 p j<=4): ∀(m:Nat),(kh p m).length<=8*m
 |0=>by simp[kh]
 |m+1=>by
  have:=ye h m
  have:=h m;rw[kh,yw,dm,<-kh,RQ,dm,C3,Q7];omega
theorem vl{p:Prog}(h:b1 p=ab)(j:Nat):k6 p j<=4:=by
 unfold k6;cases c:p.parts[j]? with
 |none=>simp
 |some x=>
  simp only[b1,jl,cx,decide_eq_true_eq,js] at h;have b:=h.1.2.2 x (bT c);simp only[eO,cx] at b;have a:=b.1;unfold jO at a;split at a
  ·rename_i d
   have:=d.1;simp only[k7,cx,decide_eq_true_eq] at this;exact this.2
  cases a
theorem xT{p:Prog}(h:b1 p=ab):p.parts.length<=4:=by
 simp only[b1,jl,cx,decide_eq_true_eq] at h
 grind
theorem Oq{a b:Int}(h: ¬a<b):b<=a:=Int.not_lt.1 h
section
variable {p:Prog}{R:Type}{Q:R->Prop}
theorem RJ(r:5500000<=n)(s:m<=4)(w:xs.length<=100){K:List Step->Option R}(h:ae (K (xs++q8 i (m-1))) Q):
  ae (bk (λa (z:List Step×Int)=>bif ai (wr (z.2+1)<(m:Int)) then bH (app z.1 [(⟨1,(i:Int),z.2,0⟩:Step)]) λb=>a (b,wr (z.2+1)) else K z.1) n (xs,0)) Q:=by
 refine ae.loop (λz:List Step×Int=> ∃k:Nat,z.2=k/\k<=m-1/\z.1=xs++q8 i k) (λz=>m-z.2.toNat) ?_ n _ ⟨0,rfl,O,by simp[q8]⟩ Z;rintro a ⟨x,c⟩ ⟨k,d,y,e⟩ l;dsimp only at d e⊢;subst d e;rw[a6 O];refine aW (λo=>ag (dr (by rw[dm,C3];simp;omega)) (l _ ⟨k+1,a7,O,?_⟩ Z)) λq=>?_
 ·dsimp only;rw[fF];congr 1;exact(I6 _ _).symm
 rw[show k=m-1 by omega];exact h
theorem RI(r:5500000<=n)(s:m<=4)(w:xs.length<=100){K:List Step->Option R}(y:ae (K (xs++vv i m)) Q):
  ae (bk (λa (z:List Step×Int)=>bif ai (z.2<(m:Int)) then bH (app z.1 [(⟨2,(i:Int),z.2,0⟩:Step)]) λb=>a (b,wr (z.2+1)) else K z.1) n (xs,0)) Q:=by
 refine ae.loop (λz:List Step×Int=> ∃k:Nat,z.2=k/\k<=m/\z.1=xs++vv i k) (λz=>m-z.2.toNat) ?_ n _ ⟨0,rfl,O,by simp[vv]⟩ Z;rintro a ⟨x,c⟩ ⟨k,h,A,l⟩ o;dsimp only at h l⊢;subst h l;refine aW (λq=>ag (dr (by rw[dm,Q7];simp;omega)) ?_) λd=>?_
 ·rw[a6 O];refine o _ ⟨k+1,a7,O,?_⟩ Z;dsimp only;rw[fF];congr 1;exact(I6 _ _).symm
 have e:k=m:=by have:=Oq d;omega
 grind
theorem UX(q:5500000<=n)(r:m<=4)(s:xs.length<=100){K:List Step->Option R}(h:ae (K (xs++q9 (m-1))) Q):
  ae (bk (λa (z:List Step×Int)=>bif ai (wr (z.2+1)<(m:Int)) then bH (app z.1 [(⟨6,z.2,0,0⟩:Step),(⟨9,z.2,0,0⟩:Step)]) λb=>a (b,wr (z.2+1)) else K z.1) n (xs,0)) Q:=by
 refine ae.loop (λz:List Step×Int=> ∃k:Nat,z.2=k/\k<=m-1/\z.1=xs++q9 k) (λz=>m-z.2.toNat) ?_ n _ ⟨0,rfl,O,by simp[q9]⟩ Z;rintro a ⟨x,c⟩ ⟨k,d,w,e⟩ i;dsimp only at d e⊢;subst d e;rw[a6 O];refine aW (λl=>ag (dr (by rw[dm,yq];simp;omega)) (i _ ⟨k+1,a7,O,?_⟩ Z)) λo=>?_
 ·dsimp only;rw[fF];congr 1;exact(yw _ _).symm
 rw[show k=m-1 by omega];exact h
theorem UW(q:5500000<=n)(r:m<=4)(s:xs.length<=100){K:List Step->Option R}(w:ae (K (xs++vu m)) Q):
  ae (bk (λa (z:List Step×Int)=>bif ai (z.2<(m:Int)) then bH (app z.1 [(⟨10,z.2,0,0⟩:Step)]) λb=>a (b,wr (z.2+1)) else K z.1) n (xs,0)) Q:=by
 refine ae.loop (λz:List Step×Int=> ∃k:Nat,z.2=k/\k<=m/\z.1=xs++vu k) (λz=>m-z.2.toNat) ?_ n _ ⟨0,rfl,O,by simp[vu]⟩ Z;rintro a ⟨x,c⟩ ⟨k,h,y,i⟩ l;dsimp only at h i⊢;subst h i;refine aW (λo=>ag (dr (by rw[dm,IF];simp;omega)) ?_) λd=>?_
 ·rw[a6 O];refine l _ ⟨k+1,a7,O,?_⟩ Z;dsimp only;rw[fF];congr 1;exact(I6 _ _).symm
 have e:k=m:=by have:=Oq d;omega
 grind
end
theorem Qf(m:5500000<=n){p:Prog}(o:b1 p=ab){Q:List Step->Prop}(r:Q (oO p)):
  ae (bk (λc ((k,h):(List Step)×Int)=>bif ai (wr (h+1)<(p.parts.length:Int)) then bH (app k [(⟨6,h,0,0⟩:Step),(⟨9,h,0,0⟩:Step)]) λl=>c (l,wr (h+1)) else
   bk (λa ((d,b):(List Step)×Int)=>bif ai (b<(p.parts.length:Int)) then bH (app d [(⟨10,b,0,0⟩:Step)]) λi=>a (i,wr (b+1)) else bH (app d [(⟨11,0,0,0⟩:Step)]) λe=>aa e) n (k,0)) n (kh p p.parts.length,0)) Q:=by have q:=xT o;have cC:=ye (vl o) p.parts.length;refine UX m q (xs:=kh p p.parts.length) O (K:=λx=>bk (λa ((d,b):(List Step)×Int)=>bif ai (b<(p.parts.length:Int)) then bH (app d [(⟨10,b,0,0⟩:Step)]) λi=>a (i,wr (b+1)) else bH (app d [(⟨11,0,0,0⟩:Step)]) λe=>aa e) n (x,0)) ?_;refine UW m q (xs:=kh p p.parts.length++q9 (p.parts.length-1)) (by rw[dm,yq];omega) (K:=λx=>bH (app x [(⟨11,0,0,0⟩:Step)]) λe=>aa e) ?_;exact ag (dr (by rw[dm,dm,yq,IF];simp;omega)) (ae.some r)
theorem RD{p:Prog}{x:Part}(h:p.parts[i]? =aa x):k6 p i=x.nest.length:=by unfold k6;rw[h]
theorem UQ(y:7700000<=n){p:Prog}(A:ho p):D4 n p=aa (if b1 p=ab then oO p else []):=by
 refine ae.eq ?_;unfold D4;refine ag (ta y A) (ae.cond (λh=>ae.some ?_) λh=>?_)
 ·rw[a8 (by simpa using h)]
 have k:b1 p=ab:=by simpa using h
 rw[bb k];have G:=xT k;refine ae.loop (λz:List Step×Int=> ∃i:Nat,z.2=i/\i<=p.parts.length/\z.1=kh p i) (λz=>p.parts.length-z.2.toNat) ?_ n _ ⟨0,rfl,O,by simp[kh]⟩ Z;rintro a ⟨x,c⟩ ⟨i,q,H,r⟩ B;dsimp only at q r⊢;subst q r;have cC:=ye (vl k) i;refine aW (λC=>?_) λD=>?_
 ·have s:p.parts[i]? =aa p.parts[i]:=bu O;refine ag (bl s) ?_;have l:=RD s;have w:=vl k i;generalize p.parts[i]=L at l⊢;rw[<-l];refine RJ (n:=n) (i:=i) (m:=k6 p i) (xs:=kh p i) O w O (K:=λF=>bk (λb ((d,e):(List Step)×Int)=>bif ai (e<(k6 p i:Int)) then bH (app d [(⟨2,(i:Int),e,0⟩:Step)]) λo=>b (o,wr (e+1)) else a (d,wr ((i:Int)+1))) n (F,0)) ?_;refine RI (n:=n) (i:=i) (m:=k6 p i) (xs:=kh p i++q8 i (k6 p i-1)) O w (by rw[dm,C3];omega) (K:=λd=>a (d,wr ((i:Int)+1))) ?_;rw[a6 O];refine B _ ⟨i+1,a7,O,?_⟩ Z;dsimp only;rw[fF];exact(yw _ _).symm
 rw[show i=p.parts.length by omega];exact Qf O k rfl
theorem UP(A:7700000<=n){p:Prog}(B:ho p):DY n p=aa (if b1 p=ab then oO p else []):=by
 refine ae.eq ?_;unfold DY;refine ag (kf A B) (ae.cond (λh=>ae.some ?_) λh=>?_)
 ·rw[a8 (by simpa using h)]
 have k:b1 p=ab:=by simpa using h
 rw[bb k];have H:=xT k;refine ae.loop (λz:List Step×Int=> ∃i:Nat,z.2=i/\i<=p.parts.length/\z.1=kh p i) (λz=>p.parts.length-z.2.toNat) ?_ n _ ⟨0,rfl,O,by simp[kh]⟩ Z;rintro a ⟨x,c⟩ ⟨i,r,L,s⟩ C;dsimp only at r s⊢;subst r s;have cC:=ye (vl k) i;refine aW (λD=>?_) λF=>?_
 ·have w:p.parts[i]? =aa p.parts[i]:=bu O;have o:aD p.parts (i:Int)=aa p.parts[i]:=bl w;have l:=RD w;have y:=vl k i;simp only[o,Option.bind_some];generalize p.parts[i]=W at l⊢;rw[<-l];refine RJ (n:=n) (i:=i) (m:=k6 p i) (xs:=kh p i) O y O (K:=λG=>bk (λb ((d,e):(List Step)×Int)=>bif ai (e<(k6 p i:Int)) then bH (app d [(⟨2,(i:Int),e,0⟩:Step)]) λq=>b (q,wr (e+1)) else a (d,wr ((i:Int)+1))) n (G,0)) ?_;refine RI (n:=n) (i:=i) (m:=k6 p i) (xs:=kh p i++q8 i (k6 p i-1)) O y (by rw[dm,C3];omega) (K:=λd=>a (d,wr ((i:Int)+1))) ?_;rw[a6 O];refine C _ ⟨i+1,a7,O,?_⟩ Z;dsimp only;rw[fF];exact(yw _ _).symm
 rw[show i=p.parts.length by omega];exact Qf O k rfl
theorem aea{p:Prog}(a:b1 p=ab):(oO p).length<=100/\0<(oO p).length:=by
 have b:=xT a
 have:=ye (vl a) p.parts.length;unfold oO;simp only[hn,yq,IF,List.length_cons,List.length_nil];omega
end
def mM(k:Int):Int:=if k=3\/k=4\/k=5 then 3 else if k=1\/k=2\/k=7\/k=8 then 2 else if k=6\/k=9\/k=10 then 1 else 0
def sC(s:Step):Bool:=ai (1<=s.kind/\s.kind<=11)&&((ai (0<mM s.kind)||decide (s.part=0))&&((ai (1<mM s.kind)||decide (s.a=0))&&(ai (2<mM s.kind)||decide (s.b=0))))
theorem Ri(k:Int):0<=mM k/\mM k<=3:=by
 unfold mM
 grind
theorem ZB(n:Nat)(k:Int):E5 n k=aa (mM k):=by
 unfold E5 mM;refine ae.eq (ae.aP (λz=>z=ai (k=3\/k=4\/k=5)) (λj a=>aW (λh=>a _ ?_) λh=>aW (λb=>a _ ?_) λb=>a _ ?_) λz c=>?_)
 ·rw[hK];simp only[decide_eq_true_eq];omega
 ·rw[hK];simp only[decide_eq_true_eq];omega
 ·rw[hK];simp only[decide_eq_true_eq];omega
 subst c;by_cases d:k=3\/k=4\/k=5
 ·rw[bb d,bU d];exact cf (ae.some rfl)
 rw[a8 d,bR d];refine b3 (ae.aP (λz=>z=ai (k=1\/k=2\/k=7\/k=8)) (λj a=>aW (λh=>a _ ?_) λh=>aW (λb=>a _ ?_) λb=>aW (λl=>a _ ?_) λl=>a _ ?_) λz c=>?_)
 ·rw[hK];simp only[decide_eq_true_eq];omega
 ·rw[hK];simp only[decide_eq_true_eq];omega
 ·rw[hK];simp only[decide_eq_true_eq];omega
 ·rw[hK];simp only[decide_eq_true_eq];omega
 subst c;by_cases e:k=1\/k=2\/k=7\/k=8
 ·rw[bb e,bU e];exact cf (ae.some rfl)
 rw[a8 e,bR e];refine b3 (ae.aP (λz=>z=ai (k=6\/k=9\/k=10)) (λj a=>aW (λh=>a _ ?_) λh=>aW (λb=>a _ ?_) λb=>a _ ?_) λz c=>?_)
 ·rw[hK];simp only[decide_eq_true_eq];omega
 ·rw[hK];simp only[decide_eq_true_eq];omega
 ·rw[hK];simp only[decide_eq_true_eq];omega
 subst c;by_cases i:k=6\/k=9\/k=10
 ·rw[bb i,bU i];exact cf (ae.some rfl)
 rw[a8 i,bR i];exact b3 (ae.some rfl)
theorem Zr(n:Nat)(k:Int):BQ n k=aa (if 1<=k/\k<=11 then mM k else-1):=by
 unfold BQ mM;refine ae.eq (ae.aP (λz=>z=ai (k=1\/k=2\/k=7\/k=8)) (λj a=>aW (λh=>a _ ?_) λh=>aW (λb=>a _ ?_) λb=>aW (λl=>a _ ?_) λl=>a _ ?_) λz c=>?_)
 ·rw[hK];simp only[decide_eq_true_eq];omega
 ·rw[hK];simp only[decide_eq_true_eq];omega
 ·rw[hK];simp only[decide_eq_true_eq];omega
 ·rw[hK];simp only[decide_eq_true_eq];omega
 subst c;by_cases d:k=1\/k=2\/k=7\/k=8
 ·rw[bU d,bb O,a8 O,bb d];exact cf (ae.some rfl)
 rw[bR d];refine b3 (ae.aP (λz=>z=ai (k=3\/k=4\/k=5)) (λj a=>aW (λh=>a _ ?_) λh=>aW (λb=>a _ ?_) λb=>a _ ?_) λz c=>?_)
 ·rw[hK];simp only[decide_eq_true_eq];omega
 ·rw[hK];simp only[decide_eq_true_eq];omega
 ·rw[hK];simp only[decide_eq_true_eq];omega
 subst c;by_cases e:k=3\/k=4\/k=5
 ·rw[bU e,bb O,bb e];exact cf (ae.some rfl)
 rw[bR e];refine b3 (ae.aP (λz=>z=ai (k=6\/k=9\/k=10)) (λj a=>aW (λh=>a _ ?_) λh=>aW (λb=>a _ ?_) λb=>a _ ?_) λz c=>?_)
 ·rw[hK];simp only[decide_eq_true_eq];omega
 ·rw[hK];simp only[decide_eq_true_eq];omega
 ·rw[hK];simp only[decide_eq_true_eq];omega
 subst c;by_cases i:k=6\/k=9\/k=10
 ·rw[bU i,bb O,a8 e,a8 d,bb i];exact cf (ae.some rfl)
 rw[bR i];refine b3 (aW (λh=>ae.some ?_) λh=>ae.some ?_)
 ·rw[bb O,a8 e,a8 d,a8 i]
 rw[a8 O]
theorem aaj(n:Nat)(s:Step):AB n s=aa (sC s):=by
 unfold AB sC;have d:=Ri s.kind;refine ae.eq (ag (ZB n s.kind) ?_);generalize mM s.kind=f at*;refine ae.aP (λz=>z=(ai (1<=s.kind/\s.kind<=11)&&((ai (0<f)||decide (s.part=0))&&((ai (1<f)||decide (s.a=0))&&(ai (2<f)||decide (s.b=0)))))) (λj e=>?_) (λz c=>ae.some c)
 grind
variable {n:Nat}{p:Prog}{s:Step}{R:Prog×Bool}
theorem abh(i:10<=n)(s:Step):Bu n s=aa (sC s):=by
 unfold Bu sC;have k:=Ri s.kind;refine ae.eq (ag (Zr n s.kind) ?_);generalize mM s.kind=f at*;refine ae.aP (λz=>z=(ai (1<=s.kind/\s.kind<=11)&&((ai (0<f)||decide (s.part=0))&&((ai (1<f)||decide (s.a=0))&&(ai (2<f)||decide (s.b=0)))))) (λj d=>?_) λz e=>ae.some e;by_cases c:1<=s.kind/\s.kind<=11
 ·rw[bb c];rw[bU c] at d⊢;refine aW (λ_=>ag (show FV n s=aa [s.part,s.a,s.b] from rfl) (ag (hV O b6 a7) (ag (EM (p:=λv=> !decide (v=0)) (λx _=>rfl) b6 b6) (d _ ?_)))) λh=>bs h O;rw[show([s.part,s.a,s.b].length:Int).toNat=[s.part,s.a,s.b].length from rfl,dR];rcases(O:f=0\/f=1\/f=2\/f=3) with rfl|rfl|rfl|rfl
  ·simp[show(0:Int).toNat=0 from rfl]
  ·simp[show(1:Int).toNat=1 from rfl]
  ·simp[show(2:Int).toNat=2 from rfl]
  simp[show(3:Int).toNat=3 from rfl]
 rw[a8 c]
 grind
noncomputable def iL(p:Prog)(s:Step):Prog×Bool:=
 if sC s=ab then
  (if s.kind=1 then nD p s.part s.a else if s.kind=2 then pP p s.part s.a else if s.kind=3 then u9 p s.part s.a s.b else if s.kind=4 then uP p s.part s.a s.b
   else if s.kind=5 then qF p s.part s.a s.b else if s.kind=6 then vb p s.part else if s.kind=7 then vg p s.part s.a else if s.kind=8 then qG p s.part s.a
   else if s.kind=9 then qU p s.part else if s.kind=10 then vf p s.part else vc p)
 else eF
def Dc(s:Step):Prop:= -1<=s.part/\s.part<=9
theorem N8(b:22000000<=n)(a:ee 1100000 p)(c:Dc s):wI n p s=aa (iL p s):=by
 unfold wI iL;refine ae.eq (ag (abh O s) ?_);cases d:sC s with
 |false=>exact cf (ae.some rfl)
 |true=>
  rw[bb rfl];refine b3 (aW (λh=>?_) λh=>?_)
  ·rw[bb h];exact ag (adO b a _ _) (ae.some rfl)
  rw[a8 h];refine aW (λh=>?_) λh=>?_
  ·rw[bb h];exact ag (adP b a _ _) (ae.some rfl)
  rw[a8 h];refine aW (λh=>?_) λh=>?_
  ·rw[bb h];exact ag (acH O a _ _ _) (ae.some rfl)
  rw[a8 h];refine aW (λh=>?_) λh=>?_
  ·rw[bb h];exact ag (abg O a _ _ _) (ae.some rfl)
  rw[a8 h];refine aW (λh=>?_) λh=>?_
  ·rw[bb h];exact ag (aaf O a _ _ _) (ae.some rfl)
  rw[a8 h];refine aW (λh=>?_) λh=>?_
  ·rw[bb h];exact ag (acI b a c) (ae.some rfl)
  rw[a8 h];refine aW (λh=>?_) λh=>?_
  ·rw[bb h];exact ag (acK b a c) (ae.some rfl)
  rw[a8 h];refine aW (λh=>?_) λh=>?_
  ·rw[bb h];exact ag (aag b a _ _) (ae.some rfl)
  rw[a8 h];refine aW (λh=>?_) λh=>?_
  ·rw[bb h];exact ag (acG O a c) (ae.some rfl)
  rw[a8 h];refine aW (λh=>?_) λh=>?_
  ·rw[bb h];exact ag (acJ O a c) (ae.some rfl)
  rw[a8 h];exact ag (Wp O a) (ae.some rfl)
theorem NV(b:22000000<=n)(a:ee 1100000 p)(c:Dc s):wG n p s=aa (iL p s):=by
 unfold wG iL;refine ae.eq (ag (lu O a) (ag (aaj n s) ?_));cases d:sC s with
 |false=>exact cf (ae.some rfl)
 |true=>
  rw[bb rfl];refine b3 (aW (λh=>?_) λh=>?_)
  ·rw[bb h];exact ag (acU b a _ _) (ae.some rfl)
  rw[a8 h];refine aW (λh=>?_) λh=>?_
  ·rw[bb h];exact ag (acV b a _ _) (ae.some rfl)
  rw[a8 h];refine aW (λh=>?_) λh=>?_
  ·rw[bb h];exact ag (abV O a _ _ _) (ae.some rfl)
  rw[a8 h];refine aW (λh=>?_) λh=>?_
  ·rw[bb h];exact ag (aai O a _ _ _) (ae.some rfl)
  rw[a8 h];refine aW (λh=>?_) λh=>?_
  ·rw[bb h];exact ag (aaK O a _ _ _) (ae.some rfl)
  rw[a8 h];refine aW (λh=>?_) λh=>?_
  ·rw[bb h];exact ag (abW b a c) (ae.some rfl)
  rw[a8 h];refine aW (λh=>?_) λh=>?_
  ·rw[bb h];exact ag (abz b a c) (ae.some rfl)
  rw[a8 h];refine aW (λh=>?_) λh=>?_
  ·rw[bb h];exact ag (aah b a _ _) (ae.some rfl)
  rw[a8 h];refine aW (λh=>?_) λh=>?_
  ·rw[bb h];exact ag (abU O a c) (ae.some rfl)
  rw[a8 h];refine aW (λh=>?_) λh=>?_
  ·rw[bb h];exact ag (aby O a c) (ae.some rfl)
  rw[a8 h];exact ag (V9 O a) (ae.some rfl)
def pG(R:Prog×Bool):Prop:=(R.2=ab/\b1 R.1=ab)\/R=eF
theorem gl:pG eF:= .inr rfl
theorem tX(q:Prog):pG (iy q):=by
 unfold iy;split
 ·rename_i h;exact .inl ⟨rfl,h⟩
 exact .inr rfl
theorem pG.RO(h:pG R):ee 1100000 R.1:=by
 rcases h with h|h
 ·exact(jk h.2).mono O
 rw[h];exact agw
theorem pG.v(h:pG R)(a:R.2=ab):b1 R.1=ab:=by
 rcases h with h|h
 ·exact h.2
 rw[h] at a;cases a
theorem akW(h:pG R)(a:R.2=ak):R=eF:=by
 rcases h with h|h
 ·rw[a] at h;cases h.1
 exact h
theorem M3(p:Prog)(a b:Int)(g f:aF->aF):pG (uX p a b g f):=by
 unfold uX;split
 ·split
  ·exact tX _
  exact gl
 exact gl
theorem A'(p:Prog)(s:Step):pG (iL p s):=by
 unfold iL;split
 ·split
  ·unfold nD;split
   ·split
    ·split
     ·exact tX _
     exact gl
    exact gl
   exact gl
  split
  ·unfold pP;split
   ·split
    ·split
     ·split
      ·exact tX _
      exact gl
     exact gl
    exact gl
   exact gl
  split
  ·unfold u9;split
   ·exact M3 _ _ _ _ _
   exact gl
  split
  ·unfold uP;split
   ·exact M3 _ _ _ _ _
   exact gl
  split
  ·unfold qF;split
   ·split
    ·split
     ·exact tX _
     exact gl
    exact gl
   exact gl
  split
  ·unfold vb;split
   ·split
    ·split
     ·exact tX _
     exact gl
    exact gl
   exact gl
  split
  ·unfold vg;split
   ·split
    ·split
     ·exact tX _
     exact gl
    exact gl
   exact gl
  split
  ·unfold qG;split
   ·split
    ·split
     ·exact tX _
     exact gl
    exact gl
   exact gl
  split
  ·by_cases h:kb p s.part (s.part+1)=ab
   ·obtain⟨i,c,d,e,a,b,_⟩:=H2 h;rw[e] at h⊢;rw[Ht h a b];exact .inl ⟨rfl,IC (u0 h).1 a b⟩
   unfold qU;rw[a8 h];exact gl
  split
  ·unfold vf;split
   ·rename_i h;simp only[cx] at h;exact .inl ⟨rfl,IW h.1 _⟩
   exact gl
  unfold vc;split
  ·rename_i h;exact .inl ⟨rfl,afy h⟩
  exact gl
 exact gl
end Go.Lift
