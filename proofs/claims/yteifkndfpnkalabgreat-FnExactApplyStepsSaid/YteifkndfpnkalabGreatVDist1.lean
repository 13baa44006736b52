/- Tools. -/
import Derived.Test.YteifkndfpnkalabGreatVTran1
set_option maxRecDepth 110000000
set_option linter.unusedVariables false
namespace Go.Lift
open Go
open Option renaming some -> aa, bind -> bQ
open Bool renaming true -> ab, false -> al, and_eq_true -> cB
open Decidable renaming decide -> aj
open List renaming replicate -> dh
section
theorem Bc: ∀a,cmpL a a=0
 | []=>rfl
 |x::a=>by unfold cmpL;rw[be O,be O];exact Bc a
theorem tI: ∀a b,cmpL b a= -cmpL a b
 | [],[]=>by simp[cmpL]
 | [],_::_=>by simp[cmpL]
 |_::_,[]=>by simp[cmpL]
 |x::a,y::b=>by
  unfold cmpL;by_cases c:x<y
  ·simp[c,show¬y<x by omega]
  by_cases d:y<x
  ·simp[c,d]
  rw[be c,be d,be d,be c];exact tI a b
theorem xI: ∀{a b},cmpL a b=0->a=b
 | [],[],_=>rfl
 | [],_::_,h=>by simp[cmpL] at h
 |_::_,[],h=>by simp[cmpL] at h
 |x::a,y::b,h=>by
  unfold cmpL at h;by_cases c:x<y
  ·rw[bg c] at h;omega
  by_cases d:y<x
  ·rw[be c,bg d] at h;omega
  rw[be c,be d] at h;rw[xI h,show x=y by omega]
theorem xX: ∀{k l m},cmpL k l<0->cmpL l m<0->cmpL k m<0
 | [],[],_,h,_=>by simp[cmpL] at h
 | [],_::_,[],_,h=>by simp[cmpL] at h
 | [],_::_,_::_,_,_=>by simp[cmpL]
 |_::_,[],_,h,_=>by simp[cmpL] at h
 |_::_,_::_,[],_,h=>by simp[cmpL] at h
 |x::k,y::l,z::m,i,e=>by
  unfold cmpL at i e⊢;by_cases a:x<y
  ·by_cases b:y<z
   ·rw[bg O];omega
   by_cases c:z<y
   ·rw[be b,bg c] at e;omega
   rw[bg O];omega
  by_cases b:y<x
  ·rw[be a,bg b] at i;omega
  by_cases c:y<z
  ·rw[bg O];omega
  by_cases d:z<y
  ·rw[be c,bg d] at e;omega
  rw[be O,be O];rw[be a,be b] at i;rw[be c,be d] at e;exact xX i e
theorem N9: ∀a b,iG a b=aj (cmpL a b<0)
 | [],[]=>rfl
 | [],_::_=>rfl
 |_::_,[]=>rfl
 |x::a,y::b=>by
  unfold iG cmpL;by_cases h:x=y
  ·subst h;simp only[if_true,Int.lt_irrefl,if_false];exact N9 a b
  by_cases c:x<y
  ·simp[h,c]
  have:y<x:=O
  simp[h,c,this]
abbrev ir(l:List (List Int)):Prop:=l.Pairwise λa b=>cmpL a b<0
theorem Qr: ∀{l m:List (List Int)},ir l->ir m->(∀x,x∈l↔x∈m)->l=m
 | [],[],_,_,_=>rfl
 | [],y::m,_,_,h=>by have:=(h y).2 bl;simp at this
 |x::l,[],_,_,h=>by have:=(h x).1 bl;simp at this
 |x::l,y::m,s,w,h=>by
  obtain⟨q,A⟩:=rF.1 s;obtain⟨r,B⟩:=rF.1 w;have e:x=y:=by
   rcases eg.1 ((h x).1 bl) with d|d
   ·exact d
   rcases eg.1 ((h y).2 bl) with i|i
   ·exact i.symm
   have a:=r x d;have b:=q y i
   have:=xX a b;rw[Bc] at this;omega
  subst e;have k:x∉l:=λn=>by have:=q x n;rw[Bc] at this;omega
  have o:x∉m:=λn=>by have:=r x n;rw[Bc] at this;omega
  rw[Qr A B (λz=>⟨λc=>by
   rcases eg.1 ((h z).1 (eW _ c)) with rfl|p
   ·exact br c k
   ·exact p,λc=>by
   rcases eg.1 ((h z).2 (eW _ c)) with rfl|p
   ·exact br c o
   exact p⟩)]
def iH:List (List Int)->List Int->List (List Int)
 | [],d=>[d]
 |x::a,d=>if cmpL d x<0 then d::x::a else x::iH a d
theorem G4{d z:List Int}: ∀{l:List (List Int)},z∈iH l d↔z=d\/z∈l
 | []=>by simp[iH]
 |x::a=>by
  unfold iH;split
  ·simp
  simp only[List.mem_cons,G4 (l:=a)];constructor
  ·rintro(h|h|h)
   ·exact .inr (.inl h)
   ·exact .inl h
   exact .inr (.inr h)
  rintro(h|h|h)
  ·exact .inr (.inl h)
  ·exact .inl h
  exact .inr (.inr h)
theorem PD{d:List Int}: ∀{l:List (List Int)},ir l->d∉l->ir (iH l d)
 | [],_,_=>by simp[iH]
 |x::m,a,b=>by
  obtain⟨c,i⟩:=rF.1 a;unfold iH;split
  ·rename_i h;refine rF.2 ⟨λz er=>?_,a⟩;rcases eg.1 er with rfl|er
   ·exact h
   exact xX h (c z er)
  rename_i h;refine rF.2 ⟨λz er=>?_,PD i λk=>b (eW _ k)⟩;rcases G4.1 er with rfl|er
  ·have n:=tI z x;have o:cmpL z x≠0:=λe=>b (by rw[xI e];simp);omega
  exact c z er
def ik(l:List (List Int))(d:List Int):List (List Int):=if d∈l then l else iH l d
theorem aea{l:List (List Int)}(h:ir l)(d:List Int):ir (ik l d):=by
 unfold ik;split
 ·exact h
 exact PD h ‹_›
variable {l:Loop}{d a b:List Int}{R:Type}{Q:R->Prop}{n k i:Nat}{p:Prog}{c:Int}{P:Part}{r:List cz}
theorem Oq{l:List (List Int)}{z:List Int}:z∈ik l d↔z=d\/z∈l:=by
 unfold ik;split
 ·rename_i h
  grind
 exact G4
theorem Hg: ∀(a l:List (List Int)),ir l->ir (a.foldl ik l)/\ ∀z,z∈a.foldl ik l↔z∈l\/z∈a
 | [],l,h=>⟨h,λz=>bl⟩
 |d::a,l,h=>by
  obtain⟨b,c⟩:=Hg a (ik l d) (aea h d);refine⟨b,λz=>?_⟩;rw[List.foldl_cons,c z,Oq,eg];constructor
  ·rintro((h|h)|h)
   ·exact .inr (.inl h)
   ·exact .inl h
   exact .inr (.inr h)
  rintro(h|h|h)
  ·exact .inl (.inr h)
  ·exact .inl (.inl h)
  exact .inr h
def gB:List (List Int)->List (List Int)
 | []=>[]
 | [x]=>[x]
 |x::y::r=>if x=y then gB (y::r) else x::gB (y::r)
theorem E8{z:List Int}: ∀{l:List (List Int)},z∈gB l↔z∈l
 | []=>by simp[gB]
 | [x]=>by simp[gB]
 |x::y::r=>by
  have a:=E8 (z:=z) (l:=y::r);unfold gB;split
  ·rename_i h;subst h;rw[a];simp
  rw[eg,a];simp
theorem Fo: ∀{l:List (List Int)},l.Pairwise (λa b=> ¬cmpL b a<0)->ir (gB l)
 | [],_=>by simp[gB]
 | [x],_=>by simp[gB]
 |x::y::r,h=>by
  obtain⟨m,i⟩:=rF.1 h;obtain⟨n,_⟩:=rF.1 i;unfold gB;split
  ·exact Fo i
  rename_i k;refine rF.2 ⟨λz er=>?_,Fo i⟩;have d:cmpL x y<0:=by
   have a:=m y bl;have b:=tI x y;have c:cmpL x y≠0:=λe=>k (xI e);omega
  rcases eg.1 (E8.1 er) with rfl|er
  ·exact d
  have a:=n z er;have b:=tI y z;by_cases e:cmpL y z=0
  ·rw[<-xI e];exact d
  exact xX d O
theorem Xf(l:List (List Int)):(fD l).Pairwise (λa b=> ¬cmpL b a<0):=by
 have:=List.pairwise_mergeSort (le:=λx y=> !decide (cmpL y x<0)) (λa b c k d=>by
  simp only[Bool.not_eq_true',decide_eq_false_iff_not] at*;intro h;have i:=tI a b;have m:=tI b c;by_cases e:cmpL b a=0
  ·rw[xI e] at d;exact d h
  ·exact d (xX h O)) (λa b=>by
  have i:=tI a b;by_cases h:cmpL b a<0
  ·have: ¬cmpL a b<0:=O
   simp[h,this]
  simp[h]) l
 refine this.imp λh=>?_;simpa using h
theorem ad0(a:List (List Int)):gB (fD a)=a.foldl ik []:=by obtain⟨b,c⟩:=Hg a [] List.Pairwise.nil;refine Qr (Fo (Xf a)) b λz=>?_;rw[E8,c z];unfold fD;rw[List.mem_mergeSort];simp
def lp(b a:List Int):List Int:=List.zipWith (λx y=>x-y) b a
theorem N6(D:a.length=b.length)(F:b.length<=1100000)(G:1100000<n)(l: ∀x∈a,c3 9999 x)(m: ∀x∈b,c3 9999 x){K:List Int->Option R}(H:ae (K (lp b a)) Q):
  ae (bz (λc ((h,d):(List Int)×Int)=>
   bif aj (d<(b.length:Int)) then(
    bQ (aB b d) λo=>
    bQ (aB a d) λp=>
    bQ (app h [wr (o-p)]) λq=>
    c (q,wr (d+1))
   ) else(
    K h
   )) n ([],0)) Q:=by
 refine ae.loop (λx:List Int×Int=> ∃i:Nat,x.2=i/\i<=b.length/\x.1=(lp b a).take i) (λx=>b.length-x.2.toNat) ?_ n _ ⟨0,rfl,O,bl⟩ Z;rintro r ⟨x,k⟩ ⟨i,w,L,s⟩ y;dsimp only at w s⊢;subst w;have z:(lp b a).length=b.length:=by unfold lp;rw[Eu];omega
 refine a1 (λe=>?_) λA=>?_
 ·have e:i<b.length:=O
  have B:=bC e;have C:=bC (O:i<a.length);have dm:=m _ (fW e);have cL:=l _ (fW (O:i<a.length));unfold c3 at dm cL;refine ah (bo B) (ah (bo C) (ah (dM (by rw[s,c6];simp;omega)) ?_));rw[bc (n:=b[i]-a[i]) O,bc O];refine y _ ⟨i+1,Z,O,?_⟩ Z;dsimp only;rw[eK,<-s];congr 1;unfold lp
  grind
 have:i=b.length:=O
 grind
theorem Y3(e:a.length=b.length)(h:b.length<=1100000)(i:1100000<n)(c: ∀x∈a,c3 9999 x)(d: ∀x∈b,c3 9999 x):AM n b a=aa (lp b a):=by unfold AM;exact ae.eq (N6 e h i c d (ae.some rfl))
theorem acq(E:22000000<=n){l:List (List Int)}(I:l.length<=15000)(K: ∀x∈l,x.length<=1100000)(L:d.length<=1100000):B8 n l d=aa (ik l d):=by
 unfold B8;refine ae.eq (ae.loop (λx:List (List Int)×Bool×Int=> ∃i:Nat,x.2.2=i/\i<=l.length/\d∉l.take i/\(x.2.1=ab->x.1.length<=i+1/\iH l d=x.1++l.drop i)/\(x.2.1=al->x.1.length<=i/\iH l d=x.1++iH (l.drop i) d)) (λx=>l.length-x.2.2.toNat) ?_ n _ ⟨0,rfl,O,bl,(λh=>by cases h),λ_=>⟨bl,bl⟩⟩ Z);rintro y ⟨M,c,k⟩ ⟨i,G,N,m,H,A⟩ Q;dsimp only at G H A⊢;subst G;refine a1 (λb=>?_) λR=>?_
 ·have b:i<l.length:=O
  have W:=bC b;have B:l[i].length<=1100000:=K _ (fW b);refine ah (bo W) (ah (LX O O) (a1 (λX=>ae.some ?_) λf=>?_))
  ·unfold ik
   grind
  have a:=kn b;have o:d∉l.take (i+1):=by
   grind
  refine ae.aS (λz:List (List Int)×Bool=>(z.2=ab->z.1.length<=i+1/\iH l d=z.1++l.drop i)/\(z.2=al->z.1.length<=i/\iH l d=z.1++l[i]::iH (l.drop (i+1)) d)) (λj e=>?_) λz p=>?_
  ·refine ae.aS (λz:Bool=>z=(!c&&iG d l[i])) (λP q=>ae.cond (λh=>?_) λh=>q _ ?_) λz p=>?_
   ·have h:c=al:=by simpa using h
    exact ah (Oi O L B) (q _ (by rw[h];rfl))
   ·have h:c=ab:=by simpa using h
    grind
   subst p;cases r:c with
   |true=>exact b3 (e _ ⟨λ_=>H r,λh=>by cases h⟩)
   |false=>
    obtain⟨g,C⟩:=A r;rw[a] at C;rw[N9];by_cases w:cmpL d l[i]<0
    ·rw[bS w];refine b7 (ah (dM ca) (e _ ⟨λ_=>⟨ca,?_⟩,λh=>by cases h⟩));rw[C,a];unfold iH;rw[bg w];simp
    rw[bN w];refine b3 (e _ ⟨(λh=>by cases h),λ_=>⟨g,?_⟩⟩);rw[C]
    conv=>lhs;rw[iH]
    rw[be w]
  obtain⟨t,u⟩:=z;obtain⟨D,F⟩:=p;dsimp only at D F⊢;have v:t.length<=i+1:=by
   cases u with
   |true=>exact(D rfl).1
   |false=>have:=(F rfl).1;omega
  refine ah (dM ca) ?_;rw[bc O];refine Q _ ⟨i+1,Z,O,o,λh=>?_,λh=>?_⟩ Z
  ·obtain⟨aP,a2⟩:=D h
   grind
  obtain⟨aP,a2⟩:=F h
  grind
 have:i=l.length:=O
 subst this;rw[dZ] at m;have s:ik l d=iH l d:=by unfold ik;rw[be m]
 rw[s];refine ae.aS (λz=>z=iH l d) (λj e=>ae.cond (λh=>?_) λh=>e _ ?_) λz p=>ae.some p
 ·have h:c=al:=by simpa using h
  obtain⟨aP,a2⟩:=A h;refine ah (dM ca) (e _ ?_);rw[a2,o5];rfl
 have h:c=ab:=by simpa using h
 grind
theorem Oa(d:List Int): ∀l:List (List Int),(iH l d).length=l.length+1
 | []=>rfl
 |x::a=>by
  unfold iH;split
  ·rfl
  rw[List.length_cons,Oa d a];rfl
theorem Ot(l:List (List Int))(d:List Int):(ik l d).length<=l.length+1:=by
 unfold ik;split
 ·omega
 rw[Oa];omega
def kJ(I:List cN)(c:Int)(d:fY):Option (List Int):=match I[d.eQ.toNat]?,I[d.eR.toNat]? with
 |some a,aa b=>if a.part=c/\b.part=c then aa (lp b.db a.db) else none
 |_,_=>none
def ns(p:Prog)(a:Int):List (List Int):=(gv p (bI p.parts) (bI p.parts).length).filterMap (kJ (bI p.parts) a)
theorem q7(h:b6 p=ab){x:cN}(l:gF p x): ∃P,p.parts[x.part.toNat]? =aa P/\0<=x.part/\x.db.length=P.nest.length/\x.db.length<=4/\ ∀y∈x.db,c3 9999 y:=by obtain⟨C,D,F,b,m⟩:=en h;obtain⟨i,k,P,s,n,G,d,o,e⟩:=l;obtain⟨q,H,K,r⟩:=gu (b P (bX d));obtain⟨L,w,c,z,A⟩:=sC q;have hs:=bX o;have a:=(r s hs _ e).2;unfold ki at a;simp only[cB,decide_eq_true_eq,List.all_eq_true] at a;exact⟨P,by rw[n,c7];exact d,O,(c _ e).1,a.1,λy B=>a.2 y B⟩
theorem ad1{I:List cN}(h: ∀x∈I,x.db.length<=4){d:fY}{v:List Int}(e:kJ I c d=aa v):v.length<=4:=by
 unfold kJ at e;split at e
 ·rename_i a b i k;split at e
  ·cases e;unfold lp
   grind
  cases e
 cases e
theorem K5{k:Type}{f:k->Option R}{l:List k}{x:k}(h:l[i]? =aa x):(l.take (i+1)).filterMap f=(l.take i).filterMap f++(f x).toList:=by
 rw[eK,h,List.filterMap_append]
 grind
theorem Me(u:22000000<=n)(hp:j0 p)(q:b6 p=ab)(a:Int):y8 n p a=aa ((ns p a).foldl ik []):=by
 have F:=(en q).2.2.2.2;unfold y8;refine ae.eq (ah (vU O q) (ah (GD O q) ?_));have e: ∀x∈bI p.parts,gF p x:=λx r=>iQ r;have akT:=G2 (p:=p) F;have bA:=Qd (p:=p) (l:=bI p.parts);unfold ns;generalize gv p (bI p.parts) (bI p.parts).length=D at*;generalize bI p.parts=I at*;have v: ∀x∈I,x.db.length<=4:=λx r=>(q7 q (e x r)).choose_spec.2.2.2.1;refine ae.loop (λx:List (List Int)×Int=> ∃i:Nat,x.2=i/\i<=D.length/\x.1=((D.take i).filterMap (kJ I a)).foldl ik []/\x.1.length<=i/\ ∀y∈x.1,y.length<=4) (λx=>D.length-x.2.toNat) ?_ n _ ⟨0,rfl,O,bl,bl,bl⟩ Z;rintro G ⟨E,k⟩ ⟨i,g,aL,r,s,b⟩ M;dsimp only at g r s b⊢;subst g;refine a1 (λm=>?_) λN=>ae.some ?_
 ·have m:i<D.length:=O
  have t:=bC m;obtain⟨P,d2,d3⟩:=bA _ (fW m);have S:=ya (l:=I) (c:=D[i].eQ) P O;have T:=ya (l:=I) (c:=D[i].eR) O O;have U:=fW (O:D[i].eQ.toNat<I.length);have H:=fW (O:D[i].eR.toNat<I.length);have K:I[D[i].eQ.toNat]? =aa I[D[i].eQ.toNat]:=bC _;have L:I[D[i].eR.toNat]? =aa I[D[i].eR.toNat]:=bC _;obtain⟨V,w,Y,ajf,ajg,Q⟩:=q7 q (e _ U);obtain⟨Fy,o,ajh,aji,ajj,R⟩:=q7 q (e _ H);refine ae.aS (λz=>z.2.2.2.2.2.2=((D.take (i+1)).filterMap (kJ I a)).foldl ik []/\z.2.2.2.2.2.2.length<=i+1/\ ∀y∈z.2.2.2.2.2.2,y.length<=4) (λj W=>ah (bo t) (ah S (ah T ?_))) λz X=>?_
  ·rw[K5 t,List.foldl_append,<-r] at W;refine ae.aS (λz:Bool=>z=aj (I[D[i].eQ.toNat].part=a/\I[D[i].eR.toNat].part=a)) (λnI A=>a1 (λh=>A _ ?_) λh=>A _ ?_) λz X=>?_
   ·exact decide_eq_decide.2 ⟨λB=>⟨h,B⟩,λB=>B.2⟩
   ·exact(bN λB=>h B.1).symm
   subst X;have d:kJ I a D[i]=if I[D[i].eQ.toNat].part=a/\I[D[i].eR.toNat].part=a then aa (lp I[D[i].eR.toNat].db I[D[i].eQ.toNat].db) else none:=by
    unfold kJ;rw[K,L]
   refine a1 (λh=>?_) λh=>W _ ?_
   ·have f:V=Fy:=by
     rw[h.1] at w;rw[h.2] at o;rw[w] at o;cases o;rfl
    subst f;refine ah (Y3 O O O Q R) (ah (acq u O (λy C=>by have:=b y C;omega) (by unfold lp;rw[Eu];omega)) (W _ ?_));rw[d,bg h];dsimp only[Option.toList,List.foldl];refine⟨rfl,?_,λy C=>?_⟩
    ·have:=Ot E (lp I[D[i].eR.toNat].db I[D[i].eQ.toNat].db);omega
    rcases Oq.1 C with rfl|C
    ·unfold lp;rw[Eu];omega
    exact b y C
   rw[d,be h]
   grind
  obtain⟨TJ,z2,z3⟩:=X;rw[bc O];exact M _ ⟨i+1,Z,O,TJ,z2,z3⟩ Z
 have:i=D.length:=O
 grind
theorem LR(x:List Int): ∀(y:List Int) (a:List (List Int)),gB ((y::a)++[x])=if(y::a).getLast bl=x then gB (y::a) else gB (y::a)++[x]
 |y,[]=>by
  by_cases h:y=x
  ·subst h;simp[gB]
  simp[gB,h]
 |y,z::a=>by
  have c:=LR x z a;rw[List.getLast_cons bl];show gB (y::z::(a++[x]))=_;unfold gB;by_cases h:y=z
  ·rw[bg h,bg h];exact c
  rw[be h,be h];have b:gB (z::(a++[x]))=_:=c;rw[b];split<;>simp
theorem XA{s:List (List Int)}{m:Nat}(l:1<=m)(k:m<s.length):gB (s.take (m+1))=if s[m-1]=s[m] then gB (s.take m) else gB (s.take m)++[s[m]]:=by
 have e:s.take (m+1)=s.take m++[s[m]]:=by rw[eK,bC k];rfl
 have c:s.take m≠[]:=by
  intro h
  have:=congrArg List.length h
  grind
 have b: ∀h,(s.take m).getLast h=s[m-1]:=λh=>by
  grind
 rw[e];obtain⟨y,a,i⟩: ∃y a,s.take m=y::a:=by
  cases h:s.take m with
  |nil=>exact br h c
  |cons y a=>exact⟨y,a,rfl⟩
 have d:=b c;simp only[i] at d⊢;rw[LR,d]
def lj(d:List Int):Option Nat:=d.findIdx? λx=> !decide (x=0)
def po(d:List Int):Int:=match lj d with
 |some i=>(i:Int)
 |none=> -1
theorem ZI(r:d.length<=1100000)(s:1100000<n):Ei n d=aa (po d):=by
 unfold Ei;refine ae.eq (ah (x:=po d) ?_ (ae.some rfl));unfold yY;refine ae.eq (ae.loop (λx:Int=> ∃i:Nat,x=i/\i<=d.length/\ ∀j,j<i->d.getD j 0=0) (λx=>d.length-x.toNat) ?_ n _ ⟨0,rfl,O,λj a=>br a (o6 _)⟩ O);rintro c z ⟨i,rfl,w,y⟩ l;have k: ∀j (a:j<d.length),j<i->d[j]=0:=λj a m=>by
  grind
 refine a1 (λb=>?_) λo=>ae.some ?_
 ·have b:i<d.length:=O
  have p:=bC b;refine ah (bo p) (ah (x:= !decide (d[i]=0)) rfl (dL (λe=>ae.some ?_) λA=>?_))
  ·have:lj d=aa i:=by
    unfold lj;rw[Kv];exact⟨b,by simp[e],λj a=>by simp[k j O a]⟩
   unfold po;rw[this]
  rw[bc O];refine l _ ⟨i+1,O,O,λj a=>?_⟩ O
  grind
 have:lj d=none:=by
  unfold lj;rw[List.findIdx?_eq_none_iff];intro x q;obtain⟨j,a⟩:=jq.1 q;obtain⟨h,rfl⟩:=d0.1 a;simp[k j h O]
 unfold po;rw[this]
theorem ace(a:j0 p)(b:p.parts[i]? =aa P):k6 n p (i:Int)=aa ab:=by have aL:=(d0.1 b).1;rw[oR n a.2.1,bS O]
theorem YP(a:Nat->Bool)(m:Nat):ei a (m+1)=ei a m++(if a m then [m] else []):=by
 unfold ei;rw[p4,w1]
 grind
theorem Pg(l:List (List Int)): ∀m,m<=l.length->(ei (k8 l) m).map (λj=>l.getD j [])=gB (l.take m)
 |0,_=>rfl
 |m+1,h=>by
  have n:=Pg l m O;have b:m<l.length:=O
  have c:l.getD m []=l[m]:=by rw[fc,bC b];rfl
  rw[YP,ic,n];by_cases d:m=0
  ·subst d;have i:k8 l 0=ab:=by simp[k8]
   rw[i,bg rfl,List.take_zero];show gB []++[l.getD 0 []]=_;rw[c,eK,bC b];rfl
  rw[XA O b];have i:l.getD (m-1) []=l[m-1]:=by rw[fc,bC O];rfl
  have o:k8 l m= !decide (l[m-1]=l[m]):=by
   unfold k8;rw[c,i];by_cases a:l[m-1]=l[m]
   ·simp[d,a]
   have k:l[m]≠l[m-1]:=λe=>a e.symm;simp[d,a,k]
  rw[o];by_cases a:l[m-1]=l[m]
  ·rw[bg a,bS a];simp
  rw[be a,bN a];show _++[l.getD m []]=_;rw[c]
theorem Zz(l:List (List Int)):gC l=gB l:=by have:=Pg l l.length (df _);rw[dZ] at this;exact this
theorem XR(cR:22000000<=n)(q:b6 p=ab)(a:Int):Ds n (gx p) a=aa ((ns p a).foldl ik []):=by
 have B:=(en q).2.2.2.2;unfold Ds;refine ae.eq (ah (Gj O q) ?_);rw[show(gx p).list=bI p.parts from rfl];have e: ∀x∈bI p.parts,gF p x:=λx b=>iQ b;have akT:=G2 (p:=p) B;have bA:=Qd (p:=p) (l:=bI p.parts);unfold ns;generalize gv p (bI p.parts) (bI p.parts).length=D at*;generalize bI p.parts=I at*;have C: ∀x∈I,x.db.length<=4:=λx b=>(q7 q (e x b)).choose_spec.2.2.2.1;refine ae.loop (λx:List (List Int)×Int=> ∃i:Nat,x.2=i/\i<=D.length/\x.1=(D.take i).filterMap (kJ I a)) (λx=>D.length-x.2.toNat) ?_ n _ ⟨0,rfl,O,bl⟩ Z;rintro F ⟨v,k⟩ ⟨i,E,aL,b⟩ P;dsimp only at E b⊢;subst E;have M:v.length<=i:=by
  grind
 refine a1 (λm=>?_) λS=>?_
 ·have m:i<D.length:=O
  have N:=bC m;obtain⟨T,d2,d3⟩:=bA _ (fW m);have U:=ya (l:=I) (c:=D[i].eQ) T O;have V:=ya (l:=I) (c:=D[i].eR) O O;have Y:=fW (O:D[i].eQ.toNat<I.length);have G:=fW (O:D[i].eR.toNat<I.length);have H:I[D[i].eQ.toNat]? =aa I[D[i].eQ.toNat]:=bC _;have L:I[D[i].eR.toNat]? =aa I[D[i].eR.toNat]:=bC _;obtain⟨T2,r,aku,ajf,ajg,Q⟩:=q7 q (e _ Y);obtain⟨Fy,o,ajh,aji,ajj,R⟩:=q7 q (e _ G);have s:kJ I a D[i]=if I[D[i].eQ.toNat].part=a/\I[D[i].eR.toNat].part=a then aa (lp I[D[i].eR.toNat].db I[D[i].eQ.toNat].db) else none:=by
   unfold kJ;rw[H,L]
  refine ae.aS (λz=>z.1=(D.take (i+1)).filterMap (kJ I a)) (λj W=>ah (bo N) (ah U (ah V ?_))) λz X=>?_
  ·rw[K5 N,<-b] at W;refine ae.aS (λz:Bool=>z= !decide (I[D[i].eQ.toNat].part=a/\I[D[i].eR.toNat].part=a)) (λnI w=>dL (λh=>w _ ?_) λh=>w _ ?_) λz X=>?_
   ·rw[bN λh2=>h h2.1];rfl
   ·congr 1
    grind
   subst X;refine dL (λh=>W _ ?_) λh=>?_
   ·rw[s,be h];simp
   have f:T2=Fy:=by
    rw[h.1] at r;rw[h.2] at o;rw[r] at o;cases o;rfl
   subst f;refine N6 (K:=λg=>bQ (app v [g]) λt=>j (t,D[i].eQ,D[i].eR,D[i].kinds,I[D[i].eQ.toNat].part,I[D[i].eQ.toNat].stmt,I[D[i].eQ.toNat].db,I[D[i].eR.toNat].part,I[D[i].eR.toNat].stmt,I[D[i].eR.toNat].db)) O O O Q R ?_;refine ah (dM ca) (W _ ?_)
   grind
  rw[bc O];exact P _ ⟨i+1,Z,O,X⟩ Z
 have:i=D.length:=O
 subst this;rw[dZ] at b;subst b;have A: ∀y∈D.filterMap (kJ I a),y.length<=4:=λy u=>by
  obtain⟨d,_,cI⟩:=List.mem_filterMap.1 u;exact ad1 C cI
 have ahV:(fD (D.filterMap (kJ I a))).length<=15000:=by unfold fD;rw[List.length_mergeSort];omega
 refine ah (x:=fD (D.filterMap (kJ I a))) (by unfold mQ;rw[bg ⟨O,λy u=>by have:=A y u;omega⟩]) (ae.some ?_);rw[Zz];exact ad0 _
def jy(p:Prog)(i:Nat):List (List Int):=(ns p i).foldl ik []
theorem ZT(c:22000000<=n)(a:j0 p)(b:b6 p=ab)(d:p.parts[i]? =aa P):D0 n p (i:Int)=aa (jy p i):=by unfold D0;refine ae.eq (ah (wH O a) ?_);rw[bg b];refine b7 (ae.aS (λz=>z=al) (λj e=>b3 (ah (ace a d) (e _ rfl))) λz h=>?_);rw[h];exact b3 (ah (XR c b _) (ae.some rfl))
theorem ae3:d∈jy p i↔d∈ns p i:=by
 unfold jy
 have:=(Hg (ns p i) [] .nil).2 d
 grind
theorem Nu: ∀(a l:List (List Int)),(a.foldl ik l).length<=l.length+a.length
 | [],l=>bl
 |d::a,l=>by
  rw[List.foldl_cons]
  have:=Nu a (ik l d)
  have:=Ot l d;rw[List.length_cons];omega
theorem Ib(b:b6 p=ab):(jy p i).length<=15000:=by
 have a:=(en b).2.2.2.2;have c:=G2 (p:=p) a
 have:=Nu (ns p i) [];have d:(ns p i).length<=(gv p (bI p.parts) (bI p.parts).length).length:=by unfold ns;exact List.length_filterMap_le _ _
 unfold jy
 grind
theorem uh(r:b6 p=ab)(s:p.parts[i]? =aa P)(cI:d∈jy p i):d.length=P.nest.length/\ ∀x∈d,c3 99999 x:=by
 have cI:=ae3.1 cI;unfold ns at cI;obtain⟨e,_,h⟩:=List.mem_filterMap.1 cI;unfold kJ at h;split at h
 ·rename_i a b A B;split at h
  ·rename_i w;cases h;have m:gF p a:=iQ (bX A);have n:gF p b:=iQ (bX B);obtain⟨F,aP,a2,a3,a4,a5⟩:=q7 r m;obtain⟨G,y,H,K,L,C⟩:=q7 r n;rw[w.1,c7,s] at aP;rw[w.2,c7,s] at y;cases aP;cases y;unfold lp;refine⟨by rw[Eu];omega,λx z=>?_⟩;obtain⟨u,v,D,o,rfl⟩: ∃u v,u∈b.db/\v∈a.db/\x=u-v:=by
    rw[jq] at z;obtain⟨k,c⟩:=z;rw[List.getElem?_zipWith] at c;cases l:b.db[k]? with
    |none=>rw[l] at c;cases c
    |some u=>
     cases q:a.db[k]? with
     |none=>rw[l,q] at c;cases c
     |some v=>
      rw[l,q] at c;cases c;exact⟨u,v,bX l,bX q,rfl⟩
   have Q:=C u D;have R:=a5 v o;unfold c3 at*;omega
  cases h
 cases h
def hU(d:List Int):Bool:=match lj d with
 |some k=>decide (0<=d.getD k 0)
 |none=>ab
theorem PZ(h:lj d=aa k):k<d.length/\d.getD k 0≠0:=by
 unfold lj at h;rw[Kv] at h
 grind
theorem Mr(L:22000000<=n)(Q:j0 p)(y:b6 p=ab)(z:p.parts[i]? =aa P){F:List Int->Option (List Int)}{f:List Int->List Int}(B: ∀d∈jy p i,F d=aa (f d))(C: ∀d,(f d).length=d.length):
  xV n p (i:Int) F=aa ((jy p i).all λd=>hU (f d)):=by
 unfold xV;refine ae.eq (ah (ZT L Q y z) ?_);have o:=Ib y (i:=i);have q:=λd s=>(uh y z (d:=d) s).1;have R:=(ia ((en y).2.2.2.1 P (bX z))).1;generalize jy p i=D at B o q;refine ae.loop (λx:List (List Int)×Int=> ∃k:Nat,x.2=k/\k<=D.length/\x.1.length=D.length/\(∀t,k<=t->x.1[t]? =D[t]?)/\ ∀d∈D.take k,hU (f d)=ab) (λx=>D.length-x.2.toNat) ?_ n _ ⟨0,rfl,O,rfl,λ_ _=>rfl,λd s=>by simp at s⟩ Z;rintro l ⟨e,E⟩ ⟨k,G,W,w,a,H⟩ X;dsimp only at G w a⊢;subst G;refine a1 (λc=>?_) λg=>ae.some ?_
 ·have c:k<D.length:=O
  have j:e[k]? =aa D[k]:=by rw[a k (df _),bC c]
  have hm:=fW c;have u:(f D[k]).length<=4:=by rw[C,q _ hm];exact R
  refine ah (bo j) (ah (B _ hm) (ah (gr (C _)) (ah (ZI O O) (ah (dJ O _) ?_))));have b: ∀(A:hU (f D[k])=al),D.all (λd=>hU (f d))=al:=λA=>l8.2 ⟨_,hm,by simp[A]⟩;have go:hU (f D[k])=ab->ae (l (e.set (k:Int).toNat (f D[k]),wr ((k:Int)+1))) (λr=>r=D.all λd=>hU (f d)):=λA=>by
   rw[bc O,c7];refine X _ ⟨k+1,Z,O,by dsimp only;rw[fX];exact w,λt I=>?_,λd s=>?_⟩ Z
   ·dsimp only
    grind
   rw[eK,bC c] at s
   grind
  unfold po hU at*;cases m:lj (f D[k]) with
  |none=>
   rw[m] at go b;exact a1 (λh=>br h (by show¬(0:Int)<= -1;omega)) (λ_=>go rfl)
  |some t=>
   rw[m] at go b;obtain⟨v,M⟩:=PZ m;refine a1 (λ_=>?_) λh=>br (show(0:Int)<=(t:Int) by omega) h;have K:=bC v;have N:(f D[k]).getD t 0=(f D[k])[t]:=by rw[fc,K];rfl
   refine ah (bo K) (a1 (λh=>ae.some ?_) λh=>go ?_)
   ·exact(b (bN O)).symm
   exact bS O
 have:k=D.length:=O
 grind
theorem X7(r:d.length<=1100000)(s:1100000<n):Ee n d=aa (po d):=by
 unfold Ee;refine ae.eq (ae.loop (λx:Int=> ∃i:Nat,x=i/\i<=d.length/\ ∀j,j<i->d.getD j 0=0) (λx=>d.length-x.toNat) ?_ n _ ⟨0,rfl,O,λj a=>br a (o6 _)⟩ O);rintro c z ⟨i,rfl,w,y⟩ l;have k: ∀j (a:j<d.length),j<i->d[j]=0:=λj a m=>by
  grind
 refine a1 (λb=>?_) λo=>ae.some ?_
 ·have b:i<d.length:=O
  have p:=bC b;refine ah (bo p) (dL (λe=>ae.some ?_) λA=>?_)
  ·have:lj d=aa i:=by
    unfold lj;rw[Kv];exact⟨b,by simp[e],λj a=>by simp[k j O a]⟩
   unfold po;rw[this]
  rw[bc O];refine l _ ⟨i+1,O,O,λj a=>?_⟩ O
  grind
 have:lj d=none:=by
  unfold lj;rw[List.findIdx?_eq_none_iff];intro x q;obtain⟨j,a⟩:=jq.1 q;obtain⟨h,rfl⟩:=d0.1 a;simp[k j h O]
 unfold po;rw[this]
theorem NF(e:d.length<=1100000)(i:1100000<n):xv n d=aa (hU d):=by
 unfold xv;refine ae.eq (ah (X7 e i) (ae.aS (λz:Bool=>z=hU d) (λj b=>?_) λz k=>ae.some k));unfold po hU at*;cases a:lj d with
 |none=>
  rw[a] at b;exact a1 (λ_=>b _ rfl) (λh=>br (show(-1:Int)<0 by omega) h)
 |some t=>
  rw[a] at b;obtain⟨l,m⟩:=PZ a;have c:=bC l;have o:d.getD t 0=d[t]:=by rw[fc,c];rfl
  refine a1 (λh=>br h (show¬(t:Int)<0 by omega)) λ_=>ah (bo c) (b _ ?_);exact decide_eq_decide.2 ⟨λh=>O,λh=>O⟩
def nc(k:Nat)(a:aE):aE:=⟨(a.aM.set k (a.aM.getD (k+1) 0)).set (k+1) (a.aM.getD k 0),a.const⟩
def pU(k:Nat)(d:List Int):List Int:=(d.set k (d.getD (k+1) 0)).set (k+1) (d.getD k 0)
theorem O6(k:Nat)(d:List Int):(pU k d).length=d.length:=by simp[pU]
theorem PK: ∀x,de x=ab->fr 4 (nc k x):=λx a=>by have:=(fT a).1;unfold fr nc;simp;omega
theorem hJ{l:List R}(h:k<l.length)(z:R):l[k]? =aa (l.getD k z):=by grind
theorem O4{h:Type}{l:List h}(a:k+1<l.length)(e:l.length<=500000000)(z:h){K:List h->Option R}(i:ae (K ((l.set k (l.getD (k+1) z)).set (k+1) (l.getD k z))) Q):
  ae (bQ (aB l (wr ((k:Int)+1))) λc=>bQ (aB l (k:Int)) λd=>bQ (cd l (k:Int) c) λb=>bQ (aB b (wr ((k:Int)+1))) λm=>bQ (cd b (wr ((k:Int)+1)) d) K) Q:=by
 rw[bc (n:=(k:Int)+1) O,show(k:Int)+1=((k+1:Nat):Int) by omega];refine ah (bo (hJ a z)) (ah (bo (hJ O z)) (ah (dJ O _) ?_));rw[c7];refine ah (bo (hJ (l:=l.set k (l.getD (k+1) z)) (k:=k+1) (by simpa using a) z)) (ah (dJ (by rw[fX];omega) _) ?_)
 grind
theorem ach(a:k+1<d.length)(b:d.length<=1100000):vN n d (k:Int)=aa (pU k d):=by unfold vN;exact ae.eq (O4 a O 0 (ae.some rfl))
theorem acg(n:Nat)(b:k+1<4): ∀x,de x=ab->vM n x (k:Int)=aa (nc k x):=λx a=>by have c:=(fT a).1;unfold vM;refine ae.eq (ah (AX n x a) (O4 O O 0 (ae.some rfl)))
theorem ac7(n:Nat)(c:k+1<4): ∀x,de x=ab->jB n x 0 (k:Int) ⟨[],0⟩=aa (nc k x):=λx a=>by have d:=(fT a).1;unfold jB;refine ae.eq (a1 (λ_=>ah (x:=nc k x) ?_ (ae.some rfl)) λh=>br rfl h);unfold GK;have b:qN n x=aa x:=AD n O;rw[bc (n:=(k:Int)+1) O,show(k:Int)+1=((k+1:Nat):Int) by omega];refine ae.eq (ah b (ah (bo (hJ O 0)) (ah (bo (hJ O 0)) (ah (dJ O _) (ah (bo (hJ O 0)) ?_)))));rw[c7];refine ah (bo (hJ (l:=x.aM.set k (x.aM.getD (k+1) 0)) (k:=k+1) ca 0)) (ah (dJ (by rw[fX];omega) _) ?_);rw[c7];exact ae.some rfl
def nn(k:Nat)(a:aE):Bool:= !decide (a.aM.getD k 0=0)
def uV(l:Loop)(k:Nat):Bool:=l.bq.any (nn k)||l.aL.any (nn k)
theorem XM(o:5500000<=n)(d:kE l)(p:k<4):EC n l (k:Int)=aa (uV l k):=by
 obtain⟨⟨q,e⟩,r,i⟩:=d;have b: ∀x,de x=ab->qS n x (k:Int)=aa (nn k x):=λx a=>by
  have:=(fT a).1;unfold qS;exact ae.eq (ah (bo (hJ O 0)) (ae.some rfl))
 unfold EC uV;refine ae.eq (ae.aS (λz=>z=(l.bq.any (nn k)||l.aL.any (nn k))) (λj c=>?_) λz m=>ae.some m);refine ah (y0 (λx a=>b x (e x a)) O O) (ae.cond (λh=>c _ (by rw[h];rfl)) λh=>ah (y0 (λx a=>b x (i x a)) O O) (c _ (by rw[h];rfl)))
theorem Oz{k:Type}{f:k->Bool}{l:List k}{x:k}(h:l[i]? =aa x):(l.take (i+1)).any f=((l.take i).any f||f x):=by rw[eK,h,ua];simp
theorem X3(w:5500000<=n)(p:kE l)(y:k<4):BC n l (k:Int)=aa (uV l k):=by
 obtain⟨⟨A,q⟩,B,r⟩:=p;unfold BC uV;refine ae.eq (ae.loop (λx:Int=> ∃i:Nat,x=i/\i<=l.bq.length/\(l.bq.take i).any (nn k)=al) (λx=>l.bq.length-x.toNat) ?_ n _ ⟨0,rfl,O,rfl⟩ O);rintro b z ⟨i,rfl,s,d⟩ h;refine a1 (λa=>?_) λm=>?_
 ·have a:i<l.bq.length:=O
  have e:=bC a
  have:=(fT (q _ (fW a))).1;refine ah (bo e) (ah (bo (hJ O 0)) (dL (λc=>ae.some ?_) λo=>?_))
  ·rw[iW.2 ⟨_,fW a,by unfold nn;simpa using c⟩];rfl
  rw[bc O];exact h _ ⟨i+1,O,O,by rw[Oz e,d];unfold nn;simpa using o⟩ O
 have:i=l.bq.length:=O
 subst this;rw[dZ] at d;rw[d,Bool.false_or];clear h;refine ae.loop (λx:Int=> ∃i:Nat,x=i/\i<=l.aL.length/\(l.aL.take i).any (nn k)=al) (λx=>l.aL.length-x.toNat) ?_ n _ ⟨0,rfl,O,rfl⟩ O;rintro b z ⟨i,rfl,s,d⟩ h;refine a1 (λa=>?_) λm=>ae.some ?_
 ·have a:i<l.aL.length:=O
  have e:=bC a
  have:=(fT (r _ (fW a))).1;refine ah (bo e) (ah (bo (hJ O 0)) (dL (λc=>ae.some ?_) λo=>?_))
  ·rw[iW.2 ⟨_,fW a,by unfold nn;simpa using c⟩]
  rw[bc O];exact h _ ⟨i+1,O,O,by rw[Oz e,d];unfold nn;simpa using o⟩ O
 have:i=l.aL.length:=O
 grind
def jM(k:Nat)(l:List Loop):List Loop:=(l.set k (l.getD (k+1) ⟨[],[]⟩)).set (k+1) (l.getD k ⟨[],[]⟩)
theorem xO(k:Nat)(l:List Loop):(jM k l).length=l.length:=by simp[jM]
def wL(k:Nat)(P:Part):Part:=⟨(jM k P.nest).take (k+2)++((jM k P.nest).drop (k+2)).map (d6 (nc k)),P.body.map (iF (nc k))⟩
def qz(p:Prog)(i k:Nat)(P:Part):Bool:= !uV (P.nest.getD (k+1) ⟨[],[]⟩) k&&(jy p i).all λd=>hU (pU k d)
def nr(p:Prog)(a b:Int):Prog×Bool:=
 if dj p a b=ab/\dj p a (b+1)=ab then
  match aB p.parts a with
  |some P=>if qz p a.toNat b.toNat P=ab then hd ⟨p.a7,p.parts.set a.toNat (wL b.toNat P)⟩ else ev
  |none=>ev
 else ev
theorem Hy{l:List Loop}(b:k+1<l.length){y:Loop}(a:y∈jM k l):y∈l:=by
 unfold jM at a
 grind
theorem Qq(b:eM r P=ab)(d:k+1<P.nest.length):im 4 (wL k P):=by
 obtain⟨m,e⟩:=ia b;obtain⟨_,h,i,_⟩:=gu b;refine⟨⟨by simp only[wL,List.length_append,List.length_map,List.length_take,List.length_drop,xO];omega,λy a=>?_⟩,by simp only[wL,List.length_map];exact h.2,λs l=>?_⟩
 ·rcases eX.1 a with a|a
  ·exact(uH b).1.2 y (Hy d (gn a))
  obtain⟨z,c,rfl⟩:=eH.1 a;exact xS PK (e z (Hy d (ft c)))
 obtain⟨z,c,rfl⟩:=eH.1 l;exact CA PK (i z c)
theorem PG(a:p.parts[i]? =aa P)(h:dj p (i:Int) ((k:Int)+1)=ab):k+1<P.nest.length:=by
 obtain⟨_,b,c,d,e,l,m,n,_,_,o,_⟩:=kg h
 grind
theorem OV(a:dj p (i:Int) (k:Int)=ab)(b:dj p (i:Int) ((k:Int)+1)=ab)(c:p.parts[i]? =aa P):nr p i k=if qz p i k P=ab then hd ⟨p.a7,p.parts.set i (wL k P)⟩ else ev:=by
 unfold nr;rw[bg ⟨a,b⟩,bo c]
 grind
theorem ack(H:22000000<=n)(w:eo 1100000 p)(a b:Int):DY n p a b=aa (nr p a b):=by
 unfold DY;by_cases c:b= -1
 ·subst c;unfold nr;rw[be λh=>by rw[rs O] at h;cases h.1];exact ae.eq (hE (Be O w a) λj K=>ae.cond (λ_=>a1 (λ_=>ae.some rfl) λh=>br (show(-1:Int)<0 by omega) h) λ_=>ae.some rfl)
 refine ae.eq (ah (xJ O w a b c) ?_);by_cases e:dj p a b=ab
 ·rw[bg e];refine b7 (a1 (λh=>by rw[rs h] at e;cases e) λt=>?_);obtain⟨x,i,k,P,l,rfl,rfl,m,u,v,L,o,E⟩:=kg e;obtain⟨K,D⟩:=ia o;obtain⟨_,Q,R,_⟩:=gu o;refine ah (bo m) ?_;rw[bc (n:=(k:Int)+1) O,bc (n:=(k:Int)+2) O];refine a1 (λW=>ae.some ?_) λX=>?_
  ·unfold nr;rw[be λh=>by have:=PG m h.2;omega];rfl
  have q:k+1<P.nest.length:=O
  have z:dj p (i:Int) ((k:Int)+1)=ab:=by
   unfold dj;rw[x,bo m]
   grind
  rw[OV e z m];have G:=hJ q (⟨[],[]⟩:Loop);rw[show(k:Int)+1=((k+1:Nat):Int) by omega];refine ah (bo G) (ah (XM O (D _ (bX G)) O) (ae.cond (λA=>ae.some ?_) λA=>?_))
  ·rw[be (by unfold qz;rw[A];simp)];rfl
  refine ah (Mr H w.sm x m (F:=λB=>vN n B (k:Int)) (f:=pU k) (λd r=>ach (by have:=(uh x m r).1;omega) (by have:=(uh x m r).1;omega)) (O6 k)) (ae.cond (λr=>?_) λr=>ae.some ?_)
  ·rw[bg (by unfold qz;rw[A,r];rfl)];refine ah (bo (hJ O (⟨[],[]⟩:Loop))) (ah (dJ O _) (ah (dJ (by rw[fX];omega) _) (ah (dJ Z _) ?_)));rw[c7,c7,c7];have C:=y9 (n:=n) O (nest:=jM k P.nest) (body:=P.body) (s:=k+2) (by rw[xO];omega) (by rw[xO];omega) (λy g=>D y (Hy q (ft g))) Q.2 R (F:=λB=>vM n B (k:Int)) (acg n O);rw[show(k:Int)+2=((k+2:Nat):Int) by omega];refine ah C (ah (dJ ca _) ?_);rw[c7,lx];exact ah (q9 O (x7 w i (Qq o q))) (ae.some rfl)
  rw[be (by unfold qz;rw[r];simp)];rfl
 unfold nr;rw[be e,be λh=>e h.1];exact b3 (ae.some rfl)
theorem O5{a b:List Loop}(c:k+1<a.length):jM k (a++b)=jM k a++b:=by
 have d:(a++b).getD (k+1) ⟨[],[]⟩=a.getD (k+1) ⟨[],[]⟩:=by rw[fc,fc,hz c]
 have e:(a++b).getD k ⟨[],[]⟩=a.getD k ⟨[],[]⟩:=by rw[fc,fc,hz O]
 unfold jM
 grind
theorem abL{l:List Loop}(c:k+1<l.length):jM k (l.take (k+2))=(jM k l).take (k+2):=by have h:=O5 (k:=k) (a:=l.take (k+2)) (b:=l.drop (k+2)) (by rw[c6];omega);rw[ud] at h;rw[h,ub (by rw[xO,c6];omega)];exact(jN (by rw[xO,c6];omega)).symm
theorem abi{l:List Loop}:(jM k l).drop (k+2)=l.drop (k+2):=by unfold jM;rw[o4 O,o4 O]
theorem afa(a:k+1<P.nest.length)(r:List Loop):jM k (P.nest.take (k+2)++r)=(jM k P.nest).take (k+2)++r:=by rw[O5 (by rw[c6];omega),abL a]
theorem aco(T:22000000<=n)(q:eo 1100000 p)(a c:Int):DU n p a c=aa (nr p a c):=by
 unfold DU;by_cases F:dj p a c=ab;rotate_left
 ·unfold nr;rw[be λh=>F h.1];refine ae.eq (ah (jf O q) (ae.aS (λz=>z=ab) (λj H=>ah (mZ O q a c) (ae.cond (λ_=>H _ rfl) λh=>br (by simpa using h) F)) λz K=>by rw[K];exact b7 (ae.some rfl)))
 obtain⟨X,i,k,P,l,rfl,rfl,L,hl,U,V,y,hk⟩:=kg F;obtain⟨Y,M⟩:=ia y;obtain⟨_,h4,h5,_⟩:=gu y;rw[bc (n:=(k:Int)+1) O];by_cases e:dj p (i:Int) ((k:Int)+1)=ab;rotate_left
 ·unfold nr;rw[be λh=>e h.2];refine ae.eq (ah (jf O q) (ae.aS (λz=>z=ab) (λj H=>ah (mZ O q _ _) (ae.cond (λh=>by rw[F] at h;cases h) λ_=>ah (mZ O q _ _) (ae.cond (λ_=>H _ rfl) λh=>br (by simpa using h) e))) λz K=>by rw[K];exact b7 (ae.some rfl)))
 rw[OV F e L];have B:=PG L e;have N:=hJ B (⟨[],[]⟩:Loop);refine ae.eq (ah (jf O q) (ae.aS (λz=>z=uV (P.nest.getD (k+1) ⟨[],[]⟩) k) (λj H=>?_) λz K=>?_))
 ·refine ah (mZ O q _ _) (ae.cond (λh=>by rw[F] at h;cases h) λ_=>ah (mZ O q _ _) (ae.cond (λh=>by rw[e] at h;cases h) λ_=>ah (bo L) ?_));rw[show(k:Int)+1=((k+1:Nat):Int) by omega];exact ah (bo N) (ah (X3 O (M _ (bX N)) O) (H _ rfl))
 subst K;refine ae.cond (λg=>ae.some ?_) λg=>?_
 ·rw[be (by unfold qz;rw[g];simp)];rfl
 refine ah (x:=jy p i) (Me T q.sm X _) ?_;have Q:=Ib X (i:=i);have R:=λd G=>(uh X L (d:=d) G).1;have t:qz p i k P=(jy p i).all (λd=>hU (pU k d)):=by unfold qz;rw[g];rfl
 rw[t];generalize jy p i=D at Q R;refine ae.loop (λx:Int=> ∃m:Nat,x=m/\m<=D.length/\ ∀d∈D.take m,hU (pU k d)=ab) (λx=>D.length-x.toNat) ?_ n _ ⟨0,rfl,O,λd G=>by simp at G⟩ O;rintro u z ⟨m,rfl,hm,o⟩ b5;refine a1 (λC=>?_) λkL=>?_
 ·have C:m<D.length:=O
  have S:=bC C;have r:=fW C;have nC:=R _ r;rw[show(k:Int)+1=((k+1:Nat):Int) by omega];refine ah (bo S) (ah (dM ca) (ah (bo (hJ O 0)) (ah (x:=D[m].getD k 0) (bo (hJ (l:=D[m]) O 0)) (ah (dJ (by rw[tZ];omega) _) (ah (bo (hJ O 0)) ?_)))));rw[tZ,c7];refine ah (bo (hJ (l:=D[m].set k (D[m].getD (k+1) 0)) (k:=k+1) ca 0)) (ah (dJ (by rw[fX];omega) _) ?_);rw[c7];refine ah (x:=hU (pU k D[m])) (NF (d:=pU k D[m]) (by rw[O6];omega) O) (ae.cond (λh=>ae.some ?_) λh=>?_)
  ·rw[be λW=>?_]
   ·rfl
   have:=gy.1 W _ r;rw[this] at h;cases h
  rw[bc O];refine b5 _ ⟨m+1,O,O,λd G=>?_⟩ O;rw[eK,S] at G;rcases eX.1 G with E|E
  ·exact o d E
  have:d=D[m]:=by simpa using E
  subst this;simpa using h
 have:m=D.length:=O
 subst this;rw[dZ] at o;rw[bg (gy.2 o)];have I:=Av (n:=n) O (x:=P) (s:=k+1) O Y M h4.2 h5 (way:=0) (v:=(k:Int)) (b:=⟨[],0⟩) (f:=nc k) λn _ x hx=>ac7 n O x hx;rw[show(k:Int)+1=((k+1:Nat):Int) by omega];refine ah (bo L) (ah I ?_);have qW:(P.nest.take (k+2)++(P.nest.drop (k+2)).map (d6 (nc k))).length=P.nest.length:=by rw[dP,dF,c6,fN];omega
 have w:=afa B ((P.nest.drop (k+2)).map (d6 (nc k)));rw[show k+1+1=k+2 by omega];dsimp only;generalize P.nest.take (k+2)++(P.nest.drop (k+2)).map (d6 (nc k))=A at qW w;refine ah (bo (hJ O (⟨[],[]⟩:Loop))) (ah (bo (hJ O (⟨[],[]⟩:Loop))) (ah (dJ O _) ?_));rw[c7];refine ah (bo (hJ (l:=A.set k (A.getD (k+1) ⟨[],[]⟩)) (k:=k+1) (by rw[fX];omega) (⟨[],[]⟩:Loop))) (ah (dJ (by rw[fX];omega) _) ?_);rw[c7];have j':(⟨(A.set k (A.getD (k+1) ⟨[],[]⟩)).set (k+1) (A.getD k ⟨[],[]⟩),P.body.map (iF (nc k))⟩:Part)=wL k P:=by
  have:(A.set k (A.getD (k+1) ⟨[],[]⟩)).set (k+1) (A.getD k ⟨[],[]⟩)=jM k A:=rfl;rw[this,w,<-abi];rfl
 rw[j'];exact ah (xQ O q U ((Qq y B).mono O)) (ae.some rfl)
def nw(k:Nat)(c:Int):aE:=⟨[0,0,0,0].set k (-1),c⟩
def qE(k:Nat)(c:Int)(x:aE):aE:=ve x k (nw k c)
def lI(k:Nat)(d:List Int):List Int:=d.set k (0-d.getD k 0)
def nv(l:Loop):Int:=du l.bq+du l.aL-1
def yj(k:Nat)(c:Int)(P:Part):Part:=⟨P.nest.take (k+1)++(P.nest.drop (k+1)).map (d6 (qE k c)),P.body.map (iF (qE k c))⟩
def sj(p:Prog)(i k:Nat)(l:Loop):Bool:=eU l&&(jy p i).all λd=>hU (lI k d)
def pn(p:Prog)(a b:Int):Prog×Bool:=
 if dj p a b=ab then
  match aB p.parts a with
  |some P=>match aB P.nest b with
   |some l=>if sj p a.toNat b.toNat l=ab then hd ⟨p.a7,p.parts.set a.toNat (yj b.toNat (nv l) P)⟩ else ev
   |none=>ev
  |none=>ev
 else ev
theorem On(k:Nat)(d:List Int):(lI k d).length=d.length:=by simp[lI]
theorem Pb(h:dj p (i:Int) (k:Int)=ab)(a:p.parts[i]? =aa P)(b:P.nest[k]? =aa l):pn p i k=if sj p i k l=ab then hd ⟨p.a7,p.parts.set i (yj k (nv l) P)⟩ else ev:=by
 unfold pn;rw[bg h,bo a];dsimp only;rw[bo b]
 grind
theorem Pc(b:k<4)(a:c3 999 c):fx 1000 (nw k c):=by unfold c3 at a;rcases(O:k=0\/k=1\/k=2\/k=3) with rfl|rfl|rfl|rfl<;>(unfold fx c3 nw;simp;omega)
theorem OL(k:Nat)(c:Int): ∀x,de x=ab->fr 4 (qE k c x):=λx a=>by have:=Ql ⟨x.aM.set k 0,x.const⟩ (nw k c) (x.aM.getD k 0) (by dsimp only;rw[fX];exact(fT a).1) (by simp[nw]);unfold fr qE ve;omega
theorem uL{l:List aE}(h: ∀x∈l,de x=ab):c3 99 (du l):=by
 unfold du;cases l with
 |nil=>unfold c3;simp
 |cons x t=>exact(fT (h x fi)).2.1
theorem HW(h:kE l):c3 999 (nv l):=by have a:=uL h.1.2;have b:=uL h.2.2;unfold c3 at*;unfold nv;omega
theorem abe(n:Nat)(a:k<d.length)(b: ∀x∈d,c3 99999 x):vL n d (k:Int)=aa (lI k d):=by have e:=hJ a (0:Int);have bA:=b _ (bX e);unfold c3 at bA;unfold vL;refine ae.eq (ah (bo e) ?_);rw[bc O];refine ah (dJ O _) (ae.some ?_);rw[c7];rfl
theorem adJ(n:Nat)(a:k<4):nH n (k:Int) (-1)=aa ⟨[0,0,0,0].set k (-1),0⟩:=by rcases(O:k=0\/k=1\/k=2\/k=3) with rfl|rfl|rfl|rfl<;>rfl
theorem abd(b:5500000<=n)(a:k<4)(d:c3 999 c): ∀x,de x=ab->vK n x (k:Int) (nw k c)=aa (qE k c x):=λx e=>by unfold vK;rw[FM b ((nR e).mono O) (Pc a d) a];rfl
theorem abp(a:k<4)(b:c3 999 c): ∀n,5500000<=n-> ∀x,de x=ab->jB n x 1 (k:Int) (nw k c)=aa (qE k c x):=λn d x e=>by unfold jB;rw[Mb d ((nR e).mono O) (Pc a b) a];rfl
theorem afb(a:5500000<=n)(b:k<4)(d:c3 999 c):j3 n ⟨[0,0,0,0],c⟩ 1 (ho k) (-1)=aa (nw k c):=by unfold c3 at d;rw[tW a (by unfold fx c3;simp;omega) ((uu b).mono O) ⟨O,O⟩ ⟨O,O⟩];rcases(O:k=0\/k=1\/k=2\/k=3) with rfl|rfl|rfl|rfl<;>simp[ov,ho,nw]
theorem P5(b:eM r P=ab)(m:k<P.nest.length)(c:Int):im 4 (yj k c P):=by
 obtain⟨n,e⟩:=ia b;obtain⟨_,h,i,_⟩:=gu b;refine⟨⟨by simp only[yj,List.length_append,List.length_map,List.length_take,List.length_drop];omega,λy a=>?_⟩,by simp only[yj,List.length_map];exact h.2,λs l=>?_⟩
 ·rcases eX.1 a with a|a
  ·exact(uH b).1.2 y (gn a)
  obtain⟨z,d,rfl⟩:=eH.1 a;exact xS (OL k c) (e z (ft d))
 obtain⟨z,d,rfl⟩:=eH.1 l;exact CA (OL k c) (i z d)
theorem acm(X:22000000<=n)(w:eo 1100000 p)(a b:Int):DX n p a b=aa (pn p a b):=by
 unfold DX;by_cases e:b= -1
 ·subst e;unfold pn;rw[be λh=>by rw[rs O] at h;cases h];exact ae.eq (hE (Be O w a) λv Q=>ae.cond (λ_=>a1 (λ_=>ae.some rfl) λh=>br (show(-1:Int)<0 by omega) h) λ_=>ae.some rfl)
 refine ae.eq (ah (xJ O w a b e) ?_);by_cases m:dj p a b=ab
 ·rw[bg m];refine b7 (a1 (λh=>by rw[rs h] at m;cases m) λE=>?_);obtain⟨z,i,k,P,l,rfl,rfl,r,A,I,B,o,R⟩:=kg m;obtain⟨Q,W⟩:=ia o;obtain⟨_,g,j,_⟩:=gu o;have c:=W l (bX A);rw[Pb m r A];refine ah (bo r) (ah (bo A) (ah (G7 O c) ?_));cases C:eU l with
  |false=>exact b3 (ae.some (by rw[be (by unfold sj;rw[C];simp)];rfl))
  |true=>
   refine b7 (ah (Mr X w.sm z r (F:=λD=>vL n D (k:Int)) (f:=lI k) (λd q=>abe n (by have:=(uh z r q).1;omega) (uh z r q).2) (On k)) (ae.cond (λq=>?_) λq=>ae.some ?_))
   ·rw[show sj p i k l=ab by unfold sj;rw[C,q];rfl];refine ah (adJ n R) ?_;have bW:=HW c;have G:=uL c.1.2;have H:=uL c.2.2;unfold c3 at G H;have K:(⟨([0,0,0,0]:List Int).set k (-1),wr ((wr (du l.bq+du l.aL))-1)⟩:aE)=nw k (nv l):=by
     rw[bc (n:=du l.bq+du l.aL) O,bc O];rfl
    rw[bc (n:=(k:Int)+1) O];have L:=y9 (n:=n) O (nest:=P.nest) (body:=P.body) (s:=k+1) O Q (λy t=>W y (ft t)) g.2 j (F:=λD=>vK n D (k:Int) (⟨([0,0,0,0]:List Int).set k (-1),wr ((wr (du l.bq+du l.aL))-1)⟩:aE)) (f:=qE k (nv l)) λx u=>by rw[K];exact abd O R bW x u
    rw[show(k:Int)+1=((k+1:Nat):Int) by omega];refine ah L (ah (dJ Z _) ?_);rw[c7];exact ah (q9 O (x7 w i (P5 o B (nv l)))) (ae.some rfl)
   rw[be (by unfold sj;rw[C,q];simp)];rfl
 unfold pn;rw[be m,be m];exact b3 (ae.some rfl)
theorem acp(N:22000000<=n)(B:eo 1100000 p)(c e:Int):DT n p c e=aa (pn p c e):=by
 unfold DT;refine ae.eq (ah (jf O B) (ah (mZ O B c e) ?_));by_cases bA:dj p c e=ab;rotate_left
 ·unfold pn;rw[be bA,show dj p c e=al by simpa using bA];exact b7 (ae.some rfl)
 rw[bA];refine b3 ?_;obtain⟨F,i,k,P,l,rfl,rfl,G,H,S,K,o,L⟩:=kg bA;obtain⟨T,E⟩:=ia o;obtain⟨_,U,V,_⟩:=gu o;have h:=E l (bX H);rw[Pb bA G H];refine ah (bo G) (ah (bo H) (ah (Gp O h) (ah (x:=jy p i) (Me N B.sm F _) ?_)));have r:=Ib F (i:=i);have w:=λd Y=>uh F G (d:=d) Y;have Q:sj p i k l=(eU l&&(jy p i).all λd=>hU (lI k d)):=rfl;rw[Q];have h3:(if eU l=ab then(du l.bq,du l.aL,ab) else((0:Int),(0:Int),al)).2.2=eU l:=by cases eU l<;>rfl
 generalize jy p i=D at r w;refine ae.loop (λx:Bool×Int=> ∃m:Nat,x.2=m/\m<=D.length/\x.1=(eU l&&(D.take m).all λd=>hU (lI k d))) (λx=>D.length-x.2.toNat) ?_ n _ ⟨0,rfl,O,by dsimp only;rw[h3,List.take_zero];simp⟩ Z;rintro R ⟨ok,z⟩ ⟨m,C,hm,a⟩ b5;dsimp only at C a⊢;subst C;refine a1 (λq=>?_) λkL=>?_
 ·have q:m<D.length:=O
  have I:=bC q;obtain⟨g1,g2⟩:=w _ (fW q);have M:=hJ (l:=D[m]) (k:=k) O 0;have bA:=g2 _ (bX M);unfold c3 at bA;refine ae.aS (λz=>z.2=(eU l&&(D.take (m+1)).all λd=>hU (lI k d))) (λj W=>?_) λz C=>?_
  ·refine ah (bo I) (ah (dM ca) ?_);rw[tZ];refine ah (bo M) ?_;rw[bc O];refine ah (dJ O _) ?_;rw[c7];have y:(D.take (m+1)).all (λd=>hU (lI k d))=((D.take m).all (λd=>hU (lI k d))&&hU (lI k D[m])):=by
    rw[eK,I,List.all_append];simp
   rw[y,<-l9,<-a] at W;cases ok with
   |true=>exact b7 (ah (x:=hU (lI k D[m])) (NF (d:=lI k D[m]) (by rw[On];omega) O) (W _ (by rw[gi])))
   |false=>exact b3 (W _ (by rw[Bool.false_and]))
  rw[bc O];exact b5 _ ⟨m+1,Z,O,C⟩ Z
 have:m=D.length:=O
 subst this;rw[dZ] at a;rw[<-a];cases A:ok with
 |false=>exact b7 (ae.some (by rw[be bl];rfl))
 |true=>
  rw[bg rfl];have X:eU l=ab:=by
   rw[A] at a;cases X:eU l with
   |true=>rfl
   |false=>rw[X] at a;cases a
  have g:=uL h.1.2;have t:=uL h.2.2;unfold c3 at g t;have u:wr ((wr ((if eU l=ab then(du l.bq,du l.aL,ab) else((0:Int),(0:Int),al)).1+(if eU l=ab then(du l.bq,du l.aL,ab) else((0:Int),(0:Int),al)).2.1))-1)=nv l:=by
   rw[bg X];dsimp only;rw[bc (n:=du l.bq+du l.aL) O,bc O];rfl
  rw[u];refine b3 (ah (nL n _) (ah (BB n L) (ah (afb O L (HW h)) (ah (Av (n:=n) O (x:=P) (s:=k) O T E U.2 V (way:=1) (v:=(k:Int)) (b:=nw k (nv l)) (f:=qE k (nv l)) (abp L (HW h))) ?_))));exact ah (xQ O B S ((P5 o K (nv l)).mono O)) (ae.some rfl)
end
section
def mA(k:Int):Int:=if k=3\/k=4\/k=5 then 3 else if k=1\/k=2\/k=7\/k=8 then 2 else if k=6\/k=9\/k=10 then 1 else 0
def r8(s:Step):Bool:=aj (1<=s.kind/\s.kind<=11)&&((aj (0<mA s.kind)||decide (s.part=0))&&((aj (1<mA s.kind)||decide (s.a=0))&&(aj (2<mA s.kind)||decide (s.b=0))))
theorem QH(k:Int):0<=mA k/\mA k<=3:=by
 unfold mA
 grind
theorem X9(n:Nat)(k:Int):EG n k=aa (mA k):=by
 unfold EG mA;refine ae.eq (ae.aS (λz=>z=aj (k=3\/k=4\/k=5)) (λj a=>a1 (λh=>a _ ?_) λh=>a1 (λb=>a _ ?_) λb=>a _ ?_) λz c=>?_)
 ·rw[gM];simp only[decide_eq_true_eq];omega
 ·rw[gM];simp only[decide_eq_true_eq];omega
 ·rw[gM];simp only[decide_eq_true_eq];omega
 subst c;by_cases d:k=3\/k=4\/k=5
 ·rw[bg d,bS d];exact b7 (ae.some rfl)
 rw[be d,bN d];refine b3 (ae.aS (λz=>z=aj (k=1\/k=2\/k=7\/k=8)) (λj a=>a1 (λh=>a _ ?_) λh=>a1 (λb=>a _ ?_) λb=>a1 (λl=>a _ ?_) λl=>a _ ?_) λz c=>?_)
 ·rw[gM];simp only[decide_eq_true_eq];omega
 ·rw[gM];simp only[decide_eq_true_eq];omega
 ·rw[gM];simp only[decide_eq_true_eq];omega
 ·rw[gM];simp only[decide_eq_true_eq];omega
 subst c;by_cases e:k=1\/k=2\/k=7\/k=8
 ·rw[bg e,bS e];exact b7 (ae.some rfl)
 rw[be e,bN e];refine b3 (ae.aS (λz=>z=aj (k=6\/k=9\/k=10)) (λj a=>a1 (λh=>a _ ?_) λh=>a1 (λb=>a _ ?_) λb=>a _ ?_) λz c=>?_)
 ·rw[gM];simp only[decide_eq_true_eq];omega
 ·rw[gM];simp only[decide_eq_true_eq];omega
 ·rw[gM];simp only[decide_eq_true_eq];omega
 subst c;by_cases i:k=6\/k=9\/k=10
 ·rw[bg i,bS i];exact b7 (ae.some rfl)
 rw[be i,bN i];exact b3 (ae.some rfl)
theorem XO(n:Nat)(k:Int):BX n k=aa (if 1<=k/\k<=11 then mA k else-1):=by
 unfold BX mA;refine ae.eq (ae.aS (λz=>z=aj (k=1\/k=2\/k=7\/k=8)) (λj a=>a1 (λh=>a _ ?_) λh=>a1 (λb=>a _ ?_) λb=>a1 (λl=>a _ ?_) λl=>a _ ?_) λz c=>?_)
 ·rw[gM];simp only[decide_eq_true_eq];omega
 ·rw[gM];simp only[decide_eq_true_eq];omega
 ·rw[gM];simp only[decide_eq_true_eq];omega
 ·rw[gM];simp only[decide_eq_true_eq];omega
 subst c;by_cases d:k=1\/k=2\/k=7\/k=8
 ·rw[bS d,bg O,be O,bg d];exact b7 (ae.some rfl)
 rw[bN d];refine b3 (ae.aS (λz=>z=aj (k=3\/k=4\/k=5)) (λj a=>a1 (λh=>a _ ?_) λh=>a1 (λb=>a _ ?_) λb=>a _ ?_) λz c=>?_)
 ·rw[gM];simp only[decide_eq_true_eq];omega
 ·rw[gM];simp only[decide_eq_true_eq];omega
 ·rw[gM];simp only[decide_eq_true_eq];omega
 subst c;by_cases e:k=3\/k=4\/k=5
 ·rw[bS e,bg O,bg e];exact b7 (ae.some rfl)
 rw[bN e];refine b3 (ae.aS (λz=>z=aj (k=6\/k=9\/k=10)) (λj a=>a1 (λh=>a _ ?_) λh=>a1 (λb=>a _ ?_) λb=>a _ ?_) λz c=>?_)
 ·rw[gM];simp only[decide_eq_true_eq];omega
 ·rw[gM];simp only[decide_eq_true_eq];omega
 ·rw[gM];simp only[decide_eq_true_eq];omega
 subst c;by_cases i:k=6\/k=9\/k=10
 ·rw[bS i,bg O,be e,be d,bg i];exact b7 (ae.some rfl)
 rw[bN i];refine b3 (a1 (λh=>ae.some ?_) λh=>ae.some ?_)
 ·rw[bg O,be e,be d,be i]
 rw[be O]
theorem Y2(n:Nat)(s:Step):Ak n s=aa (r8 s):=by
 unfold Ak r8;have d:=QH s.kind;refine ae.eq (ah (X9 n s.kind) ?_);generalize mA s.kind=f at*;refine ae.aS (λz=>z=(aj (1<=s.kind/\s.kind<=11)&&((aj (0<f)||decide (s.part=0))&&((aj (1<f)||decide (s.a=0))&&(aj (2<f)||decide (s.b=0)))))) (λj e=>?_) (λz c=>ae.some c)
 grind
variable {n:Nat}{p:Prog}{s:Step}{R:Prog×Bool}{l:List Step}
theorem ZP(i:10<=n)(s:Step):A4 n s=aa (r8 s):=by
 unfold A4 r8;have k:=QH s.kind;refine ae.eq (ah (XO n s.kind) ?_);generalize mA s.kind=f at*;refine ae.aS (λz=>z=(aj (1<=s.kind/\s.kind<=11)&&((aj (0<f)||decide (s.part=0))&&((aj (1<f)||decide (s.a=0))&&(aj (2<f)||decide (s.b=0)))))) (λj d=>?_) λz e=>ae.some e;by_cases c:1<=s.kind/\s.kind<=11
 ·rw[bg c];rw[bS c] at d⊢;refine a1 (λ_=>ah (show Fl n s=aa [s.part,s.a,s.b] from rfl) (ah (iR O ca bl) (ah (Ek (p:=λv=> !decide (v=0)) (λx _=>rfl) ca ca) (d _ ?_)))) λh=>br h O;rw[show([s.part,s.a,s.b].length:Int).toNat=[s.part,s.a,s.b].length from rfl,dZ];rcases(O:f=0\/f=1\/f=2\/f=3) with rfl|rfl|rfl|rfl
  ·simp[show(0:Int).toNat=0 from rfl]
  ·simp[show(1:Int).toNat=1 from rfl]
  ·simp[show(2:Int).toNat=2 from rfl]
  simp[show(3:Int).toNat=3 from rfl]
 rw[be c]
 grind
noncomputable def lA(p:Prog)(s:Step):Prog×Bool:=
 if r8 s=ab then
  (if s.kind=1 then nr p s.part s.a else if s.kind=2 then pn p s.part s.a else if s.kind=3 then u5 p s.part s.a s.b else if s.kind=4 then uS p s.part s.a s.b
   else if s.kind=5 then qe p s.part s.a s.b else if s.kind=6 then mn p s.part else if s.kind=7 then mr p s.part s.a else if s.kind=8 then qf p s.part s.a
   else if s.kind=9 then lz p s.part else if s.kind=10 then mq p s.part else u4 p)
 else ev
theorem ZL(c:22000000<=n)(b:eo 1100000 p)(e:tw n p s.part=aa (mn p s.part))(i:sJ n p s.part s.a=aa (mr p s.part s.a))(k:tv n p s.part=aa (lz p s.part))(d:tF n p s.part=aa (mq p s.part)):tx n p s=aa (lA p s):=by
 unfold tx lA;refine ae.eq (ah (ZP O s) ?_);cases l:r8 s with
 |false=>exact b7 (ae.some rfl)
 |true=>
  rw[bg rfl];refine b3 (a1 (λh=>?_) λh=>?_)
  ·rw[bg h];exact ah (ack c b _ _) (ae.some rfl)
  rw[be h];refine a1 (λh=>?_) λh=>?_
  ·rw[bg h];exact ah (acm c b _ _) (ae.some rfl)
  rw[be h];refine a1 (λh=>?_) λh=>?_
  ·rw[bg h];exact ah (aaB O b _ _ _) (ae.some rfl)
  rw[be h];refine a1 (λh=>?_) λh=>?_
  ·rw[bg h];exact ah (ZO O b _ _ _) (ae.some rfl)
  rw[be h];refine a1 (λh=>?_) λh=>?_
  ·rw[bg h];exact ah (ZK O b _ _ _) (ae.some rfl)
  rw[be h];refine a1 (λh=>?_) λh=>?_
  ·rw[bg h];exact ah e (ae.some rfl)
  rw[be h];refine a1 (λh=>?_) λh=>?_
  ·rw[bg h];exact ah i (ae.some rfl)
  rw[be h];refine a1 (λh=>?_) λh=>?_
  ·rw[bg h];exact ah (ZN c b _ _) (ae.some rfl)
  rw[be h];refine a1 (λh=>?_) λh=>?_
  ·rw[bg h];exact ah k (ae.some rfl)
  rw[be h];refine a1 (λh=>?_) λh=>?_
  ·rw[bg h];exact ah d (ae.some rfl)
  rw[be h];exact ah (UX O b) (ae.some rfl)
theorem YY(c:22000000<=n)(b:eo 1100000 p)(e:tu n p s.part=aa (mn p s.part))(i:sI n p s.part s.a=aa (mr p s.part s.a))(k:tt n p s.part=aa (lz p s.part))(d:tC n p s.part=aa (mq p s.part)):wx n p s=aa (lA p s):=by
 unfold wx lA;refine ae.eq (ah (jf O b) (ah (Y2 n s) ?_));cases l:r8 s with
 |false=>exact b7 (ae.some rfl)
 |true=>
  rw[bg rfl];refine b3 (a1 (λh=>?_) λh=>?_)
  ·rw[bg h];exact ah (aco c b _ _) (ae.some rfl)
  rw[be h];refine a1 (λh=>?_) λh=>?_
  ·rw[bg h];exact ah (acp c b _ _) (ae.some rfl)
  rw[be h];refine a1 (λh=>?_) λh=>?_
  ·rw[bg h];exact ah (aaZ O b _ _ _) (ae.some rfl)
  rw[be h];refine a1 (λh=>?_) λh=>?_
  ·rw[bg h];exact ah (Y1 O b _ _ _) (ae.some rfl)
  rw[be h];refine a1 (λh=>?_) λh=>?_
  ·rw[bg h];exact ah (YX O b _ _ _) (ae.some rfl)
  rw[be h];refine a1 (λh=>?_) λh=>?_
  ·rw[bg h];exact ah e (ae.some rfl)
  rw[be h];refine a1 (λh=>?_) λh=>?_
  ·rw[bg h];exact ah i (ae.some rfl)
  rw[be h];refine a1 (λh=>?_) λh=>?_
  ·rw[bg h];exact ah (Y0 c b _ _) (ae.some rfl)
  rw[be h];refine a1 (λh=>?_) λh=>?_
  ·rw[bg h];exact ah k (ae.some rfl)
  rw[be h];refine a1 (λh=>?_) λh=>?_
  ·rw[bg h];exact ah d (ae.some rfl)
  rw[be h];exact ah (UY O b) (ae.some rfl)
def nl(R:Prog×Bool):Prop:=(R.2=ab/\b6 R.1=ab)\/R=ev
theorem fR:nl ev:= .inr rfl
theorem tH(q:Prog):nl (hd q):=by
 unfold hd;split
 ·rename_i h;exact .inl ⟨rfl,h⟩
 exact .inr rfl
theorem nl.v(h:nl R)(a:R.2=ab):b6 R.1=ab:=by
 rcases h with h|h
 ·exact h.2
 rw[h] at a;cases a
theorem ajJ(h:nl R)(a:R.2=al):R=ev:=by
 rcases h with h|h
 ·rw[a] at h;cases h.1
 exact h
theorem ME(p:Prog)(a b:Int)(g f:aE->aE):nl (uK p a b g f):=by
 unfold uK;split
 ·split
  ·exact tH _
  exact fR
 exact fR
theorem Nx(p:Prog)(s:Step):nl (lA p s):=by
 unfold lA;split
 ·split
  ·unfold nr;split
   ·split
    ·split
     ·exact tH _
     exact fR
    exact fR
   exact fR
  split
  ·unfold pn;split
   ·split
    ·split
     ·split
      ·exact tH _
      exact fR
     exact fR
    exact fR
   exact fR
  split
  ·unfold u5;split
   ·exact ME _ _ _ _ _
   exact fR
  split
  ·unfold uS;split
   ·exact ME _ _ _ _ _
   exact fR
  split
  ·unfold qe;split
   ·split
    ·split
     ·exact tH _
     exact fR
    exact fR
   exact fR
  split
  ·unfold mn;split
   ·split
    ·split
     ·exact tH _
     exact fR
    exact fR
   exact fR
  split
  ·unfold mr;split
   ·split
    ·split
     ·exact tH _
     exact fR
    exact fR
   exact fR
  split
  ·unfold qf;split
   ·split
    ·split
     ·exact tH _
     exact fR
    exact fR
   exact fR
  split
  ·by_cases h:jw p s.part (s.part+1)=ab
   ·obtain⟨i,c,d,e,a,b,_⟩:=Ht h;rw[e] at h⊢;rw[GU h a b];exact .inl ⟨rfl,H2 (qp h).1 a b⟩
   unfold lz;rw[be h];exact fR
  split
  ·unfold mq;split
   ·rename_i h;simp only[cB] at h;exact .inl ⟨rfl,Ic h.1 _⟩
   exact fR
  unfold u4;split
  ·rename_i h;exact .inl ⟨rfl,adT h⟩
  exact fR
 exact fR
noncomputable def qD:List Step->Prog->Prog×Bool
 | [],q=>(q,ab)
 |s::l,q=>if(lA q s).2=ab then qD l (lA q s).1 else ev
noncomputable def r7(p:Prog)(l:List Step):Prog×Bool:=if b6 p=ab/\l.length<=12 then qD l p else ev
theorem NH: ∀{l:List Step} {q:Prog},b6 q=ab->nl (qD l q)
 | [],q,h=> .inl ⟨rfl,h⟩
 |s::l,q,h=>by
  simp only[qD];split
  ·rename_i a;exact NH ((Nx q s).v a)
  exact fR
theorem Zl(p:Prog)(l:List Step):nl (r7 p l):=by
 unfold r7;split
 ·rename_i h;exact NH h.1
 exact fR
theorem QE(G:22000000<=n){f:Prog->Step->Option (Prog×Bool)}(A: ∀q s,b6 q=ab->s∈l->f q s=aa (lA q s))(H:l.length<=12)(B:b6 p=ab):
  bz (λb ((o,r,i):(List cz)×(List Part)×Int)=>
    bif aj (i<(l.length:Int)) then(
     bQ (aB l i) λC=>
     bQ (f (⟨o,r⟩:Prog) C) λd=>
     bif !d.2 then(
      aa ((⟨[],[]⟩:Prog),al)
     ) else(
      b (d.1.a7,d.1.parts,wr (i+1))
     )
    ) else(
     aa ((⟨o,r⟩:Prog),ab)
    )
   ) n (p.a7,p.parts,0)=aa (qD l p):=by
 refine ae.eq (ae.loop (λx:List cz×List Part×Int=> ∃j:Nat,x.2.2=j/\j<=l.length/\b6 ⟨x.1,x.2.1⟩=ab/\qD (l.drop j) ⟨x.1,x.2.1⟩=qD l p) (λx=>l.length-x.2.2.toNat) ?_ n _ ⟨0,rfl,O,B,rfl⟩ Z);rintro k ⟨a,w,z⟩ ⟨j,rfl,K,y,c⟩ D;dsimp only at y c⊢;refine a1 (λe=>?_) λF=>ae.some ?_
 ·have e:j<l.length:=O
  have h:=bC e;generalize l[j]=s at h;rw[kP h] at c;simp only[qD] at c;have bV:=Nx ⟨a,w⟩ s;refine ah (bo h) (ah (A _ s y (bX h)) ?_);cases m:(lA ⟨a,w⟩ s).2 with
  |false=>
   rw[m,be bl] at c;exact b7 (ae.some c)
  |true=>
   rw[m,bg rfl] at c;rw[bc O];exact b3 (D _ ⟨j+1,Z,O,bV.v m,c⟩ Z)
 rw[show j=l.length by omega,o5] at c;exact c
theorem XQ(b:22000000<=n)(c:j0 p)(d: ∀q s,b6 q=ab->s∈l->tx n q s=aa (lA q s)):wh n p l=aa (r7 p l):=by
 unfold wh r7;refine ae.eq (ae.aS (λz=>z= !decide (b6 p=ab/\l.length<=12)) (λj a=>ah (sG O c) (ae.cond (λh=>a _ ?_) λh=>a _ ?_)) λz e=>?_)
 ·rw[bN λi=>by rw[i.1] at h;cases h];rfl
 ·have h:b6 p=ab:=by simpa using h
  rw[gM];simp only[Bool.not_eq_true',decide_eq_true_eq,decide_eq_false_iff_not,h,true_and];omega
 subst e;by_cases h:b6 p=ab/\l.length<=12
 ·rw[bg h,bS h];exact b3 (ah (qj O h.1) (ae.of (QE b d h.2 h.1) rfl))
 rw[be h,bN h];exact b7 (ae.some rfl)
theorem X8(b:22000000<=n)(c:j0 p)(d:iL n p=aa p)(e: ∀q s,b6 q=ab->s∈l->wx n q s=aa (lA q s)):Ef n p l=aa (r7 p l):=by
 unfold Ef r7;refine ae.eq (ah d (ae.aS (λz=>z= !decide (b6 p=ab/\l.length<=12)) (λj a=>ah (jc O c) (ae.cond (λh=>a _ ?_) λh=>a _ ?_)) λz i=>?_))
 ·rw[bN λk=>by rw[k.1] at h;cases h];rfl
 ·have h:b6 p=ab:=by simpa using h
  rw[gM];simp only[Bool.not_eq_true',decide_eq_true_eq,decide_eq_false_iff_not,h,true_and];omega
 subst i;by_cases h:b6 p=ab/\l.length<=12
 ·rw[bg h,bS h];exact b3 (ah (oD O ((gH h.1).mono O)) (ae.of (QE b e h.2 h.1) rfl))
 rw[be h,bN h];exact b7 (ae.some rfl)
end
set_option maxRecDepth 100000
def jU(B:Nat)(a:aE):Prop:=a.aM.length<=B
def kz(B:Nat)(l:List aE):Prop:=l.length<=B/\ ∀a∈l,jU B a
def ob(B:Nat)(a:cx):Prop:=a.array.length<=B/\kz B a.ba
def iK(B:Nat):Nat->Expr->Prop
 |0,_=>False
 |m+1,e=>jU B e.index/\ob B e.read/\e.aZ.length<=B/\ ∀k∈e.aZ,iK B m k
def od(B m:Nat)(s:Stmt):Prop:=ob B s.write/\iK B m s.value
def oc(B:Nat)(l:Loop):Prop:=kz B l.bq/\kz B l.aL
def r6(B m:Nat)(x:Part):Prop:=(x.nest.length<=B/\ ∀l∈x.nest,oc B l)/\x.body.length<=B/\ ∀s∈x.body,od B m s
def pc(B:Nat)(x:cz):Prop:=x.name.length<=B/\x.b9.length<=B
def jV(B m:Nat)(p:Prog):Prop:=(p.a7.length<=B/\ ∀x∈p.a7,pc B x)/\p.parts.length<=B/\ ∀x∈p.parts,r6 B m x
theorem QS: ∀{m:Nat} {e:Expr},iK 1048576 m e-> ∀j,uF j e
 |0,e,h,_=>h.elim
 |m+1,e,h,0=>trivial
 |m+1,e,h,j+1=>by
  obtain⟨c,b,n,d⟩:=h;unfold jU at c;refine⟨O,?_,⟨?_,λa i=>?_⟩,λk l=>QS (d k l) j⟩
  ·unfold iu;omega
  ·have:=b.2.1;omega
  have:=b.2.2 a i;unfold jU at this;unfold iu;omega
variable {l:List aE}{m C D i n B:Nat}{p:Prog}{w v:Int->Option Int}{P Q:Prop}{k a gw:Int}{x:Part}{s:Stmt}{R:Type}{r:Prog×Bool}
theorem Ir(h:kz 1048576 l):j1 l:=⟨by have:=h.1;omega,λa b=>by have:=h.2 a b;unfold jU at this;unfold iu;omega⟩
theorem QR(h:jV 1048576 m p):j0 p:=by obtain⟨⟨n,i⟩,o,k⟩:=h;refine⟨⟨O,λx a=>by have:=(i x a).2;omega⟩,O,λx a=>?_⟩;obtain⟨⟨q,b⟩,r,c⟩:=k x a;exact⟨⟨O,λl d=>⟨Ir (b l d).1,Ir (b l d).2⟩⟩,O,λs e=>⟨Ir (c s e).1.2,QS (c s e).2 _⟩⟩
def e7{k:Type}(c:k->Nat)(l:List k):Nat:=l.length+(l.map c).sum
def lZ(a:aE):Nat:=a.aM.length
def th(a:cx):Nat:=e7 lZ a.ba
def nJ:Nat->Expr->Nat
 |0,_=>0
 |m+1,e=>lZ e.index+(th e.read+e7 (nJ m) e.aZ)
def re(m:Nat)(s:Stmt):Nat:=th s.write+nJ m s.value
def rb(l:Loop):Nat:=e7 lZ l.bq+e7 lZ l.aL
def tl(m:Nat)(x:Part):Nat:=e7 rb x.nest+e7 (re m) x.body
def tm(x:cz):Nat:=x.b9.length
def tk(m:Nat)(p:Prog):Nat:=e7 tm p.a7+e7 (tl m) p.parts
def eS(w:Int->Option Int)(C:Nat)(P:Prop):Prop:= ∀left:Int,0<=left->left<=1048576-> ∃r,w left=aa r/\(r= -1\/(0<=r/\r+C<=left/\P))
theorem eS.mono(h:eS w C P)(d:D<=C)(k:P->Q):eS w D Q:=λleft a b=>by obtain⟨r,e,c⟩:=h left a b;exact⟨r,e,c.imp id λh=>⟨h.1,O,k h.2.2⟩⟩
theorem eS.two(h:eS w C P)(k:eS v D Q):eS (λleft=>bQ (w left) λa=>bif aj (a<0) then aa (-1) else v a) (C+D) (P/\Q):=λleft b c=>by
 obtain⟨r,e,d⟩:=h left b c;dsimp only;rw[e];rcases d with rfl|⟨i,q,l⟩
 ·exact⟨-1,rfl,.inl rfl⟩
 obtain⟨s,m,n⟩:=k r i O;refine⟨s,?_,?_⟩
 ·show(bif aj (r<0) then aa (-1) else v r)=aa s;rw[bN O];exact m
 rcases n with rfl|⟨o,x,p⟩
 ·exact .inl rfl
 exact .inr ⟨o,O,l,p⟩
theorem eS.end(h:eS w C P):eS (λleft=>bQ (w left) λa=>bif aj (a<0) then aa (-1) else aa a) C P:=
 (h.two (v:=λx=>aa x) (D:=0) (Q:=True) λleft b _=>⟨left,rfl,.inr ⟨b,O,trivial⟩⟩).mono (df _) And.left
theorem eS.len{k:Nat}(i:k<=9223372036854775807)(h:eS v D Q):eS (λleft=>bif aj (wr (left-(k:Int))<0) then aa (-1) else v (wr (left-(k:Int)))) (k+D) (k<=1048576/\Q):=λleft l m=>by
 dsimp only;rw[bc O];by_cases a:left-(k:Int)<0
 ·rw[bS a];exact⟨-1,rfl,.inl rfl⟩
 rw[bN a];obtain⟨s,e,b⟩:=h (left-(k:Int)) O O;refine⟨s,e,?_⟩;rcases b with rfl|⟨c,n,d⟩
 ·exact .inl rfl
 exact .inr ⟨c,O,O,d⟩
theorem Nj{k:Type}{l:List k}{x:k}(c:k->Nat)(h:l[i]? =aa x):((l.take (i+1)).map c).sum=((l.take i).map c).sum+c x:=by rw[fQ h];simp
theorem ae'{k:Type}{a:List k}{g:k->Int->Option Int}{c:k->Nat}{P:k->Prop}(X:a.length<=1048576)(f:2000000<=n)(B: ∀x∈a,eS (g x) (c x) (P x)):
  eS (λleft=>bz (λb ((w,l):Int×Int)=>
   bif aj (l<(a.length:Int)) then(
    bQ (aB a l) λC=>
    bQ (g C w) λA=>
    bif aj (A<0) then(
     aa (-1)
    ) else(
     b (A,wr (l+1))
    )
   ) else(
    aa w
   )
  ) n (left,0)) (a.map c).sum (∀x∈a,P x):=λleft D t=>by
 refine ae.loop (Q:=λr=>r= -1\/(0<=r/\r+((a.map c).sum:Nat)<=left/\ ∀x∈a,P x)) (λz:Int×Int=> ∃j:Nat,z.2=j/\j<=a.length/\0<=z.1/\z.1+(((a.take j).map c).sum:Nat)<=left/\ ∀x∈a.take j,P x) (λz=>a.length-z.2.toNat) ?_ n _ ⟨0,rfl,O,D,bl,λx d=>by simp at d⟩ Z;rintro m ⟨F,u⟩ ⟨j,rfl,v,o,p,q⟩ G;dsimp only at o p⊢;refine a1 (λH=>?_) λK=>ae.some (.inr ⟨o,by rw[jN O] at p;exact p,by rw[jN O] at q;exact q⟩);have d:=bC (O:j<a.length);generalize a[j]=x at d;obtain⟨s,e,L⟩:=B x (bX d) F o O;refine ah (bo d) (ah e ?_);rcases L with rfl|⟨R,E,W⟩
 ·exact a1 (λ_=>ae.some (.inl rfl)) λh=>br h (by decide)
 refine a1 (λh=>br h O) λ_=>?_;rw[bc O];refine G _ ⟨j+1,Z,O,R,by dsimp only;rw[Nj c d];omega,λy i=>?_⟩ Z;rw[fQ d] at i;rcases eX.1 i with i|i
 ·exact q y i
 rw[p8.1 i];exact W
theorem uQ{k:Type}{a:List k}{g:k->Int->Option Int}{c:k->Nat}{P:k->Prop}(i:a.length<=9223372036854775807)(l:2000000<=n)(m: ∀x∈a,eS (g x) (c x) (P x)):
  eS (λleft=>bif aj (wr (left-(a.length:Int))<0) then aa (-1) else bz (λb ((e,d):Int×Int)=>
   bif aj (d<(a.length:Int)) then(
    bQ (aB a d) λo=>
    bQ (g o e) λh=>
    bif aj (h<0) then(
     aa (-1)
    ) else(
     b (h,wr (d+1))
    )
   ) else(
    aa e
   )
  ) n (wr (left-(a.length:Int)),0)) (e7 c a) (a.length<=1048576/\ ∀x∈a,P x):=λleft p q=>by
 by_cases r:a.length<=1048576
 ·exact(eS.len i (ae' r l m)) left p q
 dsimp only;rw[bc O,bS O];exact⟨-1,rfl,.inl rfl⟩
theorem O1{a:List Int}(h:a.length<=9223372036854775807):eS (Bu n a) a.length (a.length<=1048576):=by have:=(eS.len h (v:=λx=>aa x) (D:=0) (Q:=True) λleft b _=>⟨left,rfl,.inr ⟨b,O,trivial⟩⟩).mono (df _) And.left;exact this
theorem ae9{a:cz}(h:pc 9223372036854775807 a):eS (Gt n a) (tm a) (pc 1048576 a):=(eS.len h.1 ((O1 h.2).end)).mono (Nat.le_add_left _ _) id
theorem adx(b:2000000<=n){a:List cz}(h:a.length<=9223372036854775807)(c: ∀x∈a,pc 9223372036854775807 x):eS (FE n a) (e7 tm a) (a.length<=1048576/\ ∀x∈a,pc 1048576 x):=uQ h b λx d=>ae9 (c x d)
theorem PO{a:aE}(h:jU 9223372036854775807 a):eS (E2 n a) (lZ a) (jU 1048576 a):=(O1 h).end
theorem Hw(b:2000000<=n){a:List aE}(h:kz 9223372036854775807 a):eS (zu n a) (e7 lZ a) (kz 1048576 a):=uQ h.1 b λx c=>PO (h.2 x c)
theorem PQ(b:2000000<=n){a:cx}(h:ob 9223372036854775807 a):eS (E3 n a) (th a) (ob 1048576 a):=(eS.len h.1 ((Hw b h.2).end)).mono (Nat.le_add_left _ _) id
theorem O2: ∀(m n:Nat) {e:Expr},2000000+m<=n->iK 9223372036854775807 m e->eS (rP n e) (nJ m e) (iK 1048576 m e)
 |0,n,e,_,h=>h.elim
 |m+1,n,e,r,h=>by
  obtain⟨n,rfl⟩: ∃j,n=j+1:=⟨n-1,O⟩
  obtain⟨l,o,p,q⟩:=h;have i:eS (Gs n (rP n) e.aZ) (e7 (nJ m) e.aZ) (e.aZ.length<=1048576/\ ∀k∈e.aZ,iK 1048576 m k):=uQ p O λk i=>O2 m n O (q k i);exact eS.mono ((PO (n:=n) l).two ((PQ (n:=n) O o).two i.end)) (df _) (λ⟨a,b,c,d⟩=>⟨a,b,c,d⟩)
theorem adu(a:2000000+m<=n)(h:od 9223372036854775807 m s):eS (GM n s) (re m s) (od 1048576 m s):=(PQ O h.1).two ((O2 m n a h.2).end)
theorem abK(b:2000000+m<=n){a:List Stmt}(h:a.length<=9223372036854775807)(c: ∀x∈a,od 9223372036854775807 m x):eS (F8 n a) (e7 (re m) a) (a.length<=1048576/\ ∀x∈a,od 1048576 m x):=uQ h O λx d=>adu b (c x d)
theorem afC(a:2000000<=n){l:Loop}(h:oc 9223372036854775807 l):eS (GO n l) (rb l) (oc 1048576 l):=(Hw a h.1).two ((Hw a h.2).end)
theorem ae8(b:2000000<=n){a:List Loop}(h:a.length<=9223372036854775807)(c: ∀x∈a,oc 9223372036854775807 x):eS (F9 n a) (e7 rb a) (a.length<=1048576/\ ∀x∈a,oc 1048576 x):=uQ h b λx d=>afC b (c x d)
theorem adw(a:2000000+m<=n)(h:r6 9223372036854775807 m x):eS (GN n x) (tl m x) (r6 1048576 m x):=(ae8 O h.1.1 h.1.2).two ((abK a h.2.1 h.2.2).end)
theorem adv(a:2000000+m<=n)(h:jV 9223372036854775807 m p):eS (Fe n p) (tk m p) (jV 1048576 m p):=
 (adx O h.1.1 h.1.2).two (eS.end (uQ h.2.1 O λx b=>adw a (h.2.2 x b)))
theorem tK{k:Type}{a:List k}{g:k->Option k}{z:k}(B:a.length<=1048576)(C:2000000<=n)(p: ∀x∈a,g x=aa x):
  (bQ (mk (a.length:Int) z) λq=>
 bz (λc ((m,h):(List k)×Int)=>
  bif aj (h<(a.length:Int)) then(
   bQ (aB a h) λr=>
   bQ (g r) λs=>
   bQ (aB m h) λD=>
   bQ (cd m h s) λw=>
   c (w,wr (h+1))
  ) else(
   aa m
  )
 ) n (q,0))=aa a:=by
 refine ae.eq (ah (CL ⟨O,O⟩ z) (ae.loop (λx:List k×Int=> ∃j:Nat,x.2=j/\j<=a.length/\x.1=a.take j++dh (a.length-j) z) (λx=>a.length-x.2.toNat) ?_ n _ ⟨0,rfl,O,bl⟩ Z));rintro o ⟨b,i⟩ ⟨j,rfl,F,rfl⟩ y;dsimp only;have d:(a.take j++dh (a.length-j) z).length=a.length:=ca
 refine a1 (λe=>?_) λA=>ae.some (by rw[show a.length-j=0 by omega,jN O];simp);have e:j<a.length:=O
 have l:=bC e;generalize a[j]=x at l;refine ah (bo l) (ah (p x (bX l)) (ah (bo (bC (show j<_ by rw[d];exact e))) (ah (dJ (by rw[d];omega) _) ?_)));rw[bc O,c7];refine y _ ⟨j+1,Z,O,?_⟩ Z;dsimp only;rw[fQ l,l6 _ _ (by rw[c6];omega),c6,zP O,kX,show a.length-j=(a.length-(j+1))+1 by omega,List.replicate_succ,rE];simp
theorem OY(b:2000000<=n){a:List Int}(h:a.length<=1048576):xo n a=aa a:=by
 unfold xo
 have:=tK (z:=(0:Int)) (g:=λx=>aa x) h b λx _=>rfl;exact this
theorem PM(b:2000000<=n){a:aE}(h:jU 1048576 a):zG n a=aa a:=by unfold zG;rw[OY b h];rfl
theorem Hv(b:2000000<=n){a:List aE}(h:kz 1048576 a):zt n a=aa a:=tK h.1 b λx c=>PM b (h.2 x c)
theorem PN(b:2000000<=n){a:cx}(h:ob 1048576 a):zH n a=aa a:=by unfold zH;rw[Hv b h.2];rfl
theorem aeC(b:2000000<=n){a:cz}(h:pc 1048576 a):AJ n a=aa a:=by unfold AJ;rw[OY b h.2];rfl
theorem OZ: ∀(m n:Nat) {e:Expr},2000000+m<=n->iK 1048576 m e->p' n e=aa e
 |0,n,e,_,h=>h.elim
 |m+1,n,e,l,h=>by
  obtain⟨n,rfl⟩: ∃j,n=j+1:=⟨n-1,O⟩
  obtain⟨b,c,d,i⟩:=h;have a:F7 n (p' n) e.aZ=aa e.aZ:=tK d O λk a=>OZ m n O (i k a);unfold p';rw[PM O b,PN O c,a];cases e;rfl
theorem adr(a:2000000+m<=n)(h:od 1048576 m s):BJ n s=aa s:=by unfold BJ;rw[PN O h.1,OZ m n a h.2];rfl
theorem abJ(b:2000000+m<=n){a:List Stmt}(h:a.length<=1048576)(c: ∀x∈a,od 1048576 m x):F4 n a=aa a:=tK h O λx d=>adr b (c x d)
theorem afA(a:2000000<=n){l:Loop}(h:oc 1048576 l):Bt n l=aa l:=by unfold Bt;rw[Hv a h.1,Hv a h.2];rfl
theorem aeB(b:2000000<=n){a:List Loop}(h:a.length<=1048576)(c: ∀x∈a,oc 1048576 x):F6 n a=aa a:=tK h b λx d=>afA b (c x d)
theorem adt(a:2000000+m<=n)(h:r6 1048576 m x):BK n x=aa x:=by unfold BK;rw[aeB O h.1.1 h.1.2,abJ a h.2.1 h.2.2];rfl
theorem ads(b:2000000+m<=n)(h:jV 1048576 m p):tn n p=aa p:=by unfold tn;rw[show FD n p.a7=aa p.a7 from tK h.1.1 O (λx a=>aeC O (h.1.2 x a)),show F5 n p.parts=aa p.parts from tK h.2.1 O λx a=>adt b (h.2.2 x a)];rfl
theorem si{k:Type}{a:List k}{g:k->k->Option Bool}(r:a.length<=1048576)(s:2000000<=n)(h: ∀x∈a,g x x=aa ab):
  (bif !decide ((a.length:Int)=(a.length:Int)) then(
  aa al
 ) else(
  bz (λb (c:Int)=>
   bif aj (c<(a.length:Int)) then(
    bQ (aB a c) λl=>
    bQ (aB a c) λm=>
    bQ (g l m) λo=>
    bif !o then(
     aa al
    ) else(
     b (wr (c+1))
    )
   ) else(
    aa ab
   )
  ) n 0
 ))=aa ab:=by rw[bS rfl];refine ae.eq (b3 (ae.loop (λx:Int=> ∃j:Nat,x=j/\j<=a.length) (λx=>a.length-x.toNat) ?_ n _ ⟨0,rfl,O⟩ O));rintro d i ⟨j,rfl,w⟩ p;refine a1 (λq=>?_) λ_=>ae.some rfl;have e:=bC (O:j<a.length);refine ah (bo e) (ah (bo e) (ah (h _ (bX e)) ?_));rw[bc O];exact b3 (p _ ⟨j+1,O,O⟩ O)
theorem Pd(k:2000000<=n){a:List Int}(h:a.length<=1048576):xp n a a=aa ab:=by unfold xp;rw[bS rfl];refine ae.eq (b3 (ae.loop (λx:Int=> ∃j:Nat,x=j/\j<=a.length) (λx=>a.length-x.toNat) ?_ n _ ⟨0,rfl,O⟩ O));rintro b i ⟨j,rfl,l⟩ d;refine a1 (λe=>?_) λ_=>ae.some rfl;have c:=bC (O:j<a.length);refine ah (bo c) (ah (bo c) (dL (λh=>br rfl h) λ_=>?_));rw[bc O];exact d _ ⟨j+1,O,O⟩ O
theorem Qb(b:2000000<=n){a:aE}(h:jU 1048576 a):zI n a a=aa ab:=by unfold zI;rw[Pd b h];exact ae.eq (ah rfl (b3 (dL (λh=>br rfl h) λ_=>ae.some rfl)))
theorem HL(b:2000000<=n){a:List aE}(h:kz 1048576 a):zw n a a=aa ab:=si h.1 b λx c=>Qb b (h.2 x c)
theorem Qc(b:2000000<=n){a:cx}(h:ob 1048576 a):zJ n a a=aa ab:=by unfold zJ;exact ae.eq (dL (λh=>br rfl h) λ_=>ah (HL b h.2) (ae.some rfl))
theorem ae2(b:2000000<=n){a:cz}(h:pc 1048576 a):AK n a a=aa ab:=by unfold AK;exact ae.eq (dL (λh=>br rfl h) λ_=>ah (Pd b h.2) (ae.some rfl))
theorem Pe: ∀(m n:Nat) {e:Expr},2000000+m<=n->iK 1048576 m e->p9 n e e=aa ab
 |0,n,e,_,h=>h.elim
 |m+1,n,e,l,h=>by
  obtain⟨n,rfl⟩: ∃j,n=j+1:=⟨n-1,O⟩
  obtain⟨b,c,d,i⟩:=h;have a:Gy n (p9 n) e.aZ e.aZ=aa ab:=si d O λk a=>Pe m n O (i k a);unfold p9;exact ae.eq (dL (λh=>br rfl h) λ_=>dL (λh=>br rfl h) λ_=>ah (Qb O b) (b3 (ah (Qc O c) (b3 (ah a (b3 (ae.some rfl)))))))
theorem adX(a:2000000+m<=n)(h:od 1048576 m s):Bv n s s=aa ab:=by unfold Bv;exact ae.eq (ah (Qc O h.1) (b3 (ah (Pe m n a h.2) (b3 (ae.some rfl)))))
theorem Uq(a:2000000<=n){l:Loop}(h:oc 1048576 l):Bx n l l=aa ab:=by unfold Bx;exact ae.eq (ah (HL a h.1) (b3 (ah (HL a h.2) (b3 (ae.some rfl)))))
theorem adY(a:2000000+m<=n)(h:r6 1048576 m x):Bw n x x=aa ab:=by unfold Bw;exact ae.eq (ah (show Gx n x.nest x.nest=aa ab from si h.1.1 O λl b=>Uq O (h.1.2 l b)) (b3 (ah (show Gu n x.body x.body=aa ab from si h.2.1 O λs c=>adX a (h.2.2 s c)) (b3 (ae.some rfl)))))
theorem PJ(b:2000000+m<=n)(h:jV 1048576 m p):tr n p p=aa ab:=by unfold tr;exact ae.eq (ah (show FF n p.a7 p.a7=aa ab from si h.1.1 O λx a=>ae2 O (h.1.2 x a)) (b3 (ah (show Gw n p.parts p.parts=aa ab from si h.2.1 O λx a=>adY b (h.2.2 x a)) (b3 (ae.some rfl)))))
theorem EM(q:2000000<=n)(l:0<=k)(d:k<=1099511627776): ∃t,j5 n k=aa t:=by
 have:ae (j5 n k) (λ_=>True):=by
  unfold j5;refine a1 (λ_=>ae.some trivial) λ_=>?_;refine ae.loop (λz:Int×List UInt8=> ∃j:Nat,z.2.length=j/\0<=z.1/\z.1<=1099511627776/\j<=13/\z.1<10^(13-j)) (λz=>14-z.2.length) ?_ n _ ⟨0,rfl,l,d,O,Int.lt_of_le_of_lt d (by decide)⟩ Z;rintro c ⟨r,s⟩ ⟨j,e,i,m,w,b⟩ o;dsimp only at e i b m⊢;refine a1 (λx=>?_) λ_=>ah (Qh ca) (ae.some trivial);have p:j<13:=by
   apply nX;intro h;rw[show 13-j=0 by omega] at b
   have:(10:Int)^0=1:=by decide
   omega
  refine ah (Qh ca) ?_;rw[Int.tdiv_eq_ediv_of_nonneg i,bc O];refine o _ ⟨j+1,by simp[e],Z,Z,O,?_⟩ ca;dsimp only;have a:(10:Int)^(13-j)=10^(13-(j+1))*10:=by rw[<-Int.pow_succ];congr 1;omega
  rw[a] at b;exact Int.ediv_lt_of_lt_mul (by decide) b
 obtain⟨t,h,_⟩:=this;exact⟨t,h⟩
def nd(k:Int)(m:Nat):List Int:=(List.range m).map λi:Nat=>k+i
theorem rM(k:Int)(m:Nat):(nd k m).length=m:=by simp[nd]
theorem adK(h:i<m):(nd k m)[i]? =aa (k+i):=by simp[nd,h]
theorem abT(k:Int)(m:Nat):nd k (m+1)=nd k m++[k+m]:=by simp[nd,List.range_succ]
theorem EN(m:2000000<=n){a:List Int}(o:a.length<=1048576)(p:0<=k)(q:k+a.length<=1099511627776):tA n a k=aa (k+a.length,nd k a.length):=by
 unfold tA;refine ae.eq (ae.loop (λz:Int×List Int×Int=> ∃j:Nat,z.2.2=j/\j<=a.length/\z.1=k+j/\z.2.1=nd k j++a.drop j) (λz=>a.length-z.2.2.toNat) ?_ n _ ⟨0,rfl,O,bl,by simp[nd]⟩ Z);rintro d ⟨cA,l,i⟩ ⟨j,rfl,r,rfl,rfl⟩ h;dsimp only;have c:(nd k j++a.drop j).length=a.length:=by simp[rM];omega
 refine a1 (λb=>?_) λe=>?_
 ·have b:j<a.length:=by rw[c] at b;omega
  refine ah (bo (bC (show j<_ by rw[c];exact b))) (ah (dJ (by rw[c];omega) _) ?_);rw[bc O,bc O,c7];refine h _ ⟨j+1,Z,O,Z,?_⟩ Z;dsimp only;rw[l6 _ _ (by rw[rM];omega),rM,kX,kn b,rE,abT,gL];rfl
 have:j=a.length:=by rw[c] at e;omega
 subst this;exact ae.some bl
def mw{R:Type}(B:(Int×Int->Option Int)->R->Int->Int->Option Int)(k:Int)(y:R)(b:Int):Prop:= ∀(a:Int×Int->Option Int) (Q:Int->Prop) (j:Nat),j<=1048576->ae (a (b,(j:Int)+1)) Q->ae (B a y k j) Q
inductive jt {α:Type} (H:Int->α->Int->Prop):Int->List α->Int->Prop
 |nil (k:Int):jt H k [] k
 |cons {k cD gw:Int} {x:α} {l:List α} (h:H k x cD) (t:jt H cD l gw):jt H k (x::l) gw
theorem jt.snoc{H:Int->R->Int->Prop}{x:R}{l:List R}(t:jt H k l a)(h:H a x gw):jt H k (l++[x]) gw:=by
 induction t with
 |nil k=>exact .cons h (.nil _)
 |cons g _ b=>exact .cons g (b h)
theorem wV{B:(Int×Int->Option Int)->R->Int->Int->Option Int}{l:List R}(r:2000000<=n)(s:l.length<=1048576)(b:jt (mw B) k l gw):
  bz (λa ((m,e):Int×Int)=>bif aj (e<(l.length:Int)) then(bQ (aB l e) λo=>B a o m e) else(aa m)) n (k,0)=aa gw:=by
 refine ae.eq (ae.loop (λz:Int×Int=> ∃j:Nat,z.2=j/\j<=l.length/\jt (mw B) z.1 (l.drop j) gw) (λz=>l.length-z.2.toNat) ?_ n _ ⟨0,rfl,O,b⟩ Z);rintro c ⟨cA,i⟩ ⟨j,rfl,w,b⟩ p;dsimp only at b⊢;refine a1 (λd=>?_) λq=>?_
 ·have d:j<l.length:=O
  refine ah (bo (bC d)) ?_;rw[kn d] at b;cases b with
  |cons h t=>exact h c _ j O (p _ ⟨j+1,Z,O,t⟩ Z)
 rw[jO O] at b;cases b;exact ae.some rfl
theorem B0(e:2000000<=n)(l:m<=1048576)(o:0<=k)(p:k+m<=1099511627776):nA n (nd k m) k=aa (k+m):=by unfold nA;refine ae.eq (ae.loop (λz:Int×Int=> ∃j:Nat,z.2=j/\j<=m/\z.1=k+j) (λz=>m-z.2.toNat) ?_ n _ ⟨0,rfl,O,bl⟩ Z);rintro a ⟨cA,i⟩ ⟨j,rfl,q,rfl⟩ b;dsimp only;rw[rM];refine a1 (λc=>?_) λd=>ae.some (O:k+(j:Int)=k+(m:Int));refine ah (bo (adK O)) (dL (λh=>br rfl h) λ_=>?_);rw[bc O,bc O];exact b _ ⟨j+1,Z,O,Z⟩ Z
def Ry(n:Nat)(a:Int×Int->Option Int)(b:cz)(c e:Int):Option Int:=bQ (j5 n c) λh=>bif !decide (b.name=h) then aa (-1) else(bQ (nA n b.b9 (wr (c+1))) λd=>bif aj (d<0) then aa (-1) else(a (d,wr (e+1))))
theorem afv(a:2000000<=n)(l:List cz)(k gw:Int)(b:l.length<=1048576)(c:jt (mw (Ry n)) k l gw):wa n l k=aa gw:=by unfold wa;exact wV a b c
def Ru(n:Nat)(a:Int×Int->Option Int)(c:aE)(d e:Int):Option Int:=bQ (nA n c.aM d) λb=>bif aj (b<0) then aa (-1) else(bif !decide (c.const=b) then aa (-1) else(a (wr (b+1),wr (e+1))))
theorem afw(a:2000000<=n)(l:List aE)(k gw:Int)(b:l.length<=1048576)(c:jt (mw (Ru n)) k l gw):kG n l k=aa gw:=by unfold kG;exact wV a b c
def Rw(n:Nat)(a:Int×Int->Option Int)(b:Loop)(e h:Int):Option Int:=bQ (kG n b.bq e) λc=>bif aj (c<0) then aa (-1) else(bQ (kG n b.aL c) λd=>bif aj (d<0) then aa (-1) else(a (d,wr (h+1))))
theorem aeX(a:2000000<=n)(l:List Loop)(k gw:Int)(b:l.length<=1048576)(c:jt (mw (Rw n)) k l gw):tq n l k=aa gw:=by unfold tq;exact wV a b c
def Rv(n:Nat)(a:Int×Int->Option Int)(b:Expr)(d i:Int):Option Int:=bif !decide (b.kind=d) then aa (-1) else(bif !decide (b.num=wr (d+1)) then aa (-1) else(bQ (nA n b.index.aM (wr ((wr (d+1))+1))) λc=>bif aj (c<0) then aa (-1) else(bif !decide (b.index.const=c) then aa (-1) else(bQ (j5 n (wr (c+1))) λk=>bif !decide (b.read.array=k) then aa (-1) else(bQ (kG n b.read.ba (wr ((wr (c+1))+1))) λe=>bif aj (e<0) then aa (-1) else(bQ (ni n b.aZ e) λh=>bif aj (h<0) then aa (-1) else(a (h,wr (i+1)))))))))
theorem PU(a:2000000<=n)(l:List Expr)(k gw:Int)(b:l.length<=1048576)(c:jt (mw (Rv n)) k l gw):ni (n+1) l k=aa gw:=by rw[ni.eq_def];exact wV a b c
def Rz(n:Nat)(a:Int×Int->Option Int)(b:Stmt)(h k:Int):Option Int:=bQ (j5 n h) λl=>bif !decide (b.write.array=l) then aa (-1) else(bQ (kG n b.write.ba (wr (h+1))) λd=>bif aj (d<0) then aa (-1) else(bif !decide (b.value.kind=d) then aa (-1) else(bif !decide (b.value.num=wr (d+1)) then aa (-1) else(bQ (nA n b.value.index.aM (wr ((wr (d+1))+1))) λe=>bif aj (e<0) then aa (-1) else(bif !decide (b.value.index.const=e) then aa (-1) else(bQ (j5 n (wr (e+1))) λm=>bif !decide (b.value.read.array=m) then aa (-1) else(bQ (kG n b.value.read.ba (wr ((wr (e+1))+1))) λi=>bif aj (i<0) then aa (-1) else(bQ (ni n b.value.aZ i) λc=>bif aj (c<0) then aa (-1) else(a (c,wr (k+1)))))))))))
theorem aeV(a:2000000<=n)(l:List Stmt)(k gw:Int)(b:l.length<=1048576)(c:jt (mw (Rz n)) k l gw):tp n l k=aa gw:=by unfold tp;exact wV a b c
def Rx(n:Nat)(a:Int×Int->Option Int)(b:Part)(e h:Int):Option Int:=bQ (tq n b.nest e) λc=>bif aj (c<0) then aa (-1) else(bQ (tp n b.body c) λd=>bif aj (d<0) then aa (-1) else(a (d,wr (h+1))))
theorem aeW(a:2000000<=n)(l:List Part)(k gw:Int)(b:l.length<=1048576)(c:jt (mw (Rx n)) k l gw):wq n l k=aa gw:=by unfold wq;exact wV a b c
theorem rY{B:(Int×Int->Option Int)->R->Int->Int->Option Int}{Hh:List R->Int->Option Int}{a:List R}{c:R->Nat}{F:(Int×List R×Int->Option (Int×List R))->Int×List R×Int->Option (Int×List R)}(G: ∀(l:List R) (k d:Int),l.length<=1048576->jt (mw B) k l d->Hh l k=aa d)(I:2000000<=n)(K:a.length<=1048576)(M:0<=k)(L:k+5*(e7 c a:Nat)<=1099511627776)
  (W: ∀(Q:Int×List R->Prop) (b:Int×List R×Int->Option (Int×List R)) (e:Int) (l:List R) (j:Nat) (x:R),l[j]? =aa x->x∈a->j<l.length->j<=1048576->0<=e->e+5*(1+c x:Nat)<=1099511627776->
   (∀(d:Int) (y:R),e<=d->d<=e+5*(1+c x:Nat)->mw B e y d->ae (b (d,l.set j y,(j:Int)+1)) Q)->ae (F b (e,l,j)) Q)
  (X: ∀(b:Int×List R×Int->Option (Int×List R)) (e:Int) (l:List R),F b (e,l,l.length)=aa (e,l)):
  ∃r,bz F n (k,a,0)=aa r/\k<=r.1/\r.1<=k+5*(e7 c a:Nat)/\r.2.length=a.length/\
   Hh r.2 k=aa r.1:=by
 suffices H:ae (bz F n (k,a,0)) (λr=>k<=r.1/\r.1<=k+5*(e7 c a:Nat)/\r.2.length=a.length/\jt (mw B) k r.2 r.1) by
  obtain⟨r,m,f,g,C,t⟩:=H;exact⟨r,m,f,g,C,G _ _ _ (by rw[C];exact K) t⟩
 refine ae.loop (λz:Int×List R×Int=> ∃j:Nat,z.2.2=j/\j<=a.length/\z.2.1.length=a.length/\z.2.1.drop j=a.drop j/\k<=z.1/\z.1<=k+5*(j+((a.take j).map c).sum:Nat)/\jt (mw B) k (z.2.1.take j) z.1) (λz=>a.length-z.2.2.toNat) ?_ n _ ⟨0,rfl,O,rfl,rfl,hA _,bl,.nil _⟩ Z;rintro b ⟨cA,l,i⟩ ⟨j,rfl,N,q,s,D,u,o⟩ v;dsimp only at q s D u o;have h: ∀i,((a.take i).map c).sum<=(a.map c).sum:=λi=>by
  have:=congrArg (λl=>(l.map c).sum) (ud i a);simp only[List.map_append,List.sum_append] at this;omega
 by_cases w:j<a.length
 ·have p:=bC w;generalize a[j]=x at p;have A:l[j]? =aa x:=by
   have m:(l.drop j)[0]? =(a.drop j)[0]? :=by rw[s]
   rw[fv,fv] at m;simp only[Nat.add_zero] at m;rw[m];exact p
  have hs:=Nj c p;have P:=h (j+1);unfold e7 at L;refine W _ b cA l j x A (bX p) O O O O λd y S T E=>?_;refine v _ ⟨j+1,Z,O,by simpa using q,?_,Z,by dsimp only;rw[hs];omega,?_⟩ Z;rotate_left
  ·dsimp only;rw[fQ (hR O),List.take_set_of_le (df _)];exact o.snoc E
  dsimp only;rw[o4 O]
  have:=congrArg (List.drop 1) s;simpa[List.drop_drop,Nat.add_comm] using this
 have:j=l.length:=O
 subst this;rw[X];rw[dZ] at o;refine ae.some ⟨D,?_,q,o⟩
 have:=h l.length;dsimp only;unfold e7;omega
theorem afj(c:2000000<=n){a:List cz}(p:a.length<=1048576)(d: ∀x∈a,pc 1048576 x)(q:0<=k)(s:k+5*(e7 tm a:Nat)<=1099511627776):
  ∃r,Eb n a k=aa r/\k<=r.1/\r.1<=k+5*(e7 tm a:Nat)/\r.2.length=a.length/\wa n r.2 k=aa r.1:=by
 unfold Eb;refine rY (Hh:=wa n) (afv O) c p q s (λQ b e l j x w i y z A B m=>?_) λb e l=>by dsimp only;rw[bN O];rfl
 dsimp only;refine a1 (λ_=>?_) λh=>br y O;unfold tm at B m;obtain⟨t,o⟩:=EM c A O;refine ah (bo w) (ah o ?_);rw[bc O,bc O];refine ah (EN c (d x i).2 O O) (ah (gr (rM _ _)) (ah (dJ O _) ?_));rw[c7];refine m _ _ O O λD Q j z C=>?_;unfold Ry;refine ah o (dL (λh=>br rfl h) λ_=>?_);rw[bc (n:=e+1) O];refine ah (B0 c (d x i).2 O O) (a1 (λh=>br h O) λ_=>?_);rw[bc O];exact C
theorem x6(c:2000000<=n){a:List aE}(d:kz 1048576 a)(o:0<=k)(p:k+5*(e7 lZ a:Nat)<=1099511627776):
  ∃r,qR n a k=aa r/\k<=r.1/\r.1<=k+5*(e7 lZ a:Nat)/\r.2.length=a.length/\kG n r.2 k=aa r.1:=by
 unfold qR;refine rY (Hh:=kG n) (afw O) c d.1 o p (λQ b q l j x s e w y i z m=>?_) λb q l=>by dsimp only;rw[bN O];rfl
 dsimp only;refine a1 (λ_=>?_) λh=>br w O;unfold lZ at z m;refine ah (bo s) (ah (EN c (d.2 x e) i O) (ah (gr (rM _ _)) (ah (dJ O _) ?_)));rw[bc Z,bc O,c7];refine m _ _ Z Z λB Q j y A=>?_;unfold Ru;refine ah (B0 c (d.2 x e) i O) (a1 (λh=>br h O) λ_=>dL (λh=>br rfl h) λ_=>?_);rw[bc O,bc O];exact A
theorem aem(c:2000000<=n){a:List Loop}(m:a.length<=1048576)(d: ∀x∈a,oc 1048576 x)(o:0<=k)(p:k+5*(e7 rb a:Nat)<=1099511627776):
  ∃r,EF n a k=aa r/\k<=r.1/\r.1<=k+5*(e7 rb a:Nat)/\r.2.length=a.length/\tq n r.2 k=aa r.1:=by
 unfold EF;refine rY (Hh:=tq n) (aeX O) c m o p (λQ b q l j x s e w y z A i=>?_) λb q l=>by dsimp only;rw[bN O];rfl
 dsimp only;refine a1 (λ_=>?_) λh=>br w O;unfold rb at A i;obtain⟨B,C,R,W,D,F⟩:=x6 c (d x e).1 z O;obtain⟨X,G,f,g,H,K⟩:=x6 c (d x e).2 (k:=B.1) O O;refine ah (bo s) (ah C (ah (gr D) (ah G (ah (gr H) (ah (dJ O _) ?_)))));rw[bc O,c7];refine i _ _ O O λt Q j y L=>?_;unfold Rw;refine ah F (a1 (λh=>br h O) λ_=>ah K (a1 (λh=>br h O) λ_=>?_));rw[bc O];exact L
theorem Pu: ∀(m n:Nat) {a:List Expr},2000001+m<=n->a.length<=1048576->(∀x∈a,iK 1048576 m x)-> ∀{k:Int},0<=k->k+5*(e7 (nJ m) a:Nat)<=1099511627776->
  ∃r,rL n a k=aa r/\k<=r.1/\r.1<=k+5*(e7 (nJ m) a:Nat)/\r.2.length=a.length/\ni n r.2 k=aa r.1
 |0,n,a,D,i,o,k,p,q=>by
  obtain⟨n,rfl⟩: ∃j,n=j+1:=⟨n-1,O⟩
  rw[rL.eq_def];dsimp only;exact rY (Hh:=ni (n+1)) (PU O) O i p q (λQ b c l j x y s z A F w e=>(o x s).elim) (λb c l=>by dsimp only;rw[bN O];rfl)
 |m+1,n,a,D,i,o,k,p,q=>by
  obtain⟨n,rfl⟩: ∃j,n=j+1:=⟨n-1,O⟩
  have d:2000000<=n:=O
  rw[rL.eq_def];dsimp only;refine rY (Hh:=ni (n+1)) (PU O) O i p q (λQ b c l j x y s z A F w e=>?_) λb c l=>by dsimp only;rw[bN O];rfl
  dsimp only;refine a1 (λ_=>?_) λh=>br z O;obtain⟨B,G,H,K⟩:=o x s;unfold nJ lZ th at w e;refine ah (bo y) ?_;rw[bc (n:=c+1) O,bc (n:=c+1+1) O];refine ah (EN d B O O) (ah (gr (rM _ _)) ?_);dsimp only;generalize L:x.index.aM.length=u at w e;rw[bc (n:=c+1+1+(u:Int)+1) O];obtain⟨t,C⟩:=EM d (k:=c+1+1+(u:Int)+1) O O;refine ah C ?_;rw[bc (n:=c+1+1+(u:Int)+1+1) O];obtain⟨R,W,M,N,X,f⟩:=x6 d G.2 (k:=c+1+1+(u:Int)+1+1) O O;obtain⟨P,g,S,T,v,E⟩:=Pu m n O H K (k:=R.1) O O;refine ah W (ah (gr X) (ah g (ah (gr v) (ah (dJ O _) ?_))));rw[bc O,c7];refine e _ _ O O λU Q j A I=>?_;unfold Rv e8;refine dL (λh=>br rfl h) λ_=>?_;rw[bc (n:=c+1) O];refine dL (λh=>br rfl h) λ_=>?_;rw[bc (n:=c+1+1) O];refine ah (B0 d (L▸B) O O) (a1 (λh=>br h O) λ_=>dL (λh=>br rfl h) λ_=>?_);rw[bc (n:=c+1+1+(u:Int)+1) O];refine ah C (dL (λh=>br rfl h) λ_=>?_);rw[bc (n:=c+1+1+(u:Int)+1+1) O];refine ah f (a1 (λh=>br h O) λ_=>ah E (a1 (λh=>br h O) λ_=>?_));rw[bc O];exact I
theorem aek(V:2000001+m<=n){a:List Stmt}(y:a.length<=1048576)(z: ∀x∈a,od 1048576 m x)(A:0<=k)(B:k+5*(e7 (re m) a:Nat)<=1099511627776):
  ∃r,EE n a k=aa r/\k<=r.1/\r.1<=k+5*(e7 (re m) a:Nat)/\r.2.length=a.length/\tp n r.2 k=aa r.1:=by
 have b:2000000<=n:=O
 unfold EE;refine rY (Hh:=tp n) (aeV O) b y A B (λQ d i l j x C D F G H p o=>?_) λd i l=>by dsimp only;rw[bN O];rfl
 dsimp only;refine a1 (λ_=>?_) λh=>br F O;obtain⟨K,q⟩:=z x D;cases m with
 |zero=>exact q.elim
 |succ m=>
  obtain⟨s,L,R,W⟩:=q;unfold re nJ lZ th at p o;obtain⟨t,w⟩:=EM b H O;refine ah (bo C) (ah w ?_);rw[bc (n:=i+1) O];obtain⟨c,X,Y,c2,f,g⟩:=x6 b K.2 (k:=i+1) O O;refine ah X (ah (gr f) ?_);rw[bc (n:=c.1+1) O,bc (n:=c.1+1+1) O];refine ah (EN b s O O) (ah (gr (rM _ _)) ?_);dsimp only;generalize v:x.value.index.aM.length=u at p o;rw[bc (n:=c.1+1+1+(u:Int)+1) O];obtain⟨t2,e⟩:=EM b (k:=c.1+1+1+(u:Int)+1) O O;refine ah e ?_;rw[bc (n:=c.1+1+1+(u:Int)+1+1) O];obtain⟨E,I,dm,cL,M,N⟩:=x6 b L.2 (k:=c.1+1+1+(u:Int)+1+1) O O;obtain⟨Sq,P,d1,d2,S,T⟩:=Pu m n O R W (k:=E.1) O O;refine ah I (ah (gr M) (ah P (ah (gr S) (ah (dJ O _) ?_))));rw[bc O,c7];refine o _ _ O O λalj Q j G U=>?_;unfold Rz ez e8;refine ah w (dL (λh=>br rfl h) λ_=>?_);rw[bc (n:=i+1) O];refine ah g (a1 (λh=>br h O) λ_=>?_);refine dL (λh=>br rfl h) λ_=>?_;rw[bc (n:=c.1+1) O];refine dL (λh=>br rfl h) λ_=>?_;rw[bc (n:=c.1+1+1) O];refine ah (B0 b (v▸s) O O) (a1 (λh=>br h O) λ_=>dL (λh=>br rfl h) λ_=>?_);rw[bc (n:=c.1+1+1+(u:Int)+1) O];refine ah e (dL (λh=>br rfl h) λ_=>?_);rw[bc (n:=c.1+1+1+(u:Int)+1+1) O];refine ah N (a1 (λh=>br h O) λ_=>ah T (a1 (λh=>br h O) λ_=>?_));rw[bc O];exact U
theorem ael(i:2000001+m<=n){a:List Part}(o:a.length<=1048576)(c: ∀x∈a,r6 1048576 m x)(p:0<=k)(q:k+5*(e7 (tl m) a:Nat)<=1099511627776):
  ∃r,zx n a k=aa r/\k<=r.1/\r.1<=k+5*(e7 (tl m) a:Nat)/\r.2.length=a.length/\wq n r.2 k=aa r.1:=by
 unfold zx;refine rY (Hh:=wq n) (aeW O) O o p q (λQ b s l j x w d y z A B e=>?_) λb s l=>by dsimp only;rw[bN O];rfl
 dsimp only;refine a1 (λ_=>?_) λh=>br y O;unfold tl at B e;obtain⟨C,D,W,X,F,G⟩:=aem (n:=n) O (c x d).1.1 (c x d).1.2 A O;obtain⟨f,H,g,t,K,L⟩:=aek i (c x d).2.1 (c x d).2.2 (k:=C.1) O O;refine ah (bo w) (ah D (ah (gr F) (ah H (ah (gr K) (ah (dJ O _) ?_)))));rw[bc O,c7];refine e _ _ O O λu Q j z R=>?_;unfold Rx;refine ah G (a1 (λh=>br h O) λ_=>ah L (a1 (λh=>br h O) λ_=>?_));rw[bc O];exact R
theorem PX(c:2000001+m<=n)(h:jV 1048576 m p)(d:0<=k)(e:k+5*(tk m p:Nat)<=1099511627776): ∃r,y7 n p k=aa r/\k<=r.1/\r.1<=k+5*(tk m p:Nat)/\r.2.1.length=p.a7.length/\r.2.2.length=p.parts.length/\y6 n ⟨r.2.1,r.2.2⟩ k=aa r.1:=by
 unfold tk at e;obtain⟨a,i,x,y,l,o⟩:=afj (n:=n) O h.1.1 h.1.2 d O;obtain⟨b,q,z,A,s,w⟩:=ael c h.2.1 h.2.2 (k:=a.1) O O;refine⟨(b.1,a.2,b.2),?_,Z,by dsimp only;unfold tk;omega,l,s,?_⟩;rotate_left
 ·unfold y6;exact ae.eq (ah o (a1 (λh=>br h O) λ_=>ah w (a1 (λh=>br h O) λ_=>ae.some rfl)))
 unfold y7;rw[i];show bQ (zx n p.parts a.1) _=_;rw[q];rfl
theorem Qy{a:aE}(h:de a=ab):jU 4 a:=by have:=(fT h).1;unfold jU;omega
theorem HY(d:l.length<=2)(b: ∀x∈l,de x=ab):kz 4 l:=⟨O,λa c=>Qy (b a c)⟩
theorem Qz{s:List UInt8}(h:nZ s=ab):s.length<=4:=by
 by_cases a:s.length=1
 ·omega
 rw[Au a] at h;cases h
theorem Qv{a:cx}{d:Int}(h:fV a d=ab):ob 4 a:=⟨Qz (by simp only[fV,cB] at h;exact h.2.1),HY (mh h).2.1 (mh h).2.2⟩
theorem Qu{d:Int}: ∀{L:Nat} {e:Expr},dD L e d=ab->iK 4 L e
 |0,_,h=>by cases h
 |L+1,e,h=>by
  obtain⟨l,a,m⟩:=hn h
  have:=oW e.kind;refine⟨?_,?_,O,λk l=>Qu (m k l)⟩
  ·by_cases b:e.kind=2
   ·exact Qy (o9 a b).1
   by_cases c:e.kind=3
   ·rw[pP (o' a c).2];unfold jU;simp
   rw[pP (sa a b c).1];unfold jU;simp
  by_cases c:e.kind=3
  ·exact Qv (o' a c).1
  by_cases b:e.kind=2
  ·rw[pQ (o9 a b).2];exact⟨bl,bl,λx i=>by cases i⟩
  rw[pQ (sa a b c).2];exact⟨bl,bl,λx i=>by cases i⟩
theorem afF(h:b6 p=ab):jV 4 5 p:=by
 have k:iS p.a7=ab:=by
  simp only[b6,jK,cB] at h;exact h.1.1
 obtain⟨n,o,q,m,_⟩:=en h;refine⟨⟨n,λx c=>⟨?_,?_⟩⟩,q,λx c=>?_⟩
 ·obtain⟨i,r⟩:=kW c
  have:=FL (show uN (mB p.a7) p.a7=ab by simp only[iS,cB] at k;exact k.1) r;simp only[mB,cB] at this;exact Qz this.1
 ·have:=o x c;simp only[jG,cB,decide_eq_true_eq] at this;omega
 obtain⟨w,d⟩:=ia (m x c);obtain⟨_,y,z,_⟩:=gu (m x c);exact⟨⟨w,λl e=>⟨HY (d l e).1.1 (d l e).1.2,HY (d l e).2.1 (d l e).2.2⟩⟩,y.2,λs A=>by obtain⟨a,b,_⟩:=ke (z s A);exact⟨Qv a,Qu b⟩⟩
theorem Qx(h:B<=C){a:aE}(k:jU B a):jU C a:=eO k h
theorem Iq(h:B<=C)(k:kz B l):kz C l:=⟨eO k.1 h,λa b=>Qx h (k.2 a b)⟩
theorem Qw(h:B<=C){a:cx}(k:ob B a):ob C a:=⟨eO k.1 h,Iq h k.2⟩
theorem P8{B C:Nat}(h:B<=C): ∀{m:Nat} {e:Expr},iK B m e->iK C m e
 |0,_,k=>k.elim
 |m+1,e,⟨a,b,c,d⟩=>⟨Qx h a,Qw h b,eO c h,λk i=>P8 h (d k i)⟩
theorem Uu(h:B<=C)(k:jV B m p):jV C m p:=⟨⟨eO k.1.1 h,λx e=>⟨eO (k.1.2 x e).1 h,eO (k.1.2 x e).2 h⟩⟩,eO k.2.1 h,λx e=>by obtain⟨⟨a,b⟩,c,d⟩:=k.2.2 x e;exact⟨⟨eO a h,λl i=>⟨Iq h (b l i).1,Iq h (b l i).2⟩⟩,eO c h,λs n=>⟨Qw h (d s n).1,P8 h (d s n).2⟩⟩⟩
theorem u0{k:Type}{c:k->Nat}: ∀{l:List k},l.length<=4->(∀x∈l,c x<=C)->e7 c l<=4+4*C:=by
 intro l d e
 have: ∀l:List k,(∀x∈l,c x<=C)->(l.map c).sum<=l.length*C:=by
  intro l;induction l with
  |nil=>intro _;simp
  |cons x l i=>
   intro h;have a:=h x fi;have b:=i λy m=>h y (eW _ m);simp only[List.map_cons,List.sum_cons,List.length_cons,Nat.add_mul];omega
 have n:=this l e;have o:l.length*C<=4*C:=dQ _ d;unfold e7;omega
theorem CM(h:kz 4 l):e7 lZ l<=20:=u0 (C:=4) h.1 h.2
theorem QF: ∀{m:Nat} {e:Expr},iK 4 m e->nJ m e<=100*5^m
 |0,_,h=>h.elim
 |m+1,e,⟨a,b,c,d⟩=>by have l:=CM b.2;have n:e7 (nJ m) e.aZ<=4+4*(100*5^m):=u0 c λk i=>QF (d k i);have o:0<5^m:=Nat.pow_pos O;have p:lZ e.index<=4:=a;unfold nJ th;rw[Nat.pow_succ];omega
theorem afM(h:jV 4 5 p):tk 5 p<=1000000000:=by
 have n:=u0 (c:=tm) (C:=4) h.1.1 λx i=>(h.1.2 x i).2;have o:=u0 (c:=tl 5) (C:=4+4*40+(4+4*312520)) h.2.1 (λx i=>by
  obtain⟨⟨a,b⟩,c,d⟩:=h.2.2 x i;have q:=u0 (c:=rb) (C:=40) a (λl k=>by
   have:=CM (b l k).1
   have:=CM (b l k).2;unfold rb;omega)
  have r:=u0 (c:=re 5) (C:=312520) c (λs m=>by
   have:=CM (d s m).1.2
   have:=QF (d s m).2;have e:100*5^5=312500:=by decide
   unfold re th;omega)
  unfold tl;omega)
 unfold tk;omega
theorem Ug{e:Expr}(p:6600000+m<=n)(h:iK 1048576 m e):o1 n e=aa e:=by
 obtain⟨n,rfl⟩: ∃j,n=j+1:=⟨n-1,O⟩
 have: ∀{m:Nat} {e:Expr},iK 1048576 m e->kt 1100000 m e:=by
  intro m;induction m with
  |zero=>intro e h;exact h.elim
  |succ m i=>
   rintro e ⟨a,b,c,d⟩;exact⟨O,eO a O,⟨eO b.2.1 O,λx l=>eO (b.2.2 x l) O⟩,λk o=>i (d k o)⟩
 exact FK m n e O (this h)
theorem Uf(r:6600000+m<=n)(h:jV 1048576 m p):iL n p=aa p:=by
 obtain⟨⟨D,w⟩,F,y⟩:=h;have k: ∀{l:List aE},kz 1048576 l->sF n l=aa l:=λh=>As O ⟨eO h.1 O,λx o=>eO (h.2 x o) O⟩;have z:vm n p.a7=aa p.a7:=by
  unfold vm;refine ae.eq (mO (K:=λe=>aa e) (λl i=>?_) O O (ae.some rfl));unfold DS;rw[mE _ (by have:=(w l i).2;omega)];rfl
 have A:vp n p.parts=aa p.parts:=by
  unfold vp;refine ae.eq (mO (K:=λe=>aa e) (λx o=>?_) O O (ae.some rfl));obtain⟨⟨a,b⟩,c,d⟩:=y x o;have B:vr n x.nest=aa x.nest:=by
   unfold vr;refine ae.eq (mO (K:=λe=>aa e) (λl i=>?_) O O (ae.some rfl));unfold Ec;rw[k (b l i).1,k (b l i).2];rfl
  have C:vo n x.body=aa x.body:=by
   unfold vo;refine ae.eq (mO (K:=λe=>aa e) (λs q=>?_) O O (ae.some rfl));have g:ta n s.write=aa s.write:=by
    unfold ta;rw[k (d s q).1.2];rfl
   unfold zg;rw[g,Ug r (d s q).2];rfl
  unfold zh;rw[B,C];rfl
 unfold iL;rw[z,A];rfl
def Fc(r:Prog×Bool):Prop:=r=(⟨[],[]⟩,al)\/ ∃q,r=hd q
theorem Fc.ak8(h:Fc r):jV 4 5 r.1:=by
 have b:jV 4 5 ⟨[],[]⟩:=⟨⟨bl,λx a=>by cases a⟩,bl,λx a=>by cases a⟩
 rcases h with rfl|⟨q,rfl⟩
 ·exact b
 unfold hd;split
 ·rename_i c;exact afF c
 exact b
theorem Nv(h: ¬(0<=a/\a<(p.parts.length:Int))):lz p a=ev:=by unfold lz;exact be λb=>h (qp b).2.1
theorem ZJ(d:7810000<=n)(b:b6 p=ab)(a:Int):tv n p a=aa (lz p a):=by
 have k:=(en b).2.2.1;by_cases h:0<=a/\a<(p.parts.length:Int)
 ·exact aaA d ((gH b).mono O) ⟨O,O⟩
 rw[Nv h];unfold tv;exact ae.eq (ae.aS (λz=>z=ab) (λj c=>a1 (λh=>c _ rfl) λl=>a1 (λe=>c _ rfl) λe=>br ⟨O,O⟩ h) λz i=>by subst i;exact b7 (ae.some rfl))
theorem YW(d:7810000<=n)(b:b6 p=ab)(a:Int):tt n p a=aa (lz p a):=by
 have i:=(en b).2.2.1;by_cases h:0<=a/\a<(p.parts.length:Int)
 ·exact aaY d ((gH b).mono O) ⟨O,O⟩
 rw[Nv h];have c:=(gH b).mono (O:4<=1100000);unfold tt;refine ae.eq (ah (jf O c) (ah (Oh O c.sm _ _) ?_));cases e:jw p a (wr (a+1)) with
 |true=>exact br (qp e).2.1 h
 |false=>exact b7 (ae.some rfl)
theorem M7(h: ¬(0<=a/\a<(p.parts.length:Int))):mq p a=ev:=by unfold mq;exact be λb=>by simp only[cB] at b;exact h (e3 b.2.1)
theorem ZR(d:7810000<=n)(b:b6 p=ab)(a:Int):tF n p a=aa (mq p a):=by
 have k:=(en b).2.2.1;have c:=(gH b).mono (O:4<=1100000);by_cases h:0<=a/\a<(p.parts.length:Int)
 ·exact aaD d c ⟨O,O⟩
 rw[M7 h];unfold tF;refine ae.eq (ah (wH O c.sm) ?_);rw[bg b];refine b7 (ae.aS (λz=>z=ab) (λj e=>b3 (ah (oR n c.2.1 a) (e _ (by rw[bN h];rfl)))) λz i=>by subst i;exact b7 (ae.some rfl))
theorem Y5(e:7810000<=n)(b:b6 p=ab)(a:Int):tC n p a=aa (mq p a):=by
 have k:=(en b).2.2.1;have c:=(gH b).mono (O:4<=1100000);by_cases h:0<=a/\a<(p.parts.length:Int)
 ·exact aa1 e c ⟨O,O⟩
 rw[M7 h];unfold tC;refine ae.eq (ah (jf O c) (ae.aS (λz=>z=ab) (λj d=>?_) λz i=>by subst i;exact b7 (ae.some rfl)));refine ah (jc O c.sm) ?_;rw[b];exact b3 (a1 (λ_=>d _ rfl) λl=>d _ (bS O))
theorem Pz(h: ¬(0<=a/\a<(p.parts.length:Int))):eA p a=al:=bN h
theorem NP(k:7700000<=n)(c:b6 p=ab)(h: ¬(0<=a/\a<(p.parts.length:Int)))(b:Int):jl n p a b=aa (⟨[],[]⟩,al):=by have d:=(gH c).mono (O:4<=1100000);unfold jl;refine ae.eq (ae.aS (λz=>z=ab) (λj e=>ah (sG O d.sm) ?_) λz i=>by subst i;exact b7 (ae.some rfl));rw[c];refine b3 (ah (oR n d.2.1 a) ?_);rw[bN h];exact b7 (e _ rfl)
theorem Ns(h: ¬(0<=a/\a<(p.parts.length:Int))):mn p a=ev:=by unfold mn;exact be λb=>by rw[Pz h] at b;cases b.2
theorem M9(h: ¬(0<=a/\a<(p.parts.length:Int))):mr p a k=ev:=by unfold mr;exact be λb=>by rw[Pz h] at b;cases b.2
theorem ZQ(c:22000000<=n)(b:b6 p=ab)(a:Int):tw n p a=aa (mn p a):=by
 have d:=(en b).2.2.1;by_cases h:0<=a/\a<(p.parts.length:Int)
 ·exact aaC c ((gH b).mono O) ⟨O,O⟩
 rw[Ns h];unfold tw;exact ae.eq (ah (NP O b h _) (b3 (ae.some rfl)))
theorem Y4(e:22000000<=n)(b:b6 p=ab)(a:Int):tu n p a=aa (mn p a):=by
 have k:=(en b).2.2.1;have c:=(gH b).mono (O:4<=1100000);by_cases h:0<=a/\a<(p.parts.length:Int)
 ·exact aa0 e c ⟨O,O⟩
 rw[Ns h];unfold tu;refine ae.eq (ah (jf O c) (ae.aS (λz=>z=ab) (λj d=>ah (jc O c.sm) ?_) λz i=>by subst i;exact b7 (ae.some rfl)));rw[b];refine b3 (a1 (λ_=>d _ rfl) λl=>?_);rw[bc O];exact a1 (λ_=>d _ rfl) λm=>br ⟨O,O⟩ h
theorem ZS(c:22000000<=n)(b:b6 p=ab)(a k:Int):sJ n p a k=aa (mr p a k):=by
 have d:=(en b).2.2.1;by_cases h:0<=a/\a<(p.parts.length:Int)
 ·exact aaE c ((gH b).mono O) ⟨O,O⟩
 rw[M9 h];unfold sJ;exact ae.eq (ah (NP O b h _) (b3 (ae.some rfl)))
theorem Y6(e:22000000<=n)(b:b6 p=ab)(a k:Int):sI n p a k=aa (mr p a k):=by
 have l:=(en b).2.2.1;have c:=(gH b).mono (O:4<=1100000);by_cases h:0<=a/\a<(p.parts.length:Int)
 ·exact aa2 e c ⟨O,O⟩
 rw[M9 h];unfold sI;refine ae.eq (ah (jf O c) (ae.aS (λz=>z=ab) (λj d=>ah (jc O c.sm) ?_) λz i=>by subst i;exact b7 (ae.some rfl)));rw[b];exact b3 (a1 (λ_=>d _ rfl) λm=>a1 (λ_=>d _ rfl) λo=>br ⟨O,O⟩ h)
theorem ZM(b:22000000<=n)(a:b6 p=ab)(s:Step):tx n p s=aa (lA p s):=
 ZL b ((gH a).mono O) (ZQ b a _) (ZS b a _ _) (ZJ O a _) (ZR O a _)
theorem YZ(b:22000000<=n)(a:b6 p=ab)(s:Step):wx n p s=aa (lA p s):=
 YY b ((gH a).mono O) (Y4 b a _) (Y6 b a _ _) (YW O a _) (Y5 O a _)
theorem nl.fin(h:nl r):Fc r:=by
 rcases h with ⟨a,b⟩|rfl
 ·refine .inr ⟨r.1,?_⟩;unfold hd;rw[bg b,<-a]
 exact .inl rfl
theorem adZ(b:2000000<=n){a:List Step}(c:a.length<=1048576):Gv n a a=aa ab:=si c b (λx _=>by unfold GP;exact ae.eq (dL (λh=>br rfl h) λ_=>dL (λh=>br rfl h) λ_=>dL (λh=>br rfl h) λ_=>dL (λh=>br rfl h) λ_=>ae.some rfl))
theorem WY(o:2000000<=n){a:List Step}(p:a.length<=1048576){b:Int}(q:0<=b)(s:b<=1099511627776): ∃r,zv n a b=aa r/\0<=r.1/\r.2.length=a.length:=by
 show ae (zv n a b) λr=>0<=r.1/\r.2.length=a.length;unfold zv;refine ae.loop (λz:List Step×Int×Int=> ∃j:Nat,z.2.2=j/\j<=a.length/\z.2.1=b+4*j/\z.1.length=a.length) (λz=>a.length-z.2.2.toNat) ?_ n _ ⟨0,rfl,O,bl,rfl⟩ Z;rintro d ⟨l,cA,i⟩ ⟨j,rfl,w,rfl,e⟩ k;dsimp only at e⊢;refine a1 (λc=>?_) λm=>ae.some ⟨Z,e⟩;have c:j<l.length:=O
 have h: ∀(y:Step),(l.set j y)[j]? =aa y:=λy=>hR c;rw[bc (n:=b+4*(j:Int)+1) O,bc (n:=b+4*(j:Int)+1+1) O,bc (n:=b+4*(j:Int)+1+1+1) O,bc (n:=b+4*(j:Int)+1+1+1+1) O,bc (n:=(j:Int)+1) O];refine ah (bo (bC c)) (ah (dJ O _) ?_);rw[c7];refine ah (bo (h _)) (ah (dJ ca _) ?_);rw[c7,lx];refine ah (bo (h _)) (ah (dJ ca _) ?_);rw[c7,lx];refine ah (bo (h _)) (ah (dJ ca _) ?_);rw[c7,lx];exact k _ ⟨j+1,Z,O,Z,by dsimp only;rw[fX];exact e⟩ Z
theorem Zk(m:2000000<=n){a:List Step}(o:a.length<=1048576):tJ n a=aa a:=by
 unfold tJ;refine ae.eq (ah (CL O _) ?_);refine ae.loop (λz:List Step×Int=> ∃j:Nat,z.2=j/\j<=a.length/\z.1=a.take j++dh (a.length-j) ⟨0,0,0,0⟩) (λz=>a.length-z.2.toNat) ?_ n _ ⟨0,rfl,O,bl⟩ Z;rintro c ⟨l,i⟩ ⟨j,rfl,p,rfl⟩ h;dsimp only;refine a1 (λb=>?_) λk=>ae.some ?_
 ·have b:j<a.length:=O
  have d:(a.take j).length=j:=by rw[c6];omega
  have e:a.take j++dh (a.length-j) (⟨0,0,0,0⟩:Step)=a.take j++⟨0,0,0,0⟩::dh (a.length-(j+1)) ⟨0,0,0,0⟩:=by
   rw[show a.length-j=(a.length-(j+1))+1 by omega,List.replicate_succ]
  rw[e];refine ah (bo (bC b)) (ah (x:=a[j]) rfl (ah (bo (x:=⟨0,0,0,0⟩) (by rw[hS O,d,kX];rfl)) (ah (dJ ca _) ?_)));rw[bc O,c7,l6 _ _ O,d,kX,rE];refine h _ ⟨j+1,Z,O,?_⟩ Z;dsimp only;rw[eK,bC b,Option.toList_some,gL];rfl
 have:j=a.length:=O
 subst this;simp
theorem T3(R:jV 9223372036854775807 m p){l:List Step}(B:l.length<=9223372036854775807):Kc (30000000+m) p l=aa ab:=by
 have W:25000000+m<=30000000+m:=O
 generalize M:30000000+m=n at W;obtain⟨r,e,X⟩:=adv (n:=n) O R 1048576 O O;unfold Kc;refine ae.eq (ah e ?_);rcases X with rfl|⟨N,P,i⟩
 ·exact a1 (λ_=>ae.some rfl) λh=>br h (by decide)
 refine a1 (λh=>br h O) λ_=>?_;have L:wr (r-(l.length:Int))=r-l.length:=bc O;by_cases w:r-(l.length:Int)<0
 ·have F:wN n l r=aa (-1):=by unfold wN;rw[L,bS w];rfl
  exact ah F (a1 (λ_=>ae.some rfl) λh=>br h (by decide))
 have F:wN n l r=aa (r-l.length):=by unfold wN;rw[L,bN w];rfl
 have B:l.length<=1048576:=O
 have D:=ads (n:=n) O i;have a:=Zk (n:=n) O B;have hs:=X8 (n:=n) O (QR i) (Uf O i) (l:=l) λq s o _=>YZ O o s;have aL:=XQ (n:=n) O (QR i) (l:=l) λq s o _=>ZM O o s;have c:=(Zl p l).fin.ak8;generalize r7 p l=f at hs aL c;have o:=Uu (C:=1048576) O c;have g:=afM c;obtain⟨q,G,S,T,_,_,_⟩:=PX (n:=n) (m:=m) O i (k:=1) O O;obtain⟨u,t,U,V,v,E,Q⟩:=PX (n:=n) (m:=5) O o (k:=1) O O;have d:=PJ (n:=n) (m:=5) O o;have x:=adZ (n:=n) O B;obtain⟨ms,H,I,K⟩:=WY (n:=n) O B (b:=q.1) O O;refine ah F (a1 (λh=>br h O) λ_=>ah D (ah a (ah hs (ah D (ah a (ah aL ?_))))));refine ae.aS (λz=>z=al) (λj y=>ah d (b3 (y _ bl))) λz A=>?_;subst A;refine b3 (ah D (ah (PJ O i) (b3 (ah a (ah x (b3 (ah G (ah H (ah (gr K) ?_)))))))));refine ae.aS (λz=>z=al) (λj y=>a1 (λh=>br h O) λ_=>ah d (b3 (y _ bl))) λz A=>?_;subst A;refine b3 (ah t (ah (gr v) (ah (gr E) (ah Q (a1 (λh=>br h O) λ_=>dL (λh=>br rfl h) λ_=>ah D (ah a (ah aL ?_)))))));refine ae.aS (λz=>z=al) (λj y=>ah d (b3 (y _ bl))) λz A=>?_;subst A;exact b3 (ah Q (a1 (λh=>br h O) λ_=>dL (λh=>br rfl h) λ_=>ae.some rfl))
end Go.Lift
