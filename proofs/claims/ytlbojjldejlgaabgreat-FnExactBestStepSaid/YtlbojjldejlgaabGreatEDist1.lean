/- Tools. -/
import Derived.Test.YtlbojjldejlgaabGreatETran1
set_option maxRecDepth 110000000
set_option linter.unusedVariables false
namespace Go.Lift
open Go
section
theorem zw: ∀a,cmpL a a=0
 | []=>rfl
 |x::a=>by unfold cmpL;rw[aT O,aT O];exact zw a
theorem sp: ∀a b,cmpL b a= -cmpL a b
 | [],[]=>by simp[cmpL]
 | [],_::_=>by simp[cmpL]
 |_::_,[]=>by simp[cmpL]
 |x::a,y::b=>by
  unfold cmpL;by_cases c:x<y
  ·simp[c,show¬y<x by omega]
  by_cases d:y<x
  ·simp[c,d]
  rw[aT c,aT d,aT d,aT c];exact sp a b
theorem wk: ∀{a b},cmpL a b=0->a=b
 | [],[],_=>rfl
 | [],_::_,h=>by simp[cmpL] at h
 |_::_,[],h=>by simp[cmpL] at h
 |x::a,y::b,h=>by
  unfold cmpL at h;by_cases c:x<y
  ·rw[aW c] at h;omega
  by_cases d:y<x
  ·rw[aT c,aW d] at h;omega
  rw[aT c,aT d] at h;rw[wk h,show x=y by omega]
theorem wx: ∀{k l m},cmpL k l<0->cmpL l m<0->cmpL k m<0
 | [],[],_,h,_=>by simp[cmpL] at h
 | [],_::_,[],_,h=>by simp[cmpL] at h
 | [],_::_,_::_,_,_=>by simp[cmpL]
 |_::_,[],_,h,_=>by simp[cmpL] at h
 |_::_,_::_,[],_,h=>by simp[cmpL] at h
 |x::k,y::l,z::m,i,e=>by
  unfold cmpL at i e⊢;by_cases a:x<y
  ·by_cases b:y<z
   ·rw[aW O];omega
   by_cases c:z<y
   ·rw[aT b,aW c] at e;omega
   rw[aW O];omega
  by_cases b:y<x
  ·rw[aT a,aW b] at i;omega
  by_cases c:y<z
  ·rw[aW O];omega
  by_cases d:z<y
  ·rw[aT c,aW d] at e;omega
  rw[aT O,aT O];rw[aT a,aT b] at i;rw[aT c,aT d] at e;exact wx i e
theorem ML: ∀a b,h7 a b=decide (cmpL a b<0)
 | [],[]=>rfl
 | [],_::_=>rfl
 |_::_,[]=>rfl
 |x::a,y::b=>by
  unfold h7 cmpL;by_cases h:x=y
  ·subst h;simp only[if_true,Int.lt_irrefl,if_false];exact ML a b
  by_cases c:x<y
  ·simp[h,c]
  have:y<x:=O
  simp[h,c,this]
abbrev hF(l:List (List Int)):Prop:=l.Pairwise λa b=>cmpL a b<0
theorem O': ∀{l m:List (List Int)},hF l->hF m->(∀x,x∈l↔x∈m)->l=m
 | [],[],_,_,_=>rfl
 | [],y::m,_,_,h=>by have:=(h y).2 a1;simp at this
 |x::l,[],_,_,h=>by have:=(h x).1 a1;simp at this
 |x::l,y::m,s,w,h=>by
  obtain⟨q,A⟩:=qG.1 s;obtain⟨r,B⟩:=qG.1 w;have e:x=y:=by
   rcases dI.1 ((h x).1 a1) with d|d
   ·exact d
   rcases dI.1 ((h y).2 a1) with i|i
   ·exact i.symm
   have a:=r x d;have b:=q y i
   have:=wx a b;rw[zw] at this;omega
  subst e;have k:x∉l:=λn=>by have:=q x n;rw[zw] at this;omega
  have o:x∉m:=λn=>by have:=r x n;rw[zw] at this;omega
  rw[O' A B (λz=>⟨λc=>by
   rcases dI.1 ((h z).1 (eu _ c)) with rfl|p
   ·exact bt c k
   ·exact p,λc=>by
   rcases dI.1 ((h z).2 (eu _ c)) with rfl|p
   ·exact bt c o
   exact p⟩)]
def h8:List (List Int)->List Int->List (List Int)
 | [],d=>[d]
 |x::a,d=>if cmpL d x<0 then d::x::a else x::h8 a d
theorem FX{d z:List Int}: ∀{l:List (List Int)},z∈h8 l d↔z=d\/z∈l
 | []=>by simp[h8]
 |x::a=>by
  unfold h8;split
  ·simp
  simp only[List.mem_cons,FX (l:=a)];constructor
  ·rintro(h|h|h)
   ·exact .inr (.inl h)
   ·exact .inl h
   exact .inr (.inr h)
  rintro(h|h|h)
  ·exact .inr (.inl h)
  ·exact .inl h
  exact .inr (.inr h)
theorem Ow{d:List Int}: ∀{l:List (List Int)},hF l->d∉l->hF (h8 l d)
 | [],_,_=>by simp[h8]
 |x::n,b,c=>by
  obtain⟨i,k⟩:=qG.1 b;unfold h8;split
  ·rename_i h;refine qG.2 ⟨λz a=>?_,b⟩;rcases dI.1 a with rfl|a
   ·exact h
   exact wx h (i z a)
  rename_i h;refine qG.2 ⟨λz a=>?_,Ow k λm=>c (eu _ m)⟩;rcases FX.1 a with rfl|a
  ·have o:=sp z x;have p:cmpL z x≠0:=λe=>c (by rw[wk e];simp);omega
  exact i z a
def ht(l:List (List Int))(d:List Int):List (List Int):=if d∈l then l else h8 l d
theorem acH{l:List (List Int)}(h:hF l)(d:List Int):hF (ht l d):=by
 unfold ht;split
 ·exact h
 exact Ow h ‹_›
variable {d b:List Int}{R a:Type}{Q:R->Prop}{n i k:Nat}{p:Prog}{x:a}{c:Int}{P:Part}{r:List cx}{l:List a}
theorem Nt{l:List (List Int)}{z:List Int}:z∈ht l d↔z=d\/z∈l:=by
 unfold ht;split
 ·rename_i h;exact⟨.inr,λa=>by rcases a with rfl|a;exact h;exact a⟩
 exact FX
theorem Gm: ∀(a l:List (List Int)),hF l->hF (a.foldl ht l)/\ ∀z,z∈a.foldl ht l↔z∈l\/z∈a
 | [],l,h=>⟨h,λz=>a1⟩
 |d::a,l,h=>by
  obtain⟨b,c⟩:=Gm a (ht l d) (acH h d);refine⟨b,λz=>?_⟩;rw[List.foldl_cons,c z,Nt,dI];constructor
  ·rintro((h|h)|h)
   ·exact .inr (.inl h)
   ·exact .inl h
   exact .inr (.inr h)
  rintro(h|h|h)
  ·exact .inl (.inr h)
  ·exact .inl (.inl h)
  exact .inr h
def fY:List (List Int)->List (List Int)
 | []=>[]
 | [x]=>[x]
 |x::y::r=>if x=y then fY (y::r) else x::fY (y::r)
theorem D0{z:List Int}: ∀{l:List (List Int)},z∈fY l↔z∈l
 | []=>by simp[fY]
 | [x]=>by simp[fY]
 |x::y::r=>by
  have a:=D0 (z:=z) (l:=y::r);unfold fY;split
  ·rename_i h;subst h;rw[a];simp
  rw[dI,a];simp
theorem Ee: ∀{l:List (List Int)},l.Pairwise (λa b=> ¬cmpL b a<0)->hF (fY l)
 | [],_=>by simp[fY]
 | [x],_=>by simp[fY]
 |x::y::r,h=>by
  obtain⟨n,i⟩:=qG.1 h;obtain⟨o,_⟩:=qG.1 i;unfold fY;split
  ·exact Ee i
  rename_i k;refine qG.2 ⟨λz m=>?_,Ee i⟩;have d:cmpL x y<0:=by
   have a:=n y a1;have b:=sp x y;have c:cmpL x y≠0:=λe=>k (wk e);omega
  rcases dI.1 (D0.1 m) with rfl|m
  ·exact d
  have a:=o z m;have b:=sp y z;by_cases e:cmpL y z=0
  ·rw[<-wk e];exact d
  exact wx d O
theorem UU(l:List (List Int)):(e4 l).Pairwise (λa b=> ¬cmpL b a<0):=by
 have:=List.pairwise_mergeSort (le:=λx y=> !decide (cmpL y x<0)) (λa b c k d=>by
  simp only[Bool.not_eq_true',decide_eq_false_iff_not] at*;intro h;have i:=sp a b;have m:=sp b c;by_cases e:cmpL b a=0
  ·rw[wk e] at d;exact d h
  ·exact d (wx h O)) (λa b=>by
  have i:=sp a b;by_cases h:cmpL b a<0
  ·have: ¬cmpL a b<0:=O
   simp[h,this]
  simp[h]) l
 refine this.imp λh=>?_;simpa using h
theorem abE(a:List (List Int)):fY (e4 a)=a.foldl ht []:=by obtain⟨b,c⟩:=Gm a [] List.Pairwise.nil;refine O' (Ee (UU a)) b λz=>?_;rw[D0,c z];unfold e4;rw[List.mem_mergeSort];simp
def kP(b a:List Int):List Int:=List.zipWith (λx y=>x-y) b a
theorem MH{a:List Int}(F:a.length=b.length)(G:b.length<=1100000)(H:1100000<n)(m: ∀x∈a,cB 9999 x)(o: ∀x∈b,cB 9999 x){K:List Int->Option R}(A:aa (K (kP b a)) Q):
  aa (bc (λc ((h,d):(List Int)×Int)=>
   bif decide (d<(b.length:Int)) then(
    Option.bind (av b d) λp=>
    Option.bind (av a d) λq=>
    Option.bind (app h [wr (p-q)]) λr=>
    c (r,wr (d+1))
   ) else(
    K h
   )) n ([],0)) Q:=by
 refine aa.loop (λx:List Int×Int=> ∃i:Nat,x.2=i/\i<=b.length/\x.1=(kP b a).take i) (λx=>b.length-x.2.toNat) ?_ n _ ⟨0,rfl,O,a1⟩ Z;rintro s ⟨x,k⟩ ⟨i,w,L,l⟩ B;dsimp only at w l⊢;subst w;have C:(kP b a).length=b.length:=by unfold kP;rw[vp];omega
 refine aR (λe=>?_) λD=>?_
 ·have e:i<b.length:=O
  have y:=bg e;have z:=bg (O:i<a.length);have cS:=o _ (ft e);have cd:=m _ (ft (O:i<a.length));unfold cB at cS cd;refine ag (a' y) (ag (a' z) (ag (cW (by rw[l,cq];simp;omega)) ?_));rw[bf (n:=b[i]-a[i]) O,bf O];refine B _ ⟨i+1,Z,O,?_⟩ Z;dsimp only;rw[dV,<-l];congr 1;unfold kP;rw[List.getElem?_zipWith,y,z];rfl
 have:i=b.length:=O
 subst this;rw[fG O] at l;rw[l];exact A
theorem WA{a:List Int}(e:a.length=b.length)(h:b.length<=1100000)(i:1100000<n)(c: ∀x∈a,cB 9999 x)(d: ∀x∈b,cB 9999 x):y8 n b a=some (kP b a):=by unfold y8;exact aa.eq (MH e h i c d (aa.some rfl))
theorem ZW(E:22000000<=n){l:List (List Int)}(I:l.length<=15000)(R: ∀x∈l,x.length<=1100000)(W:d.length<=1100000):Au n l d=some (ht l d):=by
 unfold Au;refine aa.eq (aa.loop (λx:List (List Int)×Bool×Int=> ∃i:Nat,x.2.2=i/\i<=l.length/\d∉l.take i/\(x.2.1=true->x.1.length<=i+1/\h8 l d=x.1++l.drop i)/\(x.2.1=false->x.1.length<=i/\h8 l d=x.1++h8 (l.drop i) d)) (λx=>l.length-x.2.2.toNat) ?_ n _ ⟨0,rfl,O,a1,(λh=>by cases h),λ_=>⟨a1,a1⟩⟩ Z);rintro y ⟨M,e,k⟩ ⟨i,L,N,c,A,B⟩ X;dsimp only at L A B⊢;subst L;refine aR (λb=>?_) λf=>?_
 ·have b:i<l.length:=O
  have Q:=bg b;have C:l[i].length<=1100000:=R _ (ft b);refine ag (a' Q) (ag (KV O O) (aR (λD=>aa.some ?_) λF=>?_))
  ·unfold ht;rw[aW (by rw[<-D];exact ft b)]
  have a:=kn b;have o:d∉l.take (i+1):=by
   rw[dV,Q];simp only[List.mem_append,Option.toList_some,List.mem_singleton];rintro(h|h)
   ·exact c h
   exact F h.symm
  refine aa.aI (λz:List (List Int)×Bool=>(z.2=true->z.1.length<=i+1/\h8 l d=z.1++l.drop i)/\(z.2=false->z.1.length<=i/\h8 l d=z.1++l[i]::h8 (l.drop (i+1)) d)) (λj m=>?_) λz p=>?_
  ·refine aa.aI (λz:Bool=>z=(!e&&h7 d l[i])) (λP q=>aa.cond (λh=>?_) λh=>q _ ?_) λz p=>?_
   ·have h:e=false:=by simpa using h
    exact ag (MQ O W C) (q _ (by rw[h];rfl))
   ·have h:e=true:=by simpa using h
    rw[h];rfl
   subst p;cases r:e with
   |true=>exact bS (m _ ⟨λ_=>A r,λh=>by cases h⟩)
   |false=>
    obtain⟨g,G⟩:=B r;rw[a] at G;rw[ML];by_cases w:cmpL d l[i]<0
    ·rw[bp w];refine bY (ag (cW bX) (m _ ⟨λ_=>⟨bX,?_⟩,λh=>by cases h⟩));rw[G,a];unfold h8;rw[aW w];simp
    rw[bs w];refine bS (m _ ⟨(λh=>by cases h),λ_=>⟨g,?_⟩⟩);rw[G]
    conv=>lhs;rw[h8]
    rw[aT w]
  obtain⟨t,u⟩:=z;obtain⟨H,K⟩:=p;dsimp only at H K⊢;have v:t.length<=i+1:=by
   cases u with
   |true=>exact(H rfl).1
   |false=>have:=(K rfl).1;omega
  refine ag (cW bX) ?_;rw[bf O];refine X _ ⟨i+1,Z,O,o,λh=>?_,λh=>?_⟩ Z
  ·obtain⟨aH,a2⟩:=H h;refine⟨bX,?_⟩;rw[a2,a];simp
  obtain⟨aH,a2⟩:=K h;refine⟨bX,?_⟩;rw[a2];simp
 have:i=l.length:=O
 subst this;rw[cT] at c;have s:ht l d=h8 l d:=by unfold ht;rw[aT c]
 rw[s];refine aa.aI (λz=>z=h8 l d) (λj m=>aa.cond (λh=>?_) λh=>m _ ?_) λz p=>aa.some p
 ·have h:e=false:=by simpa using h
  obtain⟨aH,a2⟩:=B h;refine ag (cW bX) (m _ ?_);rw[a2,od];rfl
 have h:e=true:=by simpa using h
 obtain⟨aH,a2⟩:=A h;rw[a2,od,jU]
theorem Nf(d:List Int): ∀l:List (List Int),(h8 l d).length=l.length+1
 | []=>rfl
 |x::a=>by
  unfold h8;split
  ·rfl
  rw[qH,Nf d a];rfl
theorem Nu(l:List (List Int))(d:List Int):(ht l d).length<=l.length+1:=by
 unfold ht;split
 ·omega
 rw[Nf];omega
def j6(I:List cb)(c:Int)(d:fu):Option (List Int):=match I[d.ew.toNat]?,I[d.eA.toNat]? with
 |some a,some b=>if a.part=c/\b.part=c then some (kP b.cF a.cF) else none
 |_,_=>none
def mD(p:Prog)(a:Int):List (List Int):=(fR p (bk p.parts) (bk p.parts).length).filterMap (j6 (bk p.parts) a)
theorem qj(h:bU p=true){x:cb}(l:f9 p x): ∃P,p.parts[x.part.toNat]? =some P/\0<=x.part/\x.cF.length=P.nest.length/\x.cF.length<=4/\ ∀y∈x.cF,cB 9999 y:=by obtain⟨C,D,F,b,m⟩:=eg h;obtain⟨i,k,P,s,n,G,d,o,e⟩:=l;obtain⟨q,H,K,r⟩:=fX (b P (bC d));obtain⟨L,w,c,z,A⟩:=rH q;have hs:=bC o;have a:=(r s hs _ e).2;unfold jN at a;simp only[Bool.and_eq_true,decide_eq_true_eq,List.all_eq_true] at a;exact⟨P,by rw[n,cV];exact d,O,(c _ e).1,a.1,λy B=>a.2 y B⟩
theorem abF{I:List cb}(h: ∀x∈I,x.cF.length<=4){d:fu}{v:List Int}(e:j6 I c d=some v):v.length<=4:=by
 unfold j6 at e;split at e
 ·rename_i a b k i;split at e
  ·cases e;unfold kP;rw[vp]
   have:=h b (bC i);omega
  cases e
 cases e
theorem J6{f:a->Option R}(h:l[i]? =some x):(l.take (i+1)).filterMap f=(l.take i).filterMap f++(f x).toList:=by rw[dV,h,List.filterMap_append];cases b:f x<;>simp[b]
theorem Lt(u:22000000<=n)(hp:g' p)(r:bU p=true)(a:Int):xX n p a=some ((mD p a).foldl ht []):=by
 have F:=(eg r).2.2.2.2;unfold xX;refine aa.eq (ag (uD O r) (ag (EP O r) ?_));have e: ∀x∈bk p.parts,f9 p x:=λx m=>gR m;have ai1:=FU (p:=p) F;have aV:=OQ (p:=p) (l:=bk p.parts);unfold mD;generalize fR p (bk p.parts) (bk p.parts).length=D at*;generalize bk p.parts=I at*;have v: ∀x∈I,x.cF.length<=4:=λx m=>(qj r (e x m)).choose_spec.2.2.2.1;refine aa.loop (λx:List (List Int)×Int=> ∃i:Nat,x.2=i/\i<=D.length/\x.1=((D.take i).filterMap (j6 I a)).foldl ht []/\x.1.length<=i/\ ∀y∈x.1,y.length<=4) (λx=>D.length-x.2.toNat) ?_ n _ ⟨0,rfl,O,a1,a1,a1⟩ Z;rintro G ⟨E,k⟩ ⟨i,g,aD,m,s,b⟩ M;dsimp only at g m s b⊢;subst g;refine aR (λo=>?_) λN=>aa.some ?_
 ·have o:i<D.length:=O
  have t:=bg o;obtain⟨P,d2,d3⟩:=aV _ (ft o);have S:=wX (l:=I) (c:=D[i].ew) P O;have T:=wX (l:=I) (c:=D[i].eA) O O;have U:=ft (O:D[i].ew.toNat<I.length);have H:=ft (O:D[i].eA.toNat<I.length);have K:I[D[i].ew.toNat]? =some I[D[i].ew.toNat]:=bg _;have L:I[D[i].eA.toNat]? =some I[D[i].eA.toNat]:=bg _;obtain⟨V,w,Y,ahv,ahw,Q⟩:=qj r (e _ U);obtain⟨Em,q,ahx,ahy,ahz,R⟩:=qj r (e _ H);refine aa.aI (λz=>z.2.2.2.2.2.2=((D.take (i+1)).filterMap (j6 I a)).foldl ht []/\z.2.2.2.2.2.2.length<=i+1/\ ∀y∈z.2.2.2.2.2.2,y.length<=4) (λj W=>ag (a' t) (ag S (ag T ?_))) λz X=>?_
  ·rw[J6 t,List.foldl_append,<-m] at W;refine aa.aI (λz:Bool=>z=decide (I[D[i].ew.toNat].part=a/\I[D[i].eA.toNat].part=a)) (λmU A=>aR (λh=>A _ ?_) λh=>A _ ?_) λz X=>?_
   ·exact decide_eq_decide.2 ⟨λB=>⟨h,B⟩,λB=>B.2⟩
   ·exact(bs λB=>h B.1).symm
   subst X;have d:j6 I a D[i]=if I[D[i].ew.toNat].part=a/\I[D[i].eA.toNat].part=a then some (kP I[D[i].eA.toNat].cF I[D[i].ew.toNat].cF) else none:=by
    unfold j6;rw[K,L]
   refine aR (λh=>?_) λh=>W _ ?_
   ·have f:V=Em:=by
     rw[h.1] at w;rw[h.2] at q;rw[w] at q;cases q;rfl
    subst f;refine ag (WA O O O Q R) (ag (ZW u O (λy C=>by have:=b y C;omega) (by unfold kP;rw[vp];omega)) (W _ ?_));rw[d,aW h];dsimp only[Option.toList,List.foldl];refine⟨rfl,?_,λy C=>?_⟩
    ·have:=Nu E (kP I[D[i].eA.toNat].cF I[D[i].ew.toNat].cF);omega
    rcases Nt.1 C with rfl|C
    ·unfold kP;rw[vp];omega
    exact b y C
   rw[d,aT h];exact⟨rfl,Z,b⟩
  obtain⟨Si,z2,z3⟩:=X;rw[bf O];exact M _ ⟨i+1,Z,O,Si,z2,z3⟩ Z
 have:i=D.length:=O
 subst this;rw[m,cT]
theorem Ko(x:List Int): ∀(y:List Int) (a:List (List Int)),fY ((y::a)++[x])=if(y::a).getLast a1=x then fY (y::a) else fY (y::a)++[x]
 |y,[]=>by
  by_cases h:y=x
  ·subst h;simp[fY]
  simp[fY,h]
 |y,z::a=>by
  have c:=Ko x z a;rw[List.getLast_cons a1];show fY (y::z::(a++[x]))=_;unfold fY;by_cases h:y=z
  ·rw[aW h,aW h];exact c
  rw[aT h,aT h];have b:fY (z::(a++[x]))=_:=c;rw[b];split<;>simp
theorem U6{s:List (List Int)}{m:Nat}(l:1<=m)(k:m<s.length):fY (s.take (m+1))=if s[m-1]=s[m] then fY (s.take m) else fY (s.take m)++[s[m]]:=by
 have e:s.take (m+1)=s.take m++[s[m]]:=by rw[dV,bg k];rfl
 have c:s.take m≠[]:=by
  intro h
  have:=congrArg List.length h;rw[cq,pe O,List.length_nil] at this;omega
 have b: ∀h,(s.take m).getLast h=s[m-1]:=λh=>by
  rw[List.getLast_eq_getElem,List.getElem_take];congr 1;rw[cq];omega
 rw[e];obtain⟨y,a,i⟩: ∃y a,s.take m=y::a:=by
  cases h:s.take m with
  |nil=>exact bt h c
  |cons y a=>exact⟨y,a,rfl⟩
 have d:=b c;simp only[i] at d⊢;rw[Ko,d]
def kL(d:List Int):Option Nat:=d.findIdx? λx=> !decide (x=0)
def oF(d:List Int):Int:=match kL d with
 |some i=>(i:Int)
 |none=> -1
theorem Xx(w:d.length<=1100000)(y:1100000<n):CN n d=some (oF d):=by
 unfold CN;refine aa.eq (ag (x:=oF d) ?_ (aa.some rfl));unfold xN;refine aa.eq (aa.loop (λx:Int=> ∃i:Nat,x=i/\i<=d.length/\ ∀j,j<i->d.getD j 0=0) (λx=>d.length-x.toNat) ?_ n _ ⟨0,rfl,O,λj a=>bt a (qI _)⟩ O);rintro e z ⟨i,rfl,A,l⟩ p;have m: ∀j (a:j<d.length),j<i->d[j]=0:=λj a b=>by
  have:=l j b
  rwa [ek,bg a] at this
 refine aR (λc=>?_) λq=>aa.some ?_
 ·have c:i<d.length:=O
  have o:=bg c;refine ag (a' o) (ag (x:= !decide (d[i]=0)) rfl (dZ (λh=>aa.some ?_) λr=>?_))
  ·have:kL d=some i:=by
    unfold kL;rw[Jx];exact⟨c,by simp[h],λj a=>by simp[m j O a]⟩
   unfold oF;rw[this]
  rw[bf O];refine p _ ⟨i+1,O,O,λj a=>?_⟩ O;by_cases b:j=i
  ·subst b;rw[ek,o];exact r
  exact l j O
 have:kL d=none:=by
  unfold kL;rw[List.findIdx?_eq_none_iff];intro x s;obtain⟨j,a⟩:=iQ.1 s;obtain⟨k,rfl⟩:=bM.1 a;simp[m j k O]
 unfold oF;rw[this]
theorem ZT(a:g' p)(b:p.parts[i]? =some P):kx n p (i:Int)=some true:=by have aD:=(bM.1 b).1;rw[qs n a.2.1,bp O]
theorem Xs(a:Nat->Bool)(m:Nat):dO a (m+1)=dO a m++(if a m then [m] else []):=by unfold dO;rw[nj,pk];congr 1;by_cases h:a m<;>simp[h]
theorem NW(l:List (List Int)): ∀m,m<=l.length->(dO (kz l) m).map (λj=>l.getD j [])=fY (l.take m)
 |0,_=>rfl
 |m+1,h=>by
  have n:=NW l m O;have b:m<l.length:=O
  have c:l.getD m []=l[m]:=by rw[ek,bg b];rfl
  rw[Xs,gJ,n];by_cases d:m=0
  ·subst d;have i:kz l 0=true:=by simp[kz]
   rw[i,aW rfl,List.take_zero];show fY []++[l.getD 0 []]=_;rw[c,dV,bg b];rfl
  rw[U6 O b];have i:l.getD (m-1) []=l[m-1]:=by rw[ek,bg O];rfl
  have o:kz l m= !decide (l[m-1]=l[m]):=by
   unfold kz;rw[c,i];by_cases a:l[m-1]=l[m]
   ·simp[d,a]
   have k:l[m]≠l[m-1]:=λe=>a e.symm;simp[d,a,k]
  rw[o];by_cases a:l[m-1]=l[m]
  ·rw[aW a,bp a];simp
  rw[aT a,bs a];show _++[l.getD m []]=_;rw[c]
theorem W4(l:List (List Int)):gp l=fY l:=by have:=NW l l.length (cD _);rw[cT] at this;exact this
theorem Wo(cu:22000000<=n)(r:bU p=true)(a:Int):BN n (fr p) a=some ((mD p a).foldl ht []):=by
 have C:=(eg r).2.2.2.2;unfold BN;refine aa.eq (ag (Fl O r) ?_);rw[show(fr p).list=bk p.parts from rfl];have m: ∀x∈bk p.parts,f9 p x:=λx b=>gR b;have ai1:=FU (p:=p) C;have aV:=OQ (p:=p) (l:=bk p.parts);unfold mD;generalize fR p (bk p.parts) (bk p.parts).length=D at*;generalize bk p.parts=I at*;have F: ∀x∈I,x.cF.length<=4:=λx b=>(qj r (m x b)).choose_spec.2.2.2.1;refine aa.loop (λx:List (List Int)×Int=> ∃i:Nat,x.2=i/\i<=D.length/\x.1=(D.take i).filterMap (j6 I a)) (λx=>D.length-x.2.toNat) ?_ n _ ⟨0,rfl,O,a1⟩ Z;rintro G ⟨E,k⟩ ⟨i,M,aD,b⟩ S;dsimp only at M b⊢;subst M;have N:E.length<=i:=by
  rw[b];refine fF (List.length_filterMap_le _ _) ?_;rw[cq];omega
 refine aR (λo=>?_) λT=>?_
 ·have o:i<D.length:=O
  have P:=bg o;obtain⟨U,d2,d3⟩:=aV _ (ft o);have V:=wX (l:=I) (c:=D[i].ew) U O;have Y:=wX (l:=I) (c:=D[i].eA) O O;have fP:=ft (O:D[i].ew.toNat<I.length);have H:=ft (O:D[i].eA.toNat<I.length);have L:I[D[i].ew.toNat]? =some I[D[i].ew.toNat]:=bg _;have Q:I[D[i].eA.toNat]? =some I[D[i].eA.toNat]:=bg _;obtain⟨Sy,s,aiH,ahv,ahw,R⟩:=qj r (m _ fP);obtain⟨Em,q,ahx,ahy,ahz,W⟩:=qj r (m _ H);have e:j6 I a D[i]=if I[D[i].ew.toNat].part=a/\I[D[i].eA.toNat].part=a then some (kP I[D[i].eA.toNat].cF I[D[i].ew.toNat].cF) else none:=by
   unfold j6;rw[L,Q]
  refine aa.aI (λz=>z.1=(D.take (i+1)).filterMap (j6 I a)) (λj X=>ag (a' P) (ag V (ag Y ?_))) λz f=>?_
  ·rw[J6 P,<-b] at X;refine aa.aI (λz:Bool=>z= !decide (I[D[i].ew.toNat].part=a/\I[D[i].eA.toNat].part=a)) (λmU w=>dZ (λh=>w _ ?_) λh=>w _ ?_) λz f=>?_
   ·rw[bs λA=>h A.1];rfl
   ·congr 1;exact decide_eq_decide.2 ⟨λA=>⟨h,A⟩,λA=>A.2⟩
   subst f;refine dZ (λh=>X _ ?_) λh=>?_
   ·rw[e,aT h];simp
   have g:Sy=Em:=by
    rw[h.1] at s;rw[h.2] at q;rw[s] at q;cases q;rfl
   subst g;refine MH (K:=λt=>Option.bind (app E [t]) λu=>j (u,D[i].ew,D[i].eA,D[i].kinds,I[D[i].ew.toNat].part,I[D[i].ew.toNat].stmt,I[D[i].ew.toNat].cF,I[D[i].eA.toNat].part,I[D[i].eA.toNat].stmt,I[D[i].eA.toNat].cF)) O O O R W ?_;refine ag (cW bX) (X _ ?_);rw[e,aW h];rfl
  rw[bf O];exact S _ ⟨i+1,Z,O,f⟩ Z
 have:i=D.length:=O
 subst this;rw[cT] at b;subst b;have B: ∀y∈D.filterMap (j6 I a),y.length<=4:=λy v=>by
  obtain⟨d,_,cn⟩:=List.mem_filterMap.1 v;exact abF F cn
 have af':(e4 (D.filterMap (j6 I a))).length<=15000:=by unfold e4;rw[List.length_mergeSort];omega
 refine ag (x:=e4 (D.filterMap (j6 I a))) (by unfold l6;rw[aW ⟨O,λy v=>by have:=B y v;omega⟩]) (aa.some ?_);rw[W4];exact abE _
def i'(p:Prog)(i:Nat):List (List Int):=(mD p i).foldl ht []
theorem Xb(c:22000000<=n)(a:g' p)(b:bU p=true)(d:p.parts[i]? =some P):Cx n p (i:Int)=some (i' p i):=by unfold Cx;refine aa.eq (ag (u6 O a) ?_);rw[aW b];refine bY (aa.aI (λz=>z=false) (λj e=>bS (ag (ZT a d) (e _ rfl))) λz h=>?_);rw[h];exact bS (ag (Wo c b _) (aa.some rfl))
theorem acL:d∈i' p i↔d∈mD p i:=by
 unfold i'
 have:=(Gm (mD p i) [] .nil).2 d;simpa using this
theorem Mx: ∀(a l:List (List Int)),(a.foldl ht l).length<=l.length+a.length
 | [],l=>a1
 |d::a,l=>by
  rw[List.foldl_cons]
  have:=Mx a (ht l d)
  have:=Nu l d;rw[qH];omega
theorem GP(b:bU p=true):(i' p i).length<=15000:=by
 have a:=(eg b).2.2.2.2;have c:=FU (p:=p) a
 have:=Mx (mD p i) [];have d:(mD p i).length<=(fR p (bk p.parts) (bk p.parts).length).length:=by unfold mD;exact List.length_filterMap_le _ _
 unfold i';rw[List.length_nil] at this;omega
theorem sE(r:bU p=true)(s:p.parts[i]? =some P)(cn:d∈i' p i):d.length=P.nest.length/\ ∀x∈d,cB 99999 x:=by
 have cn:=acL.1 cn;unfold mD at cn;obtain⟨e,_,h⟩:=List.mem_filterMap.1 cn;unfold j6 at h;split at h
 ·rename_i a b A B;split at h
  ·rename_i w;cases h;have m:f9 p a:=gR (bC A);have n:f9 p b:=gR (bC B);obtain⟨F,aH,a2,a3,a4,a5⟩:=qj r m;obtain⟨G,y,H,K,L,C⟩:=qj r n;rw[w.1,cV,s] at aH;rw[w.2,cV,s] at y;cases aH;cases y;unfold kP;refine⟨by rw[vp];omega,λx z=>?_⟩;obtain⟨u,v,D,o,rfl⟩: ∃u v,u∈b.cF/\v∈a.cF/\x=u-v:=by
    rw[iQ] at z;obtain⟨k,c⟩:=z;rw[List.getElem?_zipWith] at c;cases l:b.cF[k]? with
    |none=>rw[l] at c;cases c
    |some u=>
     cases q:a.cF[k]? with
     |none=>rw[l,q] at c;cases c
     |some v=>
      rw[l,q] at c;cases c;exact⟨u,v,bC l,bC q,rfl⟩
   have Q:=C u D;have R:=a5 v o;unfold cB at*;omega
  cases h
 cases h
def gW(d:List Int):Bool:=match kL d with
 |some k=>decide (0<=d.getD k 0)
 |none=>true
theorem OB(h:kL d=some k):k<d.length/\d.getD k 0≠0:=by unfold kL at h;rw[Jx] at h;obtain⟨a,b,_⟩:=h;refine⟨a,?_⟩;rw[ek,bg a];simpa using b
theorem LQ(L:22000000<=n)(Q:g' p)(z:bU p=true)(B:p.parts[i]? =some P){F:List Int->Option (List Int)}{f:List Int->List Int}(C: ∀d∈i' p i,F d=some (f d))(G: ∀d,(f d).length=d.length):
  wA n p (i:Int) F=some ((i' p i).all λd=>gW (f d)):=by
 unfold wA;refine aa.eq (ag (Xb L Q z B) ?_);have s:=GP z (i:=i);have w:=λd q=>(sE z B (d:=d) q).1;have R:=(f5 ((eg z).2.2.2.1 P (bC B))).1;generalize i' p i=D at C s w;refine aa.loop (λx:List (List Int)×Int=> ∃k:Nat,x.2=k/\k<=D.length/\x.1.length=D.length/\(∀t,k<=t->x.1[t]? =D[t]?)/\ ∀d∈D.take k,gW (f d)=true) (λx=>D.length-x.2.toNat) ?_ n _ ⟨0,rfl,O,rfl,λ_ _=>rfl,λd q=>by simp at q⟩ Z;rintro m ⟨l,E⟩ ⟨k,H,W,y,a,b⟩ X;dsimp only at H y a⊢;subst H;refine aR (λe=>?_) λg=>aa.some ?_
 ·have e:k<D.length:=O
  have j:l[k]? =some D[k]:=by rw[a k (cD _),bg e]
  have hm:=ft e;have u:(f D[k]).length<=4:=by rw[G,w _ hm];exact R
  refine ag (a' j) (ag (C _ hm) (ag (nM (G _)) (ag (Xx O O) (ag (dS O _) ?_))));have c: ∀(A:gW (f D[k])=false),D.all (λd=>gW (f d))=false:=λA=>iR.2 ⟨_,hm,by simp[A]⟩;have go:gW (f D[k])=true->aa (m (l.set (k:Int).toNat (f D[k]),wr ((k:Int)+1))) (λr=>r=D.all λd=>gW (f d)):=λA=>by
   rw[bf O,cV];refine X _ ⟨k+1,Z,O,by dsimp only;rw[fE];exact y,λt I=>?_,λd q=>?_⟩ Z
   ·dsimp only;rw[jT O];exact a t O
   rw[dV,bg e] at q;rcases ef.1 q with h|h
   ·exact b d h
   have:d=D[k]:=by simpa using h
   subst this;exact A
  unfold oF gW at*;cases o:kL (f D[k]) with
  |none=>
   rw[o] at go c;exact aR (λh=>bt h (by show¬(0:Int)<= -1;omega)) (λ_=>go rfl)
  |some t=>
   rw[o] at go c;obtain⟨v,M⟩:=OB o;refine aR (λ_=>?_) λh=>bt (show(0:Int)<=(t:Int) by omega) h;have K:=bg v;have N:(f D[k]).getD t 0=(f D[k])[t]:=by rw[ek,K];rfl
   refine ag (a' K) (aR (λh=>aa.some ?_) λh=>go ?_)
   ·exact(c (bs O)).symm
   exact bp O
 have:k=D.length:=O
 subst this;rw[cT] at b;exact(fC.2 b).symm
theorem VC(w:d.length<=1100000)(y:1100000<n):CC n d=some (oF d):=by
 unfold CC;refine aa.eq (aa.loop (λx:Int=> ∃i:Nat,x=i/\i<=d.length/\ ∀j,j<i->d.getD j 0=0) (λx=>d.length-x.toNat) ?_ n _ ⟨0,rfl,O,λj a=>bt a (qI _)⟩ O);rintro e z ⟨i,rfl,A,l⟩ p;have m: ∀j (a:j<d.length),j<i->d[j]=0:=λj a b=>by
  have:=l j b
  rwa [ek,bg a] at this
 refine aR (λc=>?_) λq=>aa.some ?_
 ·have c:i<d.length:=O
  have o:=bg c;refine ag (a' o) (dZ (λh=>aa.some ?_) λr=>?_)
  ·have:kL d=some i:=by
    unfold kL;rw[Jx];exact⟨c,by simp[h],λj a=>by simp[m j O a]⟩
   unfold oF;rw[this]
  rw[bf O];refine p _ ⟨i+1,O,O,λj a=>?_⟩ O;by_cases b:j=i
  ·subst b;rw[ek,o];exact r
  exact l j O
 have:kL d=none:=by
  unfold kL;rw[List.findIdx?_eq_none_iff];intro x s;obtain⟨j,a⟩:=iQ.1 s;obtain⟨k,rfl⟩:=bM.1 a;simp[m j k O]
 unfold oF;rw[this]
theorem Md(e:d.length<=1100000)(i:1100000<n):vY n d=some (gW d):=by
 unfold vY;refine aa.eq (ag (VC e i) (aa.aI (λz:Bool=>z=gW d) (λj b=>?_) λz k=>aa.some k));unfold oF gW at*;cases a:kL d with
 |none=>
  rw[a] at b;exact aR (λ_=>b _ rfl) (λh=>bt (show(-1:Int)<0 by omega) h)
 |some t=>
  rw[a] at b;obtain⟨l,m⟩:=OB a;have c:=bg l;have o:d.getD t 0=d[t]:=by rw[ek,c];rfl
  refine aR (λh=>bt h (show¬(t:Int)<0 by omega)) λ_=>ag (a' c) (b _ ?_);exact decide_eq_decide.2 ⟨λh=>O,λh=>O⟩
def ml(k:Nat)(a:az):az:=⟨(a.aU.set k (a.aU.getD (k+1) 0)).set (k+1) (a.aU.getD k 0),a.const⟩
def pc(k:Nat)(d:List Int):List Int:=(d.set k (d.getD (k+1) 0)).set (k+1) (d.getD k 0)
theorem NF(k:Nat)(d:List Int):(pc k d).length=d.length:=by simp[pc]
theorem OO: ∀x,cN x=true->eR 4 (ml k x):=λx a=>by have:=(fx a).1;unfold eR ml;simp;omega
theorem d8(h:k<l.length)(z:a):l[k]? =some (l.getD k z):=by rw[ek,bg h];rfl
theorem NC(b:k+1<l.length)(i:l.length<=500000000)(z:a){K:List a->Option R}(d:aa (K ((l.set k (l.getD (k+1) z)).set (k+1) (l.getD k z))) Q):
  aa (Option.bind (av l (wr ((k:Int)+1))) λe=>Option.bind (av l (k:Int)) λh=>Option.bind (ca l (k:Int) e) λc=>Option.bind (av c (wr ((k:Int)+1))) λm=>Option.bind (ca c (wr ((k:Int)+1)) h) K) Q:=by rw[bf (n:=(k:Int)+1) O,show(k:Int)+1=((k+1:Nat):Int) by omega];refine ag (a' (d8 b z)) (ag (a' (d8 O z)) (ag (dS O _) ?_));rw[cV];refine ag (a' (d8 (l:=l.set k (l.getD (k+1) z)) (k:=k+1) (by simpa using b) z)) (ag (dS (by rw[fE];omega) _) ?_);rw[cV];exact d
theorem aaI(a:k+1<d.length)(b:d.length<=1100000):uA n d (k:Int)=some (pc k d):=by unfold uA;exact aa.eq (NC a O 0 (aa.some rfl))
theorem aaH(n:Nat)(b:k+1<4): ∀x,cN x=true->uk n x (k:Int)=some (ml k x):=λx a=>by have c:=(fx a).1;unfold uk;refine aa.eq (ag (zh n x a) (NC O O 0 (aa.some rfl)))
theorem acd(n:Nat)(c:k+1<4): ∀x,cN x=true->jb n x 0 (k:Int) ⟨[],0⟩=some (ml k x):=λx a=>by have d:=(fx a).1;unfold jb;refine aa.eq (aR (λ_=>ag (x:=ml k x) ?_ (aa.some rfl)) λh=>bt rfl h);unfold FO;have b:p2 n x=some x:=DY n O;rw[bf (n:=(k:Int)+1) O,show(k:Int)+1=((k+1:Nat):Int) by omega];refine aa.eq (ag b (ag (a' (d8 O 0)) (ag (a' (d8 O 0)) (ag (dS O _) (ag (a' (d8 O 0)) ?_)))));rw[cV];refine ag (a' (d8 (l:=x.aU.set k (x.aU.getD (k+1) 0)) (k:=k+1) bX 0)) (ag (dS (by rw[fE];omega) _) ?_);rw[cV];exact aa.some rfl
def mC(k:Nat)(a:az):Bool:= !decide (a.aU.getD k 0=0)
def tG(l:Loop)(k:Nat):Bool:=l.lo.any (mC k)||l.aD.any (mC k)
theorem Wk(o:5500000<=n){l:Loop}(d:j1 l)(p:k<4):Dq n l (k:Int)=some (tG l k):=by
 obtain⟨⟨q,e⟩,r,i⟩:=d;have b: ∀x,cN x=true->p6 n x (k:Int)=some (mC k x):=λx a=>by
  have:=(fx a).1;unfold p6;exact aa.eq (ag (a' (d8 O 0)) (aa.some rfl))
 unfold Dq tG;refine aa.eq (aa.aI (λz=>z=(l.lo.any (mC k)||l.aD.any (mC k))) (λj c=>?_) λz m=>aa.some m);refine ag (xQ (λx a=>b x (e x a)) O O) (aa.cond (λh=>c _ (by rw[h];rfl)) λh=>ag (xQ (λx a=>b x (i x a)) O O) (c _ (by rw[h];rfl)))
theorem Nr{f:a->Bool}(h:l[i]? =some x):(l.take (i+1)).any f=((l.take i).any f||f x):=by rw[dV,h,sK];simp
theorem Vy(w:5500000<=n){l:Loop}(p:j1 l)(y:k<4):Ad n l (k:Int)=some (tG l k):=by
 obtain⟨⟨A,q⟩,B,r⟩:=p;unfold Ad tG;refine aa.eq (aa.loop (λx:Int=> ∃i:Nat,x=i/\i<=l.lo.length/\(l.lo.take i).any (mC k)=false) (λx=>l.lo.length-x.toNat) ?_ n _ ⟨0,rfl,O,rfl⟩ O);rintro b z ⟨i,rfl,s,c⟩ h;refine aR (λa=>?_) λm=>?_
 ·have a:i<l.lo.length:=O
  have e:=bg a
  have:=(fx (q _ (ft a))).1;refine ag (a' e) (ag (a' (d8 O 0)) (dZ (λd=>aa.some ?_) λo=>?_))
  ·rw[hV.2 ⟨_,ft a,by unfold mC;simpa using d⟩];rfl
  rw[bf O];exact h _ ⟨i+1,O,O,by rw[Nr e,c];unfold mC;simpa using o⟩ O
 have:i=l.lo.length:=O
 subst this;rw[cT] at c;rw[c,Bool.false_or];clear h;refine aa.loop (λx:Int=> ∃i:Nat,x=i/\i<=l.aD.length/\(l.aD.take i).any (mC k)=false) (λx=>l.aD.length-x.toNat) ?_ n _ ⟨0,rfl,O,rfl⟩ O;rintro b z ⟨i,rfl,s,c⟩ h;refine aR (λa=>?_) λm=>aa.some ?_
 ·have a:i<l.aD.length:=O
  have e:=bg a
  have:=(fx (r _ (ft a))).1;refine ag (a' e) (ag (a' (d8 O 0)) (dZ (λd=>aa.some ?_) λo=>?_))
  ·rw[hV.2 ⟨_,ft a,by unfold mC;simpa using d⟩]
  rw[bf O];exact h _ ⟨i+1,O,O,by rw[Nr e,c];unfold mC;simpa using o⟩ O
 have:i=l.aD.length:=O
 subst this;rw[cT] at c;exact c.symm
def jl(k:Nat)(l:List Loop):List Loop:=(l.set k (l.getD (k+1) ⟨[],[]⟩)).set (k+1) (l.getD k ⟨[],[]⟩)
theorem wC(k:Nat)(l:List Loop):(jl k l).length=l.length:=by simp[jl]
def vk(k:Nat)(P:Part):Part:=⟨(jl k P.nest).take (k+2)++((jl k P.nest).drop (k+2)).map (dW (ml k)),P.body.map (hZ (ml k))⟩
def pS(p:Prog)(i k:Nat)(P:Part):Bool:= !tG (P.nest.getD (k+1) ⟨[],[]⟩) k&&(i' p i).all λd=>gW (pc k d)
def mz(p:Prog)(a b:Int):Prog×Bool:=
 if cO p a b=true/\cO p a (b+1)=true then
  match av p.parts a with
  |some P=>if pS p a.toNat b.toNat P=true then hr ⟨p.aY,p.parts.set a.toNat (vk b.toNat P)⟩ else d'
  |none=>d'
 else d'
theorem Gb{l:List Loop}(b:k+1<l.length){y:Loop}(a:y∈jl k l):y∈l:=by
 unfold jl at a;rcases qM a with h|h
 ·rcases qM h with h|h
  ·exact h
  rw[h];exact bC (d8 b _)
 rw[h];exact bC (d8 O _)
theorem Pw(b:eh r P=true)(d:k+1<P.nest.length):hB 4 (vk k P):=by
 obtain⟨m,e⟩:=f5 b;obtain⟨_,h,i,_⟩:=fX b;refine⟨⟨by simp only[vk,List.length_append,List.length_map,List.length_take,List.length_drop,wC];omega,λy a=>?_⟩,by simp only[vk,List.length_map];exact h.2,λs l=>?_⟩
 ·rcases ef.1 a with a|a
  ·exact(tl b).1.2 y (Gb d (fU a))
  obtain⟨z,c,rfl⟩:=et.1 a;exact wG OO (e z (Gb d (eV c)))
 obtain⟨z,c,rfl⟩:=et.1 l;exact AV OO (i z c)
theorem NP(b:p.parts[i]? =some P)(h:cO p (i:Int) ((k:Int)+1)=true):k+1<P.nest.length:=by
 obtain⟨_,c,d,e,l,m,n,a,_,_,o,_⟩:=jK h
 have:c=i:=O
 subst this;rw[b] at a;cases a;omega
theorem NI(a:cO p (i:Int) (k:Int)=true)(b:cO p (i:Int) ((k:Int)+1)=true)(c:p.parts[i]? =some P):mz p i k=if pS p i k P=true then hr ⟨p.aY,p.parts.set i (vk k P)⟩ else d':=by unfold mz;rw[aW ⟨a,b⟩,a' c];simp only[Int.toNat_natCast]
theorem aaL(H:22000000<=n)(w:dK 1100000 p)(a b:Int):Cv n p a b=some (mz p a b):=by
 unfold Cv;by_cases c:b= -1
 ·subst c;unfold mz;rw[aT λh=>by rw[qv O] at h;cases h.1];exact aa.eq (gA (zy O w a) λj K=>aa.cond (λ_=>aR (λ_=>aa.some rfl) λh=>bt (show(-1:Int)<0 by omega) h) λ_=>aa.some rfl)
 refine aa.eq (ag (wm O w a b c) ?_);by_cases e:cO p a b=true
 ·rw[aW e];refine bY (aR (λh=>by rw[qv h] at e;cases e) λt=>?_);obtain⟨x,i,k,P,l,rfl,rfl,m,u,v,L,o,E⟩:=jK e;obtain⟨K,D⟩:=f5 o;obtain⟨_,Q,R,_⟩:=fX o;refine ag (a' m) ?_;rw[bf (n:=(k:Int)+1) O,bf (n:=(k:Int)+2) O];refine aR (λW=>aa.some ?_) λX=>?_
  ·unfold mz;rw[aT λh=>by have:=NP m h.2;omega];rfl
  have q:k+1<P.nest.length:=O
  have z:cO p (i:Int) ((k:Int)+1)=true:=by
   unfold cO;rw[x,a' m];exact bp O
  rw[NI e z m];have G:=d8 q (⟨[],[]⟩:Loop);rw[show(k:Int)+1=((k+1:Nat):Int) by omega];refine ag (a' G) (ag (Wk O (D _ (bC G)) O) (aa.cond (λA=>aa.some ?_) λA=>?_))
  ·rw[aT (by unfold pS;rw[A];simp)];rfl
  refine ag (LQ H w.sm x m (F:=λB=>uA n B (k:Int)) (f:=pc k) (λd r=>aaI (by have:=(sE x m r).1;omega) (by have:=(sE x m r).1;omega)) (NF k)) (aa.cond (λr=>?_) λr=>aa.some ?_)
  ·rw[aW (by unfold pS;rw[A,r];rfl)];refine ag (a' (d8 O (⟨[],[]⟩:Loop))) (ag (dS O _) (ag (dS (by rw[fE];omega) _) (ag (dS Z _) ?_)));rw[cV,cV,cV];have C:=m7 (n:=n) O (nest:=jl k P.nest) (body:=P.body) (s:=k+2) (by rw[wC];omega) (by rw[wC];omega) (λy g=>D y (Gb q (eV g))) Q.2 R (F:=λB=>uk n B (k:Int)) (aaH n O);rw[show(k:Int)+2=((k+2:Nat):Int) by omega];refine ag C (ag (dS bX _) ?_);rw[cV,List.set_set];exact ag (qk O (wV w i (Pw o q))) (aa.some rfl)
  rw[aT (by unfold pS;rw[r];simp)];rfl
 unfold mz;rw[aT e,aT λh=>e h.1];exact bS (aa.some rfl)
theorem ND{a b:List Loop}(c:k+1<a.length):jl k (a++b)=jl k a++b:=by
 have d:(a++b).getD (k+1) ⟨[],[]⟩=a.getD (k+1) ⟨[],[]⟩:=by rw[ek,ek,iu c]
 have e:(a++b).getD k ⟨[],[]⟩=a.getD k ⟨[],[]⟩:=by rw[ek,ek,iu O]
 unfold jl;rw[d,e,List.set_append_left _ _ O,List.set_append_left _ _ (by rw[fE];exact c)]
theorem aae{l:List Loop}(c:k+1<l.length):jl k (l.take (k+2))=(jl k l).take (k+2):=by have h:=ND (k:=k) (a:=l.take (k+2)) (b:=l.drop (k+2)) (by rw[cq];omega);rw[qN] at h;rw[h,ng (by rw[wC,cq];omega)];exact(fG (by rw[wC,cq];omega)).symm
theorem aaf{l:List Loop}:(jl k l).drop (k+2)=l.drop (k+2):=by unfold jl;rw[pj O,pj O]
theorem adr(a:k+1<P.nest.length)(r:List Loop):jl k (P.nest.take (k+2)++r)=(jl k P.nest).take (k+2)++r:=by rw[ND (by rw[cq];omega),aae a]
theorem aap(T:22000000<=n)(q:dK 1100000 p)(a c:Int):Cr n p a c=some (mz p a c):=by
 unfold Cr;by_cases F:cO p a c=true;rotate_left
 ·unfold mz;rw[aT λh=>F h.1];refine aa.eq (ag (kA O q) (aa.aI (λz=>z=true) (λj H=>ag (mf O q a c) (aa.cond (λ_=>H _ rfl) λh=>bt (by simpa using h) F)) λz K=>by rw[K];exact bY (aa.some rfl)))
 obtain⟨X,i,k,P,l,rfl,rfl,L,b9,U,V,y,hk⟩:=jK F;obtain⟨Y,M⟩:=f5 y;obtain⟨_,h4,h5,_⟩:=fX y;rw[bf (n:=(k:Int)+1) O];by_cases e:cO p (i:Int) ((k:Int)+1)=true;rotate_left
 ·unfold mz;rw[aT λh=>e h.2];refine aa.eq (ag (kA O q) (aa.aI (λz=>z=true) (λj H=>ag (mf O q _ _) (aa.cond (λh=>by rw[F] at h;cases h) λ_=>ag (mf O q _ _) (aa.cond (λ_=>H _ rfl) λh=>bt (by simpa using h) e))) λz K=>by rw[K];exact bY (aa.some rfl)))
 rw[NI F e L];have B:=NP L e;have N:=d8 B (⟨[],[]⟩:Loop);refine aa.eq (ag (kA O q) (aa.aI (λz=>z=tG (P.nest.getD (k+1) ⟨[],[]⟩) k) (λj H=>?_) λz K=>?_))
 ·refine ag (mf O q _ _) (aa.cond (λh=>by rw[F] at h;cases h) λ_=>ag (mf O q _ _) (aa.cond (λh=>by rw[e] at h;cases h) λ_=>ag (a' L) ?_));rw[show(k:Int)+1=((k+1:Nat):Int) by omega];exact ag (a' N) (ag (Vy O (M _ (bC N)) O) (H _ rfl))
 subst K;refine aa.cond (λg=>aa.some ?_) λg=>?_
 ·rw[aT (by unfold pS;rw[g];simp)];rfl
 refine ag (x:=i' p i) (Lt T q.sm X _) ?_;have Q:=GP X (i:=i);have R:=λd G=>(sE X L (d:=d) G).1;have t:pS p i k P=(i' p i).all (λd=>gW (pc k d)):=by unfold pS;rw[g];rfl
 rw[t];generalize i' p i=D at Q R;refine aa.loop (λx:Int=> ∃m:Nat,x=m/\m<=D.length/\ ∀d∈D.take m,gW (pc k d)=true) (λx=>D.length-x.toNat) ?_ n _ ⟨0,rfl,O,λd G=>by simp at G⟩ O;rintro u z ⟨m,rfl,hm,o⟩ bO;refine aR (λC=>?_) λiI=>?_
 ·have C:m<D.length:=O
  have S:=bg C;have r:=ft C;have mQ:=R _ r;rw[show(k:Int)+1=((k+1:Nat):Int) by omega];refine ag (a' S) (ag (cW bX) (ag (a' (d8 O 0)) (ag (x:=D[m].getD k 0) (a' (d8 (l:=D[m]) O 0)) (ag (dS (by rw[qJ];omega) _) (ag (a' (d8 O 0)) ?_)))));rw[qJ,cV];refine ag (a' (d8 (l:=D[m].set k (D[m].getD (k+1) 0)) (k:=k+1) bX 0)) (ag (dS (by rw[fE];omega) _) ?_);rw[cV];refine ag (x:=gW (pc k D[m])) (Md (d:=pc k D[m]) (by rw[NF];omega) O) (aa.cond (λh=>aa.some ?_) λh=>?_)
  ·rw[aT λW=>?_]
   ·rfl
   have:=fC.1 W _ r;rw[this] at h;cases h
  rw[bf O];refine bO _ ⟨m+1,O,O,λd G=>?_⟩ O;rw[dV,S] at G;rcases ef.1 G with E|E
  ·exact o d E
  have:d=D[m]:=by simpa using E
  subst this;simpa using h
 have:m=D.length:=O
 subst this;rw[cT] at o;rw[aW (fC.2 o)];have I:=DQ (n:=n) O (x:=P) (s:=k+1) O Y M h4.2 h5 (way:=0) (v:=(k:Int)) (b:=⟨[],0⟩) (f:=ml k) λn _ x hx=>acd n O x hx;rw[show(k:Int)+1=((k+1:Nat):Int) by omega];refine ag (a' L) (ag I ?_);have lh:(P.nest.take (k+2)++(P.nest.drop (k+2)).map (dW (ml k))).length=P.nest.length:=by rw[cP,dj,cq,eX];omega
 have w:=adr B ((P.nest.drop (k+2)).map (dW (ml k)));rw[show k+1+1=k+2 by omega];dsimp only;generalize P.nest.take (k+2)++(P.nest.drop (k+2)).map (dW (ml k))=A at lh w;refine ag (a' (d8 O (⟨[],[]⟩:Loop))) (ag (a' (d8 O (⟨[],[]⟩:Loop))) (ag (dS O _) ?_));rw[cV];refine ag (a' (d8 (l:=A.set k (A.getD (k+1) ⟨[],[]⟩)) (k:=k+1) (by rw[fE];omega) (⟨[],[]⟩:Loop))) (ag (dS (by rw[fE];omega) _) ?_);rw[cV];have mP:(⟨(A.set k (A.getD (k+1) ⟨[],[]⟩)).set (k+1) (A.getD k ⟨[],[]⟩),P.body.map (hZ (ml k))⟩:Part)=vk k P:=by
  have:(A.set k (A.getD (k+1) ⟨[],[]⟩)).set (k+1) (A.getD k ⟨[],[]⟩)=jl k A:=rfl;rw[this,w,<-aaf];rfl
 rw[mP];exact ag (wq O q U ((Pw y B).mono O)) (aa.some rfl)
def mB(k:Nat)(c:Int):az:=⟨[0,0,0,0].set k (-1),c⟩
def pQ(k:Nat)(c:Int)(x:az):az:=tV x k (mB k c)
def k2(k:Nat)(d:List Int):List Int:=d.set k (0-d.getD k 0)
def mA(l:Loop):Int:=da l.lo+da l.aD-1
def w5(k:Nat)(c:Int)(P:Part):Part:=⟨P.nest.take (k+1)++(P.nest.drop (k+1)).map (dW (pQ k c)),P.body.map (hZ (pQ k c))⟩
def rm(p:Prog)(i k:Nat)(l:Loop):Bool:=eE l&&(i' p i).all λd=>gW (k2 k d)
def oE(p:Prog)(a b:Int):Prog×Bool:=
 if cO p a b=true then
  match av p.parts a with
  |some P=>match av P.nest b with
   |some l=>if rm p a.toNat b.toNat l=true then hr ⟨p.aY,p.parts.set a.toNat (w5 b.toNat (mA l) P)⟩ else d'
   |none=>d'
  |none=>d'
 else d'
theorem MU(k:Nat)(d:List Int):(k2 k d).length=d.length:=by simp[k2]
theorem Oa{l:Loop}(h:cO p (i:Int) (k:Int)=true)(a:p.parts[i]? =some P)(b:P.nest[k]? =some l):oE p i k=if rm p i k l=true then hr ⟨p.aY,p.parts.set i (w5 k (mA l) P)⟩ else d':=by unfold oE;rw[aW h,a' a];dsimp only;rw[a' b];simp only[Int.toNat_natCast]
theorem Ob(b:k<4)(a:cB 999 c):eZ 1000 (mB k c):=by unfold cB at a;rcases(O:k=0\/k=1\/k=2\/k=3) with rfl|rfl|rfl|rfl<;>(unfold eZ cB mB;simp;omega)
theorem Oc(k:Nat)(c:Int): ∀x,cN x=true->eR 4 (pQ k c x):=λx a=>by have:=O5 ⟨x.aU.set k 0,x.const⟩ (mB k c) (x.aU.getD k 0) (by dsimp only;rw[fE];exact(fx a).1) (by simp[mB]);unfold eR pQ tV;omega
theorem tq{l:List az}(h: ∀x∈l,cN x=true):cB 99 (da l):=by
 unfold da;cases l with
 |nil=>unfold cB;simp
 |cons x t=>exact(fx (h x eH)).2.1
theorem GS{l:Loop}(h:j1 l):cB 999 (mA l):=by have a:=tq h.1.2;have b:=tq h.2.2;unfold cB at*;unfold mA;omega
theorem Yw(n:Nat)(a:k<d.length)(b: ∀x∈d,cB 99999 x):ui n d (k:Int)=some (k2 k d):=by have e:=d8 a (0:Int);have aV:=b _ (bC e);unfold cB at aV;unfold ui;refine aa.eq (ag (a' e) ?_);rw[bf O];refine ag (dS O _) (aa.some ?_);rw[cV];rfl
theorem aa'(n:Nat)(a:k<4):mO n (k:Int) (-1)=some ⟨[0,0,0,0].set k (-1),0⟩:=by rcases(O:k=0\/k=1\/k=2\/k=3) with rfl|rfl|rfl|rfl<;>rfl
theorem Yv(b:5500000<=n)(a:k<4)(d:cB 999 c): ∀x,cN x=true->uh n x (k:Int) (mB k c)=some (pQ k c x):=λx e=>by unfold uh;rw[Ez b ((nd e).mono O) (Ob a d) a];rfl
theorem aam(a:k<4)(b:cB 999 c): ∀n,5500000<=n-> ∀x,cN x=true->jb n x 1 (k:Int) (mB k c)=some (pQ k c x):=λn d x e=>by unfold jb;rw[Lq d ((nd e).mono O) (Ob a b) a];rfl
theorem ads(a:5500000<=n)(b:k<4)(d:cB 999 c):jz n ⟨[0,0,0,0],c⟩ 1 (gD k) (-1)=some (mB k c):=by unfold cB at d;rw[sA a (by unfold eZ cB;simp;omega) ((sU b).mono O) ⟨O,O⟩ ⟨O,O⟩];rcases(O:k=0\/k=1\/k=2\/k=3) with rfl|rfl|rfl|rfl<;>simp[nC,gD,mB]
theorem OG(b:eh r P=true)(m:k<P.nest.length)(c:Int):hB 4 (w5 k c P):=by
 obtain⟨n,e⟩:=f5 b;obtain⟨_,h,i,_⟩:=fX b;refine⟨⟨by simp only[w5,List.length_append,List.length_map,List.length_take,List.length_drop];omega,λy a=>?_⟩,by simp only[w5,List.length_map];exact h.2,λs l=>?_⟩
 ·rcases ef.1 a with a|a
  ·exact(tl b).1.2 y (fU a)
  obtain⟨z,d,rfl⟩:=et.1 a;exact wG (Oc k c) (e z (eV d))
 obtain⟨z,d,rfl⟩:=et.1 l;exact AV (Oc k c) (i z d)
theorem aaM(X:22000000<=n)(w:dK 1100000 p)(a b:Int):Cu n p a b=some (oE p a b):=by
 unfold Cu;by_cases e:b= -1
 ·subst e;unfold oE;rw[aT λh=>by rw[qv O] at h;cases h];exact aa.eq (gA (zy O w a) λv Q=>aa.cond (λ_=>aR (λ_=>aa.some rfl) λh=>bt (show(-1:Int)<0 by omega) h) λ_=>aa.some rfl)
 refine aa.eq (ag (wm O w a b e) ?_);by_cases m:cO p a b=true
 ·rw[aW m];refine bY (aR (λh=>by rw[qv h] at m;cases m) λE=>?_);obtain⟨z,i,k,P,l,rfl,rfl,r,A,I,B,o,R⟩:=jK m;obtain⟨Q,W⟩:=f5 o;obtain⟨_,g,j,_⟩:=fX o;have c:=W l (bC A);rw[Oa m r A];refine ag (a' r) (ag (a' A) (ag (F3 O c) ?_));cases C:eE l with
  |false=>exact bS (aa.some (by rw[aT (by unfold rm;rw[C];simp)];rfl))
  |true=>
   refine bY (ag (LQ X w.sm z r (F:=λD=>ui n D (k:Int)) (f:=k2 k) (λd q=>Yw n (by have:=(sE z r q).1;omega) (sE z r q).2) (MU k)) (aa.cond (λq=>?_) λq=>aa.some ?_))
   ·rw[show rm p i k l=true by unfold rm;rw[C,q];rfl];refine ag (aa' n R) ?_;have bB:=GS c;have G:=tq c.1.2;have H:=tq c.2.2;unfold cB at G H;have K:(⟨([0,0,0,0]:List Int).set k (-1),wr ((wr (da l.lo+da l.aD))-1)⟩:az)=mB k (mA l):=by
     rw[bf (n:=da l.lo+da l.aD) O,bf O];rfl
    rw[bf (n:=(k:Int)+1) O];have L:=m7 (n:=n) O (nest:=P.nest) (body:=P.body) (s:=k+1) O Q (λy t=>W y (eV t)) g.2 j (F:=λD=>uh n D (k:Int) (⟨([0,0,0,0]:List Int).set k (-1),wr ((wr (da l.lo+da l.aD))-1)⟩:az)) (f:=pQ k (mA l)) λx u=>by rw[K];exact Yv O R bB x u
    rw[show(k:Int)+1=((k+1:Nat):Int) by omega];refine ag L (ag (dS Z _) ?_);rw[cV];exact ag (qk O (wV w i (OG o B (mA l)))) (aa.some rfl)
   rw[aT (by unfold rm;rw[C,q];simp)];rfl
 unfold oE;rw[aT m,aT m];exact bS (aa.some rfl)
theorem aaq(N:22000000<=n)(B:dK 1100000 p)(c e:Int):Cq n p c e=some (oE p c e):=by
 unfold Cq;refine aa.eq (ag (kA O B) (ag (mf O B c e) ?_));by_cases aV:cO p c e=true;rotate_left
 ·unfold oE;rw[aT aV,show cO p c e=false by simpa using aV];exact bY (aa.some rfl)
 rw[aV];refine bS ?_;obtain⟨F,i,k,P,l,rfl,rfl,G,H,S,K,o,L⟩:=jK aV;obtain⟨T,E⟩:=f5 o;obtain⟨_,U,V,_⟩:=fX o;have h:=E l (bC H);rw[Oa aV G H];refine ag (a' G) (ag (a' H) (ag (Fs O h) (ag (x:=i' p i) (Lt N B.sm F _) ?_)));have r:=GP F (i:=i);have w:=λd Y=>sE F G (d:=d) Y;have Q:rm p i k l=(eE l&&(i' p i).all λd=>gW (k2 k d)):=rfl;rw[Q];have h3:(if eE l=true then(da l.lo,da l.aD,true) else((0:Int),(0:Int),false)).2.2=eE l:=by cases eE l<;>rfl
 generalize i' p i=D at r w;refine aa.loop (λx:Bool×Int=> ∃m:Nat,x.2=m/\m<=D.length/\x.1=(eE l&&(D.take m).all λd=>gW (k2 k d))) (λx=>D.length-x.2.toNat) ?_ n _ ⟨0,rfl,O,by dsimp only;rw[h3,List.take_zero];simp⟩ Z;rintro R ⟨ok,z⟩ ⟨m,C,hm,a⟩ bO;dsimp only at C a⊢;subst C;refine aR (λq=>?_) λiI=>?_
 ·have q:m<D.length:=O
  have I:=bg q;obtain⟨g1,g2⟩:=w _ (ft q);have M:=d8 (l:=D[m]) (k:=k) O 0;have aV:=g2 _ (bC M);unfold cB at aV;refine aa.aI (λz=>z.2=(eE l&&(D.take (m+1)).all λd=>gW (k2 k d))) (λj W=>?_) λz C=>?_
  ·refine ag (a' I) (ag (cW bX) ?_);rw[qJ];refine ag (a' M) ?_;rw[bf O];refine ag (dS O _) ?_;rw[cV];have y:(D.take (m+1)).all (λd=>gW (k2 k d))=((D.take m).all (λd=>gW (k2 k d))&&gW (k2 k D[m])):=by
    rw[dV,I,List.all_append];simp
   rw[y,<-lG,<-a] at W;cases ok with
   |true=>exact bY (ag (x:=gW (k2 k D[m])) (Md (d:=k2 k D[m]) (by rw[MU];omega) O) (W _ (by rw[eW])))
   |false=>exact bS (W _ (by rw[vu]))
  rw[bf O];exact bO _ ⟨m+1,Z,O,C⟩ Z
 have:m=D.length:=O
 subst this;rw[cT] at a;rw[<-a];cases A:ok with
 |false=>exact bY (aa.some (by rw[aT a1];rfl))
 |true=>
  rw[aW rfl];have X:eE l=true:=by
   rw[A] at a;cases X:eE l with
   |true=>rfl
   |false=>rw[X] at a;cases a
  have g:=tq h.1.2;have t:=tq h.2.2;unfold cB at g t;have u:wr ((wr ((if eE l=true then(da l.lo,da l.aD,true) else((0:Int),(0:Int),false)).1+(if eE l=true then(da l.lo,da l.aD,true) else((0:Int),(0:Int),false)).2.1))-1)=mA l:=by
   rw[aW X];dsimp only;rw[bf (n:=da l.lo+da l.aD) O,bf O];rfl
  rw[u];refine bS (ag (mW n _) (ag (Ac n L) (ag (ads O L (GS h)) (ag (DQ (n:=n) O (x:=P) (s:=k) O T E U.2 V (way:=1) (v:=(k:Int)) (b:=mB k (mA l)) (f:=pQ k (mA l)) (aam L (GS h))) ?_))));exact ag (wq O B S ((OG o K (mA l)).mono O)) (aa.some rfl)
end
section
def kf(p:Prog)(j:Nat):Nat:=match p.parts[j]? with
 |some x=>x.nest.length
 |none=>0
def pY(i m:Nat):List Step:=(List.range m).map λk:Nat=>⟨1,i,k,0⟩
def tZ(i m:Nat):List Step:=(List.range m).map λk:Nat=>⟨2,i,k,0⟩
def PJ(p:Prog)(j:Nat):List Step:=pY j (kf p j-1)++tZ j (kf p j)
def jy(p:Prog)(i:Nat):List Step:=(List.range i).flatMap (PJ p)
def pZ(i:Nat):List Step:=(List.range i).flatMap λj:Nat=>[⟨6,j,0,0⟩,⟨9,j,0,0⟩]
def tY(i:Nat):List Step:=(List.range i).map λj:Nat=>⟨10,j,0,0⟩
def nD(p:Prog):List Step:=jy p p.parts.length++pZ (p.parts.length-1)++tY p.parts.length++[⟨11,0,0,0⟩]
variable {a:Type}{n i m:Nat}{xs:List Step}
theorem G9(f:Nat->a)(i:Nat):(List.range (i+1)).map f=(List.range i).map f++[f i]:=by rw[nj,gJ];rfl
theorem wY(f:Nat->List a)(i:Nat):(List.range (i+1)).flatMap f=(List.range i).flatMap f++f i:=by rw[nj,lE];simp
theorem A1(i m:Nat):(pY i m).length=m:=by simp[pY]
theorem OU(i m:Nat):(tZ i m).length=m:=by simp[tZ]
theorem G6(m:Nat):(tY m).length=m:=by simp[tY]
theorem wU: ∀(m:Nat),(pZ m).length=2*m
 |0=>rfl
 |m+1=>by rw[pZ,wY,cP,<-pZ,wU m];simp;omega
theorem wE{p:Prog}(h: ∀j,kf p j<=4): ∀(m:Nat),(jy p m).length<=8*m
 |0=>by simp[jy]
 |m+1=>by
  have:=wE h m
  have:=h m;rw[jy,wY,cP,<-jy,PJ,cP,A1,OU];omega
theorem tF{p:Prog}(h:bU p=true)(j:Nat):kf p j<=4:=by
 unfold kf;cases c:p.parts[j]? with
 |none=>simp
 |some x=>
  simp only[bU,iO,Bool.and_eq_true,decide_eq_true_eq,List.all_eq_true] at h;have b:=h.1.2.2 x (bC c);simp only[eh,Bool.and_eq_true] at b;have a:=b.1;unfold iX at a;split at a
  ·rename_i d
   have:=d.1;simp only[ke,Bool.and_eq_true,decide_eq_true_eq] at this;exact this.2
  cases a
theorem we{p:Prog}(h:bU p=true):p.parts.length<=4:=by simp only[bU,iO,Bool.and_eq_true,decide_eq_true_eq] at h;exact h.1.2.1
theorem Mi{a b:Int}(h: ¬a<b):b<=a:=Int.not_lt.1 h
section
variable {p:Prog}{R:Type}{Q:R->Prop}
theorem Pj(r:5500000<=n)(s:m<=4)(w:xs.length<=100){K:List Step->Option R}(h:aa (K (xs++pY i (m-1))) Q):
  aa (bc (λa (z:List Step×Int)=>bif decide (wr (z.2+1)<(m:Int)) then Option.bind (app z.1 [(⟨1,(i:Int),z.2,0⟩:Step)]) λb=>a (b,wr (z.2+1)) else K z.1) n (xs,0)) Q:=by
 refine aa.loop (λz:List Step×Int=> ∃k:Nat,z.2=k/\k<=m-1/\z.1=xs++pY i k) (λz=>m-z.2.toNat) ?_ n _ ⟨0,rfl,O,by simp[pY]⟩ Z;rintro a ⟨x,c⟩ ⟨k,d,y,e⟩ l;dsimp only at d e⊢;subst d e;rw[bf O];refine aR (λo=>ag (cW (by rw[cP,A1];simp;omega)) (l _ ⟨k+1,a1,O,?_⟩ Z)) λq=>?_
 ·dsimp only;rw[fs];congr 1;exact(G9 _ _).symm
 rw[show k=m-1 by omega];exact h
theorem Ph(s:5500000<=n)(w:m<=4)(y:xs.length<=100){K:List Step->Option R}(o:aa (K (xs++tZ i m)) Q):
  aa (bc (λa (z:List Step×Int)=>bif decide (z.2<(m:Int)) then Option.bind (app z.1 [(⟨2,(i:Int),z.2,0⟩:Step)]) λb=>a (b,wr (z.2+1)) else K z.1) n (xs,0)) Q:=by
 refine aa.loop (λz:List Step×Int=> ∃k:Nat,z.2=k/\k<=m/\z.1=xs++tZ i k) (λz=>m-z.2.toNat) ?_ n _ ⟨0,rfl,O,by simp[tZ]⟩ Z;rintro a ⟨x,c⟩ ⟨k,h,A,l⟩ q;dsimp only at h l⊢;subst h l;refine aR (λr=>ag (cW (by rw[cP,OU];simp;omega)) ?_) λd=>?_
 ·rw[bf O];refine q _ ⟨k+1,a1,O,?_⟩ Z;dsimp only;rw[fs];congr 1;exact(G9 _ _).symm
 have e:k=m:=by have:=Mi d;omega
 subst e;exact o
theorem adw(q:5500000<=n)(r:m<=4)(s:xs.length<=100){K:List Step->Option R}(h:aa (K (xs++pZ (m-1))) Q):
  aa (bc (λa (z:List Step×Int)=>bif decide (wr (z.2+1)<(m:Int)) then Option.bind (app z.1 [(⟨6,z.2,0,0⟩:Step),(⟨9,z.2,0,0⟩:Step)]) λb=>a (b,wr (z.2+1)) else K z.1) n (xs,0)) Q:=by
 refine aa.loop (λz:List Step×Int=> ∃k:Nat,z.2=k/\k<=m-1/\z.1=xs++pZ k) (λz=>m-z.2.toNat) ?_ n _ ⟨0,rfl,O,by simp[pZ]⟩ Z;rintro a ⟨x,c⟩ ⟨k,d,w,e⟩ i;dsimp only at d e⊢;subst d e;rw[bf O];refine aR (λl=>ag (cW (by rw[cP,wU];simp;omega)) (i _ ⟨k+1,a1,O,?_⟩ Z)) λo=>?_
 ·dsimp only;rw[fs];congr 1;exact(wY _ _).symm
 rw[show k=m-1 by omega];exact h
theorem adv(r:5500000<=n)(s:m<=4)(w:xs.length<=100){K:List Step->Option R}(l:aa (K (xs++tY m)) Q):
  aa (bc (λa (z:List Step×Int)=>bif decide (z.2<(m:Int)) then Option.bind (app z.1 [(⟨10,z.2,0,0⟩:Step)]) λb=>a (b,wr (z.2+1)) else K z.1) n (xs,0)) Q:=by
 refine aa.loop (λz:List Step×Int=> ∃k:Nat,z.2=k/\k<=m/\z.1=xs++tY k) (λz=>m-z.2.toNat) ?_ n _ ⟨0,rfl,O,by simp[tY]⟩ Z;rintro a ⟨x,c⟩ ⟨k,h,y,i⟩ o;dsimp only at h i⊢;subst h i;refine aR (λq=>ag (cW (by rw[cP,G6];simp;omega)) ?_) λd=>?_
 ·rw[bf O];refine o _ ⟨k+1,a1,O,?_⟩ Z;dsimp only;rw[fs];congr 1;exact(G9 _ _).symm
 have e:k=m:=by have:=Mi d;omega
 subst e;exact l
end
theorem Ny(m:5500000<=n){p:Prog}(o:bU p=true){Q:List Step->Prop}(r:Q (nD p)):
  aa (bc (λc ((k,h):(List Step)×Int)=>bif decide (wr (h+1)<(p.parts.length:Int)) then Option.bind (app k [(⟨6,h,0,0⟩:Step),(⟨9,h,0,0⟩:Step)]) λl=>c (l,wr (h+1)) else
   bc (λa ((d,b):(List Step)×Int)=>bif decide (b<(p.parts.length:Int)) then Option.bind (app d [(⟨10,b,0,0⟩:Step)]) λi=>a (i,wr (b+1)) else Option.bind (app d [(⟨11,0,0,0⟩:Step)]) λe=>some e) n (k,0)) n (jy p p.parts.length,0)) Q:=by have q:=we o;have b9:=wE (tF o) p.parts.length;refine adw m q (xs:=jy p p.parts.length) O (K:=λx=>bc (λa ((d,b):(List Step)×Int)=>bif decide (b<(p.parts.length:Int)) then Option.bind (app d [(⟨10,b,0,0⟩:Step)]) λi=>a (i,wr (b+1)) else Option.bind (app d [(⟨11,0,0,0⟩:Step)]) λe=>some e) n (x,0)) ?_;refine adv m q (xs:=jy p p.parts.length++pZ (p.parts.length-1)) (by rw[cP,wU];omega) (K:=λx=>Option.bind (app x [(⟨11,0,0,0⟩:Step)]) λe=>some e) ?_;exact ag (cW (by rw[cP,cP,wU,G6];simp;omega)) (aa.some r)
theorem Pd{p:Prog}{x:Part}(h:p.parts[i]? =some x):kf p i=x.nest.length:=by unfold kf;rw[h]
theorem St(y:7700000<=n){p:Prog}(A:g' p):Cc n p=some (if bU p=true then nD p else []):=by
 refine aa.eq ?_;unfold Cc;refine ag (rK y A) (aa.cond (λh=>aa.some ?_) λh=>?_)
 ·rw[aT (by simpa using h)]
 have k:bU p=true:=by simpa using h
 rw[aW k];have G:=we k;refine aa.loop (λz:List Step×Int=> ∃i:Nat,z.2=i/\i<=p.parts.length/\z.1=jy p i) (λz=>p.parts.length-z.2.toNat) ?_ n _ ⟨0,rfl,O,by simp[jy]⟩ Z;rintro a ⟨x,c⟩ ⟨i,q,H,r⟩ B;dsimp only at q r⊢;subst q r;have b9:=wE (tF k) i;refine aR (λC=>?_) λD=>?_
 ·have s:p.parts[i]? =some p.parts[i]:=bg O;refine ag (a' s) ?_;have l:=Pd s;have w:=tF k i;generalize p.parts[i]=L at l⊢;rw[<-l];refine Pj (n:=n) (i:=i) (m:=kf p i) (xs:=jy p i) O w O (K:=λF=>bc (λb ((d,e):(List Step)×Int)=>bif decide (e<(kf p i:Int)) then Option.bind (app d [(⟨2,(i:Int),e,0⟩:Step)]) λo=>b (o,wr (e+1)) else a (d,wr ((i:Int)+1))) n (F,0)) ?_;refine Ph (n:=n) (i:=i) (m:=kf p i) (xs:=jy p i++pY i (kf p i-1)) O w (by rw[cP,A1];omega) (K:=λd=>a (d,wr ((i:Int)+1))) ?_;rw[bf O];refine B _ ⟨i+1,a1,O,?_⟩ Z;dsimp only;rw[fs];exact(wY _ _).symm
 rw[show i=p.parts.length by omega];exact Ny O k rfl
theorem Ss(A:7700000<=n){p:Prog}(B:g' p):B7 n p=some (if bU p=true then nD p else []):=by
 refine aa.eq ?_;unfold B7;refine ag (jw A B) (aa.cond (λh=>aa.some ?_) λh=>?_)
 ·rw[aT (by simpa using h)]
 have k:bU p=true:=by simpa using h
 rw[aW k];have H:=we k;refine aa.loop (λz:List Step×Int=> ∃i:Nat,z.2=i/\i<=p.parts.length/\z.1=jy p i) (λz=>p.parts.length-z.2.toNat) ?_ n _ ⟨0,rfl,O,by simp[jy]⟩ Z;rintro a ⟨x,c⟩ ⟨i,r,L,s⟩ C;dsimp only at r s⊢;subst r s;have b9:=wE (tF k) i;refine aR (λD=>?_) λF=>?_
 ·have w:p.parts[i]? =some p.parts[i]:=bg O;have o:av p.parts (i:Int)=some p.parts[i]:=a' w;have l:=Pd w;have y:=tF k i;simp only[o,Option.bind_some];generalize p.parts[i]=W at l⊢;rw[<-l];refine Pj (n:=n) (i:=i) (m:=kf p i) (xs:=jy p i) O y O (K:=λG=>bc (λb ((d,e):(List Step)×Int)=>bif decide (e<(kf p i:Int)) then Option.bind (app d [(⟨2,(i:Int),e,0⟩:Step)]) λq=>b (q,wr (e+1)) else a (d,wr ((i:Int)+1))) n (G,0)) ?_;refine Ph (n:=n) (i:=i) (m:=kf p i) (xs:=jy p i++pY i (kf p i-1)) O y (by rw[cP,A1];omega) (K:=λd=>a (d,wr ((i:Int)+1))) ?_;rw[bf O];refine C _ ⟨i+1,a1,O,?_⟩ Z;dsimp only;rw[fs];exact(wY _ _).symm
 rw[show i=p.parts.length by omega];exact Ny O k rfl
theorem aas{p:Prog}(a:bU p=true):(nD p).length<=100/\0<(nD p).length:=by
 have b:=we a
 have:=wE (tF a) p.parts.length;unfold nD;simp only[List.length_append,wU,G6,List.length_cons,List.length_nil];omega
end
def lT(k:Int):Int:=if k=3\/k=4\/k=5 then 3 else if k=1\/k=2\/k=7\/k=8 then 2 else if k=6\/k=9\/k=10 then 1 else 0
def q6(s:Step):Bool:=decide (1<=s.kind/\s.kind<=11)&&((decide (0<lT s.kind)||decide (s.part=0))&&((decide (1<lT s.kind)||decide (s.a=0))&&(decide (2<lT s.kind)||decide (s.b=0))))
theorem Pl(k:Int):0<=lT k/\lT k<=3:=by
 unfold lT;split
 ·omega
 split
 ·omega
 split<;>omega
theorem VD(n:Nat)(k:Int):C6 n k=some (lT k):=by
 unfold C6 lT;refine aa.eq (aa.aI (λz=>z=decide (k=3\/k=4\/k=5)) (λj a=>aR (λh=>a _ ?_) λh=>aR (λb=>a _ ?_) λb=>a _ ?_) λz c=>?_)
 ·rw[fD];simp only[decide_eq_true_eq];omega
 ·rw[fD];simp only[decide_eq_true_eq];omega
 ·rw[fD];simp only[decide_eq_true_eq];omega
 subst c;by_cases d:k=3\/k=4\/k=5
 ·rw[aW d,bp d];exact bY (aa.some rfl)
 rw[aT d,bs d];refine bS (aa.aI (λz=>z=decide (k=1\/k=2\/k=7\/k=8)) (λj a=>aR (λh=>a _ ?_) λh=>aR (λb=>a _ ?_) λb=>aR (λl=>a _ ?_) λl=>a _ ?_) λz c=>?_)
 ·rw[fD];simp only[decide_eq_true_eq];omega
 ·rw[fD];simp only[decide_eq_true_eq];omega
 ·rw[fD];simp only[decide_eq_true_eq];omega
 ·rw[fD];simp only[decide_eq_true_eq];omega
 subst c;by_cases e:k=1\/k=2\/k=7\/k=8
 ·rw[aW e,bp e];exact bY (aa.some rfl)
 rw[aT e,bs e];refine bS (aa.aI (λz=>z=decide (k=6\/k=9\/k=10)) (λj a=>aR (λh=>a _ ?_) λh=>aR (λb=>a _ ?_) λb=>a _ ?_) λz c=>?_)
 ·rw[fD];simp only[decide_eq_true_eq];omega
 ·rw[fD];simp only[decide_eq_true_eq];omega
 ·rw[fD];simp only[decide_eq_true_eq];omega
 subst c;by_cases i:k=6\/k=9\/k=10
 ·rw[aW i,bp i];exact bY (aa.some rfl)
 rw[aT i,bs i];exact bS (aa.some rfl)
theorem Wm(n:Nat)(k:Int):z7 n k=some (if 1<=k/\k<=11 then lT k else-1):=by
 unfold z7 lT;refine aa.eq (aa.aI (λz=>z=decide (k=1\/k=2\/k=7\/k=8)) (λj a=>aR (λh=>a _ ?_) λh=>aR (λb=>a _ ?_) λb=>aR (λl=>a _ ?_) λl=>a _ ?_) λz c=>?_)
 ·rw[fD];simp only[decide_eq_true_eq];omega
 ·rw[fD];simp only[decide_eq_true_eq];omega
 ·rw[fD];simp only[decide_eq_true_eq];omega
 ·rw[fD];simp only[decide_eq_true_eq];omega
 subst c;by_cases d:k=1\/k=2\/k=7\/k=8
 ·rw[bp d,aW O,aT O,aW d];exact bY (aa.some rfl)
 rw[bs d];refine bS (aa.aI (λz=>z=decide (k=3\/k=4\/k=5)) (λj a=>aR (λh=>a _ ?_) λh=>aR (λb=>a _ ?_) λb=>a _ ?_) λz c=>?_)
 ·rw[fD];simp only[decide_eq_true_eq];omega
 ·rw[fD];simp only[decide_eq_true_eq];omega
 ·rw[fD];simp only[decide_eq_true_eq];omega
 subst c;by_cases e:k=3\/k=4\/k=5
 ·rw[bp e,aW O,aW e];exact bY (aa.some rfl)
 rw[bs e];refine bS (aa.aI (λz=>z=decide (k=6\/k=9\/k=10)) (λj a=>aR (λh=>a _ ?_) λh=>aR (λb=>a _ ?_) λb=>a _ ?_) λz c=>?_)
 ·rw[fD];simp only[decide_eq_true_eq];omega
 ·rw[fD];simp only[decide_eq_true_eq];omega
 ·rw[fD];simp only[decide_eq_true_eq];omega
 subst c;by_cases i:k=6\/k=9\/k=10
 ·rw[bp i,aW O,aT e,aT d,aW i];exact bY (aa.some rfl)
 rw[bs i];refine bS (aR (λh=>aa.some ?_) λh=>aa.some ?_)
 ·rw[aW O,aT e,aT d,aT i]
 rw[aT O]
theorem Wz(n:Nat)(s:Step):DF n s=some (q6 s):=by
 unfold DF q6;have B:=Pl s.kind;refine aa.eq (ag (VD n s.kind) ?_);generalize lT s.kind=f at*;refine aa.aI (λz=>z=(decide (1<=s.kind/\s.kind<=11)&&((decide (0<f)||decide (s.part=0))&&((decide (1<f)||decide (s.a=0))&&(decide (2<f)||decide (s.b=0)))))) (λj r=>?_) λz m=>aa.some m;have c: ∀z:Bool,(z=true↔((1<=s.kind/\s.kind<=11)/\(0<f\/s.part=0)/\(1<f\/s.a=0)/\(2<f\/s.b=0)))->aa (j z) (λx=>x=(decide (1<=s.kind/\s.kind<=11)&&((decide (0<f)||decide (s.part=0))&&((decide (1<f)||decide (s.a=0))&&(decide (2<f)||decide (s.b=0)))))):=λz m=>r z (by
  rw[fD,m];simp only[Bool.and_eq_true,Bool.or_eq_true,decide_eq_true_eq])
 have k:((1<=s.kind/\s.kind<=11)/\(0<f\/s.part=0)/\(1<f\/s.a=0)/\(2<f\/s.b=0))->aa (j true) _:=λh=>c true ⟨λ_=>h,λ_=>rfl⟩;have i: ¬((1<=s.kind/\s.kind<=11)/\(0<f\/s.part=0)/\(1<f\/s.a=0)/\(2<f\/s.b=0))->aa (j false) _:=λh=>c false ⟨λe=>(by cases e),λo=>bt o h⟩;have l:(1<=s.kind/\s.kind<=11)/\(0<f\/s.part=0)/\(1<f\/s.a=0)/\ ¬2<f->aa (j (decide (s.b=0))) _:=λh=>c _ (by rw[decide_eq_true_eq];exact⟨λe=>⟨h.1,h.2.1,h.2.2.1,.inr e⟩,λe=>e.2.2.2.resolve_left h.2.2.2⟩);refine aR (λw=>aR (λo=>aR (λy=>aR (λp=>aR (λd=>k O) λd=>l O) λp=>aR (λq=>aR (λd=>k O) λd=>l O) λq=>i O) λy=>aR (λA=>aR (λp=>aR (λd=>k O) λd=>l O) λp=>aR (λq=>aR (λd=>k O) λd=>l O) λq=>i O) λA=>i O) λo=>i O) λw=>i O
variable {n:Nat}{p:Prog}{s:Step}{R:Prog×Bool}
theorem Xa(i:10<=n)(s:Step):zm n s=some (q6 s):=by
 unfold zm q6;have k:=Pl s.kind;refine aa.eq (ag (Wm n s.kind) ?_);generalize lT s.kind=f at*;refine aa.aI (λz=>z=(decide (1<=s.kind/\s.kind<=11)&&((decide (0<f)||decide (s.part=0))&&((decide (1<f)||decide (s.a=0))&&(decide (2<f)||decide (s.b=0)))))) (λj c=>?_) λz e=>aa.some e;by_cases d:1<=s.kind/\s.kind<=11
 ·rw[aW d];rw[bp d] at c⊢;refine aR (λ_=>ag (show Ec n s=some [s.part,s.a,s.b] from rfl) (ag (gQ O bX a1) (ag (CQ (p:=λv=> !decide (v=0)) (λx _=>rfl) bX bX) (c _ ?_)))) λh=>bt h O;rw[show([s.part,s.a,s.b].length:Int).toNat=[s.part,s.a,s.b].length from rfl,cT];rcases(O:f=0\/f=1\/f=2\/f=3) with rfl|rfl|rfl|rfl
  ·simp[show(0:Int).toNat=0 from rfl]
  ·simp[show(1:Int).toNat=1 from rfl]
  ·simp[show(2:Int).toNat=2 from rfl]
  simp[show(3:Int).toNat=3 from rfl]
 rw[aT d];rw[bs d] at c⊢;exact aR (λh=>bt h (by decide)) λ_=>c _ rfl
noncomputable def jP(p:Prog)(s:Step):Prog×Bool:=
 if q6 s=true then
  (if s.kind=1 then mz p s.part s.a else if s.kind=2 then oE p s.part s.a else if s.kind=3 then tx p s.part s.a s.b else if s.kind=4 then tk p s.part s.a s.b
   else if s.kind=5 then pv p s.part s.a s.b else if s.kind=6 then tL p s.part else if s.kind=7 then tQ p s.part s.a else if s.kind=8 then pw p s.part s.a
   else if s.kind=9 then pM p s.part else if s.kind=10 then tP p s.part else tM p)
 else d'
def Hp(s:Step):Prop:= -1<=s.part/\s.part<=9
theorem YC(b:22000000<=n)(a:dK 1100000 p)(c:Hp s):Dt n p s=some (jP p s):=by
 unfold Dt jP;refine aa.eq (ag (Xa O s) ?_);cases d:q6 s with
 |false=>exact bY (aa.some rfl)
 |true=>
  rw[aW rfl];refine bS (aR (λh=>?_) λh=>?_)
  ·rw[aW h];exact ag (aaL b a _ _) (aa.some rfl)
  rw[aT h];refine aR (λh=>?_) λh=>?_
  ·rw[aW h];exact ag (aaM b a _ _) (aa.some rfl)
  rw[aT h];refine aR (λh=>?_) λh=>?_
  ·rw[aW h];exact ag (YD O a _ _ _) (aa.some rfl)
  rw[aT h];refine aR (λh=>?_) λh=>?_
  ·rw[aW h];exact ag (W' O a _ _ _) (aa.some rfl)
  rw[aT h];refine aR (λh=>?_) λh=>?_
  ·rw[aW h];exact ag (W8 O a _ _ _) (aa.some rfl)
  rw[aT h];refine aR (λh=>?_) λh=>?_
  ·rw[aW h];exact ag (YE b a c) (aa.some rfl)
  rw[aT h];refine aR (λh=>?_) λh=>?_
  ·rw[aW h];exact ag (Yc b a c) (aa.some rfl)
  rw[aT h];refine aR (λh=>?_) λh=>?_
  ·rw[aW h];exact ag (W9 b a _ _) (aa.some rfl)
  rw[aT h];refine aR (λh=>?_) λh=>?_
  ·rw[aW h];exact ag (YB O a c) (aa.some rfl)
  rw[aT h];refine aR (λh=>?_) λh=>?_
  ·rw[aW h];exact ag (Yb O a c) (aa.some rfl)
  rw[aT h];exact ag (S9 O a) (aa.some rfl)
theorem YR(b:22000000<=n)(a:dK 1100000 p)(c:Hp s):Dc n p s=some (jP p s):=by
 unfold Dc jP;refine aa.eq (ag (kA O a) (ag (Wz n s) ?_));cases d:q6 s with
 |false=>exact bY (aa.some rfl)
 |true=>
  rw[aW rfl];refine bS (aR (λh=>?_) λh=>?_)
  ·rw[aW h];exact ag (aap b a _ _) (aa.some rfl)
  rw[aT h];refine aR (λh=>?_) λh=>?_
  ·rw[aW h];exact ag (aaq b a _ _) (aa.some rfl)
  rw[aT h];refine aR (λh=>?_) λh=>?_
  ·rw[aW h];exact ag (YS O a _ _ _) (aa.some rfl)
  rw[aT h];refine aR (λh=>?_) λh=>?_
  ·rw[aW h];exact ag (Wy O a _ _ _) (aa.some rfl)
  rw[aT h];refine aR (λh=>?_) λh=>?_
  ·rw[aW h];exact ag (Wv O a _ _ _) (aa.some rfl)
  rw[aT h];refine aR (λh=>?_) λh=>?_
  ·rw[aW h];exact ag (YT b a c) (aa.some rfl)
  rw[aT h];refine aR (λh=>?_) λh=>?_
  ·rw[aW h];exact ag (YV b a c) (aa.some rfl)
  rw[aT h];refine aR (λh=>?_) λh=>?_
  ·rw[aW h];exact ag (Wx b a _ _) (aa.some rfl)
  rw[aT h];refine aR (λh=>?_) λh=>?_
  ·rw[aW h];exact ag (YQ O a c) (aa.some rfl)
  rw[aT h];refine aR (λh=>?_) λh=>?_
  ·rw[aW h];exact ag (YU O a c) (aa.some rfl)
  rw[aT h];exact ag (SQ O a) (aa.some rfl)
def oo(R:Prog×Bool):Prop:=(R.2=true/\bU R.1=true)\/R=d'
theorem fI:oo d':= .inr rfl
theorem so(q:Prog):oo (hr q):=by
 unfold hr;split
 ·rename_i h;exact .inl ⟨rfl,h⟩
 exact .inr rfl
theorem oo.PI(h:oo R):dK 1100000 R.1:=by
 rcases h with h|h
 ·exact(kZ h.2).mono O
 rw[h];exact acV
theorem oo.v(h:oo R)(a:R.2=true):bU R.1=true:=by
 rcases h with h|h
 ·exact h.2
 rw[h] at a;cases a
theorem ah0(h:oo R)(a:R.2=false):R=d':=by
 rcases h with h|h
 ·rw[a] at h;cases h.1
 exact h
theorem Lk(p:Prog)(a b:Int)(g f:az->az):oo (tp p a b g f):=by
 unfold tp;split
 ·split
  ·exact so _
  exact fI
 exact fI
theorem E8(p:Prog)(s:Step):oo (jP p s):=by
 unfold jP;split
 ·split
  ·unfold mz;split
   ·split
    ·split
     ·exact so _
     exact fI
    exact fI
   exact fI
  split
  ·unfold oE;split
   ·split
    ·split
     ·split
      ·exact so _
      exact fI
     exact fI
    exact fI
   exact fI
  split
  ·unfold tx;split
   ·exact Lk _ _ _ _ _
   exact fI
  split
  ·unfold tk;split
   ·exact Lk _ _ _ _ _
   exact fI
  split
  ·unfold pv;split
   ·split
    ·split
     ·exact so _
     exact fI
    exact fI
   exact fI
  split
  ·unfold tL;split
   ·split
    ·split
     ·exact so _
     exact fI
    exact fI
   exact fI
  split
  ·unfold tQ;split
   ·split
    ·split
     ·exact so _
     exact fI
    exact fI
   exact fI
  split
  ·unfold pw;split
   ·split
    ·split
     ·exact so _
     exact fI
    exact fI
   exact fI
  split
  ·by_cases h:jr p s.part (s.part+1)=true
   ·obtain⟨i,c,d,e,a,b,_⟩:=Gl h;rw[e] at h⊢;rw[FK h a b];exact .inl ⟨rfl,GA (ts h).1 a b⟩
   unfold pM;rw[aT h];exact fI
  split
  ·unfold tP;split
   ·rename_i h;simp only[Bool.and_eq_true] at h;exact .inl ⟨rfl,GQ h.1 _⟩
   exact fI
  unfold tM;split
  ·rename_i h;exact .inl ⟨rfl,abW h⟩
  exact fI
 exact fI
end Go.Lift
