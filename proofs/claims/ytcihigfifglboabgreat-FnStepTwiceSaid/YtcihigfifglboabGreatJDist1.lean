/- Tools. -/
import Derived.Test.YtcihigfifglboabGreatJTran1
set_option maxRecDepth 100000
set_option linter.unusedVariables false
namespace Go.Lift
open Go
section
theorem zJ: ∀a,cmpL a a=0
 | []=>rfl
 |x::a=>by unfold cmpL;rw[aY O,aY O];exact zJ a
theorem sQ: ∀a c,cmpL c a= -cmpL a c
 | [],[]=>by simp[cmpL]
 | [],_::_=>by simp[cmpL]
 |_::_,[]=>by simp[cmpL]
 |x::a,y::c=>by
  unfold cmpL;by_cases d:x<y
  ·simp[d,show¬y<x by omega]
  by_cases e:y<x
  ·simp[d,e]
  rw[aY d,aY e,aY e,aY d];exact sQ a c
theorem wy: ∀{a c},cmpL a c=0->a=c
 | [],[],_=>rfl
 | [],_::_,h=>by simp[cmpL] at h
 |_::_,[],h=>by simp[cmpL] at h
 |x::a,y::c,h=>by
  unfold cmpL at h;by_cases d:x<y
  ·rw[a1 d] at h;omega
  by_cases e:y<x
  ·rw[aY d,a1 e] at h;omega
  rw[aY d,aY e] at h;rw[wy h,show x=y by omega]
theorem wD: ∀{k l m},cmpL k l<0->cmpL l m<0->cmpL k m<0
 | [],[],_,h,_=>by simp[cmpL] at h
 | [],_::_,[],_,h=>by simp[cmpL] at h
 | [],_::_,_::_,_,_=>by simp[cmpL]
 |_::_,[],_,h,_=>by simp[cmpL] at h
 |_::_,_::_,[],_,h=>by simp[cmpL] at h
 |x::k,y::l,z::m,i,e=>by
  unfold cmpL at i e⊢;by_cases a:x<y
  ·by_cases b:y<z
   ·rw[a1 O];omega
   by_cases c:z<y
   ·rw[aY b,a1 c] at e;omega
   rw[a1 O];omega
  by_cases b:y<x
  ·rw[aY a,a1 b] at i;omega
  by_cases c:y<z
  ·rw[a1 O];omega
  by_cases d:z<y
  ·rw[aY c,a1 d] at e;omega
  rw[aY O,aY O];rw[aY a,aY b] at i;rw[aY c,aY d] at e;exact wD i e
theorem M0: ∀a c,iE a c=decide (cmpL a c<0)
 | [],[]=>rfl
 | [],_::_=>rfl
 |_::_,[]=>rfl
 |x::a,y::c=>by
  unfold iE cmpL;by_cases h:x=y
  ·subst h;simp only[if_true,Int.lt_irrefl,if_false];exact M0 a c
  by_cases d:x<y
  ·simp[h,d]
  have:y<x:=O
  simp[h,d,this]
abbrev ic(l:List (List Int)):Prop:=l.Pairwise λa b=>cmpL a b<0
theorem OB: ∀{l m:List (List Int)},ic l->ic m->(∀x,x∈l↔x∈m)->l=m
 | [],[],_,_,_=>rfl
 | [],y::m,_,_,h=>by have:=(h y).2 aV;simp at this
 |x::l,[],_,_,h=>by have:=(h x).1 aV;simp at this
 |x::l,y::m,s,w,h=>by
  obtain⟨q,A⟩:=q4.1 s;obtain⟨r,B⟩:=q4.1 w;have e:x=y:=by
   rcases dP.1 ((h x).1 aV) with d|d
   ·exact d
   rcases dP.1 ((h y).2 aV) with i|i
   ·exact i.symm
   have a:=r x d;have b:=q y i
   have:=wD a b;rw[zJ] at this;omega
  subst e;have k:x∉l:=λn=>by have:=q x n;rw[zJ] at this;omega
  have o:x∉m:=λn=>by have:=r x n;rw[zJ] at this;omega
  rw[OB A B (λz=>⟨λc=>by
   rcases dP.1 ((h z).1 (eA _ c)) with rfl|p
   ·exact bB c k
   ·exact p,λc=>by
   rcases dP.1 ((h z).2 (eA _ c)) with rfl|p
   ·exact bB c o
   exact p⟩)]
def iF:List (List Int)->List Int->List (List Int)
 | [],d=>[d]
 |x::a,d=>if cmpL d x<0 then d::x::a else x::iF a d
theorem Fz{d z:List Int}: ∀{l:List (List Int)},z∈iF l d↔z=d\/z∈l
 | []=>by simp[iF]
 |x::a=>by
  unfold iF;split
  ·simp
  simp only[List.mem_cons,Fz (l:=a)];constructor
  ·rintro(h|h|h)
   ·exact .inr (.inl h)
   ·exact .inl h
   exact .inr (.inr h)
  rintro(h|h|h)
  ·exact .inr (.inl h)
  ·exact .inl h
  exact .inr (.inr h)
theorem NY{d:List Int}: ∀{l:List (List Int)},ic l->d∉l->ic (iF l d)
 | [],_,_=>by simp[iF]
 |x::o,c,i=>by
  obtain⟨k,m⟩:=q4.1 c;unfold iF;split
  ·rename_i h;refine q4.2 ⟨λz a=>?_,c⟩;rcases dP.1 a with rfl|a
   ·exact h
   exact wD h (k z a)
  rename_i h;refine q4.2 ⟨λz a=>?_,NY m λn=>i (eA _ n)⟩;rcases Fz.1 a with rfl|a
  ·have p:=sQ z x;have q:cmpL z x≠0:=λe=>i (by rw[wy e];simp);omega
  exact k z a
def h8(l:List (List Int))(d:List Int):List (List Int):=if d∈l then l else iF l d
theorem aaB{l:List (List Int)}(h:ic l)(d:List Int):ic (h8 l d):=by
 unfold h8;split
 ·exact h
 exact NY h ‹_›
variable {l:Loop}{d a b:List Int}{R:Type}{Q:R->Prop}{n k i:Nat}{p:Prog}{c:Int}{P:Part}{r:List ch}
theorem M6{l:List (List Int)}{z:List Int}:z∈h8 l d↔z=d\/z∈l:=by
 unfold h8;split
 ·rename_i h;exact⟨.inr,λa=>by rcases a with rfl|a;exact h;exact a⟩
 exact Fz
theorem FY: ∀(a l:List (List Int)),ic l->ic (a.foldl h8 l)/\ ∀z,z∈a.foldl h8 l↔z∈l\/z∈a
 | [],l,h=>⟨h,λz=>aV⟩
 |d::a,l,h=>by
  obtain⟨c,e⟩:=FY a (h8 l d) (aaB h d);refine⟨c,λz=>?_⟩;rw[List.foldl_cons,e z,M6,dP];constructor
  ·rintro((h|h)|h)
   ·exact .inr (.inl h)
   ·exact .inl h
   exact .inr (.inr h)
  rintro(h|h|h)
  ·exact .inl (.inr h)
  ·exact .inl (.inl h)
  exact .inr h
def gu:List (List Int)->List (List Int)
 | []=>[]
 | [x]=>[x]
 |x::y::r=>if x=y then gu (y::r) else x::gu (y::r)
theorem DW{z:List Int}: ∀{l:List (List Int)},z∈gu l↔z∈l
 | []=>by simp[gu]
 | [x]=>by simp[gu]
 |x::y::r=>by
  have a:=DW (z:=z) (l:=y::r);unfold gu;split
  ·rename_i h;subst h;rw[a];simp
  rw[dP,a];simp
theorem Eb: ∀{l:List (List Int)},l.Pairwise (λa b=> ¬cmpL b a<0)->ic (gu l)
 | [],_=>by simp[gu]
 | [x],_=>by simp[gu]
 |x::y::r,h=>by
  obtain⟨n,i⟩:=q4.1 h;obtain⟨o,_⟩:=q4.1 i;unfold gu;split
  ·exact Eb i
  rename_i k;refine q4.2 ⟨λz m=>?_,Eb i⟩;have d:cmpL x y<0:=by
   have a:=n y aV;have b:=sQ x y;have c:cmpL x y≠0:=λe=>k (wy e);omega
  rcases dP.1 (DW.1 m) with rfl|m
  ·exact d
  have a:=o z m;have b:=sQ y z;by_cases e:cmpL y z=0
  ·rw[<-wy e];exact d
  exact wD d O
theorem T3(l:List (List Int)):(fm l).Pairwise (λa b=> ¬cmpL b a<0):=by
 have:=List.pairwise_mergeSort (le:=λx y=> !decide (cmpL y x<0)) (λa b c k d=>by
  simp only[Bool.not_eq_true',decide_eq_false_iff_not] at*;intro h;have i:=sQ a b;have m:=sQ b c;by_cases e:cmpL b a=0
  ·rw[wy e] at d;exact d h
  ·exact d (wD h O)) (λa b=>by
  have i:=sQ a b;by_cases h:cmpL b a<0
  ·have: ¬cmpL a b<0:=O
   simp[h,this]
  simp[h]) l
 refine this.imp λh=>?_;simpa using h
theorem aap(a:List (List Int)):gu (fm a)=a.foldl h8 []:=by obtain⟨c,d⟩:=FY a [] List.Pairwise.nil;refine OB (Eb (T3 a)) c λz=>?_;rw[DW,d z];unfold fm;rw[List.mem_mergeSort];simp
def ke(b a:List Int):List Int:=List.zipWith (λx y=>x-y) b a
theorem MU(F:a.length=b.length)(G:b.length<=1000)(H:1000<n)(m: ∀x∈a,cL 9999 x)(o: ∀x∈b,cL 9999 x){K:List Int->Option R}(A:ab (K (ke b a)) Q):
  ab (bp (λc ((h,d):(List Int)×Int)=>
   bif decide (d<(b.length:Int)) then(
    Option.bind (au b d) λp=>
    Option.bind (au a d) λq=>
    Option.bind (app h [wr (p-q)]) λr=>
    c (r,wr (d+1))
   ) else(
    K h
   )) n ([],0)) Q:=by
 refine ab.loop (λx:List Int×Int=> ∃i:Nat,x.2=i/\i<=b.length/\x.1=(ke b a).take i) (λx=>b.length-x.2.toNat) ?_ n _ ⟨0,rfl,O,aV⟩ Z;rintro s ⟨x,k⟩ ⟨i,w,I,l⟩ B;dsimp only at w l⊢;subst w;have C:(ke b a).length=b.length:=by unfold ke;rw[vA];omega
 refine aP (λe=>?_) λD=>?_
 ·have e:i<b.length:=O
  have y:=br e;have z:=br (O:i<a.length);have cU:=o _ (fC e);have cu:=m _ (fC (O:i<a.length));unfold cL at cU cu;refine ag (bk y) (ag (bk z) (ag (cY (by rw[l,cG];simp;omega)) ?_));rw[be (n:=b[i]-a[i]) O,be O];refine B _ ⟨i+1,Z,O,?_⟩ Z;dsimp only;rw[en,<-l];congr 1;unfold ke;rw[List.getElem?_zipWith,y,z];rfl
 have:i=b.length:=O
 subst this;rw[hU O] at l;rw[l];exact A
theorem VX(e:a.length=b.length)(h:b.length<=1000)(i:1000<n)(c: ∀x∈a,cL 9999 x)(d: ∀x∈b,cL 9999 x):zh n b a=some (ke b a):=by unfold zh;exact ab.eq (MU e h i c d (ab.some rfl))
theorem XF(t:20000<=n){l:List (List Int)}(u:l.length<=15000)(R: ∀x∈l,x.length<=1000)(U:d.length<=1000):AN n l d=some (h8 l d):=by
 unfold AN;refine ab.eq (ab.loop (λx:List (List Int)×Bool×Int=> ∃i:Nat,x.2.2=i/\i<=l.length/\d∉l.take i/\(x.2.1=true->x.1.length<=i+1/\iF l d=x.1++l.drop i)/\(x.2.1=false->x.1.length<=i/\iF l d=x.1++iF (l.drop i) d)) (λx=>l.length-x.2.2.toNat) ?_ n _ ⟨0,rfl,O,aV,(λh=>by cases h),λ_=>⟨aV,aV⟩⟩ Z);rintro A ⟨v,m,k⟩ ⟨i,L,E,e,B,C⟩ W;dsimp only at L B C⊢;subst L;refine aP (λc=>?_) λX=>?_
 ·have c:i<l.length:=O
  have Q:=br c;have D:l[i].length<=1000:=R _ (fC c);refine ag (bk Q) (ag (Kr O O) (aP (λF=>ab.some ?_) λG=>?_))
  ·unfold h8;rw[a1 (by rw[<-F];exact fC c)]
  have a:=lr c;have p:d∉l.take (i+1):=by
   rw[en,Q];simp only[List.mem_append,Option.toList_some,List.mem_singleton];rintro(h|h)
   ·exact e h
   exact G h.symm
  refine ab.aA (λz:List (List Int)×Bool=>(z.2=true->z.1.length<=i+1/\iF l d=z.1++l.drop i)/\(z.2=false->z.1.length<=i/\iF l d=z.1++l[i]::iF (l.drop (i+1)) d)) (λj o=>?_) λz q=>?_
  ·refine ab.aA (λz:Bool=>z=(!m&&iE d l[i])) (λM r=>ab.cond (λh=>?_) λh=>r _ ?_) λz q=>?_
   ·have h:m=false:=by simpa using h
    exact ag (MK O U D) (r _ (by rw[h];rfl))
   ·have h:m=true:=by simpa using h
    rw[h];rfl
   subst q;cases s:m with
   |true=>exact b3 (o _ ⟨λ_=>B s,λh=>by cases h⟩)
   |false=>
    obtain⟨Y,H⟩:=C s;rw[a] at H;rw[M0];by_cases y:cmpL d l[i]<0
    ·rw[bA y];refine bS (ag (cY bQ) (o _ ⟨λ_=>⟨bQ,?_⟩,λh=>by cases h⟩));rw[H,a];unfold iF;rw[a1 y];simp
    rw[bx y];refine b3 (o _ ⟨(λh=>by cases h),λ_=>⟨Y,?_⟩⟩);rw[H]
    conv=>lhs;rw[iF]
    rw[aY y]
  obtain⟨b,f⟩:=z;obtain⟨I,K⟩:=q;dsimp only at I K⊢;have g:b.length<=i+1:=by
   cases f with
   |true=>exact(I rfl).1
   |false=>have:=(K rfl).1;omega
  refine ag (cY bQ) ?_;rw[be O];refine W _ ⟨i+1,Z,O,p,λh=>?_,λh=>?_⟩ Z
  ·obtain⟨aJ,a2⟩:=I h;refine⟨bQ,?_⟩;rw[a2,a];simp
  obtain⟨aJ,a2⟩:=K h;refine⟨bQ,?_⟩;rw[a2];simp
 have:i=l.length:=O
 subst this;rw[c6] at e;have w:h8 l d=iF l d:=by unfold h8;rw[aY e]
 rw[w];refine ab.aA (λz=>z=iF l d) (λj o=>ab.cond (λh=>?_) λh=>o _ ?_) λz q=>ab.some q
 ·have h:m=false:=by simpa using h
  obtain⟨aJ,a2⟩:=C h;refine ag (cY bQ) (o _ ?_);rw[a2,nI];rfl
 have h:m=true:=by simpa using h
 obtain⟨aJ,a2⟩:=B h;rw[a2,nI,kS]
theorem MA(d:List Int): ∀l:List (List Int),(iF l d).length=l.length+1
 | []=>rfl
 |x::a=>by
  unfold iF;split
  ·rfl
  rw[List.length_cons,MA d a];rfl
theorem M7(l:List (List Int))(d:List Int):(h8 l d).length<=l.length+1:=by
 unfold h8;split
 ·omega
 rw[MA];omega
def kB(I:List cx)(c:Int)(d:fL):Option (List Int):=match I[d.eE.toNat]?,I[d.eG.toNat]? with
 |some a,some b=>if a.part=c/\b.part=c then some (ke b.cM a.cM) else none
 |_,_=>none
def ng(p:Prog)(a:Int):List (List Int):=(gf p (bz p.parts) (bz p.parts).length).filterMap (kB (bz p.parts) a)
theorem qE(l:b6 p=true){x:cx}(m:gw p x): ∃P,p.parts[x.part.toNat]? =some P/\0<=x.part/\x.cM.length=P.nest.length/\x.cM.length<=4/\ ∀y∈x.cM,cL 9999 y:=by obtain⟨D,F,G,c,n⟩:=eC l;obtain⟨i,k,P,s,o,H,e,q,h⟩:=m;obtain⟨r,I,K,w⟩:=fS (c P (bE e));obtain⟨L,z,d,A,B⟩:=r1 r;have hs:=bE q;have a:=(w s hs _ h).2;unfold kg at a;simp only[Bool.and_eq_true,decide_eq_true_eq,List.all_eq_true] at a;exact⟨P,by rw[o,c3];exact e,O,(d _ h).1,a.1,λy C=>a.2 y C⟩
theorem aaq{I:List cx}(h: ∀x∈I,x.cM.length<=4){d:fL}{v:List Int}(e:kB I c d=some v):v.length<=4:=by
 unfold kB at e;split at e
 ·rename_i a b k i;split at e
  ·cases e;unfold ke;rw[vA]
   have:=h b (bE i);omega
  cases e
 cases e
theorem JB{k:Type}{f:k->Option R}{l:List k}{x:k}(h:l[i]? =some x):(l.take (i+1)).filterMap f=(l.take i).filterMap f++(f x).toList:=by rw[en,h,List.filterMap_append];cases a:f x<;>simp[a]
theorem KS(g:20000<=n)(hp:lC p)(s:b6 p=true)(a:Int):x1 n p a=some ((ng p a).foldl h8 []):=by
 have G:=(eC s).2.2.2.2;unfold x1;refine ab.eq (ag (uL O s) (ag (EX O s) ?_));have m: ∀x∈bz p.parts,gw p x:=λx o=>iP o;have ag9:=FK (p:=p) G;have a':=Oo (p:=p) (l:=bz p.parts);unfold ng;generalize gf p (bz p.parts) (bz p.parts).length=D at*;generalize bz p.parts=I at*;have t: ∀x∈I,x.cM.length<=4:=λx o=>(qE s (m x o)).choose_spec.2.2.2.1;refine ab.loop (λx:List (List Int)×Int=> ∃i:Nat,x.2=i/\i<=D.length/\x.1=((D.take i).filterMap (kB I a)).foldl h8 []/\x.1.length<=i/\ ∀y∈x.1,y.length<=4) (λx=>D.length-x.2.toNat) ?_ n _ ⟨0,rfl,O,aV,aV,aV⟩ Z;rintro H ⟨u,k⟩ ⟨i,b,aH,o,w,d⟩ v;dsimp only at b o w d⊢;subst b;refine aP (λq=>?_) λE=>ab.some ?_
 ·have q:i<D.length:=O
  have f:=br q;obtain⟨M,d2,d3⟩:=a' _ (fC q);have N:=w6 (l:=I) (c:=D[i].eE) M O;have P:=w6 (l:=I) (c:=D[i].eG) O O;have S:=fC (O:D[i].eE.toNat<I.length);have K:=fC (O:D[i].eG.toNat<I.length);have L:I[D[i].eE.toNat]? =some I[D[i].eE.toNat]:=br _;have Q:I[D[i].eG.toNat]? =some I[D[i].eG.toNat]:=br _;obtain⟨T,A,V,afo,afp,R⟩:=qE s (m _ S);obtain⟨Ej,r,afq,afr,afs,U⟩:=qE s (m _ K);refine ab.aA (λz=>z.2.2.2.2.2.2=((D.take (i+1)).filterMap (kB I a)).foldl h8 []/\z.2.2.2.2.2.2.length<=i+1/\ ∀y∈z.2.2.2.2.2.2,y.length<=4) (λj W=>ag (bk f) (ag N (ag P ?_))) λz X=>?_
  ·rw[JB f,List.foldl_append,<-o] at W;refine ab.aA (λz:Bool=>z=decide (I[D[i].eE.toNat].part=a/\I[D[i].eG.toNat].part=a)) (λiQ B=>aP (λh=>B _ ?_) λh=>B _ ?_) λz X=>?_
   ·exact decide_eq_decide.2 ⟨λC=>⟨h,C⟩,λC=>C.2⟩
   ·exact(bx λC=>h C.1).symm
   subst X;have e:kB I a D[i]=if I[D[i].eE.toNat].part=a/\I[D[i].eG.toNat].part=a then some (ke I[D[i].eG.toNat].cM I[D[i].eE.toNat].cM) else none:=by
    unfold kB;rw[L,Q]
   refine aP (λh=>?_) λh=>W _ ?_
   ·have Y:T=Ej:=by
     rw[h.1] at A;rw[h.2] at r;rw[A] at r;cases r;rfl
    subst Y;refine ag (VX O O O R U) (ag (XF g O (λy F=>by have:=d y F;omega) (by unfold ke;rw[vA];omega)) (W _ ?_));rw[e,a1 h];dsimp only[Option.toList,List.foldl];refine⟨rfl,?_,λy F=>?_⟩
    ·have:=M7 u (ke I[D[i].eG.toNat].cM I[D[i].eE.toNat].cM);omega
    rcases M6.1 F with rfl|F
    ·unfold ke;rw[vA];omega
    exact d y F
   rw[e,aY h];exact⟨rfl,Z,d⟩
  obtain⟨y1,z2,z3⟩:=X;rw[be O];exact v _ ⟨i+1,Z,O,y1,z2,z3⟩ Z
 have:i=D.length:=O
 subst this;rw[o,c6]
theorem J4(x:List Int): ∀(y:List Int) (a:List (List Int)),gu ((y::a)++[x])=if(y::a).getLast aV=x then gu (y::a) else gu (y::a)++[x]
 |y,[]=>by
  by_cases h:y=x
  ·subst h;simp[gu]
  simp[gu,h]
 |y,z::a=>by
  have d:=J4 x z a;rw[List.getLast_cons aV];show gu (y::z::(a++[x]))=_;unfold gu;by_cases h:y=z
  ·rw[a1 h,a1 h];exact d
  rw[aY h,aY h];have c:gu (z::(a++[x]))=_:=d;rw[c];split<;>simp
theorem TP{s:List (List Int)}{m:Nat}(n:1<=m)(l:m<s.length):gu (s.take (m+1))=if s[m-1]=s[m] then gu (s.take m) else gu (s.take m)++[s[m]]:=by
 have e:s.take (m+1)=s.take m++[s[m]]:=by rw[en,br l];rfl
 have d:s.take m≠[]:=by
  intro h
  have:=congrArg List.length h;rw[cG,vF O,List.length_nil] at this;omega
 have c: ∀h,(s.take m).getLast h=s[m-1]:=λh=>by
  rw[List.getLast_eq_getElem,List.getElem_take];congr 1;rw[cG];omega
 rw[e];obtain⟨y,a,k⟩: ∃y a,s.take m=y::a:=by
  cases h:s.take m with
  |nil=>exact bB h d
  |cons y a=>exact⟨y,a,rfl⟩
 have i:=c d;simp only[k] at i⊢;rw[J4,i]
def lg(d:List Int):Option Nat:=d.findIdx? λx=> !decide (x=0)
def o1(d:List Int):Int:=match lg d with
 |some i=>(i:Int)
 |none=> -1
theorem VI(y:d.length<=1000)(A:1000<n):C3 n d=some (o1 d):=by
 unfold C3;refine ab.eq (ag (x:=o1 d) ?_ (ab.some rfl));unfold xS;refine ab.eq (ab.loop (λx:Int=> ∃i:Nat,x=i/\i<=d.length/\ ∀j,j<i->d.getD j 0=0) (λx=>d.length-x.toNat) ?_ n _ ⟨0,rfl,O,λj a=>bB a (q5 _)⟩ O);rintro h z ⟨i,rfl,B,m⟩ q;have o: ∀j (a:j<d.length),j<i->d[j]=0:=λj a c=>by
  have:=m j c
  rwa [ez,br a] at this
 refine aP (λe=>?_) λr=>ab.some ?_
 ·have e:i<d.length:=O
  have p:=br e;refine ag (bk p) (ag (x:= !decide (d[i]=0)) rfl (eK (λk=>ab.some ?_) λs=>?_))
  ·have:lg d=some i:=by
    unfold lg;rw[I5];exact⟨e,by simp[k],λj a=>by simp[o j O a]⟩
   unfold o1;rw[this]
  rw[be O];refine q _ ⟨i+1,O,O,λj a=>?_⟩ O;by_cases c:j=i
  ·subst c;rw[ez,p];exact s
  exact m j O
 have:lg d=none:=by
  unfold lg;rw[List.findIdx?_eq_none_iff];intro x w;obtain⟨j,a⟩:=km.1 w;obtain⟨l,rfl⟩:=bR.1 a;simp[o j l O]
 unfold o1;rw[this]
theorem YN(a:lC p)(c:p.parts[i]? =some P):k1 n p (i:Int)=some true:=by have aH:=(bR.1 c).1;rw[qF n a.2.1,bA O]
theorem VD(a:Nat->Bool)(m:Nat):dY a (m+1)=dY a m++(if a m then [m] else []):=by unfold dY;rw[pO,vB];congr 1;by_cases h:a m<;>simp[h]
theorem Nt(l:List (List Int)): ∀m,m<=l.length->(dY (k3 l) m).map (λj=>l.getD j [])=gu (l.take m)
 |0,_=>rfl
 |m+1,h=>by
  have o:=Nt l m O;have c:m<l.length:=O
  have d:l.getD m []=l[m]:=by rw[ez,br c];rfl
  rw[VD,f',o];by_cases i:m=0
  ·subst i;have k:k3 l 0=true:=by simp[k3]
   rw[k,a1 rfl,List.take_zero];show gu []++[l.getD 0 []]=_;rw[d,en,br c];rfl
  rw[TP O c];have k:l.getD (m-1) []=l[m-1]:=by rw[ez,br O];rfl
  have p:k3 l m= !decide (l[m-1]=l[m]):=by
   unfold k3;rw[d,k];by_cases a:l[m-1]=l[m]
   ·simp[i,a]
   have n:l[m]≠l[m-1]:=λe=>a e.symm;simp[i,a,n]
  rw[p];by_cases a:l[m-1]=l[m]
  ·rw[a1 a,bA a];simp
  rw[aY a,bx a];show _++[l.getD m []]=_;rw[d]
theorem Wl(l:List (List Int)):gN l=gu l:=by have:=Nt l l.length (cQ _);rw[c6] at this;exact this
theorem UN(cJ:20000<=n)(s:b6 p=true)(a:Int):BZ n (gg p) a=some ((ng p a).foldl h8 []):=by
 have F:=(eC s).2.2.2.2;unfold BZ;refine ab.eq (ag (E8 O s) ?_);rw[show(gg p).list=bz p.parts from rfl];have o: ∀x∈bz p.parts,gw p x:=λx e=>iP e;have ag9:=FK (p:=p) F;have a':=Oo (p:=p) (l:=bz p.parts);unfold ng;generalize gf p (bz p.parts) (bz p.parts).length=D at*;generalize bz p.parts=I at*;have G: ∀x∈I,x.cM.length<=4:=λx e=>(qE s (o x e)).choose_spec.2.2.2.1;refine ab.loop (λx:List (List Int)×Int=> ∃i:Nat,x.2=i/\i<=D.length/\x.1=(D.take i).filterMap (kB I a)) (λx=>D.length-x.2.toNat) ?_ n _ ⟨0,rfl,O,aV⟩ Z;rintro H ⟨u,k⟩ ⟨i,v,aH,e⟩ N;dsimp only at v e⊢;subst v;have E:u.length<=i:=by
  rw[e];refine gE (List.length_filterMap_le _ _) ?_;rw[cG];omega
 refine aP (λq=>?_) λP=>?_
 ·have q:i<D.length:=O
  have M:=br q;obtain⟨S,d2,d3⟩:=a' _ (fC q);have T:=w6 (l:=I) (c:=D[i].eE) S O;have V:=w6 (l:=I) (c:=D[i].eG) O O;have fU:=fC (O:D[i].eE.toNat<I.length);have L:=fC (O:D[i].eG.toNat<I.length);have Q:I[D[i].eE.toNat]? =some I[D[i].eE.toNat]:=br _;have R:I[D[i].eG.toNat]? =some I[D[i].eG.toNat]:=br _;obtain⟨RA,w,agN,afo,afp,U⟩:=qE s (o _ fU);obtain⟨Ej,r,afq,afr,afs,W⟩:=qE s (o _ L);have m:kB I a D[i]=if I[D[i].eE.toNat].part=a/\I[D[i].eG.toNat].part=a then some (ke I[D[i].eG.toNat].cM I[D[i].eE.toNat].cM) else none:=by
   unfold kB;rw[Q,R]
  refine ab.aA (λz=>z.1=(D.take (i+1)).filterMap (kB I a)) (λj X=>ag (bk M) (ag T (ag V ?_))) λz Y=>?_
  ·rw[JB M,<-e] at X;refine ab.aA (λz:Bool=>z= !decide (I[D[i].eE.toNat].part=a/\I[D[i].eG.toNat].part=a)) (λiQ A=>eK (λh=>A _ ?_) λh=>A _ ?_) λz Y=>?_
   ·rw[bx λB=>h B.1];rfl
   ·congr 1;exact decide_eq_decide.2 ⟨λB=>⟨h,B⟩,λB=>B.2⟩
   subst Y;refine eK (λh=>X _ ?_) λh=>?_
   ·rw[m,aY h];simp
   have b:RA=Ej:=by
    rw[h.1] at w;rw[h.2] at r;rw[w] at r;cases r;rfl
   subst b;refine MU (K:=λf=>Option.bind (app u [f]) λg=>j (g,D[i].eE,D[i].eG,D[i].kinds,I[D[i].eE.toNat].part,I[D[i].eE.toNat].stmt,I[D[i].eE.toNat].cM,I[D[i].eG.toNat].part,I[D[i].eG.toNat].stmt,I[D[i].eG.toNat].cM)) O O O U W ?_;refine ag (cY bQ) (X _ ?_);rw[m,a1 h];rfl
  rw[be O];exact N _ ⟨i+1,Z,O,Y⟩ Z
 have:i=D.length:=O
 subst this;rw[c6] at e;subst e;have C: ∀y∈D.filterMap (kB I a),y.length<=4:=λy t=>by
  obtain⟨d,_,cv⟩:=List.mem_filterMap.1 t;exact aaq G cv
 have ad1:(fm (D.filterMap (kB I a))).length<=15000:=by unfold fm;rw[List.length_mergeSort];omega
 refine ag (x:=fm (D.filterMap (kB I a))) (by unfold mD;rw[a1 ⟨O,λy t=>by have:=C y t;omega⟩]) (ab.some ?_);rw[Wl];exact aap _
def jf(p:Prog)(i:Nat):List (List Int):=(ng p i).foldl h8 []
theorem VL(d:20000<=n)(a:lC p)(c:b6 p=true)(e:p.parts[i]? =some P):CE n p (i:Int)=some (jf p i):=by unfold CE;refine ab.eq (ag (yz O a) ?_);rw[a1 c];refine bS (ab.aA (λz=>z=false) (λj h=>b3 (ag (YN a e) (h _ rfl))) λz k=>?_);rw[k];exact b3 (ag (UN d c _) (ab.some rfl))
theorem aaZ:d∈jf p i↔d∈ng p i:=by
 unfold jf
 have:=(FY (ng p i) [] .nil).2 d;simpa using this
theorem LP: ∀(a l:List (List Int)),(a.foldl h8 l).length<=l.length+a.length
 | [],l=>aV
 |d::a,l=>by
  rw[List.foldl_cons]
  have:=LP a (h8 l d)
  have:=M7 l d;rw[List.length_cons];omega
theorem GF(c:b6 p=true):(jf p i).length<=15000:=by
 have a:=(eC c).2.2.2.2;have d:=FK (p:=p) a
 have:=LP (ng p i) [];have e:(ng p i).length<=(gf p (bz p.parts) (bz p.parts).length).length:=by unfold ng;exact List.length_filterMap_le _ _
 unfold jf;rw[List.length_nil] at this;omega
theorem s6(r:b6 p=true)(s:p.parts[i]? =some P)(cv:d∈jf p i):d.length=P.nest.length/\ ∀x∈d,cL 99999 x:=by
 have cv:=aaZ.1 cv;unfold ng at cv;obtain⟨e,_,h⟩:=List.mem_filterMap.1 cv;unfold kB at h;split at h
 ·rename_i a b A B;split at h
  ·rename_i w;cases h;have m:gw p a:=iP (bE A);have n:gw p b:=iP (bE B);obtain⟨F,aJ,a2,a3,a4,a5⟩:=qE r m;obtain⟨G,y,H,I,K,C⟩:=qE r n;rw[w.1,c3,s] at aJ;rw[w.2,c3,s] at y;cases aJ;cases y;unfold ke;refine⟨by rw[vA];omega,λx z=>?_⟩;obtain⟨u,v,D,o,rfl⟩: ∃u v,u∈b.cM/\v∈a.cM/\x=u-v:=by
    rw[km] at z;obtain⟨k,c⟩:=z;rw[List.getElem?_zipWith] at c;cases l:b.cM[k]? with
    |none=>rw[l] at c;cases c
    |some u=>
     cases q:a.cM[k]? with
     |none=>rw[l,q] at c;cases c
     |some v=>
      rw[l,q] at c;cases c;exact⟨u,v,bE l,bE q,rfl⟩
   have L:=C u D;have Q:=a5 v o;unfold cL at*;omega
  cases h
 cases h
def hc(d:List Int):Bool:=match lg d with
 |some k=>decide (0<=d.getD k 0)
 |none=>true
theorem Og(h:lg d=some k):k<d.length/\d.getD k 0≠0:=by unfold lg at h;rw[I5] at h;obtain⟨a,c,_⟩:=h;refine⟨a,?_⟩;rw[ez,br a];simpa using c
theorem KP(L:20000<=n)(Q:lC p)(A:b6 p=true)(C:p.parts[i]? =some P){F:List Int->Option (List Int)}{f:List Int->List Int}(G: ∀d∈jf p i,F d=some (f d))(H: ∀d,(f d).length=d.length):
  wH n p (i:Int) F=some ((jf p i).all λd=>hc (f d)):=by
 unfold wH;refine ab.eq (ag (VL L Q A C) ?_);have w:=GF A (i:=i);have y:=λd s=>(s6 A C (d:=d) s).1;have R:=(hl ((eC A).2.2.2.1 P (bE C))).1;generalize jf p i=D at G w y;refine ab.loop (λx:List (List Int)×Int=> ∃k:Nat,x.2=k/\k<=D.length/\x.1.length=D.length/\(∀t,k<=t->x.1[t]? =D[t]?)/\ ∀d∈D.take k,hc (f d)=true) (λx=>D.length-x.2.toNat) ?_ n _ ⟨0,rfl,O,rfl,λ_ _=>rfl,λd s=>by simp at s⟩ Z;rintro o ⟨m,j⟩ ⟨k,I,U,z,a,c⟩ W;dsimp only at I z a⊢;subst I;refine aP (λl=>?_) λX=>ab.some ?_
 ·have l:k<D.length:=O
  have Y:m[k]? =some D[k]:=by rw[a k (cQ _),br l]
  have hm:=fC l;have b:(f D[k]).length<=4:=by rw[H,y _ hm];exact R
  refine ag (bk Y) (ag (G _ hm) (ag (oI (H _)) (ag (VI O O) (ag (dK O _) ?_))));have e: ∀(B:hc (f D[k])=false),D.all (λd=>hc (f d))=false:=λB=>ju.2 ⟨_,hm,by simp[B]⟩;have go:hc (f D[k])=true->ab (o (m.set (k:Int).toNat (f D[k]),wr ((k:Int)+1))) (λr=>r=D.all λd=>hc (f d)):=λB=>by
   rw[be O,c3];refine W _ ⟨k+1,Z,O,by dsimp only;rw[eS];exact z,λt u=>?_,λd s=>?_⟩ Z
   ·dsimp only;rw[ix O];exact a t O
   rw[en,br l] at s;rcases d'.1 s with h|h
   ·exact c d h
   have:d=D[k]:=by simpa using h
   subst this;exact B
  unfold o1 hc at*;cases q:lg (f D[k]) with
  |none=>
   rw[q] at go e;exact aP (λh=>bB h (by show¬(0:Int)<= -1;omega)) (λ_=>go rfl)
  |some t=>
   rw[q] at go e;obtain⟨g,v⟩:=Og q;refine aP (λ_=>?_) λh=>bB (show(0:Int)<=(t:Int) by omega) h;have K:=br g;have E:(f D[k]).getD t 0=(f D[k])[t]:=by rw[ez,K];rfl
   refine ag (bk K) (aP (λh=>ab.some ?_) λh=>go ?_)
   ·exact(e (bx O)).symm
   exact bA O
 have:k=D.length:=O
 subst this;rw[c6] at c;exact(fB.2 c).symm
theorem UR(y:d.length<=1000)(A:1000<n):CY n d=some (o1 d):=by
 unfold CY;refine ab.eq (ab.loop (λx:Int=> ∃i:Nat,x=i/\i<=d.length/\ ∀j,j<i->d.getD j 0=0) (λx=>d.length-x.toNat) ?_ n _ ⟨0,rfl,O,λj a=>bB a (q5 _)⟩ O);rintro h z ⟨i,rfl,B,m⟩ q;have o: ∀j (a:j<d.length),j<i->d[j]=0:=λj a c=>by
  have:=m j c
  rwa [ez,br a] at this
 refine aP (λe=>?_) λr=>ab.some ?_
 ·have e:i<d.length:=O
  have p:=br e;refine ag (bk p) (eK (λk=>ab.some ?_) λs=>?_)
  ·have:lg d=some i:=by
    unfold lg;rw[I5];exact⟨e,by simp[k],λj a=>by simp[o j O a]⟩
   unfold o1;rw[this]
  rw[be O];refine q _ ⟨i+1,O,O,λj a=>?_⟩ O;by_cases c:j=i
  ·subst c;rw[ez,p];exact s
  exact m j O
 have:lg d=none:=by
  unfold lg;rw[List.findIdx?_eq_none_iff];intro x w;obtain⟨j,a⟩:=km.1 w;obtain⟨l,rfl⟩:=bR.1 a;simp[o j l O]
 unfold o1;rw[this]
theorem L0(i:d.length<=1000)(k:1000<n):wc n d=some (hc d):=by
 unfold wc;refine ab.eq (ag (UR i k) (ab.aA (λz:Bool=>z=hc d) (λj c=>?_) λz l=>ab.some l));unfold o1 hc at*;cases a:lg d with
 |none=>
  rw[a] at c;exact aP (λ_=>c _ rfl) (λh=>bB (show(-1:Int)<0 by omega) h)
 |some t=>
  rw[a] at c;obtain⟨m,o⟩:=Og a;have e:=br m;have p:d.getD t 0=d[t]:=by rw[ez,e];rfl
  refine aP (λh=>bB h (show¬(t:Int)<0 by omega)) λ_=>ag (bk e) (c _ ?_);exact decide_eq_decide.2 ⟨λh=>O,λh=>O⟩
def gD(k:Nat)(a:ay):ay:=⟨(a.aT.set k (a.aT.getD (k+1) 0)).set (k+1) (a.aT.getD k 0),a.const⟩
def pH(k:Nat)(d:List Int):List Int:=(d.set k (d.getD (k+1) 0)).set (k+1) (d.getD k 0)
theorem Ng(k:Nat)(d:List Int):(pH k d).length=d.length:=by simp[pH]
theorem N6: ∀x,cP x=true->dq 4 (gD k x):=λx a=>by have:=(fu a).1;unfold dq gD;simp;omega
theorem d4{l:List R}(h:k<l.length)(z:R):l[k]? =some (l.getD k z):=by rw[ez,br h];rfl
theorem Nf{h:Type}{l:List h}(a:k+1<l.length)(m:l.length<=1000000)(z:h){K:List h->Option R}(d:ab (K ((l.set k (l.getD (k+1) z)).set (k+1) (l.getD k z))) Q):
  ab (Option.bind (au l (wr ((k:Int)+1))) λe=>Option.bind (au l (k:Int)) λi=>Option.bind (b' l (k:Int) e) λc=>Option.bind (au c (wr ((k:Int)+1))) λo=>Option.bind (b' c (wr ((k:Int)+1)) i) K) Q:=by rw[be (n:=(k:Int)+1) O,show(k:Int)+1=((k+1:Nat):Int) by omega];refine ag (bk (d4 a z)) (ag (bk (d4 O z)) (ag (dK O _) ?_));rw[c3];refine ag (bk (d4 (l:=l.set k (l.getD (k+1) z)) (k:=k+1) (by simpa using a) z)) (ag (dK (by rw[eS];omega) _) ?_);rw[c3];exact d
theorem YQ(a:k+1<d.length)(c:d.length<=1000):uJ n d (k:Int)=some (pH k d):=by unfold uJ;exact ab.eq (Nf a O 0 (ab.some rfl))
theorem YP(n:Nat)(c:k+1<4): ∀x,cP x=true->uI n x (k:Int)=some (gD k x):=λx a=>by have d:=(fu a).1;unfold uI;refine ab.eq (ag (zv n x a) (Nf O O 0 (ab.some rfl)))
theorem Z9(n:Nat)(d:k+1<4): ∀x,cP x=true->jG n x 0 (k:Int) ⟨[],0⟩=some (gD k x):=λx a=>by have e:=(fu a).1;unfold jG;refine ab.eq (aP (λ_=>ag (x:=gD k x) ?_ (ab.some rfl)) λh=>bB rfl h);unfold Fi;have c:qj n x=some x:=y8 n O;rw[be (n:=(k:Int)+1) O,show(k:Int)+1=((k+1:Nat):Int) by omega];refine ab.eq (ag c (ag (bk (d4 O 0)) (ag (bk (d4 O 0)) (ag (dK O _) (ag (bk (d4 O 0)) ?_)))));rw[c3];refine ag (bk (d4 (l:=x.aT.set k (x.aT.getD (k+1) 0)) (k:=k+1) bQ 0)) (ag (dK (by rw[eS];omega) _) ?_);rw[c3];exact ab.some rfl
def nb(k:Nat)(a:ay):Bool:= !decide (a.aT.getD k 0=0)
def tL(l:Loop)(k:Nat):Bool:=l.bf.any (nb k)||l.aH.any (nb k)
theorem UJ(p:5000<=n)(e:jY l)(q:k<4):Dy n l (k:Int)=some (tL l k):=by
 obtain⟨⟨r,i⟩,s,m⟩:=e;have c: ∀x,cP x=true->qn n x (k:Int)=some (nb k x):=λx a=>by
  have:=(fu a).1;unfold qn;exact ab.eq (ag (bk (d4 O 0)) (ab.some rfl))
 unfold Dy tL;refine ab.eq (ab.aA (λz=>z=(l.bf.any (nb k)||l.aH.any (nb k))) (λj d=>?_) λz o=>ab.some o);refine ag (xW (λx a=>c x (i x a)) O O) (ab.cond (λh=>d _ (by rw[h];rfl)) λh=>ag (xW (λx a=>c x (m x a)) O O) (d _ (by rw[h];rfl)))
theorem M4{k:Type}{f:k->Bool}{l:List k}{x:k}(h:l[i]? =some x):(l.take (i+1)).any f=((l.take i).any f||f x):=by rw[en,h,tb];simp
theorem T8(y:5000<=n)(q:jY l)(A:k<4):zT n l (k:Int)=some (tL l k):=by
 obtain⟨⟨B,r⟩,C,s⟩:=q;unfold zT tL;refine ab.eq (ab.loop (λx:Int=> ∃i:Nat,x=i/\i<=l.bf.length/\(l.bf.take i).any (nb k)=false) (λx=>l.bf.length-x.toNat) ?_ n _ ⟨0,rfl,O,rfl⟩ O);rintro c z ⟨i,rfl,w,d⟩ m;refine aP (λa=>?_) λo=>?_
 ·have a:i<l.bf.length:=O
  have h:=br a
  have:=(fu (r _ (fC a))).1;refine ag (bk h) (ag (bk (d4 O 0)) (eK (λe=>ab.some ?_) λp=>?_))
  ·rw[iz.2 ⟨_,fC a,by unfold nb;simpa using e⟩];rfl
  rw[be O];exact m _ ⟨i+1,O,O,by rw[M4 h,d];unfold nb;simpa using p⟩ O
 have:i=l.bf.length:=O
 subst this;rw[c6] at d;rw[d,Bool.false_or];clear m;refine ab.loop (λx:Int=> ∃i:Nat,x=i/\i<=l.aH.length/\(l.aH.take i).any (nb k)=false) (λx=>l.aH.length-x.toNat) ?_ n _ ⟨0,rfl,O,rfl⟩ O;rintro c z ⟨i,rfl,w,d⟩ m;refine aP (λa=>?_) λo=>ab.some ?_
 ·have a:i<l.aH.length:=O
  have h:=br a
  have:=(fu (s _ (fC a))).1;refine ag (bk h) (ag (bk (d4 O 0)) (eK (λe=>ab.some ?_) λp=>?_))
  ·rw[iz.2 ⟨_,fC a,by unfold nb;simpa using e⟩]
  rw[be O];exact m _ ⟨i+1,O,O,by rw[M4 h,d];unfold nb;simpa using p⟩ O
 have:i=l.aH.length:=O
 subst this;rw[c6] at d;exact d.symm
def fR(k:Nat)(l:List Loop):List Loop:=(l.set k (l.getD (k+1) ⟨[],[]⟩)).set (k+1) (l.getD k ⟨[],[]⟩)
theorem nz(k:Nat)(l:List Loop):(fR k l).length=l.length:=by simp[fR]
def hT(k:Nat)(P:Part):Part:=⟨(fR k P.nest).take (k+2)++((fR k P.nest).drop (k+2)).map (de (gD k)),P.body.map (fc (gD k))⟩
def nY(p:Prog)(i k:Nat)(P:Part):Bool:= !tL (P.nest.getD (k+1) ⟨[],[]⟩) k&&(jf p i).all λd=>hc (pH k d)
def jw(p:Prog)(a c:Int):Prog×Bool:=
 if cI p a c=true/\cI p a (c+1)=true then
  match au p.parts a with
  |some P=>if nY p a.toNat c.toNat P=true then fP ⟨p.aR,p.parts.set a.toNat (hT c.toNat P)⟩ else ec
  |none=>ec
 else ec
theorem F6{l:List Loop}(c:k+1<l.length){y:Loop}(a:y∈fR k l):y∈l:=by
 unfold fR at a;rcases q7 a with h|h
 ·rcases q7 h with h|h
  ·exact h
  rw[h];exact bE (d4 c _)
 rw[h];exact bE (d4 O _)
theorem OA(c:eh r P=true)(e:k+1<P.nest.length):fA 4 (hT k P):=by
 obtain⟨n,h⟩:=hl c;obtain⟨_,i,l,_⟩:=fS c;refine⟨⟨by simp only[hT,List.length_append,List.length_map,List.length_take,List.length_drop,nz];omega,λy a=>?_⟩,by simp only[hT,List.length_map];exact i.2,λs m=>?_⟩
 ·rcases d'.1 a with a|a
  ·exact(tK c).1.2 y (F6 e (gh a))
  obtain⟨z,d,rfl⟩:=eP.1 a;exact wL N6 (h z (F6 e (eY d)))
 obtain⟨z,d,rfl⟩:=eP.1 m;exact Bc N6 (l z d)
theorem FX(c:p.parts[i]? =some P)(h:cI p (i:Int) ((k:Int)+1)=true):k+1<P.nest.length:=by
 obtain⟨_,d,e,l,m,n,o,a,_,_,q,_⟩:=jo h
 have:d=i:=O
 subst this;rw[c] at a;cases a;omega
theorem AK(a:cI p (i:Int) (k:Int)=true)(c:cI p (i:Int) ((k:Int)+1)=true)(d:p.parts[i]? =some P):jw p i k=if nY p i k P=true then fP ⟨p.aR,p.parts.set i (hT k P)⟩ else ec:=by unfold jw;rw[a1 ⟨a,c⟩,bk d];simp only[Int.toNat_natCast]
theorem aet(I:20000<=n)(x:da 1000 p)(a c:Int):CC n p a c=some (jw p a c):=by
 unfold CC;by_cases e:c= -1
 ·subst e;unfold jw;rw[aY λh=>by rw[qQ O] at h;cases h.1];exact ab.eq (cb (zK O x a) λY K=>ab.cond (λ_=>aP (λ_=>ab.some rfl) λh=>bB (show(-1:Int)<0 by omega) h) λ_=>ab.some rfl)
 refine ab.eq (ag (wz O x a c e) ?_);by_cases m:cI p a c=true
 ·rw[a1 m];refine bS (aP (λh=>by rw[qQ h] at m;cases m) λb=>?_);obtain⟨z,i,k,P,l,rfl,rfl,o,g,j,L,q,t⟩:=jo m;obtain⟨K,G⟩:=hl q;obtain⟨_,Q,R,_⟩:=fS q;refine ag (bk o) ?_;rw[be (n:=(k:Int)+1) O,be (n:=(k:Int)+2) O];refine aP (λU=>ab.some ?_) λW=>?_
  ·unfold jw;rw[aY λh=>by have:=FX o h.2;omega];rfl
  have r:k+1<P.nest.length:=O
  have A:cI p (i:Int) ((k:Int)+1)=true:=by
   unfold cI;rw[z,bk o];exact bA O
  rw[AK m A o];have H:=d4 r (⟨[],[]⟩:Loop);rw[show(k:Int)+1=((k+1:Nat):Int) by omega];refine ag (bk H) (ag (UJ O (G _ (bE H)) O) (ab.cond (λB=>ab.some ?_) λB=>?_))
  ·rw[aY (by unfold nY;rw[B];simp)];rfl
  refine ag (KP I x.sm z o (F:=λC=>uJ n C (k:Int)) (f:=pH k) (λd w=>YQ (by have:=(s6 z o w).1;omega) (by have:=(s6 z o w).1;omega)) (Ng k)) (ab.cond (λw=>?_) λw=>ab.some ?_)
  ·rw[a1 (by unfold nY;rw[B,w];rfl)];refine ag (bk (d4 O (⟨[],[]⟩:Loop))) (ag (dK O _) (ag (dK (by rw[eS];omega) _) (ag (dK Z _) ?_)));rw[c3,c3,c3];have D:=x3 (n:=n) O (nest:=fR k P.nest) (body:=P.body) (s:=k+2) (by rw[nz];omega) (by rw[nz];omega) (λy X=>G y (F6 r (eY X))) Q.2 R (F:=λC=>uI n C (k:Int)) (YP n O);rw[show(k:Int)+2=((k+2:Nat):Int) by omega];refine ag D (ag (dK bQ _) ?_);rw[c3,q'];exact ag (qG O (w3 x i (OA q r))) (ab.some rfl)
  rw[aY (by unfold nY;rw[w];simp)];rfl
 unfold jw;rw[aY m,aY λh=>m h.1];exact b3 (ab.some rfl)
theorem N5{l:List Loop}(a:k+1<l.length)(j:Nat):(fR k l)[j]? =if j=k then l[k+1]? else if j=k+1 then l[k]? else l[j]? :=by
 unfold fR;by_cases c:j=k+1
 ·subst c;rw[gj (by rw[eS];exact a),aY O,a1 rfl];exact(d4 O _).symm
 rw[ix O];by_cases d:j=k
 ·subst d;rw[gj O,a1 rfl];exact(d4 a _).symm
 rw[ix O,aY d,aY c]
theorem Z0{l:List Loop}(d:k+1<l.length):fR k (fR k l)=l:=by
 apply List.ext_getElem?;intro j;have h:=N5 d;rw[N5 (by rw[nz];exact d),h,h,h];by_cases a:j=k
 ·subst a;rw[a1 rfl,aY O,a1 rfl]
 by_cases c:j=k+1
 ·subst c;rw[aY O,a1 rfl,a1 rfl]
 rw[aY a,aY c,aY a,aY c]
theorem F7{a b:List Loop}(c:k+1<a.length):fR k (a++b)=fR k a++b:=by
 have d:(a++b).getD (k+1) ⟨[],[]⟩=a.getD (k+1) ⟨[],[]⟩:=by rw[ez,ez,gG c]
 have e:(a++b).getD k ⟨[],[]⟩=a.getD k ⟨[],[]⟩:=by rw[ez,ez,gG O]
 unfold fR;rw[d,e,List.set_append_left _ _ O,List.set_append_left _ _ (by rw[eS];exact c)]
theorem Mp{l:List Loop}(c:k+1<l.length):fR k (l.take (k+2))=(fR k l).take (k+2):=by have h:=F7 (k:=k) (a:=l.take (k+2)) (b:=l.drop (k+2)) (by rw[cG];omega);rw[q9] at h;rw[h,mQ (by rw[nz,cG];omega)];exact(hU (by rw[nz,cG];omega)).symm
theorem Mq{l:List Loop}:(fR k l).drop (k+2)=l.drop (k+2):=by unfold fR;rw[pS O,pS O]
theorem abb(a:k+1<P.nest.length)(r:List Loop):fR k (P.nest.take (k+2)++r)=(fR k P.nest).take (k+2)++r:=by rw[F7 (by rw[cG];omega),Mp a]
theorem Nh(d:k+1<4): ∀x,cP x=true->gD k (gD k x)=x:=λx a=>by obtain⟨a0,aJ,a2,a3,e⟩:=kX (fu a).1;obtain⟨c,b⟩:=x;dsimp only at e;subst e;rcases(O:k=0\/k=1\/k=2) with rfl|rfl|rfl<;>rfl
theorem ZZ(h:eh r P=true)(i:k+1<P.nest.length):hT k (hT k P)=P:=by
 obtain⟨w,m⟩:=hl h;obtain⟨_,x,n,_⟩:=fS h;have c:k+1<4:=O
 have y:((fR k P.nest).take (k+2)).length=k+2:=by rw[cG,nz];omega
 have d:(hT k (hT k P)).nest=P.nest:=by
  show(fR k ((fR k P.nest).take (k+2)++((fR k P.nest).drop (k+2)).map (de (gD k)))).take (k+2)++((fR k ((fR k P.nest).take (k+2)++((fR k P.nest).drop (k+2)).map (de (gD k)))).drop (k+2)).map (de (gD k))=P.nest;rw[F7 O,mQ (by rw[nz];omega),hU (by rw[nz];omega),vE (by rw[nz];omega),vx (by rw[nz];omega),pN,tg,<-Mp i,Z0 (by rw[cG];omega),Mq]
  have:(P.nest.drop (k+2)).map (de (gD k) ∘ de (gD k))=P.nest.drop (k+2):=pZ (λl o=>by
   show de (gD k) (de (gD k) l)=l;rw[Ma];exact MY (Nh c) (m l (eY o)))
  rw[this,q9]
 have e:(hT k (hT k P)).body=P.body:=by
  show(P.body.map (fc (gD k))).map (fc (gD k))=P.body;rw[tg];exact pZ (λs p=>by
   show fc (gD k) (fc (gD k) s)=s;rw[MX];exact FU (Nh c) (n s p))
 cases q:hT k (hT k P) with
 |mk a b=>rw[q] at d e;dsimp only at d e;rw[d,e]
theorem afM(N:20000<=n)(q:da 1000 p)(a c:Int):CH n p a c=some (jw p a c):=by
 unfold CH;by_cases F:cI p a c=true;rotate_left
 ·unfold jw;rw[aY λh=>F h.1];refine ab.eq (ag (lj O q) (ab.aA (λz=>z=true) (λj H=>ag (mL O q a c) (ab.cond (λ_=>H _ rfl) λh=>bB (by simpa using h) F)) λz I=>by rw[I];exact bS (ab.some rfl)))
 obtain⟨U,i,k,P,l,rfl,rfl,K,cE,S,T,y,hk⟩:=jo F;obtain⟨V,u⟩:=hl y;obtain⟨_,h4,h5,_⟩:=fS y;rw[be (n:=(k:Int)+1) O];by_cases e:cI p (i:Int) ((k:Int)+1)=true;rotate_left
 ·unfold jw;rw[aY λh=>e h.2];refine ab.eq (ag (lj O q) (ab.aA (λz=>z=true) (λj H=>ag (mL O q _ _) (ab.cond (λh=>by rw[F] at h;cases h) λ_=>ag (mL O q _ _) (ab.cond (λ_=>H _ rfl) λh=>bB (by simpa using h) e))) λz I=>by rw[I];exact bS (ab.some rfl)))
 rw[AK F e K];have B:=FX K e;have E:=d4 B (⟨[],[]⟩:Loop);refine ab.eq (ag (lj O q) (ab.aA (λz=>z=tL (P.nest.getD (k+1) ⟨[],[]⟩) k) (λj H=>?_) λz I=>?_))
 ·refine ag (mL O q _ _) (ab.cond (λh=>by rw[F] at h;cases h) λ_=>ag (mL O q _ _) (ab.cond (λh=>by rw[e] at h;cases h) λ_=>ag (bk K) ?_));rw[show(k:Int)+1=((k+1:Nat):Int) by omega];exact ag (bk E) (ag (T8 O (u _ (bE E)) O) (H _ rfl))
 subst I;refine ab.cond (λW=>ab.some ?_) λW=>?_
 ·rw[aY (by unfold nY;rw[W];simp)];rfl
 refine ag (x:=jf p i) (KS N q.sm U _) ?_;have L:=GF U (i:=i);have Q:=λd G=>(s6 U K (d:=d) G).1;have X:nY p i k P=(jf p i).all (λd=>hc (pH k d)):=by unfold nY;rw[W];rfl
 rw[X];generalize jf p i=D at L Q;refine ab.loop (λx:Int=> ∃m:Nat,x=m/\m<=D.length/\ ∀d∈D.take m,hc (pH k d)=true) (λx=>D.length-x.toNat) ?_ n _ ⟨0,rfl,O,λd G=>by simp at G⟩ O;rintro Y z ⟨m,rfl,hm,o⟩ b7;refine aP (λC=>?_) λiN=>?_
 ·have C:m<D.length:=O
  have M:=br C;have r:=fC C;have ns:=Q _ r;rw[show(k:Int)+1=((k+1:Nat):Int) by omega];refine ag (bk M) (ag (cY bQ) (ag (bk (d4 O 0)) (ag (x:=D[m].getD k 0) (bk (d4 (l:=D[m]) O 0)) (ag (dK (by rw[pN];omega) _) (ag (bk (d4 O 0)) ?_)))));rw[pN,c3];refine ag (bk (d4 (l:=D[m].set k (D[m].getD (k+1) 0)) (k:=k+1) bQ 0)) (ag (dK (by rw[eS];omega) _) ?_);rw[c3];refine ag (x:=hc (pH k D[m])) (L0 (d:=pH k D[m]) (by rw[Ng];omega) O) (ab.cond (λh=>ab.some ?_) λh=>?_)
  ·rw[aY λR=>?_]
   ·rfl
   have:=fB.1 R _ r;rw[this] at h;cases h
  rw[be O];refine b7 _ ⟨m+1,O,O,λd G=>?_⟩ O;rw[en,M] at G;rcases d'.1 G with g|g
  ·exact o d g
  have:d=D[m]:=by simpa using g
  subst this;simpa using h
 have:m=D.length:=O
 subst this;rw[c6] at o;rw[a1 (fB.2 o)];have t:=DT (n:=n) O (x:=P) (s:=k+1) O V u h4.2 h5 (way:=0) (v:=(k:Int)) (b:=⟨[],0⟩) (f:=gD k) λn _ x hx=>Z9 n O x hx;rw[show(k:Int)+1=((k+1:Nat):Int) by omega];refine ag (bk K) (ag t ?_);have qp:(P.nest.take (k+2)++(P.nest.drop (k+2)).map (de (gD k))).length=P.nest.length:=by rw[dE,c5,cG,fs];omega
 have w:=abb B ((P.nest.drop (k+2)).map (de (gD k)));rw[show k+1+1=k+2 by omega];dsimp only;generalize P.nest.take (k+2)++(P.nest.drop (k+2)).map (de (gD k))=A at qp w;refine ag (bk (d4 O (⟨[],[]⟩:Loop))) (ag (bk (d4 O (⟨[],[]⟩:Loop))) (ag (dK O _) ?_));rw[c3];refine ag (bk (d4 (l:=A.set k (A.getD (k+1) ⟨[],[]⟩)) (k:=k+1) (by rw[eS];omega) (⟨[],[]⟩:Loop))) (ag (dK (by rw[eS];omega) _) ?_);rw[c3];have nr:(⟨(A.set k (A.getD (k+1) ⟨[],[]⟩)).set (k+1) (A.getD k ⟨[],[]⟩),P.body.map (fc (gD k))⟩:Part)=hT k P:=by
  have:(A.set k (A.getD (k+1) ⟨[],[]⟩)).set (k+1) (A.getD k ⟨[],[]⟩)=fR k A:=rfl;rw[this,w,<-Mq];rfl
 rw[nr];exact ag (wC O q S ((OA y B).mono O)) (ab.some rfl)
theorem Yd{a b:Int}(c:(jw p a b).2=true)(d:(jw (jw p a b).1 a b).2=true):(jw (jw p a b).1 a b).1=p:=by
 by_cases e:cI p a b=true/\cI p a (b+1)=true;rotate_left
 ·unfold jw at c;rw[aY e] at c;cases c
 obtain⟨y,i,k,P,l,rfl,rfl,n,G,z,A,o,H⟩:=jo e.1;have r:=FX n e.2;have B:=AK e.1 e.2 n;rw[B] at c d⊢;by_cases x:nY p i k P=true;rotate_left
 ·rw[aY x] at c;cases c
 rw[a1 x] at c d⊢;have C:(fP ⟨p.aR,p.parts.set i (hT k P)⟩).1=⟨p.aR,p.parts.set i (hT k P)⟩:=by
  unfold fP at c⊢;split
  ·rfl
  rename_i m;rw[aY m] at c;cases c
 rw[C] at d⊢;generalize m:(⟨p.aR,p.parts.set i (hT k P)⟩:Prog)=q at d;have D:q.parts[i]? =some (hT k P):=by rw[<-m];exact gj z
 by_cases s:cI q (i:Int) (k:Int)=true/\cI q (i:Int) ((k:Int)+1)=true;rotate_left
 ·unfold jw at d;rw[aY s] at d;cases d
 have F:=AK s.1 s.2 D;rw[F] at d⊢;by_cases h:nY q i k (hT k P)=true;rotate_left
 ·rw[aY h] at d;cases d
 rw[a1 h];have w:(⟨q.aR,q.parts.set i (hT k (hT k P))⟩:Prog)=p:=by
  rw[ZZ o r,<-m];dsimp only;rw[q',IU n]
 rw[w];unfold fP;rw[a1 y]
def Cm(i:Nat)(a:List Int->List Int)(x:cx):cx:=if x.part=(i:Int) then⟨x.part,x.stmt,a x.cM⟩ else x
structure af4 (p q:Prog) (i:Nat) (oS:List Int->List Int):Prop where
 arr:q.aR=p.aR
 perm:(bz q.parts).Perm ((bz p.parts).map (Cm i oS))
 cells: ∀x∈bz p.parts,rc q (Cm i oS x)=rc p x/\dd q (Cm i oS x)=dd p x
 run: ∀x∈bz p.parts,∀m,iV q m (Cm i oS x)=iV p m x
structure Kept (p:Prog) (i:Nat) (P:Part) (oS f:List Int->List Int):Prop where
 pos:(jf p i).all (λd=>hc (f d))=true
 aga: ∀a b:List Int,a.length=P.nest.length->b.length=P.nest.length->f (ke b a)=ke (oS b) (oS a)
 len: ∀a:List Int,a.length=P.nest.length->(oS a).length=P.nest.length
 inj: ∀a b:List Int,a.length=P.nest.length->b.length=P.nest.length->oS a=oS b->a=b
def ml(k:Nat)(c:Int):ay:=⟨[0,0,0,0].set k (-1),c⟩
def hE(k:Nat)(c:Int)(x:ay):ay:=rX x k (ml k c)
def lE(k:Nat)(d:List Int):List Int:=d.set k (0-d.getD k 0)
def gC(l:Loop):Int:=df l.bf+df l.aH-1
def fI(k:Nat)(c:Int)(P:Part):Part:=⟨P.nest.take (k+1)++(P.nest.drop (k+1)).map (de (hE k c)),P.body.map (fc (hE k c))⟩
def o0(p:Prog)(i k:Nat)(l:Loop):Bool:=eN l&&(jf p i).all λd=>hc (lE k d)
def kh(p:Prog)(a c:Int):Prog×Bool:=
 if cI p a c=true then
  match au p.parts a with
  |some P=>match au P.nest c with
   |some l=>if o0 p a.toNat c.toNat l=true then fP ⟨p.aR,p.parts.set a.toNat (fI c.toNat (gC l) P)⟩ else ec
   |none=>ec
  |none=>ec
 else ec
theorem MO(k:Nat)(d:List Int):(lE k d).length=d.length:=by simp[lE]
theorem AQ(h:cI p (i:Int) (k:Int)=true)(a:p.parts[i]? =some P)(c:P.nest[k]? =some l):kh p i k=if o0 p i k l=true then fP ⟨p.aR,p.parts.set i (fI k (gC l) P)⟩ else ec:=by unfold kh;rw[a1 h,bk a];dsimp only;rw[bk c];simp only[Int.toNat_natCast]
theorem NJ(d:k<4)(a:cL 999 c):fi 1000 (ml k c):=by unfold cL at a;rcases(O:k=0\/k=1\/k=2\/k=3) with rfl|rfl|rfl|rfl<;>(unfold fi cL ml;simp;omega)
theorem NK(k:Nat)(c:Int): ∀x,cP x=true->dq 4 (hE k c x):=λx a=>by have:=Ox ⟨x.aT.set k 0,x.const⟩ (ml k c) (x.aT.getD k 0) (by dsimp only;rw[eS];exact(fu a).1) (by simp[ml]);unfold dq hE rX;omega
theorem tG{l:List ay}(h: ∀x∈l,cP x=true):cL 99 (df l):=by
 unfold df;cases l with
 |nil=>unfold cL;simp
 |cons x t=>exact(fu (h x eX)).2.1
theorem Gy(h:jY l):cL 999 (gC l):=by have a:=tG h.1.2;have c:=tG h.2.2;unfold cL at*;unfold gC;omega
theorem W3(n:Nat)(a:k<d.length)(c: ∀x∈d,cL 99999 x):uH n d (k:Int)=some (lE k d):=by have e:=d4 a (0:Int);have a':=c _ (bE e);unfold cL at a';unfold uH;refine ab.eq (ag (bk e) ?_);rw[be O];refine ag (dK O _) (ab.some ?_);rw[c3];rfl
theorem Zb(n:Nat)(a:k<4):np n (k:Int) (-1)=some ⟨[0,0,0,0].set k (-1),0⟩:=by rcases(O:k=0\/k=1\/k=2\/k=3) with rfl|rfl|rfl|rfl<;>rfl
theorem WZ(d:5000<=n)(a:k<4)(e:cL 999 c): ∀x,cP x=true->uG n x (k:Int) (ml k c)=some (hE k c x):=λx h=>by unfold uG;rw[Ev d ((nE h).mono O) (NJ a e) a];rfl
theorem X5(a:k<4)(d:cL 999 c): ∀n,5000<=n-> ∀x,cP x=true->jG n x 1 (k:Int) (ml k c)=some (hE k c x):=λn e x h=>by unfold jG;rw[Kz e ((nE h).mono O) (NJ a d) a];rfl
theorem abd(a:5000<=n)(d:k<4)(e:cL 999 c):ih n ⟨[0,0,0,0],c⟩ 1 (gZ k) (-1)=some (ml k c):=by unfold cL at e;rw[sZ a (by unfold fi cL;simp;omega) ((tp d).mono O) ⟨O,O⟩ ⟨O,O⟩];rcases(O:k=0\/k=1\/k=2\/k=3) with rfl|rfl|rfl|rfl<;>simp[n',gZ,ml]
theorem N3(d:eh r P=true)(n:k<P.nest.length)(c:Int):fA 4 (fI k c P):=by
 obtain⟨o,h⟩:=hl d;obtain⟨_,i,l,_⟩:=fS d;refine⟨⟨by simp only[fI,List.length_append,List.length_map,List.length_take,List.length_drop];omega,λy a=>?_⟩,by simp only[fI,List.length_map];exact i.2,λs m=>?_⟩
 ·rcases d'.1 a with a|a
  ·exact(tK d).1.2 y (gh a)
  obtain⟨z,e,rfl⟩:=eP.1 a;exact wL (NK k c) (h z (eY e))
 obtain⟨z,e,rfl⟩:=eP.1 m;exact Bc (NK k c) (l z e)
theorem aen(W:20000<=n)(z:da 1000 p)(a c:Int):CK n p a c=some (kh p a c):=by
 unfold CK;by_cases m:c= -1
 ·subst m;unfold kh;rw[aY λh=>by rw[qQ O] at h;cases h];exact ab.eq (cb (zK O z a) λj Q=>ab.cond (λ_=>aP (λ_=>ab.some rfl) λh=>bB (show(-1:Int)<0 by omega) h) λ_=>ab.some rfl)
 refine ab.eq (ag (wz O z a c m) ?_);by_cases o:cI p a c=true
 ·rw[a1 o];refine bS (aP (λh=>by rw[qQ h] at o;cases o) λt=>?_);obtain⟨A,i,k,P,l,rfl,rfl,w,B,u,C,q,R⟩:=jo o;obtain⟨Q,U⟩:=hl q;obtain⟨_,X,Y,_⟩:=fS q;have e:=U l (bE B);rw[AQ o w B];refine ag (bk w) (ag (bk B) (ag (Fq O e) ?_));cases D:eN l with
  |false=>exact b3 (ab.some (by rw[aY (by unfold o0;rw[D];simp)];rfl))
  |true=>
   refine bS (ag (KP W z.sm A w (F:=λG=>uH n G (k:Int)) (f:=lE k) (λd r=>W3 n (by have:=(s6 A w r).1;omega) (s6 A w r).2) (MO k)) (ab.cond (λr=>?_) λr=>ab.some ?_))
   ·rw[show o0 p i k l=true by unfold o0;rw[D,r];rfl];refine ag (Zb n R) ?_;have bP:=Gy e;have H:=tG e.1.2;have I:=tG e.2.2;unfold cL at H I;have K:(⟨([0,0,0,0]:List Int).set k (-1),wr ((wr (df l.bf+df l.aH))-1)⟩:ay)=ml k (gC l):=by
     rw[be (n:=df l.bf+df l.aH) O,be O];rfl
    rw[be (n:=(k:Int)+1) O];have L:=x3 (n:=n) O (nest:=P.nest) (body:=P.body) (s:=k+1) O Q (λy b=>U y (eY b)) X.2 Y (F:=λG=>uG n G (k:Int) (⟨([0,0,0,0]:List Int).set k (-1),wr ((wr (df l.bf+df l.aH))-1)⟩:ay)) (f:=hE k (gC l)) λx g=>by rw[K];exact WZ O R bP x g
    rw[show(k:Int)+1=((k+1:Nat):Int) by omega];refine ag L (ag (dK Z _) ?_);rw[c3];exact ag (qG O (w3 z i (N3 q C (gC l)))) (ab.some rfl)
   rw[aY (by unfold o0;rw[D,r];simp)];rfl
 unfold kh;rw[aY o,aY o];exact b3 (ab.some rfl)
theorem afG(E:20000<=n)(B:da 1000 p)(c e:Int):CG n p c e=some (kh p c e):=by
 unfold CG;refine ab.eq (ag (lj O B) (ag (mL O B c e) ?_));by_cases a':cI p c e=true;rotate_left
 ·unfold kh;rw[aY a',show cI p c e=false by simpa using a'];exact bS (ab.some rfl)
 rw[a'];refine b3 ?_;obtain⟨F,i,k,P,l,rfl,rfl,G,H,M,I,o,K⟩:=jo a';obtain⟨N,g⟩:=hl o;obtain⟨_,S,T,_⟩:=fS o;have h:=g l (bE H);rw[AQ a' G H];refine ag (bk G) (ag (bk H) (ag (ER O h) (ag (x:=jf p i) (KS E B.sm F _) ?_)));have r:=GF F (i:=i);have w:=λd V=>s6 F G (d:=d) V;have L:o0 p i k l=(eN l&&(jf p i).all λd=>hc (lE k d)):=rfl;rw[L];have h3:(if eN l=true then(df l.bf,df l.aH,true) else((0:Int),(0:Int),false)).2.2=eN l:=by cases eN l<;>rfl
 generalize jf p i=D at r w;refine ab.loop (λx:Bool×Int=> ∃m:Nat,x.2=m/\m<=D.length/\x.1=(eN l&&(D.take m).all λd=>hc (lE k d))) (λx=>D.length-x.2.toNat) ?_ n _ ⟨0,rfl,O,by dsimp only;rw[h3,List.take_zero];simp⟩ Z;rintro Q ⟨ok,z⟩ ⟨m,C,hm,a⟩ b7;dsimp only at C a⊢;subst C;refine aP (λq=>?_) λiN=>?_
 ·have q:m<D.length:=O
  have t:=br q;obtain⟨g1,g2⟩:=w _ (fC q);have u:=d4 (l:=D[m]) (k:=k) O 0;have a':=g2 _ (bE u);unfold cL at a';refine ab.aA (λz=>z.2=(eN l&&(D.take (m+1)).all λd=>hc (lE k d))) (λj R=>?_) λz C=>?_
  ·refine ag (bk t) (ag (cY bQ) ?_);rw[pN];refine ag (bk u) ?_;rw[be O];refine ag (dK O _) ?_;rw[c3];have y:(D.take (m+1)).all (λd=>hc (lE k d))=((D.take m).all (λd=>hc (lE k d))&&hc (lE k D[m])):=by
    rw[en,t,List.all_append];simp
   rw[y,<-l7,<-a] at R;cases ok with
   |true=>exact bS (ag (x:=hc (lE k D[m])) (L0 (d:=lE k D[m]) (by rw[MO];omega) O) (R _ (by rw[ff])))
   |false=>exact b3 (R _ (by rw[Bool.false_and]))
  rw[be O];exact b7 _ ⟨m+1,Z,O,C⟩ Z
 have:m=D.length:=O
 subst this;rw[c6] at a;rw[<-a];cases A:ok with
 |false=>exact bS (ab.some (by rw[aY aV];rfl))
 |true=>
  rw[a1 rfl];have U:eN l=true:=by
   rw[A] at a;cases U:eN l with
   |true=>rfl
   |false=>rw[U] at a;cases a
  have W:=tG h.1.2;have X:=tG h.2.2;unfold cL at W X;have Y:wr ((wr ((if eN l=true then(df l.bf,df l.aH,true) else((0:Int),(0:Int),false)).1+(if eN l=true then(df l.bf,df l.aH,true) else((0:Int),(0:Int),false)).2.1))-1)=gC l:=by
   rw[a1 U];dsimp only;rw[be (n:=df l.bf+df l.aH) O,be O];rfl
  rw[Y];refine b3 (ag (hg n _) (ag (zS n K) (ag (abd O K (Gy h)) (ag (DT (n:=n) O (x:=P) (s:=k) O N g S.2 T (way:=1) (v:=(k:Int)) (b:=ml k (gC l)) (f:=hE k (gC l)) (X5 K (Gy h))) ?_))));exact ag (wC O B M ((N3 o I (gC l)).mono O)) (ab.some rfl)
theorem abf(a:P.nest[k]? =some l):(fI k c P).nest[k]? =some l/\(fI k c P).nest.length=P.nest.length:=by have d:=(bR.1 a).1;refine⟨?_,by simp[fI];omega⟩;show(P.nest.take (k+1)++_)[k]? =_;rw[gG bQ,ft,a1 O];exact a
theorem MP(d:k<4)(c:Int): ∀x,cP x=true->hE k c (hE k c x)=x:=λx a=>by obtain⟨a0,aJ,a2,a3,e⟩:=kX (fu a).1;obtain⟨cs,b⟩:=x;dsimp only at e;subst e;rcases(O:k=0\/k=1\/k=2\/k=3) with rfl|rfl|rfl|rfl<;>(simp[hE,rX,ml,eV,Int.neg_mul];try omega)
theorem XG(i:eh r P=true)(w:k<P.nest.length)(c:Int):fI k c (fI k c P)=P:=by
 obtain⟨x,m⟩:=hl i;obtain⟨_,y,n,_⟩:=fS i;have d:k<4:=O
 have z:(P.nest.take (k+1)).length=k+1:=by rw[cG];omega
 have e:(fI k c (fI k c P)).nest=P.nest:=by
  show(P.nest.take (k+1)++(P.nest.drop (k+1)).map (de (hE k c))).take (k+1)++((P.nest.take (k+1)++(P.nest.drop (k+1)).map (de (hE k c))).drop (k+1)).map (de (hE k c))=P.nest;rw[mQ O,hU O,vE O,vx O,pN,tg]
  have:(P.nest.drop (k+1)).map (de (hE k c) ∘ de (hE k c))=P.nest.drop (k+1):=pZ (λl o=>by
   show de (hE k c) (de (hE k c) l)=l;rw[Ma];exact MY (MP d c) (m l (eY o)))
  rw[this,q9]
 have h:(fI k c (fI k c P)).body=P.body:=by
  show(P.body.map (fc (hE k c))).map (fc (hE k c))=P.body;rw[tg];exact pZ (λs p=>by
   show fc (hE k c) (fc (hE k c) s)=s;rw[MX];exact FU (MP d c) (n s p))
 cases q:fI k c (fI k c P) with
 |mk a b=>rw[q] at e h;dsimp only at e h;rw[e,h]
end
section
def mi(k:Int):Int:=if k=3\/k=4\/k=5 then 3 else if k=1\/k=2\/k=7\/k=8 then 2 else if k=6\/k=9\/k=10 then 1 else 0
def p2(s:Step):Bool:=decide (1<=s.kind/\s.kind<=11)&&((decide (0<mi s.kind)||decide (s.part=0))&&((decide (1<mi s.kind)||decide (s.a=0))&&(decide (2<mi s.kind)||decide (s.b=0))))
theorem OK(k:Int):0<=mi k/\mi k<=3:=by
 unfold mi;split
 ·omega
 split
 ·omega
 split<;>omega
theorem Ks(n:Nat)(k:Int):yk n k=some (mi k):=by
 unfold yk mi;refine ab.eq (ab.aA (λz=>z=decide (k=3\/k=4\/k=5)) (λj a=>aP (λh=>a _ ?_) λh=>aP (λc=>a _ ?_) λc=>a _ ?_) λz d=>?_)
 ·rw[fg];simp only[decide_eq_true_eq];omega
 ·rw[fg];simp only[decide_eq_true_eq];omega
 ·rw[fg];simp only[decide_eq_true_eq];omega
 subst d;by_cases e:k=3\/k=4\/k=5
 ·rw[a1 e,bA e];exact bS (ab.some rfl)
 rw[aY e,bx e];refine b3 (ab.aA (λz=>z=decide (k=1\/k=2\/k=7\/k=8)) (λj a=>aP (λh=>a _ ?_) λh=>aP (λc=>a _ ?_) λc=>aP (λm=>a _ ?_) λm=>a _ ?_) λz d=>?_)
 ·rw[fg];simp only[decide_eq_true_eq];omega
 ·rw[fg];simp only[decide_eq_true_eq];omega
 ·rw[fg];simp only[decide_eq_true_eq];omega
 ·rw[fg];simp only[decide_eq_true_eq];omega
 subst d;by_cases i:k=1\/k=2\/k=7\/k=8
 ·rw[a1 i,bA i];exact bS (ab.some rfl)
 rw[aY i,bx i];refine b3 (ab.aA (λz=>z=decide (k=6\/k=9\/k=10)) (λj a=>aP (λh=>a _ ?_) λh=>aP (λc=>a _ ?_) λc=>a _ ?_) λz d=>?_)
 ·rw[fg];simp only[decide_eq_true_eq];omega
 ·rw[fg];simp only[decide_eq_true_eq];omega
 ·rw[fg];simp only[decide_eq_true_eq];omega
 subst d;by_cases l:k=6\/k=9\/k=10
 ·rw[a1 l,bA l];exact bS (ab.some rfl)
 rw[aY l,bx l];exact b3 (ab.some rfl)
theorem UL(n:Nat)(k:Int):Ab n k=some (if 1<=k/\k<=11 then mi k else-1):=by
 unfold Ab mi;refine ab.eq (ab.aA (λz=>z=decide (k=1\/k=2\/k=7\/k=8)) (λj a=>aP (λh=>a _ ?_) λh=>aP (λc=>a _ ?_) λc=>aP (λm=>a _ ?_) λm=>a _ ?_) λz d=>?_)
 ·rw[fg];simp only[decide_eq_true_eq];omega
 ·rw[fg];simp only[decide_eq_true_eq];omega
 ·rw[fg];simp only[decide_eq_true_eq];omega
 ·rw[fg];simp only[decide_eq_true_eq];omega
 subst d;by_cases e:k=1\/k=2\/k=7\/k=8
 ·rw[bA e,a1 O,aY O,a1 e];exact bS (ab.some rfl)
 rw[bx e];refine b3 (ab.aA (λz=>z=decide (k=3\/k=4\/k=5)) (λj a=>aP (λh=>a _ ?_) λh=>aP (λc=>a _ ?_) λc=>a _ ?_) λz d=>?_)
 ·rw[fg];simp only[decide_eq_true_eq];omega
 ·rw[fg];simp only[decide_eq_true_eq];omega
 ·rw[fg];simp only[decide_eq_true_eq];omega
 subst d;by_cases i:k=3\/k=4\/k=5
 ·rw[bA i,a1 O,a1 i];exact bS (ab.some rfl)
 rw[bx i];refine b3 (ab.aA (λz=>z=decide (k=6\/k=9\/k=10)) (λj a=>aP (λh=>a _ ?_) λh=>aP (λc=>a _ ?_) λc=>a _ ?_) λz d=>?_)
 ·rw[fg];simp only[decide_eq_true_eq];omega
 ·rw[fg];simp only[decide_eq_true_eq];omega
 ·rw[fg];simp only[decide_eq_true_eq];omega
 subst d;by_cases l:k=6\/k=9\/k=10
 ·rw[bA l,a1 O,aY i,aY e,a1 l];exact bS (ab.some rfl)
 rw[bx l];refine b3 (aP (λh=>ab.some ?_) λh=>ab.some ?_)
 ·rw[a1 O,aY i,aY e,aY l]
 rw[aY O]
theorem VW(n:Nat)(s:Step):DK n s=some (p2 s):=by
 unfold DK p2;have B:=OK s.kind;refine ab.eq (ag (Ks n s.kind) ?_);generalize mi s.kind=f at*;refine ab.aA (λz=>z=(decide (1<=s.kind/\s.kind<=11)&&((decide (0<f)||decide (s.part=0))&&((decide (1<f)||decide (s.a=0))&&(decide (2<f)||decide (s.b=0)))))) (λj r=>?_) λz m=>ab.some m;have c: ∀z:Bool,(z=true↔((1<=s.kind/\s.kind<=11)/\(0<f\/s.part=0)/\(1<f\/s.a=0)/\(2<f\/s.b=0)))->ab (j z) (λx=>x=(decide (1<=s.kind/\s.kind<=11)&&((decide (0<f)||decide (s.part=0))&&((decide (1<f)||decide (s.a=0))&&(decide (2<f)||decide (s.b=0)))))):=λz m=>r z (by
  rw[fg,m];simp only[Bool.and_eq_true,Bool.or_eq_true,decide_eq_true_eq])
 have k:((1<=s.kind/\s.kind<=11)/\(0<f\/s.part=0)/\(1<f\/s.a=0)/\(2<f\/s.b=0))->ab (j true) _:=λh=>c true ⟨λ_=>h,λ_=>rfl⟩;have i: ¬((1<=s.kind/\s.kind<=11)/\(0<f\/s.part=0)/\(1<f\/s.a=0)/\(2<f\/s.b=0))->ab (j false) _:=λh=>c false ⟨λe=>(by cases e),λo=>bB o h⟩;have l:(1<=s.kind/\s.kind<=11)/\(0<f\/s.part=0)/\(1<f\/s.a=0)/\ ¬2<f->ab (j (decide (s.b=0))) _:=λh=>c _ (by rw[decide_eq_true_eq];exact⟨λe=>⟨h.1,h.2.1,h.2.2.1,.inr e⟩,λe=>e.2.2.2.resolve_left h.2.2.2⟩);refine aP (λw=>aP (λo=>aP (λy=>aP (λp=>aP (λd=>k O) λd=>l O) λp=>aP (λq=>aP (λd=>k O) λd=>l O) λq=>i O) λy=>aP (λA=>aP (λp=>aP (λd=>k O) λd=>l O) λp=>aP (λq=>aP (λd=>k O) λd=>l O) λq=>i O) λA=>i O) λo=>i O) λw=>i O
variable {n:Nat}{p:Prog}{s:Step}{R:Prog×Bool}{l:List Step}
theorem VK(i:10<=n)(s:Step):zA n s=some (p2 s):=by
 unfold zA p2;have k:=OK s.kind;refine ab.eq (ag (UL n s.kind) ?_);generalize mi s.kind=f at*;refine ab.aA (λz=>z=(decide (1<=s.kind/\s.kind<=11)&&((decide (0<f)||decide (s.part=0))&&((decide (1<f)||decide (s.a=0))&&(decide (2<f)||decide (s.b=0)))))) (λj c=>?_) λz e=>ab.some e;by_cases d:1<=s.kind/\s.kind<=11
 ·rw[a1 d];rw[bA d] at c⊢;refine aP (λ_=>ag (show D' n s=some [s.part,s.a,s.b] from rfl) (ag (hR O bQ aV) (ag (C6 (p:=λv=> !decide (v=0)) (λx _=>rfl) bQ bQ) (c _ ?_)))) λh=>bB h O;rw[show([s.part,s.a,s.b].length:Int).toNat=[s.part,s.a,s.b].length from rfl,c6];rcases(O:f=0\/f=1\/f=2\/f=3) with rfl|rfl|rfl|rfl
  ·simp[show(0:Int).toNat=0 from rfl]
  ·simp[show(1:Int).toNat=1 from rfl]
  ·simp[show(2:Int).toNat=2 from rfl]
  simp[show(3:Int).toNat=3 from rfl]
 rw[aY d];rw[bx d] at c⊢;exact aP (λh=>bB h (by decide)) λ_=>c _ rfl
noncomputable def im(p:Prog)(s:Step):Prog×Bool:=
 if p2 s=true then
  (if s.kind=1 then jw p s.part s.a else if s.kind=2 then kh p s.part s.a else if s.kind=3 then vm p s.part s.a s.b else if s.kind=4 then vl p s.part s.a s.b
   else if s.kind=5 then q1 p s.part s.a s.b else if s.kind=6 then uu p s.part else if s.kind=7 then um p s.part s.a else if s.kind=8 then q0 p s.part s.a
   else if s.kind=9 then kM p s.part else if s.kind=10 then tN p s.part else tU p)
 else ec
def mZ(s:Step):Prop:= -1<=s.part/\s.part<=9
theorem LL(c:20000<=n)(a:da 1000 p)(d:mZ s):yn n p s=some (im p s):=by
 unfold yn im;refine ab.eq (ag (VK O s) ?_);cases e:p2 s with
 |false=>exact bS (ab.some rfl)
 |true=>
  rw[a1 rfl];refine b3 (aP (λh=>?_) λh=>?_)
  ·rw[a1 h];exact ag (aet c a _ _) (ab.some rfl)
  rw[aY h];refine aP (λh=>?_) λh=>?_
  ·rw[a1 h];exact ag (aen c a _ _) (ab.some rfl)
  rw[aY h];refine aP (λh=>?_) λh=>?_
  ·rw[a1 h];exact ag (aep O a _ _ _) (ab.some rfl)
  rw[aY h];refine aP (λh=>?_) λh=>?_
  ·rw[a1 h];exact ag (aeo O a _ _ _) (ab.some rfl)
  rw[aY h];refine aP (λh=>?_) λh=>?_
  ·rw[a1 h];exact ag (aer O a _ _ _) (ab.some rfl)
  rw[aY h];refine aP (λh=>?_) λh=>?_
  ·rw[a1 h];exact ag (aem c a d) (ab.some rfl)
  rw[aY h];refine aP (λh=>?_) λh=>?_
  ·rw[a1 h];exact ag (ael c a d) (ab.some rfl)
  rw[aY h];refine aP (λh=>?_) λh=>?_
  ·rw[a1 h];exact ag (aeq c a _ _) (ab.some rfl)
  rw[aY h];refine aP (λh=>?_) λh=>?_
  ·rw[a1 h];exact ag (aes O a d) (ab.some rfl)
  rw[aY h];refine aP (λh=>?_) λh=>?_
  ·rw[a1 h];exact ag (W8 O a d) (ab.some rfl)
  rw[aY h];exact ag (RZ O a) (ab.some rfl)
theorem L2(c:20000<=n)(a:da 1000 p)(d:mZ s):yl n p s=some (im p s):=by
 unfold yl im;refine ab.eq (ag (lj O a) (ag (VW n s) ?_));cases e:p2 s with
 |false=>exact bS (ab.some rfl)
 |true=>
  rw[a1 rfl];refine b3 (aP (λh=>?_) λh=>?_)
  ·rw[a1 h];exact ag (afM c a _ _) (ab.some rfl)
  rw[aY h];refine aP (λh=>?_) λh=>?_
  ·rw[a1 h];exact ag (afG c a _ _) (ab.some rfl)
  rw[aY h];refine aP (λh=>?_) λh=>?_
  ·rw[a1 h];exact ag (afI O a _ _ _) (ab.some rfl)
  rw[aY h];refine aP (λh=>?_) λh=>?_
  ·rw[a1 h];exact ag (afH O a _ _ _) (ab.some rfl)
  rw[aY h];refine aP (λh=>?_) λh=>?_
  ·rw[a1 h];exact ag (afK O a _ _ _) (ab.some rfl)
  rw[aY h];refine aP (λh=>?_) λh=>?_
  ·rw[a1 h];exact ag (afF c a d) (ab.some rfl)
  rw[aY h];refine aP (λh=>?_) λh=>?_
  ·rw[a1 h];exact ag (afE c a d) (ab.some rfl)
  rw[aY h];refine aP (λh=>?_) λh=>?_
  ·rw[a1 h];exact ag (afJ c a _ _) (ab.some rfl)
  rw[aY h];refine aP (λh=>?_) λh=>?_
  ·rw[a1 h];exact ag (afL O a d) (ab.some rfl)
  rw[aY h];refine aP (λh=>?_) λh=>?_
  ·rw[a1 h];exact ag (Xr O a d) (ab.some rfl)
  rw[aY h];exact ag (RW O a) (ab.some rfl)
def oV(R:Prog×Bool):Prop:=(R.2=true/\b6 R.1=true)\/R=ec
theorem fT:oV ec:= .inr rfl
theorem sP(q:Prog):oV (fP q):=by
 unfold fP;split
 ·rename_i h;exact .inl ⟨rfl,h⟩
 exact .inr rfl
theorem oV.Pb(h:oV R):da 1000 R.1:=by
 rcases h with h|h
 ·exact(k0 h.2).mono O
 rw[h];exact afk
theorem oV.v(h:oV R)(a:R.2=true):b6 R.1=true:=by
 rcases h with h|h
 ·exact h.2
 rw[h] at a;cases a
theorem af6(h:oV R)(a:R.2=false):R=ec:=by
 rcases h with h|h
 ·rw[a] at h;cases h.1
 exact h
theorem K3(p:Prog)(a c:Int)(g f:ay->ay):oV (u4 p a c g f):=by
 unfold u4;split
 ·split
  ·exact sP _
  exact fT
 exact fT
theorem Fa(p:Prog)(s:Step):oV (im p s):=by
 unfold im;split
 ·split
  ·unfold jw;split
   ·split
    ·split
     ·exact sP _
     exact fT
    exact fT
   exact fT
  split
  ·unfold kh;split
   ·split
    ·split
     ·split
      ·exact sP _
      exact fT
     exact fT
    exact fT
   exact fT
  split
  ·unfold vm;split
   ·exact K3 _ _ _ _ _
   exact fT
  split
  ·unfold vl;split
   ·exact K3 _ _ _ _ _
   exact fT
  split
  ·unfold q1;split
   ·split
    ·split
     ·exact sP _
     exact fT
    exact fT
   exact fT
  split
  ·unfold uu;split
   ·split
    ·split
     ·exact sP _
     exact fT
    exact fT
   exact fT
  split
  ·unfold um;split
   ·split
    ·split
     ·exact sP _
     exact fT
    exact fT
   exact fT
  split
  ·unfold q0;split
   ·split
    ·split
     ·exact sP _
     exact fT
    exact fT
   exact fT
  split
  ·by_cases h:jl p s.part (s.part+1)=true
   ·obtain⟨i,d,k,e,a,c,_⟩:=B2 h;rw[e] at h⊢;rw[yu h a c];exact .inl ⟨rfl,IW (uO h).1 a c⟩
   unfold kM;rw[aY h];exact fT
  split
  ·unfold tN;split
   ·rename_i h;simp only[Bool.and_eq_true] at h;exact .inl ⟨rfl,GG h.1 _⟩
   exact fT
  unfold tU;split
  ·rename_i h;exact .inl ⟨rfl,Zr h⟩
  exact fT
 exact fT
noncomputable def rY:List Step->Prog->Prog×Bool
 | [],q=>(q,true)
 |s::l,q=>if(im q s).2=true then rY l (im q s).1 else ec
noncomputable def wT(p:Prog)(l:List Step):Prog×Bool:=if b6 p=true/\l.length<=12 then rY l p else ec
theorem abx(H:20000<=n){f:Prog->Step->Option (Prog×Bool)}(A: ∀p s,da 1000 p->mZ s->f p s=some (im p s))(I:l.length<=12)(B: ∀s∈l,mZ s)(C:b6 p=true):
  bp (λc ((q,r,k):(List ch)×(List Part)×Int)=>
    bif decide (k<(l.length:Int)) then(
     Option.bind (au l k) λD=>
     Option.bind (f (⟨q,r⟩:Prog) D) λe=>
     bif !e.2 then(
      some ((⟨[],[]⟩:Prog),false)
     ) else(
      c (e.1.aR,e.1.parts,wr (k+1))
     )
    ) else(
     some ((⟨q,r⟩:Prog),true)
    )
   ) n (p.aR,p.parts,0)=some (rY l p):=by
 refine ab.eq (ab.loop (λx:List ch×List Part×Int=> ∃j:Nat,x.2.2=j/\j<=l.length/\b6 ⟨x.1,x.2.1⟩=true/\rY (l.drop j) ⟨x.1,x.2.1⟩=rY l p) (λx=>l.length-x.2.2.toNat) ?_ n _ ⟨0,rfl,O,C,rfl⟩ Z);rintro m ⟨a,w,z⟩ ⟨j,rfl,K,y,d⟩ F;dsimp only at y d⊢;refine aP (λh=>?_) λG=>ab.some ?_
 ·have h:j<l.length:=O
  have i:=br h;generalize l[j]=s at i;rw[j6 i] at d;simp only[rY] at d;have bM:=Fa ⟨a,w⟩ s;refine ag (bk i) (ag (A _ s ((k0 y).mono O) (B s (bE i))) ?_);cases o:(im ⟨a,w⟩ s).2 with
  |false=>
   rw[o,aY aV] at d;exact bS (ab.some d)
  |true=>
   rw[o,a1 rfl] at d;rw[be O];exact b3 (F _ ⟨j+1,Z,O,bM.v o,d⟩ Z)
 rw[show j=l.length by omega,nI] at d;exact d
theorem VJ(d:20000<=n)(a:da 1000 p)(m:l.length<=1000)(c: ∀s∈l,mZ s):C5 n p l=some (wT p l):=by
 unfold C5 wT;refine ab.eq (ab.aA (λz=>z= !decide (b6 p=true/\l.length<=12)) (λj e=>ag (ur O a.sm) (ab.cond (λh=>e _ ?_) λh=>e _ ?_)) λz i=>?_)
 ·rw[bx λk=>by rw[k.1] at h;cases h];rfl
 ·have h:b6 p=true:=by simpa using h
  rw[fg];simp only[Bool.not_eq_true',decide_eq_true_eq,decide_eq_false_iff_not,h,true_and];omega
 subst i;by_cases h:b6 p=true/\l.length<=12
 ·rw[a1 h,bA h];exact b3 (ag (qP O h.1) (ab.of (abx d (λp s a c=>LL d a c) h.2 c h.1) rfl))
 rw[aY h,bx h];exact bS (ab.some rfl)
end
section
variable {k:Int}{r:cB}
theorem F8(i:cO k r)(A:0<=k/\k<=1000000):ab (vr N r) (λx=>mZ x.1/\cO (k+10) x.2):=by
 unfold vr;refine cb (jn N i O) λB ⟨_,_,l⟩=>cb (gR N l O aV) λh ⟨m,n⟩=>cb (gR N n O aV) λC ⟨_,o⟩=>cb (gR N o O aV) λD ⟨_,p⟩=>ag (Ks N _) ?_;have q:0<=h.1/\h.1<=1:=by simp at m;omega
 refine ab.aA (λ_=>True) (λj a=>aP (λ_=>a _ trivial) λ_=>a _ trivial) λF _=>?_;refine ab.aA (λ_=>True) (λj a=>aP (λ_=>a _ trivial) λ_=>a _ trivial) λG _=>?_;refine ab.aA (λz=>0<=z/\z<=1) (λj a=>aP (λ_=>a _ ⟨O,O⟩) λ_=>a _ q) λs H=>?_;exact ab.aA (λz:List UInt8×Int×Int=>cO (k+10) ⟨z.1,z.2.1⟩) (λj a=>cb (jn N p O) λw ⟨_,_,c⟩=>aP (λ_=>cb (gR N c O aV) λy ⟨_,d⟩=>a _ (d.mono O)) λ_=>a _ (c.mono O)) λz e=>ab.some ⟨⟨Z,Z⟩,e⟩
theorem ZI(R:cO k r)(hk:0<=k/\k<=400000){p:Prog}(U:da 1000 p):ab (zn N r p) (λx=>(∀s∈x.1,mZ s)/\x.1.length<=8/\cO (k+1000) x.2):=by
 have fx:N=100000:=rfl;unfold zn;refine cb (gR N R O aV) λH ⟨W,X⟩=>?_;have I:0<=H.1/\H.1<=6:=by
  simp only[List.mem_cons,List.not_mem_nil,or_false] at W;omega
 refine ab.loop (λz:List UInt8×Int×List ch×List Part×List Step×Int=>0<=z.2.2.2.2.2/\z.2.2.2.2.2<=6/\cO (k+1+60*(6-z.2.2.2.2.2)) ⟨z.1,z.2.1⟩/\da 1000 ⟨z.2.2.1,z.2.2.2.1⟩/\(∀s∈z.2.2.2.2.1,mZ s)/\(z.2.2.2.2.1.length:Int)<=6-z.2.2.2.2.2) (λz=>z.2.2.2.2.2.toNat) ?_ N _ ⟨I.1,I.2,X.mono Z,U,λs hs=>(by cases hs),by dsimp only;simp;omega⟩ Z;rintro w ⟨b,q,aF,ahI,out,c⟩ ⟨Y,f,y,A,a,g⟩ B;dsimp only at Y f y A a g⊢;refine aP (λt=>?_) λu=>?_
 ·refine ab.aA (λz:List UInt8×Int×List ch×List Part×List Step=>cO (k+1+60*(6-c)+60) ⟨z.1,z.2.1⟩/\da 1000 ⟨z.2.2.1,z.2.2.2.1⟩/\(∀s∈z.2.2.2.2,mZ s)/\(z.2.2.2.2.length:Int)<=6-c+1) (λv d=>?_) λz e=>?_
  ·refine ab.loop (λz:List UInt8×Int×Int=>0<=z.2.2/\z.2.2<=4/\cO (k+1+60*(6-c)+12*z.2.2) ⟨z.1,z.2.1⟩) (λz=>(4-z.2.2).toNat) ?_ N _ ⟨Z,Z,y.mono Z⟩ Z;rintro o ⟨eT,py,i⟩ ⟨E,M,C⟩ D;dsimp only at E M C⊢;refine aP (λP=>cb (F8 C ⟨O,O⟩) λS ⟨l,m⟩=>ag (L2 O A l) (ab.cond (λh=>ag (cY bQ) (d _ ⟨m.mono O,(Fa _ _).Pb,λs hs=>?_,?_⟩)) λh=>?_)) λP=>d _ ⟨C.mono O,A,a,Z⟩
   ·rcases d'.1 hs with hs|hs
    ·exact a s hs
    rw[mU.1 hs];exact l
   ·dsimp only;rw[dE,mS];omega
   rw[be O];exact D _ ⟨Z,Z,m.mono Z⟩ Z
  obtain⟨y1,z2,z3,z4,z5⟩:=z;obtain⟨K,L,Q,T⟩:=e;dsimp only at K L Q T⊢;rw[be O];exact B _ ⟨Z,Z,K.mono Z,L,Q,Z⟩ Z
 refine ab.aA (λz:List UInt8×Int×List Step=>cO (k+1000) ⟨z.1,z.2.1⟩/\(∀s∈z.2.2,mZ s)/\z.2.2.length<=8) (λj d=>cb (jn N y O) λV ⟨_,_,n⟩=>aP (λ_=>cb (F8 n ⟨O,O⟩) λnN ⟨F,G⟩=>ag (cY bQ) (d _ ⟨G.mono O,λs hs=>?_,?_⟩)) λ_=>d _ ⟨n.mono O,a,Z⟩) λz e=>ab.some ⟨e.2.1,e.2.2,e.1⟩
 ·rcases d'.1 hs with hs|hs
  ·exact a s hs
  rw[mU.1 hs];exact F
 dsimp only;rw[dE,mS];omega
end
theorem O3(b:Bool):(b==b)=true:=by cases b<;>rfl
variable {p:Prog}
theorem Xt{a b:Int}(h:(kh p a b).2=true)(d:(kh (kh p a b).1 a b).2=true):(kh (kh p a b).1 a b).1=p:=by
 have w:cI p a b=true:=by
  cases n:cI p a b with
  |true=>rfl
  |false=>unfold kh at h;rw[n,aY aV] at h;cases h
 obtain⟨F,i,k,P,l,rfl,rfl,x,y,A,o,r,G⟩:=jo w;rw[AQ w x y] at h d⊢;by_cases z:o0 p i k l=true
 ·rw[a1 z] at h d⊢;obtain⟨e,H⟩:=Oc (q:=(fP ⟨p.aR,p.parts.set i (fI k (gC l) P)⟩).1) (p:=⟨p.aR,p.parts.set i (fI k (gC l) P)⟩) (by rw[<-h]);rw[e] at d⊢;obtain⟨B,I⟩:=abf (c:=gC l) y;have C:(p.parts.set i (fI k (gC l) P))[i]? =some (fI k (gC l) P):=gj A;have s:cI (⟨p.aR,p.parts.set i (fI k (gC l) P)⟩:Prog) (i:Int) (k:Int)=true:=by
   cases n:cI (⟨p.aR,p.parts.set i (fI k (gC l) P)⟩:Prog) (i:Int) (k:Int) with
   |true=>rfl
   |false=>unfold kh at d;rw[n,aY aV] at d;cases d
  rw[AQ s C B] at d⊢;by_cases m:o0 ⟨p.aR,p.parts.set i (fI k (gC l) P)⟩ i k l=true
  ·rw[a1 m] at d⊢;obtain⟨D,_⟩:=Oc (q:=(fP ⟨p.aR,(p.parts.set i (fI k (gC l) P)).set i (fI k (gC l) (fI k (gC l) P))⟩).1) (p:=⟨p.aR,(p.parts.set i (fI k (gC l) P)).set i (fI k (gC l) (fI k (gC l) P))⟩) (by rw[<-d]);rw[D,XG r o,q',IU x]
  rw[aY m] at d;cases d
 rw[aY z] at h;cases h
theorem WG{c:Int}(l:(kM p c).2=true)(d:(kM (kM p c).1 c).2=true):(kM (kM p c).1 c).1=p:=by
 by_cases h:jl p c (c+1)=true
 ·obtain⟨i,e,k,rfl,m,n,q⟩:=B2 h;rw[yu h m n] at d⊢;dsimp only at d⊢;obtain⟨r,s⟩:=XX (a:=e) (b:=k) q;by_cases o:jl (⟨p.aR,fV p.parts i e k⟩:Prog) (i:Int) ((i:Int)+1)=true
  ·rw[yu o r s];show(⟨p.aR,fV (fV p.parts i e k) i k e⟩:Prog)=p;rw[WH m n]
  unfold kM at d;rw[aY o] at d;cases d
 unfold kM at l;rw[aY h] at l;cases l
theorem Xk{s:Step}(h:s.kind=2\/s.kind=1\/s.kind=9)(a:(im p s).2=true)(c:(im (im p s).1 s).2=true):(im (im p s).1 s).1=p:=by
 unfold im at a c⊢;by_cases d:p2 s=true
 ·rw[a1 d] at a c⊢;rw[a1 d] at c⊢;rcases h with e|e|e
  ·simp only[e,if_neg (show¬(2:Int)=1 by omega),if_pos] at a c⊢;exact Xt a c
  ·simp only[e,if_pos] at a c⊢;exact Yd a c
  simp only[e,if_neg (show¬(9:Int)=1 by omega),if_neg (show¬(9:Int)=2 by omega),if_neg (show¬(9:Int)=3 by omega),if_neg (show¬(9:Int)=4 by omega),if_neg (show¬(9:Int)=5 by omega),if_neg (show¬(9:Int)=6 by omega),if_neg (show¬(9:Int)=7 by omega),if_neg (show¬(9:Int)=8 by omega),if_pos] at a c⊢;exact WG a c
 rw[aY d] at a;cases a
theorem UC(a:List UInt8):ab (Cp N a) (λx=>da 1000 x.1/\mZ x.2):=by have p:N=100000:=rfl;unfold Cp;refine cb (ZA a) λq i=>cb (VC i O) λr ⟨c,k⟩=>cb (ZI k O (c.mono (O:10<=1000))) λl ⟨m,s,d⟩=>aP (λh=>cb (ZE O d O c) λw ⟨n,_⟩=>?_) λh=>cb (F8 d ⟨O,O⟩) λy ⟨o,_⟩=>ab.some ⟨c.mono (O:10<=1000),o⟩;have e:=br (O:0<l.1.length);exact ag (wF e) (ab.some ⟨n.mono (O:30<=1000),m _ (bE e)⟩)
theorem Tr(d:List UInt8):Jb N d=some true:=by
 have B:N=100000:=rfl;refine ab.eq ?_;unfold Jb;refine aP (λ_=>ab.some rfl) λ_=>cb (UC d) λy i=>?_;obtain⟨p,s⟩:=y;dsimp only at i⊢;obtain⟨i,m⟩:=i;have bM:=Fa p s;have hs:=MR (n:=N) O bM.Pb;refine ag (LL O i m) (ag (L2 O i m) (ab.aA (λz=>z=false->(im p s).2=true/\(s.kind=2\/s.kind=1\/s.kind=9)) (λj a=>?_) λz k=>?_))
 ·rw[O3];refine b3 (ag hs (b3 ?_));cases c:(im p s).2 with
  |false=>exact bS (a _ λh=>by cases h)
  |true=>
   rw[c] at a;refine b3 (eK (λev=>eK (λcz=>a _ λh=>⟨rfl,?_⟩) λcz=>a _ λ_=>⟨rfl,.inr (.inl cz)⟩) λev=>a _ λ_=>⟨rfl,.inl ev⟩);exact .inr (.inr (by simpa using h))
 cases z with
 |true=>
  refine bS (ab.aA (λz=>z=true) (λj a=>?_) λz k=>ab.some k);rw[O3];exact bS (ag hs (a _ rfl))
 |false=>
  obtain⟨q,A⟩:=k rfl;refine b3 (ag (VJ (l:=[s,s]) O i aV λx r=>by simp at r;rw[r];exact m) (ab.aA (λz=>z=true) (λj a=>?_) λz k=>ab.some k));cases c:(wT p [s,s]).2 with
  |false=>exact bS (a _ rfl)
  |true=>
   have e:(wT p [s,s]).1=p:=by
    unfold wT at c⊢;by_cases w:b6 p=true/\[s,s].length<=12
    ·rw[a1 w] at c⊢;simp only[rY] at c⊢;rw[a1 q] at c⊢;by_cases o:(im (im p s).1 s).2=true
     ·rw[a1 o];exact Xk A q o
     rw[aY o] at c;cases c
    rw[aY w] at c;cases c
   rw[e];exact b3 (ag (MR (n:=N) O i) (a _ rfl))
end Go.Lift
