/- Distances: sorted lists of points without doubles. -/
import Derived.Test.YtjmaejilmokdgaaGreatKTran1
set_option maxRecDepth 100000
set_option linter.unusedVariables false
namespace Go.Lift
open Go
theorem wL: ∀xs,cmpL xs xs=0
 | []=>rfl
 |x::xs=>by unfold cmpL;rw [if_neg (by omega),if_neg (by omega)];exact wL xs
theorem lW: ∀xs ys,cmpL ys xs= -cmpL xs ys
 | [],[]=>by simp [cmpL]
 | [],_::_=>by simp [cmpL]
 |_::_,[]=>by simp [cmpL]
 |x::xs,y::ys=>by
  unfold cmpL;by_cases h1:x<y
  ·simp [h1,show¬y<x by omega]
  by_cases h2:y<x
  ·simp [h1,h2]
  rw [if_neg h1,if_neg h2,if_neg h2,if_neg h1];exact lW xs ys
theorem u6: ∀{xs ys},cmpL xs ys=0→xs=ys
 | [],[],_=>rfl
 | [],_::_,h=>by simp [cmpL] at h
 |_::_,[],h=>by simp [cmpL] at h
 |x::xs,y::ys,h=>by
  unfold cmpL at h;by_cases h1:x<y
  ·rw [if_pos h1] at h;omega
  by_cases h2:y<x
  ·rw [if_neg h1,if_pos h2] at h;omega
  rw [if_neg h1,if_neg h2] at h;rw [u6 h,show x=y by omega]
theorem D4: ∀{xs ys zs},cmpL xs ys<0→cmpL ys zs<0→cmpL xs zs<0
 | [],[],_,h,_=>by simp [cmpL] at h
 | [],_::_,[],_,h=>by simp [cmpL] at h
 | [],_::_,_::_,_,_=>by simp [cmpL]
 |_::_,[],_,h,_=>by simp [cmpL] at h
 |_::_,_::_,[],_,h=>by simp [cmpL] at h
 |x::xs,y::ys,z::zs,h1,h2=>by
  unfold cmpL at h1 h2⊢;by_cases a:x<y
  ·by_cases b:y<z
   ·rw [if_pos (by omega)];omega
   by_cases c:z<y
   ·rw [if_neg b,if_pos c] at h2;omega
   rw [if_pos (by omega)];omega
  by_cases b:y<x
  ·rw [if_neg a,if_pos b] at h1;omega
  by_cases c:y<z
  ·rw [if_pos (by omega)];omega
  by_cases d:z<y
  ·rw [if_neg c,if_pos d] at h2;omega
  rw [if_neg (by omega),if_neg (by omega)];rw [if_neg a,if_neg b] at h1;rw [if_neg c,if_neg d] at h2;exact D4 h1 h2
theorem aDS: ∀xs ys,V3 xs ys=decide (cmpL xs ys<0)
 | [],[]=>rfl
 | [],_::_=>rfl
 |_::_,[]=>rfl
 |x::xs,y::ys=>by
  unfold V3 cmpL;by_cases h:x=y
  ·subst h;simp only [if_true,Int.lt_irrefl,if_false];exact aDS xs ys
  by_cases h1:x<y
  ·simp [h,h1]
  have:y<x:=by omega
  simp [h,h1,this]
abbrev SS(l:List (List Int)):Prop:=l.Pairwise fun a b=>cmpL a b<0
theorem aMu: ∀{l m:List (List Int)},SS l→SS m→(∀x,x∈l↔x∈m)→l=m
 | [],[],_,_,_=>rfl
 | [],y::m,_,_,h=>by have:=(h y).2 (by simp);simp at this
 |x::l,[],_,_,h=>by have:=(h x).1 (by simp);simp at this
 |x::l,y::m,hl,hm,h=>by
  obtain⟨l1,l2⟩:=vBi.1 hl;obtain⟨m1,m2⟩:=vBi.1 hm;have e:x=y:=by
   rcases pI.1 ((h x).1 (by simp)) with h1|h1
   ·exact h1
   rcases pI.1 ((h y).2 (by simp)) with h2|h2
   ·exact h2.symm
   have a:=m1 x h1;have b:=l1 y h2
   have:=D4 a b;rw [wL] at this;omega
  subst e;have hx1:x∉l:=fun hx=>by have:=l1 x hx;rw [wL] at this;omega
  have hx2:x∉m:=fun hx=>by have:=m1 x hx;rw [wL] at this;omega
  rw [aMu l2 m2 (fun z=>⟨fun hz=>by
   rcases pI.1 ((h z).1 (tZ _ hz)) with rfl|h3
   ·exact absurd hz hx1
   ·exact h3,fun hz=>by
   rcases pI.1 ((h z).2 (tZ _ hz)) with rfl|h3
   ·exact absurd hz hx2
   exact h3⟩)]
def rC:List (List Int)→List Int→List (List Int)
 | [],d=>[d]
 |x::xs,d=>if cmpL d x<0 then d::x::xs else x::rC xs d
theorem W3{d z:List Int}: ∀{l:List (List Int)},z∈rC l d↔z=d∨z∈l
 | []=>by simp [rC]
 |x::xs=>by
  unfold rC;split
  ·simp
  simp only [List.mem_cons,W3 (l:=xs)];constructor
  ·rintro(h|h|h)
   ·exact .inr (.inl h)
   ·exact .inl h
   exact .inr (.inr h)
  rintro(h|h|h)
  ·exact .inr (.inl h)
  ·exact .inl h
  exact .inr (.inr h)
theorem aHe{d:List Int}: ∀{l:List (List Int)},SS l→d∉l→SS (rC l d)
 | [],_,_=>by simp [rC]
 |x::xs,hl,hd=>by
  obtain⟨l1,l2⟩:=vBi.1 hl;unfold rC;split
  ·rename_i h;refine vBi.2 ⟨fun z hz=>?_,hl⟩;rcases pI.1 hz with rfl|hz
   ·exact h
   exact D4 h (l1 z hz)
  rename_i h;refine vBi.2 ⟨fun z hz=>?_,aHe l2 fun hx=>hd (tZ _ hx)⟩;rcases W3.1 hz with rfl|hz
  ·have h1:=lW z x;have h2:cmpL z x≠0:=fun e=>hd (by rw [u6 e];simp);omega
  exact l1 z hz
def qP(l:List (List Int))(d:List Int):List (List Int):=if d∈l then l else rC l d
theorem aMh{l:List (List Int)}(h:SS l)(d:List Int):SS (qP l d):=by
 unfold qP;split
 ·exact h
 exact aHe h ‹_›
theorem aEK{l:List (List Int)}{d z:List Int}:z∈qP l d↔z=d∨z∈l:=by
 unfold qP;split
 ·rename_i h;exact⟨.inr,fun hz=>by rcases hz with rfl|hz;exact h;exact hz⟩
 exact W3
theorem aCA: ∀(ds l:List (List Int)),SS l→SS (ds.foldl qP l)∧ ∀z,z∈ds.foldl qP l↔z∈l∨z∈ds
 | [],l,h=>⟨h,fun z=>by simp⟩
 |d::ds,l,h=>by
  obtain⟨h1,h2⟩:=aCA ds (qP l d) (aMh h d);refine⟨h1,fun z=>?_⟩;rw [List.foldl_cons,h2 z,aEK,pI];constructor
  ·rintro((h|h)|h)
   ·exact .inr (.inl h)
   ·exact .inl h
   exact .inr (.inr h)
  rintro(h|h|h)
  ·exact .inl (.inr h)
  ·exact .inl (.inl h)
  exact .inr h
def b8:List (List Int)→List (List Int)
 | []=>[]
 | [x]=>[x]
 |x::y::r=>if x=y then b8 (y::r) else x::b8 (y::r)
theorem s6{z:List Int}: ∀{l:List (List Int)},z∈b8 l↔z∈l
 | []=>by simp [b8]
 | [x]=>by simp [b8]
 |x::y::r=>by
  have ih:=s6 (z:=z) (l:=y::r);unfold b8;split
  ·rename_i h;subst h;rw [ih];simp
  rw [pI,ih];simp
theorem u5: ∀{l:List (List Int)},l.Pairwise (fun a b=> ¬cmpL b a<0)→SS (b8 l)
 | [],_=>by simp [b8]
 | [x],_=>by simp [b8]
 |x::y::r,h=>by
  obtain⟨h1,h2⟩:=vBi.1 h;obtain⟨h3,_⟩:=vBi.1 h2;unfold b8;split
  ·exact u5 h2
  rename_i hne;refine vBi.2 ⟨fun z hz=>?_,u5 h2⟩;have hxy:cmpL x y<0:=by
   have a:=h1 y (by simp);have b:=lW x y;have c:cmpL x y≠0:=fun e=>hne (u6 e);omega
  rcases pI.1 (s6.1 hz) with rfl|hz
  ·exact hxy
  have a:=h3 z hz;have b:=lW y z;by_cases e:cmpL y z=0
  ·rw [←u6 e];exact hxy
  exact D4 hxy (by omega)
theorem aCb(l:List (List Int)):(eH l).Pairwise (fun a b=> ¬cmpL b a<0):=by
 have:=List.pairwise_mergeSort (le:=fun x y=> !decide (cmpL y x<0)) (fun a b c h1 h2=>by
  simp only [Bool.not_eq_true',decide_eq_false_iff_not] at*;intro h;have f1:=lW a b;have f2:=lW b c;by_cases e:cmpL b a=0
  ·rw [u6 e] at h2;exact h2 h
  ·exact h2 (D4 h (by omega))) (fun a b=>by
  have f1:=lW a b;by_cases h:cmpL b a<0
  ·have: ¬cmpL a b<0:=by omega
   simp [h,this]
  simp [h]) l
 refine this.imp fun h=>?_;simpa using h
theorem aL4(ds:List (List Int)):b8 (eH ds)=ds.foldl qP []:=by obtain⟨h1,h2⟩:=aCA ds [] List.Pairwise.nil;refine aMu (u5 (aCb ds)) h1 fun z=>?_;rw [s6,h2 z];unfold eH;rw [List.mem_mergeSort];simp
def kN(b a:List Int):List Int:=List.zipWith (fun x y=>x-y) b a
theorem aDQ{R:Type}{Q:R→Prop}{n:Nat}{a b:List Int}(hl:a.length=b.length)(hb:b.length≤1000)(hn:1000<n)(ha1: ∀x∈a,w3 9999 x)(hb1: ∀x∈b,w3 9999 x){K:List Int→Option R}(hK:Ev (K (kN b a)) Q):
  Ev (aM (fun again15 ((x12,x13):(List Int)×Int)=>
   bif decide (x13<(b.length:Int)) then(
    Option.bind (ix b x13) fun x16=>
    Option.bind (ix a x13) fun x17=>
    Option.bind (app x12 [wr (x16-x17)]) fun x18=>
    again15 (x18,wr (x13+1))
   ) else(
    K x12
   )) n ([],0)) Q:=by
 refine Ev.loop (fun x:List Int×Int=> ∃i:Nat,x.2=i∧i≤b.length∧x.1=(kN b a).take i) (fun x=>b.length-x.2.toNat) ?_ n _ ⟨0,rfl,by omega,by simp⟩ (by dsimp only;omega);rintro again ⟨x,k⟩ ⟨i,hk,hi,hx⟩ hr;dsimp only at hk hx⊢;subst hk;have hml:(kN b a).length=b.length:=by unfold kN;rw [vBF];omega
 refine aH (fun hlt=>?_) fun hge=>?_
 ·have hlt:i<b.length:=by omega
  have e1:=cO hlt;have e2:=cO (show i<a.length by omega);have b1:=hb1 _ (O9 hlt);have b2:=ha1 _ (O9 (show i<a.length by omega));unfold w3 at b1 b2;refine aA (aN e1) (aA (aN e2) (aA (bT (by rw [hx,qC];simp;omega)) ?_));rw [aS (n:=b[i]-a[i]) (by omega),aS (by omega)];refine hr _ ⟨i+1,by dsimp only;omega,by omega,?_⟩ (by dsimp only;omega);dsimp only;rw [yV,←hx];congr 1;unfold kN;rw [List.getElem?_zipWith,e1,e2];rfl
 have:i=b.length:=by omega
 subst this;rw [vBb (by omega)] at hx;rw [hx];exact hK
theorem aFg{n:Nat}{a b:List Int}(hl:a.length=b.length)(hb:b.length≤1000)(hn:1000<n)(ha1: ∀x∈a,w3 9999 x)(hb1: ∀x∈b,w3 9999 x):vT n b a=some (kN b a):=by unfold vT;exact Ev.eq (aDQ hl hb hn ha1 hb1 (Ev.some rfl))
theorem aJe{n:Nat}(hn:20000≤n){l:List (List Int)}{d:List Int}(hl:l.length≤15000)(h1: ∀x∈l,x.length≤1000)(hd:d.length≤1000):P3 n l d=some (qP l d):=by
 unfold P3;refine Ev.eq (Ev.loop (fun x:List (List Int)×Bool×Int=> ∃i:Nat,x.2.2=i∧i≤l.length∧d∉l.take i∧(x.2.1=true→x.1.length≤i+1∧rC l d=x.1++l.drop i)∧(x.2.1=false→x.1.length≤i∧rC l d=x.1++rC (l.drop i) d)) (fun x=>l.length-x.2.2.toNat) ?_ n _ ⟨0,rfl,by omega,by simp,(fun h=>by cases h),fun _=>⟨by simp,by simp⟩⟩ (by dsimp only;omega));rintro again ⟨x1,x2,k⟩ ⟨i,hk,hi,hni,hT,hF⟩ hr;dsimp only at hk hT hF⊢;subst hk;refine aH (fun hlt=>?_) fun hge=>?_
 ·have hlt:i<l.length:=by omega
  have e1:=cO hlt;have hx6:l[i].length≤1000:=h1 _ (O9 hlt);refine aA (aN e1) (aA (aDF (by omega) (by omega)) (aH (fun heq=>Ev.some ?_) fun hne=>?_))
  ·unfold qP;rw [if_pos (by rw [←heq];exact O9 hlt)]
  have hdrop:=vBf hlt;have hni':d∉l.take (i+1):=by
   rw [yV,e1];simp only [List.mem_append,Option.toList_some,List.mem_singleton];rintro(h|h)
   ·exact hni h
   exact hne h.symm
  refine Ev.jn (fun z:List (List Int)×Bool=>(z.2=true→z.1.length≤i+1∧rC l d=z.1++l.drop i)∧(z.2=false→z.1.length≤i∧rC l d=z.1++l[i]::rC (l.drop (i+1)) d)) (fun j hj=>?_) fun z hz=>?_
  ·refine Ev.jn (fun z:Bool=>z=(!x2&&V3 d l[i])) (fun j2 hj2=>Ev.cond (fun h=>?_) fun h=>hj2 _ ?_) fun z hz=>?_
   ·have h:x2=false:=by simpa using h
    exact aA (aJd (by omega) hd hx6) (hj2 _ (by rw [h];rfl))
   ·have h:x2=true:=by simpa using h
    rw [h];rfl
   subst hz;cases hx2:x2 with
   |true=>exact cE (hj _ ⟨fun _=>hT hx2,fun h=>by cases h⟩)
   |false=>
    obtain⟨f1,f2⟩:=hF hx2;rw [hdrop] at f2;rw [aDS];by_cases hc:cmpL d l[i]<0
    ·rw [decide_eq_true hc];refine cD (aA (bT (by simp;omega)) (hj _ ⟨fun _=>⟨by simp;omega,?_⟩,fun h=>by cases h⟩));rw [f2,hdrop];unfold rC;rw [if_pos hc];simp
    rw [decide_eq_false hc];refine cE (hj _ ⟨(fun h=>by cases h),fun _=>⟨f1,?_⟩⟩);rw [f2]
    conv=>lhs;rw [rC]
    rw [if_neg hc]
  obtain⟨z1,z2⟩:=z;obtain⟨g1,g2⟩:=hz;dsimp only at g1 g2⊢;have hz1:z1.length≤i+1:=by
   cases z2 with
   |true=>exact(g1 rfl).1
   |false=>have:=(g2 rfl).1;omega
  refine aA (bT (by simp;omega)) ?_;rw [aS (by omega)];refine hr _ ⟨i+1,by dsimp only;omega,by omega,hni',fun h=>?_,fun h=>?_⟩ (by dsimp only;omega)
  ·obtain⟨a1,a2⟩:=g1 h;refine⟨by simp;omega,?_⟩;rw [a2,hdrop];simp
  obtain⟨a1,a2⟩:=g2 h;refine⟨by simp;omega,?_⟩;rw [a2];simp
 have:i=l.length:=by omega
 subst this;rw [qS] at hni;have hadd:qP l d=rC l d:=by unfold qP;rw [if_neg hni]
 rw [hadd];refine Ev.jn (fun z=>z=rC l d) (fun j hj=>Ev.cond (fun h=>?_) fun h=>hj _ ?_) fun z hz=>Ev.some hz
 ·have h:x2=false:=by simpa using h
  obtain⟨a1,a2⟩:=hF h;refine aA (bT (by simp;omega)) (hj _ ?_);rw [a2,vBn];rfl
 have h:x2=true:=by simpa using h
 obtain⟨a1,a2⟩:=hT h;rw [a2,vBn,vBj]
theorem aDW(d:List Int): ∀l:List (List Int),(rC l d).length=l.length+1
 | []=>rfl
 |x::xs=>by
  unfold rC;split
  ·rfl
  rw [List.length_cons,aDW d xs];rfl
theorem aEL(l:List (List Int))(d:List Int):(qP l d).length≤l.length+1:=by
 unfold qP;split
 ·omega
 rw [aDW];omega
def dif(I:List Inst)(part:Int)(d:Dep):Option (List Int):=match I[d.fromF.toNat]?,I[d.toF.toNat]? with
 |some a,some b=>if a.part=part∧b.part=part then some (kN b.point a.point) else none
 |_,_=>none
def Y5(p:Prog)(part:Int):List (List Int):=(jK p (insts p.parts) (insts p.parts).length).filterMap (dif (insts p.parts) part)
theorem inst_pt{p:Prog}(hv:cF p=true){x:Inst}(hx:fI p x): ∃P,p.parts[x.part.toNat]? =some P∧0≤x.part∧x.point.length=P.nest.length∧x.point.length≤4∧ ∀y∈x.point,w3 9999 y:=by obtain⟨hl,hd,h4,hpo,hil⟩:=iZ hv;obtain⟨i,k,P,s,e1,e2,e3,e4,e5⟩:=hx;obtain⟨q1,q2,q3,q4⟩:=hJ (hpo P (cP e3));obtain⟨hf,hp1,hp2,hp3,hp4⟩:=aGH q1;have hs:=cP e4;have hpt:=(q4 s hs _ e5).2;unfold ptV at hpt;simp only [Bool.and_eq_true,decide_eq_true_eq,List.all_eq_true] at hpt;exact⟨P,by rw [e1,P0];exact e3,by omega,(hp2 _ e5).1,hpt.1,fun y hy=>hpt.2 y hy⟩
theorem aL5{I:List Inst}{part:Int}(h: ∀x∈I,x.point.length≤4){d:Dep}{v:List Int}(hv:dif I part d=some v):v.length≤4:=by
 unfold dif at hv;split at hv
 ·rename_i a b ha hb;split at hv
  ·cases hv;unfold kN;rw [vBF]
   have:=h b (cP hb);omega
  cases hv
 cases hv
theorem uZ{α β:Type}{f:α→Option β}{l:List α}{i:Nat}{x:α}(h:l[i]? =some x):(l.take (i+1)).filterMap f=(l.take i).filterMap f++(f x).toList:=by rw [yV,h,List.filterMap_append];cases hx:f x<;>simp [hx]
theorem aFh{n:Nat}(hn:20000≤n){p:Prog}(hp:SmP p)(hv:cF p=true)(part:Int):l5 n p part=some ((Y5 p part).foldl qP []):=by
 have hil:=(iZ hv).2.2.2.2;unfold l5;refine Ev.eq (aA (uI (by omega) hv) (aA (aHK (by omega) hv) ?_));have hok: ∀x∈insts p.parts,fI p x:=fun x hx=>insts_mem hx;have hD:=Y6 (p:=p) hil;have hb:=aKu (p:=p) (l:=insts p.parts);unfold Y5;generalize jK p (insts p.parts) (insts p.parts).length=D at*;generalize insts p.parts=I at*;have hpt: ∀x∈I,x.point.length≤4:=fun x hx=>(inst_pt hv (hok x hx)).choose_spec.2.2.2.1;refine Ev.loop (fun x:List (List Int)×Int=> ∃i:Nat,x.2=i∧i≤D.length∧x.1=((D.take i).filterMap (dif I part)).foldl qP []∧x.1.length≤i∧ ∀y∈x.1,y.length≤4) (fun x=>D.length-x.2.toNat) ?_ n _ ⟨0,rfl,by omega,by simp,by simp,by simp⟩ (by dsimp only;omega);rintro again ⟨x3,k⟩ ⟨i,hk,hi,hx,hlen,hall⟩ hr;dsimp only at hk hx hlen hall⊢;subst hk;refine aH (fun hlt=>?_) fun hge=>Ev.some ?_
 ·have hlt:i<D.length:=by omega
  have e1:=cO hlt;obtain⟨d1,d2,d3⟩:=hb _ (O9 hlt);have ea:=aHc (l:=I) (c:=D[i].fromF) d1 (by omega);have eb:=aHc (l:=I) (c:=D[i].toF) (by omega) (by omega);have ha:=O9 (show D[i].fromF.toNat<I.length by omega);have hbm:=O9 (show D[i].toF.toNat<I.length by omega);have hfa:I[D[i].fromF.toNat]? =some I[D[i].fromF.toNat]:=cO _;have hfb:I[D[i].toF.toNat]? =some I[D[i].toF.toNat]:=cO _;obtain⟨PA,pa1,pa2,pa3,pa4,pa5⟩:=inst_pt hv (hok _ ha);obtain⟨PB,pb1,pb2,pb3,pb4,pb5⟩:=inst_pt hv (hok _ hbm);refine Ev.jn (fun z=>z.2.2.2.2.2.2=((D.take (i+1)).filterMap (dif I part)).foldl qP []∧z.2.2.2.2.2.2.length≤i+1∧ ∀y∈z.2.2.2.2.2.2,y.length≤4) (fun j hj=>aA (aN e1) (aA ea (aA eb ?_))) fun z hz=>?_
  ·rw [uZ e1,List.foldl_append,←hx] at hj;refine Ev.jn (fun z:Bool=>z=decide (I[D[i].fromF.toNat].part=part∧I[D[i].toF.toNat].part=part)) (fun j2 hj2=>aH (fun h=>hj2 _ ?_) fun h=>hj2 _ ?_) fun z hz=>?_
   ·exact decide_eq_decide.2 ⟨fun h2=>⟨h,h2⟩,fun h2=>h2.2⟩
   ·exact(decide_eq_false fun h2=>h h2.1).symm
   subst hz;have hdif:dif I part D[i]=if I[D[i].fromF.toNat].part=part∧I[D[i].toF.toNat].part=part then some (kN I[D[i].toF.toNat].point I[D[i].fromF.toNat].point) else none:=by
    unfold dif;rw [hfa,hfb]
   refine aH (fun h=>?_) fun h=>hj _ ?_
   ·have hPP:PA=PB:=by
     rw [h.1] at pa1;rw [h.2] at pb1;rw [pa1] at pb1;cases pb1;rfl
    subst hPP;refine aA (aFg (by omega) (by omega) (by omega) pa5 pb5) (aA (aJe hn (by omega) (fun y hy=>by have:=hall y hy;omega) (by unfold kN;rw [vBF];omega)) (hj _ ?_));rw [hdif,if_pos h];dsimp only [Option.toList,List.foldl];refine⟨rfl,?_,fun y hy=>?_⟩
    ·have:=aEL x3 (kN I[D[i].toF.toNat].point I[D[i].fromF.toNat].point);omega
    rcases aEK.1 hy with rfl|hy
    ·unfold kN;rw [vBF];omega
    exact hall y hy
   rw [hdif,if_neg h];exact⟨rfl,by dsimp only;omega,hall⟩
  obtain⟨z1,z2,z3⟩:=hz;rw [aS (by omega)];exact hr _ ⟨i+1,by dsimp only;omega,by omega,z1,z2,z3⟩ (by dsimp only;omega)
 have:i=D.length:=by omega
 subst this;rw [hx,qS]
theorem D3(x:List Int): ∀(y:List Int) (a:List (List Int)),b8 ((y::a)++[x])=if(y::a).getLast (by simp)=x then b8 (y::a) else b8 (y::a)++[x]
 |y,[]=>by
  by_cases h:y=x
  ·subst h;simp [b8]
  simp [b8,h]
 |y,z::a=>by
  have ih:=D3 x z a;rw [List.getLast_cons (by simp)];show b8 (y::z::(a++[x]))=_;unfold b8;by_cases h:y=z
  ·rw [if_pos h,if_pos h];exact ih
  rw [if_neg h,if_neg h];have ih':b8 (z::(a++[x]))=_:=ih;rw [ih'];split<;>simp
theorem aCO{s:List (List Int)}{m:Nat}(hm:1≤m)(hl:m<s.length):b8 (s.take (m+1))=if s[m-1]=s[m] then b8 (s.take m) else b8 (s.take m)++[s[m]]:=by
 have e:s.take (m+1)=s.take m++[s[m]]:=by rw [yV,cO hl];rfl
 have hne:s.take m≠[]:=by
  intro h
  have:=congrArg List.length h;rw [qC,Nat.min_eq_left (by omega),List.length_nil] at this;omega
 have hlast: ∀h,(s.take m).getLast h=s[m-1]:=fun h=>by
  rw [List.getLast_eq_getElem,List.getElem_take];congr 1;rw [qC];omega
 rw [e];obtain⟨y,a,hya⟩: ∃y a,s.take m=y::a:=by
  cases h:s.take m with
  |nil=>exact absurd h hne
  |cons y a=>exact⟨y,a,rfl⟩
 have hl2:=hlast hne;simp only [hya] at hl2⊢;rw [D3,hl2]
def lvl(d:List Int):Option Nat:=d.findIdx? fun x=> !decide (x=0)
def aCo(d:List Int):Int:=match lvl d with
 |some i=>(i:Int)
 |none=> -1
theorem aFJ{n:Nat}{d:List Int}(hd:d.length≤1000)(hn:1000<n):nG n d=some (aCo d):=by
 unfold nG;refine Ev.eq (aA (x:=aCo d) ?_ (Ev.some rfl));unfold gD;refine Ev.eq (Ev.loop (fun x:Int=> ∃i:Nat,x=i∧i≤d.length∧ ∀j,j<i→d.getD j 0=0) (fun x=>d.length-x.toNat) ?_ n _ ⟨0,rfl,by omega,fun j hj=>absurd hj (vBr _)⟩ (by omega));rintro again z ⟨i,rfl,hi,h0⟩ hr;have hz: ∀j (hj:j<d.length),j<i→d[j]=0:=fun j hj hji=>by
  have:=h0 j hji
  rwa [N1,cO hj] at this
 refine aH (fun hlt=>?_) fun hge=>Ev.some ?_
 ·have hlt:i<d.length:=by omega
  have e1:=cO hlt;refine aA (aN e1) (aA (x:= !decide (d[i]=0)) rfl (dQ (fun hne=>Ev.some ?_) fun he=>?_))
  ·have:lvl d=some i:=by
    unfold lvl;rw [vBw];exact⟨hlt,by simp [hne],fun j hj=>by simp [hz j (by omega) hj]⟩
   unfold aCo;rw [this]
  rw [aS (by omega)];refine hr _ ⟨i+1,by omega,by omega,fun j hj=>?_⟩ (by omega);by_cases hji:j=i
  ·subst hji;rw [N1,e1];exact he
  exact h0 j (by omega)
 have:lvl d=none:=by
  unfold lvl;rw [List.findIdx?_eq_none_iff];intro x hx;obtain⟨j,hj⟩:=vAH.1 hx;obtain⟨hjl,rfl⟩:=cS.1 hj;simp [hz j hjl (by omega)]
 unfold aCo;rw [this]
theorem aJF{n:Nat}{p:Prog}(hp:SmP p){i:Nat}{P:Part}(hP:p.parts[i]? =some P):dB n p (i:Int)=some true:=by have hi:=(cS.1 hP).1;rw [wD n hp.2.1,decide_eq_true (by omega)]
theorem aFC(kp:Nat→Bool)(m:Nat):keptL kp (m+1)=keptL kp m++(if kp m then [m] else []):=by unfold keptL;rw [vBA,List.filter_append];congr 1;by_cases h:kp m<;>simp [h]
theorem aHl(l:List (List Int)): ∀m,m≤l.length→(keptL (ddK l) m).map (fun j=>l.getD j [])=b8 (l.take m)
 |0,_=>rfl
 |m+1,h=>by
  have ih:=aHl l m (by omega);have hm:m<l.length:=by omega
  have e0:l.getD m []=l[m]:=by rw [N1,cO hm];rfl
  rw [aFC,vAO,ih];by_cases h0:m=0
  ·subst h0;have e1:ddK l 0=true:=by simp [ddK]
   rw [e1,if_pos rfl,List.take_zero];show b8 []++[l.getD 0 []]=_;rw [e0,yV,cO hm];rfl
  rw [aCO (by omega) hm];have e1:l.getD (m-1) []=l[m-1]:=by rw [N1,cO (by omega)];rfl
  have e2:ddK l m= !decide (l[m-1]=l[m]):=by
   unfold ddK;rw [e0,e1];by_cases hq:l[m-1]=l[m]
   ·simp [h0,hq]
   have hq':l[m]≠l[m-1]:=fun e=>hq e.symm;simp [h0,hq,hq']
  rw [e2];by_cases hq:l[m-1]=l[m]
  ·rw [if_pos hq,decide_eq_true hq];simp
  rw [if_neg hq,decide_eq_false hq];show _++[l.getD m []]=_;rw [e0]
theorem aF5(l:List (List Int)):ddL l=b8 l:=by have:=aHl l l.length (jW _);rw [qS] at this;exact this
theorem aD0{n:Nat}(hn:20000≤n){p:Prog}(hv:cF p=true)(part:Int):fB n (trc p) part=some ((Y5 p part).foldl qP []):=by
 have hil:=(iZ hv).2.2.2.2;unfold fB;refine Ev.eq (aA (aH6 (by omega) hv) ?_);rw [show(trc p).list=insts p.parts from rfl];have hok: ∀x∈insts p.parts,fI p x:=fun x hx=>insts_mem hx;have hD:=Y6 (p:=p) hil;have hb:=aKu (p:=p) (l:=insts p.parts);unfold Y5;generalize jK p (insts p.parts) (insts p.parts).length=D at*;generalize insts p.parts=I at*;have hpt: ∀x∈I,x.point.length≤4:=fun x hx=>(inst_pt hv (hok x hx)).choose_spec.2.2.2.1;refine Ev.loop (fun x:List (List Int)×Int=> ∃i:Nat,x.2=i∧i≤D.length∧x.1=(D.take i).filterMap (dif I part)) (fun x=>D.length-x.2.toNat) ?_ n _ ⟨0,rfl,by omega,by simp⟩ (by dsimp only;omega);rintro again ⟨x3,k⟩ ⟨i,hk,hi,hx⟩ hr;dsimp only at hk hx⊢;subst hk;have hlen:x3.length≤i:=by
  rw [hx];refine vAQ (List.length_filterMap_le _ _) ?_;rw [qC];omega
 refine aH (fun hlt=>?_) fun hge=>?_
 ·have hlt:i<D.length:=by omega
  have e1:=cO hlt;obtain⟨d1,d2,d3⟩:=hb _ (O9 hlt);have ea:=aHc (l:=I) (c:=D[i].fromF) d1 (by omega);have eb:=aHc (l:=I) (c:=D[i].toF) (by omega) (by omega);have ha:=O9 (show D[i].fromF.toNat<I.length by omega);have hbm:=O9 (show D[i].toF.toNat<I.length by omega);have hfa:I[D[i].fromF.toNat]? =some I[D[i].fromF.toNat]:=cO _;have hfb:I[D[i].toF.toNat]? =some I[D[i].toF.toNat]:=cO _;obtain⟨PA,pa1,pa2,pa3,pa4,pa5⟩:=inst_pt hv (hok _ ha);obtain⟨PB,pb1,pb2,pb3,pb4,pb5⟩:=inst_pt hv (hok _ hbm);have hdif:dif I part D[i]=if I[D[i].fromF.toNat].part=part∧I[D[i].toF.toNat].part=part then some (kN I[D[i].toF.toNat].point I[D[i].fromF.toNat].point) else none:=by
   unfold dif;rw [hfa,hfb]
  refine Ev.jn (fun z=>z.1=(D.take (i+1)).filterMap (dif I part)) (fun j hj=>aA (aN e1) (aA ea (aA eb ?_))) fun z hz=>?_
  ·rw [uZ e1,←hx] at hj;refine Ev.jn (fun z:Bool=>z= !decide (I[D[i].fromF.toNat].part=part∧I[D[i].toF.toNat].part=part)) (fun j2 hj2=>dQ (fun h=>hj2 _ ?_) fun h=>hj2 _ ?_) fun z hz=>?_
   ·rw [decide_eq_false fun h2=>h h2.1];rfl
   ·congr 1;exact decide_eq_decide.2 ⟨fun h2=>⟨h,h2⟩,fun h2=>h2.2⟩
   subst hz;refine dQ (fun h=>hj _ ?_) fun h=>?_
   ·rw [hdif,if_neg h];simp
   have hPP:PA=PB:=by
    rw [h.1] at pa1;rw [h.2] at pb1;rw [pa1] at pb1;cases pb1;rfl
   subst hPP;refine aDQ (K:=fun x12=>Option.bind (app x3 [x12]) fun x19=>j (x19,D[i].fromF,D[i].toF,D[i].kinds,I[D[i].fromF.toNat].part,I[D[i].fromF.toNat].stmt,I[D[i].fromF.toNat].point,I[D[i].toF.toNat].part,I[D[i].toF.toNat].stmt,I[D[i].toF.toNat].point)) (by omega) (by omega) (by omega) pa5 pb5 ?_;refine aA (bT (by simp;omega)) (hj _ ?_);rw [hdif,if_pos h];rfl
  rw [aS (by omega)];exact hr _ ⟨i+1,by dsimp only;omega,by omega,hz⟩ (by dsimp only;omega)
 have:i=D.length:=by omega
 subst this;rw [qS] at hx;subst hx;have hall: ∀y∈D.filterMap (dif I part),y.length≤4:=fun y hy=>by
  obtain⟨d,_,hd⟩:=List.mem_filterMap.1 hy;exact aL5 hpt hd
 have hsl:(eH (D.filterMap (dif I part))).length≤15000:=by unfold eH;rw [List.length_mergeSort];omega
 refine aA (x:=eH (D.filterMap (dif I part))) (by unfold m_sortL;rw [if_pos ⟨by omega,fun y hy=>by have:=hall y hy;omega⟩]) (Ev.some ?_);rw [aF5];exact aL4 _
def dsO(p:Prog)(i:Nat):List (List Int):=(Y5 p i).foldl qP []
theorem aFK{n:Nat}(hn:20000≤n){p:Prog}(hp:SmP p)(hv:cF p=true){i:Nat}{P:Part}(hP:p.parts[i]? =some P):mD n p (i:Int)=some (dsO p i):=by unfold mD;refine Ev.eq (aA (aFH (by omega) hp) ?_);rw [if_pos hv];refine cD (Ev.jn (fun z=>z=false) (fun j hj=>cE (aA (aJF hp hP) (hj _ rfl))) fun z hz=>?_);rw [hz];exact cE (aA (aD0 hn hv _) (Ev.some rfl))
theorem aNB{p:Prog}{i:Nat}{d:List Int}:d∈dsO p i↔d∈Y5 p i:=by
 unfold dsO
 have:=(aCA (Y5 p i) [] .nil).2 d;simpa using this
theorem aBF: ∀(ds l:List (List Int)),(ds.foldl qP l).length≤l.length+ds.length
 | [],l=>by simp
 |d::ds,l=>by
  rw [List.foldl_cons]
  have:=aBF ds (qP l d)
  have:=aEL l d;rw [List.length_cons];omega
theorem aKr{p:Prog}(hv:cF p=true){i:Nat}:(dsO p i).length≤15000:=by
 have hil:=(iZ hv).2.2.2.2;have hD:=Y6 (p:=p) hil
 have:=aBF (Y5 p i) [];have h2:(Y5 p i).length≤(jK p (insts p.parts) (insts p.parts).length).length:=by unfold Y5;exact List.length_filterMap_le _ _
 unfold dsO;rw [List.length_nil] at this;omega
theorem C9{p:Prog}(hv:cF p=true){i:Nat}{P:Part}(hP:p.parts[i]? =some P){d:List Int}(hd:d∈dsO p i):d.length=P.nest.length∧ ∀x∈d,w3 99999 x:=by
 have hd:=aNB.1 hd;unfold Y5 at hd;obtain⟨e,_,he⟩:=List.mem_filterMap.1 hd;unfold dif at he;split at he
 ·rename_i a b ha hb;split at he
  ·rename_i hp;cases he;have hak:fI p a:=insts_mem (cP ha);have hbk:fI p b:=insts_mem (cP hb);obtain⟨PA,a1,a2,a3,a4,a5⟩:=inst_pt hv hak;obtain⟨PB,b1,b2,b3,b4,b5⟩:=inst_pt hv hbk;rw [hp.1,P0,hP] at a1;rw [hp.2,P0,hP] at b1;cases a1;cases b1;unfold kN;refine⟨by rw [vBF];omega,fun x hx=>?_⟩;obtain⟨u,v,hu,hv2,rfl⟩: ∃u v,u∈b.point∧v∈a.point∧x=u-v:=by
    rw [vAH] at hx;obtain⟨k,hk⟩:=hx;rw [List.getElem?_zipWith] at hk;cases h1:b.point[k]? with
    |none=>rw [h1] at hk;cases hk
    |some u=>
     cases h2:a.point[k]? with
     |none=>rw [h1,h2] at hk;cases hk
     |some v=>
      rw [h1,h2] at hk;cases hk;exact⟨u,v,cP h1,cP h2,rfl⟩
   have q1:=b5 u hu;have q2:=a5 v hv2;unfold w3 at*;omega
  cases he
 cases he
def A8(d:List Int):Bool:=match lvl d with
 |some k=>decide (0≤d.getD k 0)
 |none=>true
theorem aJx{d:List Int}{k:Nat}(h:lvl d=some k):k<d.length∧d.getD k 0≠0:=by unfold lvl at h;rw [vBw] at h;obtain⟨h1,h2,_⟩:=h;refine⟨h1,?_⟩;rw [N1,cO h1];simpa using h2
theorem aFI{n:Nat}(hn:20000≤n){p:Prog}(hp:SmP p)(hv:cF p=true){i:Nat}{P:Part}(hP:p.parts[i]? =some P){F:List Int→Option (List Int)}{f:List Int→List Int}(hF: ∀d∈dsO p i,F d=some (f d))(hl: ∀d,(f d).length=d.length):
  P9 n p (i:Int) F=some ((dsO p i).all fun d=>A8 (f d)):=by
 unfold P9;refine Ev.eq (aA (aFK hn hp hv hP) ?_);have hlen:=aKr hv (i:=i);have hsh:=fun d hd=>(C9 hv hP (d:=d) hd).1;have h4:=(pO ((iZ hv).2.2.2.1 P (cP hP))).1;generalize dsO p i=D at hF hlen hsh;refine Ev.loop (fun x:List (List Int)×Int=> ∃k:Nat,x.2=k∧k≤D.length∧x.1.length=D.length∧(∀t,k≤t→x.1[t]? =D[t]?)∧ ∀d∈D.take k,A8 (f d)=true) (fun x=>D.length-x.2.toNat) ?_ n _ ⟨0,rfl,by omega,rfl,fun _ _=>rfl,fun d hd=>by simp at hd⟩ (by dsimp only;omega);rintro again ⟨rows,kz⟩ ⟨k,hk,hkl,hrl,hrest,hpos⟩ hr;dsimp only at hk hrl hrest⊢;subst hk;refine aH (fun hlt=>?_) fun hge=>Ev.some ?_
 ·have hlt:k<D.length:=by omega
  have e1:rows[k]? =some D[k]:=by rw [hrest k (jW _),cO hlt]
  have hm:=O9 hlt;have hle:(f D[k]).length≤4:=by rw [hl,hsh _ hm];exact h4
  refine aA (aN e1) (aA (hF _ hm) (aA (fV (hl _)) (aA (aFJ (by omega) (by omega)) (aA (dE (by omega) _) ?_))));have hall: ∀(hq:A8 (f D[k])=false),D.all (fun d=>A8 (f d))=false:=fun hq=>vAK.2 ⟨_,hm,by simp [hq]⟩;have go:A8 (f D[k])=true→Ev (again (rows.set (k:Int).toNat (f D[k]),wr ((k:Int)+1))) (fun r=>r=D.all fun d=>A8 (f d)):=fun hq=>by
   rw [aS (by omega),P0];refine hr _ ⟨k+1,by dsimp only;omega,by omega,by dsimp only;rw [vAL];exact hrl,fun t ht=>?_,fun d hd=>?_⟩ (by dsimp only;omega)
   ·dsimp only;rw [vAG (by omega)];exact hrest t (by omega)
   rw [yV,cO hlt] at hd;rcases wO.1 hd with h|h
   ·exact hpos d h
   have:d=D[k]:=by simpa using h
   subst this;exact hq
  unfold aCo A8 at*;cases hlv:lvl (f D[k]) with
  |none=>
   rw [hlv] at go hall;exact aH (fun h=>absurd h (by show¬(0:Int)≤ -1;omega)) (fun _=>go rfl)
  |some t=>
   rw [hlv] at go hall;obtain⟨t1,t2⟩:=aJx hlv;refine aH (fun _=>?_) fun h=>absurd (show(0:Int)≤(t:Int) by omega) h;have e2:=cO t1;have e3:(f D[k]).getD t 0=(f D[k])[t]:=by rw [N1,e2];rfl
   refine aA (aN e2) (aH (fun h=>Ev.some ?_) fun h=>go ?_)
   ·exact(hall (decide_eq_false (by omega))).symm
   exact decide_eq_true (by omega)
 have:k=D.length:=by omega
 subst this;rw [qS] at hpos;exact(vAF.2 hpos).symm
theorem aDH{n:Nat}{d:List Int}(hd:d.length≤1000)(hn:1000<n):m9 n d=some (aCo d):=by
 unfold m9;refine Ev.eq (Ev.loop (fun x:Int=> ∃i:Nat,x=i∧i≤d.length∧ ∀j,j<i→d.getD j 0=0) (fun x=>d.length-x.toNat) ?_ n _ ⟨0,rfl,by omega,fun j hj=>absurd hj (vBr _)⟩ (by omega));rintro again z ⟨i,rfl,hi,h0⟩ hr;have hz: ∀j (hj:j<d.length),j<i→d[j]=0:=fun j hj hji=>by
  have:=h0 j hji
  rwa [N1,cO hj] at this
 refine aH (fun hlt=>?_) fun hge=>Ev.some ?_
 ·have hlt:i<d.length:=by omega
  have e1:=cO hlt;refine aA (aN e1) (dQ (fun hne=>Ev.some ?_) fun he=>?_)
  ·have:lvl d=some i:=by
    unfold lvl;rw [vBw];exact⟨hlt,by simp [hne],fun j hj=>by simp [hz j (by omega) hj]⟩
   unfold aCo;rw [this]
  rw [aS (by omega)];refine hr _ ⟨i+1,by omega,by omega,fun j hj=>?_⟩ (by omega);by_cases hji:j=i
  ·subst hji;rw [N1,e1];exact he
  exact h0 j (by omega)
 have:lvl d=none:=by
  unfold lvl;rw [List.findIdx?_eq_none_iff];intro x hx;obtain⟨j,hj⟩:=vAH.1 hx;obtain⟨hjl,rfl⟩:=cS.1 hj;simp [hz j hjl (by omega)]
 unfold aCo;rw [this]
theorem aHI{n:Nat}{d:List Int}(hd:d.length≤1000)(hn:1000<n):zI n d=some (A8 d):=by
 unfold zI;refine Ev.eq (aA (aDH hd hn) (Ev.jn (fun z:Bool=>z=A8 d) (fun j hj=>?_) fun z hz=>Ev.some hz));unfold aCo A8 at*;cases hlv:lvl d with
 |none=>
  rw [hlv] at hj;exact aH (fun _=>hj _ rfl) (fun h=>absurd (show(-1:Int)<0 by omega) h)
 |some t=>
  rw [hlv] at hj;obtain⟨t1,t2⟩:=aJx hlv;have e2:=cO t1;have e3:d.getD t 0=d[t]:=by rw [N1,e2];rfl
  refine aH (fun h=>absurd h (show¬(t:Int)<0 by omega)) fun _=>aA (aN e2) (hj _ ?_);exact decide_eq_decide.2 ⟨fun h=>by omega,fun h=>by omega⟩
def N2(k:Nat)(a:Affine):Affine:=⟨(a.coefs.set k (a.coefs.getD (k+1) 0)).set (k+1) (a.coefs.getD k 0),a.const⟩
def swD(k:Nat)(d:List Int):List Int:=(d.set k (d.getD (k+1) 0)).set (k+1) (d.getD k 0)
theorem aGT(k:Nat)(d:List Int):(swD k d).length=d.length:=by simp [swD]
theorem aI2{k:Nat}: ∀x,bX x=true→BA 4 (N2 k x):=fun x hx=>by have:=(gR hx).1;unfold BA N2;simp;omega
theorem dF{α:Type}{l:List α}{k:Nat}(h:k<l.length)(z:α):l[k]? =some (l.getD k z):=by rw [N1,cO h];rfl
theorem aGS{α R:Type}{Q:R→Prop}{l:List α}{k:Nat}(hk:k+1<l.length)(hb:l.length≤1000000)(z:α){K:List α→Option R}(hK:Ev (K ((l.set k (l.getD (k+1) z)).set (k+1) (l.getD k z))) Q):
  Ev (Option.bind (ix l (wr ((k:Int)+1))) fun x2=>Option.bind (ix l (k:Int)) fun x3=>Option.bind (dH l (k:Int) x2) fun x4=>Option.bind (ix x4 (wr ((k:Int)+1))) fun x5=>Option.bind (dH x4 (wr ((k:Int)+1)) x3) K) Q:=by rw [aS (n:=(k:Int)+1) (by omega),show(k:Int)+1=((k+1:Nat):Int) by omega];refine aA (aN (dF hk z)) (aA (aN (dF (by omega) z)) (aA (dE (by omega) _) ?_));rw [P0];refine aA (aN (dF (l:=l.set k (l.getD (k+1) z)) (k:=k+1) (by simpa using hk) z)) (aA (dE (by rw [vAL];omega) _) ?_);rw [P0];exact hK
theorem aJK{n k:Nat}{d:List Int}(hk:k+1<d.length)(hb:d.length≤1000):eZ n d (k:Int)=some (swD k d):=by unfold eZ;exact Ev.eq (aGS hk (by omega) 0 (Ev.some rfl))
theorem aJJ(n:Nat){k:Nat}(hk:k+1<4): ∀x,bX x=true→eY n x (k:Int)=some (N2 k x):=fun x hx=>by have h4:=(gR hx).1;unfold eY;refine Ev.eq (aA (H3 n x hx) (aGS (by omega) (by omega) 0 (Ev.some rfl)))
theorem aLB(n:Nat){k:Nat}(hk:k+1<4): ∀x,bX x=true→gW n x 0 (k:Int) ⟨[],0⟩=some (N2 k x):=fun x hx=>by have h4:=(gR hx).1;unfold gW;refine Ev.eq (aH (fun _=>aA (x:=N2 k x) ?_ (Ev.some rfl)) fun h=>absurd rfl h);unfold S6;have hc:eI n x=some x:=xY n (by omega);rw [aS (n:=(k:Int)+1) (by omega),show(k:Int)+1=((k+1:Nat):Int) by omega];refine Ev.eq (aA hc (aA (aN (dF (by omega) 0)) (aA (aN (dF (by omega) 0)) (aA (dE (by omega) _) (aA (aN (dF (by omega) 0)) ?_)))));rw [P0];refine aA (aN (dF (l:=x.coefs.set k (x.coefs.getD (k+1) 0)) (k:=k+1) (by simp;omega) 0)) (aA (dE (by rw [vAL];omega) _) ?_);rw [P0];exact Ev.some rfl
def R5(k:Nat)(a:Affine):Bool:= !decide (a.coefs.getD k 0=0)
def aA4(l:Loop)(k:Nat):Bool:=l.lo.any (R5 k)||l.hi.any (R5 k)
theorem aDY{n:Nat}(hn:5000≤n){l:Loop}(hl:V2 l){k:Nat}(hk:k<4):pS n l (k:Int)=some (aA4 l k):=by
 obtain⟨⟨h1,h2⟩,h3,h4⟩:=hl;have hu: ∀x,bX x=true→eC n x (k:Int)=some (R5 k x):=fun x hx=>by
  have:=(gR hx).1;unfold eC;exact Ev.eq (aA (aN (dF (by omega) 0)) (Ev.some rfl))
 unfold pS aA4;refine Ev.eq (Ev.jn (fun z=>z=(l.lo.any (R5 k)||l.hi.any (R5 k))) (fun j hj=>?_) fun z hz=>Ev.some hz);refine aA (jP (fun x hx=>hu x (h2 x hx)) (by omega) (by omega)) (Ev.cond (fun h=>hj _ (by rw [h];rfl)) fun h=>aA (jP (fun x hx=>hu x (h4 x hx)) (by omega) (by omega)) (hj _ (by rw [h];rfl)))
theorem aEI{α:Type}{f:α→Bool}{l:List α}{i:Nat}{x:α}(h:l[i]? =some x):(l.take (i+1)).any f=((l.take i).any f||f x):=by rw [yV,h,List.any_append];simp
theorem aDy{n:Nat}(hn:5000≤n){l:Loop}(hl:V2 l){k:Nat}(hk:k<4):zG n l (k:Int)=some (aA4 l k):=by
 obtain⟨⟨h1,h2⟩,h3,h4⟩:=hl;unfold zG aA4;refine Ev.eq (Ev.loop (fun x:Int=> ∃i:Nat,x=i∧i≤l.lo.length∧(l.lo.take i).any (R5 k)=false) (fun x=>l.lo.length-x.toNat) ?_ n _ ⟨0,rfl,by omega,rfl⟩ (by omega));rintro again z ⟨i,rfl,hi,h0⟩ hr;refine aH (fun hlt=>?_) fun hge=>?_
 ·have hlt:i<l.lo.length:=by omega
  have e1:=cO hlt
  have:=(gR (h2 _ (O9 hlt))).1;refine aA (aN e1) (aA (aN (dF (by omega) 0)) (dQ (fun hne=>Ev.some ?_) fun he=>?_))
  ·rw [vBm.2 ⟨_,O9 hlt,by unfold R5;simpa using hne⟩];rfl
  rw [aS (by omega)];exact hr _ ⟨i+1,by omega,by omega,by rw [aEI e1,h0];unfold R5;simpa using he⟩ (by omega)
 have:i=l.lo.length:=by omega
 subst this;rw [qS] at h0;rw [h0,Bool.false_or];clear hr;refine Ev.loop (fun x:Int=> ∃i:Nat,x=i∧i≤l.hi.length∧(l.hi.take i).any (R5 k)=false) (fun x=>l.hi.length-x.toNat) ?_ n _ ⟨0,rfl,by omega,rfl⟩ (by omega);rintro again z ⟨i,rfl,hi,h0⟩ hr;refine aH (fun hlt=>?_) fun hge=>Ev.some ?_
 ·have hlt:i<l.hi.length:=by omega
  have e1:=cO hlt
  have:=(gR (h4 _ (O9 hlt))).1;refine aA (aN e1) (aA (aN (dF (by omega) 0)) (dQ (fun hne=>Ev.some ?_) fun he=>?_))
  ·rw [vBm.2 ⟨_,O9 hlt,by unfold R5;simpa using hne⟩]
  rw [aS (by omega)];exact hr _ ⟨i+1,by omega,by omega,by rw [aEI e1,h0];unfold R5;simpa using he⟩ (by omega)
 have:i=l.hi.length:=by omega
 subst this;rw [qS] at h0;exact h0.symm
end Go.Lift
