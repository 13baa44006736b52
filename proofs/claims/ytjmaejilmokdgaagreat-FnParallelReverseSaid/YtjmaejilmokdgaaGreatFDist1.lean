/- Distances: sorted lists of points without doubles. -/
import Derived.Test.YtjmaejilmokdgaaGreatFTran1
import Derived.Test.YtjmaejilmokdgaaGreatFRun1
set_option maxRecDepth 100000
set_option linter.unusedVariables false
namespace Go.Lift
open Go
theorem lA: ∀xs,cmpL xs xs=0
 | []=>rfl
 |x::xs=>by unfold cmpL;rw [if_neg (by omega),if_neg (by omega)];exact lA xs
theorem gJ: ∀xs ys,cmpL ys xs= -cmpL xs ys
 | [],[]=>by simp [cmpL]
 | [],_::_=>by simp [cmpL]
 |_::_,[]=>by simp [cmpL]
 |x::xs,y::ys=>by
  unfold cmpL;by_cases h1:x<y
  ·simp [h1,show¬y<x by omega]
  by_cases h2:y<x
  ·simp [h1,h2]
  rw [if_neg h1,if_neg h2,if_neg h2,if_neg h1];exact gJ xs ys
theorem nS: ∀{xs ys},cmpL xs ys=0→xs=ys
 | [],[],_=>rfl
 | [],_::_,h=>by simp [cmpL] at h
 |_::_,[],h=>by simp [cmpL] at h
 |x::xs,y::ys,h=>by
  unfold cmpL at h;by_cases h1:x<y
  ·rw [if_pos h1] at h;omega
  by_cases h2:y<x
  ·rw [if_neg h1,if_pos h2] at h;omega
  rw [if_neg h1,if_neg h2] at h;rw [nS h,show x=y by omega]
theorem A1: ∀{xs ys zs},cmpL xs ys<0→cmpL ys zs<0→cmpL xs zs<0
 | [],[],_,h,_=>by simp [cmpL] at h
 | [],_::_,[],_,h=>by simp [cmpL] at h
 | [],_::_,_::_,_,_=>by simp [cmpL]
 |_::_,[],_,h,_=>by simp [cmpL] at h
 |_::_,_::_,[],_,h=>by simp [cmpL] at h
 |x::xs,y::ys,z::zs,h1,h2=>by
  unfold cmpL at h1 h2⊢;by_cases a:x<y
  ·by_cases b:y<z
   ·rw [if_pos (by omega)];omega
   by_cases c:z<y
   ·rw [if_neg b,if_pos c] at h2;omega
   rw [if_pos (by omega)];omega
  by_cases b:y<x
  ·rw [if_neg a,if_pos b] at h1;omega
  by_cases c:y<z
  ·rw [if_pos (by omega)];omega
  by_cases d:z<y
  ·rw [if_neg c,if_pos d] at h2;omega
  rw [if_neg (by omega),if_neg (by omega)];rw [if_neg a,if_neg b] at h1;rw [if_neg c,if_neg d] at h2;exact A1 h1 h2
theorem aDD: ∀xs ys,T2 xs ys=decide (cmpL xs ys<0)
 | [],[]=>rfl
 | [],_::_=>rfl
 |_::_,[]=>rfl
 |x::xs,y::ys=>by
  unfold T2 cmpL;by_cases h:x=y
  ·subst h;simp only [if_true,Int.lt_irrefl,if_false];exact aDD xs ys
  by_cases h1:x<y
  ·simp [h,h1]
  have:y<x:=by omega
  simp [h,h1,this]
abbrev SS(l:List (List Int)):Prop:=l.Pairwise fun a b=>cmpL a b<0
theorem aMs: ∀{l m:List (List Int)},SS l→SS m→(∀x,x∈l↔x∈m)→l=m
 | [],[],_,_,_=>rfl
 | [],y::m,_,_,h=>by have:=(h y).2 (by simp);simp at this
 |x::l,[],_,_,h=>by have:=(h x).1 (by simp);simp at this
 |x::l,y::m,hl,hm,h=>by
  obtain⟨l1,l2⟩:=vBn.1 hl;obtain⟨m1,m2⟩:=vBn.1 hm;have e:x=y:=by
   rcases oK.1 ((h x).1 (by simp)) with h1|h1
   ·exact h1
   rcases oK.1 ((h y).2 (by simp)) with h2|h2
   ·exact h2.symm
   have a:=m1 x h1;have b:=l1 y h2
   have:=A1 a b;rw [lA] at this;omega
  subst e;have hx1:x∉l:=fun hx=>by have:=l1 x hx;rw [lA] at this;omega
  have hx2:x∉m:=fun hx=>by have:=m1 x hx;rw [lA] at this;omega
  rw [aMs l2 m2 (fun z=>⟨fun hz=>by
   rcases oK.1 ((h z).1 (q8 _ hz)) with rfl|h3
   ·exact absurd hz hx1
   ·exact h3,fun hz=>by
   rcases oK.1 ((h z).2 (q8 _ hz)) with rfl|h3
   ·exact absurd hz hx2
   exact h3⟩)]
def qI:List (List Int)→List Int→List (List Int)
 | [],d=>[d]
 |x::xs,d=>if cmpL d x<0 then d::x::xs else x::qI xs d
theorem U3{d z:List Int}: ∀{l:List (List Int)},z∈qI l d↔z=d∨z∈l
 | []=>by simp [qI]
 |x::xs=>by
  unfold qI;split
  ·simp
  simp only [List.mem_cons,U3 (l:=xs)];constructor
  ·rintro(h|h|h)
   ·exact .inr (.inl h)
   ·exact .inl h
   exact .inr (.inr h)
  rintro(h|h|h)
  ·exact .inr (.inl h)
  ·exact .inl h
  exact .inr (.inr h)
theorem aGY{d:List Int}: ∀{l:List (List Int)},SS l→d∉l→SS (qI l d)
 | [],_,_=>by simp [qI]
 |x::xs,hl,hd=>by
  obtain⟨l1,l2⟩:=vBn.1 hl;unfold qI;split
  ·rename_i h;refine vBn.2 ⟨fun z hz=>?_,hl⟩;rcases oK.1 hz with rfl|hz
   ·exact h
   exact A1 h (l1 z hz)
  rename_i h;refine vBn.2 ⟨fun z hz=>?_,aGY l2 fun hx=>hd (q8 _ hx)⟩;rcases U3.1 hz with rfl|hz
  ·have h1:=gJ z x;have h2:cmpL z x≠0:=fun e=>hd (by rw [nS e];simp);omega
  exact l1 z hz
def eQ(l:List (List Int))(d:List Int):List (List Int):=if d∈l then l else qI l d
theorem aMg{l:List (List Int)}(h:SS l)(d:List Int):SS (eQ l d):=by
 unfold eQ;split
 ·exact h
 exact aGY h ‹_›
theorem aEy{l:List (List Int)}{d z:List Int}:z∈eQ l d↔z=d∨z∈l:=by
 unfold eQ;split
 ·rename_i h;exact⟨.inr,fun hz=>by rcases hz with rfl|hz;exact h;exact hz⟩
 exact U3
theorem vU: ∀(ds l:List (List Int)),SS l→SS (ds.foldl eQ l)∧ ∀z,z∈ds.foldl eQ l↔z∈l∨z∈ds
 | [],l,h=>⟨h,fun z=>by simp⟩
 |d::ds,l,h=>by
  obtain⟨h1,h2⟩:=vU ds (eQ l d) (aMg h d);refine⟨h1,fun z=>?_⟩;rw [vBV,h2 z,aEy,oK];constructor
  ·rintro((h|h)|h)
   ·exact .inr (.inl h)
   ·exact .inl h
   exact .inr (.inr h)
  rintro(h|h|h)
  ·exact .inl (.inr h)
  ·exact .inl (.inl h)
  exact .inr h
def bZ:List (List Int)→List (List Int)
 | []=>[]
 | [x]=>[x]
 |x::y::r=>if x=y then bZ (y::r) else x::bZ (y::r)
theorem sD{z:List Int}: ∀{l:List (List Int)},z∈bZ l↔z∈l
 | []=>by simp [bZ]
 | [x]=>by simp [bZ]
 |x::y::r=>by
  have ih:=sD (z:=z) (l:=y::r);unfold bZ;split
  ·rename_i h;subst h;rw [ih];simp
  rw [oK,ih];simp
theorem uG: ∀{l:List (List Int)},l.Pairwise (fun a b=> ¬cmpL b a<0)→SS (bZ l)
 | [],_=>by simp [bZ]
 | [x],_=>by simp [bZ]
 |x::y::r,h=>by
  obtain⟨h1,h2⟩:=vBn.1 h;obtain⟨h3,_⟩:=vBn.1 h2;unfold bZ;split
  ·exact uG h2
  rename_i hne;refine vBn.2 ⟨fun z hz=>?_,uG h2⟩;have hxy:cmpL x y<0:=by
   have a:=h1 y (by simp);have b:=gJ x y;have c:cmpL x y≠0:=fun e=>hne (nS e);omega
  rcases oK.1 (sD.1 hz) with rfl|hz
  ·exact hxy
  have a:=h3 z hz;have b:=gJ y z;by_cases e:cmpL y z=0
  ·rw [←nS e];exact hxy
  exact A1 hxy (by omega)
theorem aBW(l:List (List Int)):(dQ l).Pairwise (fun a b=> ¬cmpL b a<0):=by
 have:=List.pairwise_mergeSort (le:=fun x y=> !decide (cmpL y x<0)) (fun a b c h1 h2=>by
  simp only [Bool.not_eq_true',decide_eq_false_iff_not] at*;intro h;have f1:=gJ a b;have f2:=gJ b c;by_cases e:cmpL b a=0
  ·rw [nS e] at h2;exact h2 h
  ·exact h2 (A1 h (by omega))) (fun a b=>by
  have f1:=gJ a b;by_cases h:cmpL b a<0
  ·have: ¬cmpL a b<0:=by omega
   simp [h,this]
  simp [h]) l
 refine this.imp fun h=>?_;simpa using h
theorem aHa(ds:List (List Int)):bZ (dQ ds)=ds.foldl eQ []:=by obtain⟨h1,h2⟩:=vU ds [] List.Pairwise.nil;refine aMs (uG (aBW ds)) h1 fun z=>?_;rw [sD,h2 z];unfold dQ;rw [List.mem_mergeSort];simp
def minusL(b a:List Int):List Int:=List.zipWith (fun x y=>x-y) b a
theorem S7{R:Type}{Q:R→Prop}{n:Nat}{a b:List Int}(hl:a.length=b.length)(hb:b.length≤1000)(hn:1000<n)(ha1: ∀x∈a,lV 9999 x)(hb1: ∀x∈b,lV 9999 x){K:List Int→Option R}(hK:Ev (K (minusL b a)) Q):
  Ev (aM (fun again15 ((x12,x13):(List Int)×Int)=>
   bif decide (x13<(b.length:Int)) then(
    Option.bind (ix b x13) fun x16=>
    Option.bind (ix a x13) fun x17=>
    Option.bind (app x12 [wr (x16-x17)]) fun x18=>
    again15 (x18,wr (x13+1))
   ) else(
    K x12
   )) n ([],0)) Q:=by
 refine Ev.loop (fun x:List Int×Int=> ∃i:Nat,x.2=i∧i≤b.length∧x.1=(minusL b a).take i) (fun x=>b.length-x.2.toNat) ?_ n _ ⟨0,rfl,by omega,by simp⟩ (by dsimp only;omega);rintro again ⟨x,k⟩ ⟨i,hk,hi,hx⟩ hr;dsimp only at hk hx⊢;subst hk;have hml:(minusL b a).length=b.length:=by unfold minusL;rw [vBk];omega
 refine aH (fun hlt=>?_) fun hge=>?_
 ·have hlt:i<b.length:=by omega
  have e1:=cD hlt;have e2:=cD (show i<a.length by omega);have b1:=hb1 _ (C6 hlt);have b2:=ha1 _ (C6 (show i<a.length by omega));unfold lV at b1 b2;refine aA (aN e1) (aA (aN e2) (aA (bU (by rw [hx,pS];simp;omega)) ?_));rw [aK (n:=b[i]-a[i]) (by omega),aK (by omega)];refine hr _ ⟨i+1,by dsimp only;omega,by omega,?_⟩ (by dsimp only;omega);dsimp only;rw [v7,←hx];congr 1;unfold minusL;rw [List.getElem?_zipWith,e1,e2];rfl
 have:i=b.length:=by omega
 subst this;rw [vBg (by omega)] at hx;rw [hx];exact hK
theorem aE3{n:Nat}{a b:List Int}(hl:a.length=b.length)(hb:b.length≤1000)(hn:1000<n)(ha1: ∀x∈a,lV 9999 x)(hb1: ∀x∈b,lV 9999 x):uZ n b a=some (minusL b a):=by unfold uZ;exact Ev.eq (S7 hl hb hn ha1 hb1 (Ev.some rfl))
theorem aIZ{n:Nat}(hn:20000≤n){l:List (List Int)}{d:List Int}(hl:l.length≤15000)(h1: ∀x∈l,x.length≤1000)(hd:d.length≤1000):M4 n l d=some (eQ l d):=by
 unfold M4;refine Ev.eq (Ev.loop (fun x:List (List Int)×Bool×Int=> ∃i:Nat,x.2.2=i∧i≤l.length∧d∉l.take i∧(x.2.1=true→x.1.length≤i+1∧qI l d=x.1++l.drop i)∧(x.2.1=false→x.1.length≤i∧qI l d=x.1++qI (l.drop i) d)) (fun x=>l.length-x.2.2.toNat) ?_ n _ ⟨0,rfl,by omega,by simp,(fun h=>by cases h),fun _=>⟨by simp,by simp⟩⟩ (by dsimp only;omega));rintro again ⟨x1,x2,k⟩ ⟨i,hk,hi,hni,hT,hF⟩ hr;dsimp only at hk hT hF⊢;subst hk;refine aH (fun hlt=>?_) fun hge=>?_
 ·have hlt:i<l.length:=by omega
  have e1:=cD hlt;have hx6:l[i].length≤1000:=h1 _ (C6 hlt);refine aA (aN e1) (aA (aDp (by omega) (by omega)) (aH (fun heq=>Ev.some ?_) fun hne=>?_))
  ·unfold eQ;rw [if_pos (by rw [←heq];exact C6 hlt)]
  have hdrop:=vBi hlt;have hni':d∉l.take (i+1):=by
   rw [v7,e1];simp only [List.mem_append,Option.toList_some,List.mem_singleton];rintro(h|h)
   ·exact hni h
   exact hne h.symm
  refine Ev.jn (fun z:List (List Int)×Bool=>(z.2=true→z.1.length≤i+1∧qI l d=z.1++l.drop i)∧(z.2=false→z.1.length≤i∧qI l d=z.1++l[i]::qI (l.drop (i+1)) d)) (fun j hj=>?_) fun z hz=>?_
  ·refine Ev.jn (fun z:Bool=>z=(!x2&&T2 d l[i])) (fun j2 hj2=>Ev.cond (fun h=>?_) fun h=>hj2 _ ?_) fun z hz=>?_
   ·have h:x2=false:=by simpa using h
    exact aA (aIY (by omega) hd hx6) (hj2 _ (by rw [h];rfl))
   ·have h:x2=true:=by simpa using h
    rw [h];rfl
   subst hz;cases hx2:x2 with
   |true=>exact bV (hj _ ⟨fun _=>hT hx2,fun h=>by cases h⟩)
   |false=>
    obtain⟨f1,f2⟩:=hF hx2;rw [hdrop] at f2;rw [aDD];by_cases hc:cmpL d l[i]<0
    ·rw [decide_eq_true hc];refine cE (aA (bU (by simp;omega)) (hj _ ⟨fun _=>⟨by simp;omega,?_⟩,fun h=>by cases h⟩));rw [f2,hdrop];unfold qI;rw [if_pos hc];simp
    rw [decide_eq_false hc];refine bV (hj _ ⟨(fun h=>by cases h),fun _=>⟨f1,?_⟩⟩);rw [f2]
    conv=>lhs;rw [qI]
    rw [if_neg hc]
  obtain⟨z1,z2⟩:=z;obtain⟨g1,g2⟩:=hz;dsimp only at g1 g2⊢;have hz1:z1.length≤i+1:=by
   cases z2 with
   |true=>exact(g1 rfl).1
   |false=>have:=(g2 rfl).1;omega
  refine aA (bU (by simp;omega)) ?_;rw [aK (by omega)];refine hr _ ⟨i+1,by dsimp only;omega,by omega,hni',fun h=>?_,fun h=>?_⟩ (by dsimp only;omega)
  ·obtain⟨a1,a2⟩:=g1 h;refine⟨by simp;omega,?_⟩;rw [a2,hdrop];simp
  obtain⟨a1,a2⟩:=g2 h;refine⟨by simp;omega,?_⟩;rw [a2];simp
 have:i=l.length:=by omega
 subst this;rw [oE] at hni;have hadd:eQ l d=qI l d:=by unfold eQ;rw [if_neg hni]
 rw [hadd];refine Ev.jn (fun z=>z=qI l d) (fun j hj=>Ev.cond (fun h=>?_) fun h=>hj _ ?_) fun z hz=>Ev.some hz
 ·have h:x2=false:=by simpa using h
  obtain⟨a1,a2⟩:=hF h;refine aA (bU (by simp;omega)) (hj _ ?_);rw [a2,vBw];rfl
 have h:x2=true:=by simpa using h
 obtain⟨a1,a2⟩:=hT h;rw [a2,vBw,vBm]
theorem aDI(d:List Int): ∀l:List (List Int),(qI l d).length=l.length+1
 | []=>rfl
 |x::xs=>by
  unfold qI;split
  ·rfl
  rw [vBX,aDI d xs];rfl
theorem C4(l:List (List Int))(d:List Int):(eQ l d).length≤l.length+1:=by
 unfold eQ;split
 ·omega
 rw [aDI];omega
def J1(I:List Inst)(part:Int)(d:Dep):Option (List Int):=match I[d.fromF.toNat]?,I[d.toF.toNat]? with
 |some a,some b=>if a.part=part∧b.part=part then some (minusL b.point a.point) else none
 |_,_=>none
def e9(p:Prog)(part:Int):List (List Int):=(iN p (insts p.parts) (insts p.parts).length).filterMap (J1 (insts p.parts) part)
theorem inst_pt{p:Prog}(hv:bO p=true){x:Inst}(hx:eI p x): ∃P,p.parts[x.part.toNat]? =some P∧0≤x.part∧x.point.length=P.nest.length∧x.point.length≤4∧ ∀y∈x.point,lV 9999 y:=by obtain⟨hl,hd,h4,hpo,hil⟩:=eN hv;obtain⟨i,k,P,s,e1,e2,e3,e4,e5⟩:=hx;obtain⟨q1,q2,q3,q4⟩:=iW (hpo P (cK e3));obtain⟨hf,hp1,hp2,hp3,hp4⟩:=aEF q1;have hs:=cK e4;have hpt:=(q4 s hs _ e5).2;unfold ptV at hpt;simp only [Bool.and_eq_true,decide_eq_true_eq,List.all_eq_true] at hpt;exact⟨P,by rw [e1,sZ];exact e3,by omega,(hp2 _ e5).1,hpt.1,fun y hy=>hpt.2 y hy⟩
theorem aCw{I:List Inst}{part:Int}(h: ∀x∈I,x.point.length≤4){d:Dep}{v:List Int}(hv:J1 I part d=some v):v.length≤4:=by
 unfold J1 at hv;split at hv
 ·rename_i a b ha hb;split at hv
  ·cases hv;unfold minusL;rw [vBk]
   have:=h b (cK hb);omega
  cases hv
 cases hv
theorem nP{α β:Type}{f:α→Option β}{l:List α}{i:Nat}{x:α}(h:l[i]? =some x):(l.take (i+1)).filterMap f=(l.take i).filterMap f++(f x).toList:=by rw [v7,h,List.filterMap_append];cases hx:f x<;>simp [hx]
theorem aE4{n:Nat}(hn:20000≤n){p:Prog}(hp:SmP p)(hv:bO p=true)(part:Int):lH n p part=some ((e9 p part).foldl eQ []):=by
 have hil:=(eN hv).2.2.2.2;unfold lH;refine Ev.eq (aA (tU (by omega) hv) (aA (aHy (by omega) hv) ?_));have hok: ∀x∈insts p.parts,eI p x:=fun x hx=>insts_mem hx;have hD:=qP (p:=p) hil;have hb:=aFO (p:=p) (l:=insts p.parts);unfold e9;generalize iN p (insts p.parts) (insts p.parts).length=D at*;generalize insts p.parts=I at*;have hpt: ∀x∈I,x.point.length≤4:=fun x hx=>(inst_pt hv (hok x hx)).choose_spec.2.2.2.1;refine Ev.loop (fun x:List (List Int)×Int=> ∃i:Nat,x.2=i∧i≤D.length∧x.1=((D.take i).filterMap (J1 I part)).foldl eQ []∧x.1.length≤i∧ ∀y∈x.1,y.length≤4) (fun x=>D.length-x.2.toNat) ?_ n _ ⟨0,rfl,by omega,by simp,by simp,by simp⟩ (by dsimp only;omega);rintro again ⟨x3,k⟩ ⟨i,hk,hi,hx,hlen,hall⟩ hr;dsimp only at hk hx hlen hall⊢;subst hk;refine aH (fun hlt=>?_) fun hge=>Ev.some ?_
 ·have hlt:i<D.length:=by omega
  have e1:=cD hlt;obtain⟨d1,d2,d3⟩:=hb _ (C6 hlt);have ea:=aBj (l:=I) (c:=D[i].fromF) d1 (by omega);have eb:=aBj (l:=I) (c:=D[i].toF) (by omega) (by omega);have ha:=C6 (show D[i].fromF.toNat<I.length by omega);have hbm:=C6 (show D[i].toF.toNat<I.length by omega);have hfa:I[D[i].fromF.toNat]? =some I[D[i].fromF.toNat]:=cD _;have hfb:I[D[i].toF.toNat]? =some I[D[i].toF.toNat]:=cD _;obtain⟨PA,pa1,pa2,pa3,pa4,pa5⟩:=inst_pt hv (hok _ ha);obtain⟨PB,pb1,pb2,pb3,pb4,pb5⟩:=inst_pt hv (hok _ hbm);refine Ev.jn (fun z=>z.2.2.2.2.2.2=((D.take (i+1)).filterMap (J1 I part)).foldl eQ []∧z.2.2.2.2.2.2.length≤i+1∧ ∀y∈z.2.2.2.2.2.2,y.length≤4) (fun j hj=>aA (aN e1) (aA ea (aA eb ?_))) fun z hz=>?_
  ·rw [nP e1,List.foldl_append,←hx] at hj;refine Ev.jn (fun z:Bool=>z=decide (I[D[i].fromF.toNat].part=part∧I[D[i].toF.toNat].part=part)) (fun j2 hj2=>aH (fun h=>hj2 _ ?_) fun h=>hj2 _ ?_) fun z hz=>?_
   ·exact decide_eq_decide.2 ⟨fun h2=>⟨h,h2⟩,fun h2=>h2.2⟩
   ·exact(decide_eq_false fun h2=>h h2.1).symm
   subst hz;have hdif:J1 I part D[i]=if I[D[i].fromF.toNat].part=part∧I[D[i].toF.toNat].part=part then some (minusL I[D[i].toF.toNat].point I[D[i].fromF.toNat].point) else none:=by
    unfold J1;rw [hfa,hfb]
   refine aH (fun h=>?_) fun h=>hj _ ?_
   ·have hPP:PA=PB:=by
     rw [h.1] at pa1;rw [h.2] at pb1;rw [pa1] at pb1;cases pb1;rfl
    subst hPP;refine aA (aE3 (by omega) (by omega) (by omega) pa5 pb5) (aA (aIZ hn (by omega) (fun y hy=>by have:=hall y hy;omega) (by unfold minusL;rw [vBk];omega)) (hj _ ?_));rw [hdif,if_pos h];dsimp only [Option.toList,List.foldl];refine⟨rfl,?_,fun y hy=>?_⟩
    ·have:=C4 x3 (minusL I[D[i].toF.toNat].point I[D[i].fromF.toNat].point);omega
    rcases aEy.1 hy with rfl|hy
    ·unfold minusL;rw [vBk];omega
    exact hall y hy
   rw [hdif,if_neg h];exact⟨rfl,by dsimp only;omega,hall⟩
  obtain⟨z1,z2,z3⟩:=hz;rw [aK (by omega)];exact hr _ ⟨i+1,by dsimp only;omega,by omega,z1,z2,z3⟩ (by dsimp only;omega)
 have:i=D.length:=by omega
 subst this;rw [hx,oE]
theorem A0(x:List Int): ∀(y:List Int) (a:List (List Int)),bZ ((y::a)++[x])=if(y::a).getLast (by simp)=x then bZ (y::a) else bZ (y::a)++[x]
 |y,[]=>by
  by_cases h:y=x
  ·subst h;simp [bZ]
  simp [bZ,h]
 |y,z::a=>by
  have ih:=A0 x z a;rw [List.getLast_cons (by simp)];show bZ (y::z::(a++[x]))=_;unfold bZ;by_cases h:y=z
  ·rw [if_pos h,if_pos h];exact ih
  rw [if_neg h,if_neg h];have ih':bZ (z::(a++[x]))=_:=ih;rw [ih'];split<;>simp
theorem kK{s:List (List Int)}{m:Nat}(hm:1≤m)(hl:m<s.length):bZ (s.take (m+1))=if s[m-1]=s[m] then bZ (s.take m) else bZ (s.take m)++[s[m]]:=by
 have e:s.take (m+1)=s.take m++[s[m]]:=by rw [v7,cD hl];rfl
 have hne:s.take m≠[]:=by
  intro h
  have:=congrArg List.length h;rw [pS,Nat.min_eq_left (by omega),List.length_nil] at this;omega
 have hlast: ∀h,(s.take m).getLast h=s[m-1]:=fun h=>by
  rw [List.getLast_eq_getElem,List.getElem_take];congr 1;rw [pS];omega
 rw [e];obtain⟨y,a,hya⟩: ∃y a,s.take m=y::a:=by
  cases h:s.take m with
  |nil=>exact absurd h hne
  |cons y a=>exact⟨y,a,rfl⟩
 have hl2:=hlast hne;simp only [hya] at hl2⊢;rw [A0,hl2]
theorem aJp{α:Type}{l:List α}{o m:Nat}{j:Nat}{x:α}(h1:j<m)(h2:l[o+j]? =some x):ixv l o m (j:Int)=some x:=by unfold ixv;rw [if_pos ⟨by omega,by omega⟩,sZ];exact h2
theorem aFQ{n:Nat}(hn:20000≤n){s:List (List Int)}(hs:s.length≤15000)(h1: ∀x∈s,x.length≤1000){f:List Int→List Int→Option Bool}(hf: ∀a b,a.length≤1000→f a b=some (decide (a=b))):
  Ev (fE n s f) (fun r=>r.2.take r.1=bZ s):=by
 unfold fE;refine aH (fun h=>Ev.some ?_) fun h=>?_
 ·dsimp only;rw [oE]
  match s,h with
  | [],_=>rfl
  | [x],_=>rfl
  |x::y::r,h=>simp at h;omega
 refine Ev.loop (fun x:Int=> ∃k:Nat,x=k∧1≤k∧k≤s.length∧bZ (s.take k)=s.take k) (fun x=>s.length-x.toNat) ?_ n _ ⟨1,rfl,by omega,by omega,?_⟩ (by omega);rotate_left
 ·cases s with
  |nil=>rfl
  |cons x s=>rfl
 rintro again z ⟨k,rfl,hk1,hk,hc⟩ hr;refine aH (fun hlt=>?_) fun hge=>Ev.some ?_;rotate_left
 ·have:k=s.length:=by omega
  subst this;dsimp only;rw [oE] at hc⊢;exact hc.symm
 have hlt:k<s.length:=by omega
 have e1:=cD hlt;have e2:=cD (show k-1<s.length by omega);rw [aK (n:=(k:Int)-1) (by omega),show(k:Int)-1=((k-1:Nat):Int) by omega];refine aA (aN e1) (aA (aN e2) (aA (hf _ _ (h1 _ (C6 hlt))) (aH (fun heq=>?_) fun hne=>?_)));rotate_left
 ·rw [aK (by omega)];refine hr _ ⟨k+1,by omega,by omega,by omega,?_⟩ (by omega);rw [kK hk1 hlt,if_neg fun e=>hne e.symm,hc,v7,e1];rfl
 -- the first double
 clear hr;rw [sZ];refine Ev.loop (fun x:(List (List Int)×Int)×Int=> ∃i j:Nat,x.2=j∧x.1.2=i∧1≤j∧k+j≤s.length∧x.1.1.length=s.length∧i+1≤k+j∧x.1.1.take i=bZ (s.take (k+j))∧ ∀t,i≤t→x.1.1[t]? =s[t]?) (fun x=>s.length-x.2.toNat) ?_ n _ ⟨k,1,rfl,rfl,by omega,by omega,rfl,by omega,?_,fun _ _=>rfl⟩ (by dsimp only;omega);rotate_left
 ·dsimp only;rw [kK hk1 hlt,if_pos heq.symm,hc]
 rintro again2 ⟨⟨l,iz⟩,jz⟩ ⟨i,j,hj,hi,hj1,hkj,hll,hij,htk,hrest⟩ hr;dsimp only at hj hi hll htk hrest⊢;subst hj;subst hi;refine aH (fun hlt2=>?_) fun hge=>?_
 ·have hlt2:k+j<s.length:=by omega
  have a1:l[k+j]? =some s[k+j]:=by rw [hrest _ (by omega),cD hlt2]
  have a2:l[k+(j-1)]? =some (s[k+j-1]'(by omega)):=by rw [hrest _ (by omega),show k+(j-1)=k+j-1 by omega,cD (by omega)]
  rw [aK (n:=(j:Int)-1) (by omega),show(j:Int)-1=((j-1:Nat):Int) by omega];refine aA (aJp (by omega) a1) (aA (aJp (by omega) a2) (aA (hf _ _ (h1 _ (C6 hlt2))) (dH (fun hne=>?_) fun heq2=>?_)))
  ·obtain⟨y4,hy4⟩: ∃y,l[i]? =some y:=⟨_,cD (by omega)⟩
   refine aA (aN hy4) (aA (d4 (by omega) _) ?_);rw [sZ,aK (by omega),aK (by omega)];refine hr _ ⟨i+1,j+1,by dsimp only;omega,by dsimp only;omega,by omega,by omega,by dsimp only;rw [vAW];exact hll,by omega,?_,fun t ht=>?_⟩ (by dsimp only;omega)
   ·dsimp only;rw [show k+(j+1)=(k+j)+1 by omega,kK (by omega) hlt2,if_neg fun e=>hne e.symm,←htk,v7,vAy (by omega),List.take_set_of_le (iR _)];rfl
   dsimp only;rw [vAF (by omega)];exact hrest t (by omega)
  rw [aK (by omega)];refine hr _ ⟨i,j+1,by dsimp only;omega,rfl,by omega,by omega,hll,by omega,?_,hrest⟩ (by dsimp only;omega);dsimp only;rw [show k+(j+1)=(k+j)+1 by omega,kK (by omega) hlt2,if_pos heq2.symm];exact htk
 have hkj2:k+j=s.length:=by omega
 rw [hkj2,oE] at htk;rw [decide_eq_true (show(0:Int)≤(i:Int) by omega),decide_eq_true (show(i:Int)<(l.length:Int) by omega)];refine cE (cE (Ev.some ?_));dsimp only;rw [sZ,List.take_append_of_le_length (by rw [pS];omega),vBg (by rw [pS];omega)];exact htk
theorem V2{n:Nat}(hn:20000≤n){p:Prog}(hv:bO p=true)(part:Int):eC n (trc p) part=some ((e9 p part).foldl eQ []):=by
 have hil:=(eN hv).2.2.2.2;unfold eC;refine Ev.eq (aA (aBo (by omega) hv) ?_);rw [show(trc p).list=insts p.parts from rfl];have hok: ∀x∈insts p.parts,eI p x:=fun x hx=>insts_mem hx;have hD:=qP (p:=p) hil;have hb:=aFO (p:=p) (l:=insts p.parts);unfold e9;generalize iN p (insts p.parts) (insts p.parts).length=D at*;generalize insts p.parts=I at*;have hpt: ∀x∈I,x.point.length≤4:=fun x hx=>(inst_pt hv (hok x hx)).choose_spec.2.2.2.1;refine Ev.loop (fun x:List (List Int)×Int=> ∃i:Nat,x.2=i∧i≤D.length∧x.1=(D.take i).filterMap (J1 I part)) (fun x=>D.length-x.2.toNat) ?_ n _ ⟨0,rfl,by omega,by simp⟩ (by dsimp only;omega);rintro again ⟨x3,k⟩ ⟨i,hk,hi,hx⟩ hr;dsimp only at hk hx⊢;subst hk;have hlen:x3.length≤i:=by
  rw [hx];refine H5 (vBt _ _) ?_;rw [pS];omega
 refine aH (fun hlt=>?_) fun hge=>?_
 ·have hlt:i<D.length:=by omega
  have e1:=cD hlt;obtain⟨d1,d2,d3⟩:=hb _ (C6 hlt);have ea:=aBj (l:=I) (c:=D[i].fromF) d1 (by omega);have eb:=aBj (l:=I) (c:=D[i].toF) (by omega) (by omega);have ha:=C6 (show D[i].fromF.toNat<I.length by omega);have hbm:=C6 (show D[i].toF.toNat<I.length by omega);have hfa:I[D[i].fromF.toNat]? =some I[D[i].fromF.toNat]:=cD _;have hfb:I[D[i].toF.toNat]? =some I[D[i].toF.toNat]:=cD _;obtain⟨PA,pa1,pa2,pa3,pa4,pa5⟩:=inst_pt hv (hok _ ha);obtain⟨PB,pb1,pb2,pb3,pb4,pb5⟩:=inst_pt hv (hok _ hbm);have hdif:J1 I part D[i]=if I[D[i].fromF.toNat].part=part∧I[D[i].toF.toNat].part=part then some (minusL I[D[i].toF.toNat].point I[D[i].fromF.toNat].point) else none:=by
   unfold J1;rw [hfa,hfb]
  refine Ev.jn (fun z=>z.1=(D.take (i+1)).filterMap (J1 I part)) (fun j hj=>aA (aN e1) (aA ea (aA eb ?_))) fun z hz=>?_
  ·rw [nP e1,←hx] at hj;refine Ev.jn (fun z:Bool=>z= !decide (I[D[i].fromF.toNat].part=part∧I[D[i].toF.toNat].part=part)) (fun j2 hj2=>dH (fun h=>hj2 _ ?_) fun h=>hj2 _ ?_) fun z hz=>?_
   ·rw [decide_eq_false fun h2=>h h2.1];rfl
   ·congr 1;exact decide_eq_decide.2 ⟨fun h2=>⟨h,h2⟩,fun h2=>h2.2⟩
   subst hz;refine dH (fun h=>hj _ ?_) fun h=>?_
   ·rw [hdif,if_neg h];simp
   have hPP:PA=PB:=by
    rw [h.1] at pa1;rw [h.2] at pb1;rw [pa1] at pb1;cases pb1;rfl
   subst hPP;refine S7 (K:=fun x12=>Option.bind (app x3 [x12]) fun x19=>j (x19,D[i].fromF,D[i].toF,D[i].kinds,I[D[i].fromF.toNat].part,I[D[i].fromF.toNat].stmt,I[D[i].fromF.toNat].point,I[D[i].toF.toNat].part,I[D[i].toF.toNat].stmt,I[D[i].toF.toNat].point)) (by omega) (by omega) (by omega) pa5 pb5 ?_;refine aA (bU (by simp;omega)) (hj _ ?_);rw [hdif,if_pos h];rfl
  rw [aK (by omega)];exact hr _ ⟨i+1,by dsimp only;omega,by omega,hz⟩ (by dsimp only;omega)
 have:i=D.length:=by omega
 subst this;rw [oE] at hx;subst hx;have hall: ∀y∈D.filterMap (J1 I part),y.length≤4:=fun y hy=>by
  obtain⟨d,_,hd⟩:=vBu.1 hy;exact aCw hpt hd
 have hsl:(dQ (D.filterMap (J1 I part))).length≤15000:=by unfold dQ;rw [List.length_mergeSort];omega
 refine aA (x:=dQ (D.filterMap (J1 I part))) (by unfold m_sortL;rw [if_pos ⟨by omega,fun y hy=>by have:=hall y hy;omega⟩]) (aI (aFQ hn hsl (fun y hy=>by
  have:=hall y (by unfold dQ at hy;exact List.mem_mergeSort.1 hy);omega) fun a b ha=>T6 (by omega) (by omega)) fun r hr2=>Ev.some ?_)
 rw [hr2];exact aHa _
def wJ(d:List Int):Option Nat:=d.findIdx? fun x=> !decide (x=0)
def L2(d:List Int):Int:=match wJ d with
 |some i=>(i:Int)
 |none=> -1
theorem w9{n:Nat}{d:List Int}(hd:d.length≤1000)(hn:1000<n):iI n d=some (L2 d):=by
 unfold iI;refine Ev.eq (aA (x:=L2 d) ?_ (Ev.some rfl));unfold fZ;refine Ev.eq (Ev.loop (fun x:Int=> ∃i:Nat,x=i∧i≤d.length∧ ∀j,j<i→d.getD j 0=0) (fun x=>d.length-x.toNat) ?_ n _ ⟨0,rfl,by omega,fun j hj=>absurd hj (vBy _)⟩ (by omega));rintro again z ⟨i,rfl,hi,h0⟩ hr;have hz: ∀j (hj:j<d.length),j<i→d[j]=0:=fun j hj hji=>by
  have:=h0 j hji
  rwa [s8,cD hj] at this
 refine aH (fun hlt=>?_) fun hge=>Ev.some ?_
 ·have hlt:i<d.length:=by omega
  have e1:=cD hlt;refine aA (aN e1) (aA (x:= !decide (d[i]=0)) rfl (dH (fun hne=>Ev.some ?_) fun he=>?_))
  ·have:wJ d=some i:=by
    unfold wJ;rw [vBe];exact⟨hlt,by simp [hne],fun j hj=>by simp [hz j (by omega) hj]⟩
   unfold L2;rw [this]
  rw [aK (by omega)];refine hr _ ⟨i+1,by omega,by omega,fun j hj=>?_⟩ (by omega);by_cases hji:j=i
  ·subst hji;rw [s8,e1];exact he
  exact h0 j (by omega)
 have:wJ d=none:=by
  unfold wJ;rw [List.findIdx?_eq_none_iff];intro x hx;obtain⟨j,hj⟩:=vAG.1 hx;obtain⟨hjl,rfl⟩:=cI.1 hj;simp [hz j hjl (by omega)]
 unfold L2;rw [this]
def Y2(l:List Bool)(d:List Int):List Bool:=match wJ d with
 |some i=>l.set i true
 |none=>l
def qQ(m:Nat)(ds:List (List Int)):List Bool:=ds.foldl Y2 (List.replicate m false)
theorem A5(l:List Bool)(d:List Int):(Y2 l d).length=l.length:=by unfold Y2;split<;>simp
theorem aFT{n:Nat}(hn:20000≤n){p:Prog}(hv:bO p=true){i:Nat}{P:Part}(hP:p.parts[i]? =some P):iE n (trc p) (i:Int)=some (qQ P.nest.length ((e9 p i).foldl eQ [])):=by
 obtain⟨_,_,_,hpo,hil⟩:=eN hv;have h4:=(jZ (hpo P (cK hP))).1;unfold iE;refine Ev.eq (aA (aN (show(trc p).program.parts[i]? =some P from hP)) (aA (x:=List.replicate P.nest.length false) (by unfold mk;rw [if_pos ⟨by omega,by omega⟩,sZ]) (aA (V2 hn hv _) ?_)));have hds: ∀d∈(e9 p i).foldl eQ [],d.length=P.nest.length:=fun d hd=>by
  have h:=(vU (e9 p i) [] List.Pairwise.nil).2 d;rcases h.1 hd with h|h
  ·cases h
  obtain⟨x,_,hx⟩:=vBu.1 h;unfold J1 at hx;split at hx
  ·rename_i a b ha hb;split at hx
   ·rename_i hab;cases hx;obtain⟨PA,a1,a2,a3,a4,a5⟩:=inst_pt hv (insts_mem (cK ha));obtain⟨PB,b1,b2,b3,b4,b5⟩:=inst_pt hv (insts_mem (cK hb));rw [hab.1,sZ,hP] at a1;rw [hab.2,sZ,hP] at b1;cases a1;cases b1;unfold minusL;rw [vBk];omega
   cases hx
  cases hx
 have hlen:((e9 p i).foldl eQ []).length≤15000:=by
  have key: ∀(ds l:List (List Int)),(ds.foldl eQ l).length≤l.length+ds.length:=fun ds=>by
   induction ds with
   |nil=>intro l;simp
   |cons d ds ih=>
    intro l;rw [vBV]
    have:=ih (eQ l d)
    have:=C4 l d;rw [vBX];omega
  have h1:=key (e9 p i) [];have h2:(e9 p i).length≤15000:=H5 (vBt _ _) (qP hil);simp at h1;omega
 generalize (e9 p i).foldl eQ []=ds at*;refine Ev.loop (fun x:List Bool×Int=> ∃t:Nat,x.2=t∧t≤ds.length∧x.1=qQ P.nest.length (ds.take t)∧x.1.length=P.nest.length) (fun x=>ds.length-x.2.toNat) ?_ n _ ⟨0,rfl,by omega,by simp [qQ],by simp⟩ (by dsimp only;omega);rintro again ⟨l,k⟩ ⟨t,hk,ht,hl,hll⟩ hr;dsimp only at hk hl hll⊢;subst hk;refine aH (fun hlt=>?_) fun hge=>Ev.some ?_
 ·have hlt:t<ds.length:=by omega
  have e1:=cD hlt;have hdl:=hds _ (C6 hlt);have hstep:qQ P.nest.length (ds.take (t+1))=Y2 l ds[t]:=by
   rw [hl];unfold qQ;rw [v7,e1,List.foldl_append];rfl
  refine Ev.jn (fun z=>z=qQ P.nest.length (ds.take (t+1))) (fun j hj=>aA (aN e1) (aA (w9 (by omega) (by omega)) ?_)) fun z hz=>?_
  ·rw [hstep] at hj;unfold Y2 L2 at*;cases hv2:wJ ds[t] with
   |none=>
    rw [hv2] at hj;exact aH (fun h=>absurd h (by dsimp only;omega)) (fun _=>hj _ rfl)
   |some a=>
    rw [hv2] at hj;have ha:a<l.length:=by
     unfold wJ at hv2;obtain⟨h1,_⟩:=vBe.1 hv2;omega
    refine aH (fun _=>?_) fun h=>absurd (show(0:Int)≤(a:Int) by omega) h;refine aA (aN (cD ha)) (aA (d4 (by dsimp only;omega) _) (hj _ ?_));dsimp only;rw [sZ]
  subst hz;rw [aK (by omega)];exact hr _ ⟨t+1,by dsimp only;omega,by omega,rfl,by dsimp only;rw [hstep,A5,hll]⟩ (by dsimp only;omega)
 have:t=ds.length:=by omega
 subst this;rw [hl,oE]
theorem aDG{n:Nat}{p:Prog}(hp:SmP p){i:Nat}{P:Part}(hP:p.parts[i]? =some P):cC n p (i:Int)=some true:=by have hi:=(cI.1 hP).1;rw [qF n hp.2.1,decide_eq_true (by omega)]
theorem V3{n:Nat}(hn:20000≤n){p:Prog}(hp:SmP p)(hv:bO p=true){i:Nat}{P:Part}(hP:p.parts[i]? =some P):o7 n p (i:Int)=some ((e9 p i).foldl eQ []):=by unfold o7;refine Ev.eq (aA (w6 (by omega) hp) ?_);rw [if_pos hv];refine cE (Ev.jn (fun z=>z=false) (fun j hj=>bV (aA (aDG hp hP) (hj _ rfl))) fun z hz=>?_);rw [hz];exact bV (aA (V2 hn hv _) (Ev.some rfl))
theorem aDS(l:List Bool):(mM l).length≤l.length:=by unfold mM;rw [mU];refine H5 (List.length_filter_le _ _) ?_;rw [List.length_range];exact iR _
theorem aDQ: ∀(ds l:List (List Int)),(ds.foldl eQ l).length≤l.length+ds.length
 | [],l=>by simp
 |d::ds,l=>by
  rw [vBV]
  have:=aDQ ds (eQ l d)
  have:=C4 l d;rw [vBX];omega
theorem aNM{p:Prog}(hv:bO p=true)(part:Int):((e9 p part).foldl eQ []).length≤15000∧ ∀x∈(e9 p part).foldl eQ [],x.length≤1000:=by
 have hil:=(eN hv).2.2.2.2;refine⟨?_,fun x hx=>?_⟩
 ·have h1:=aDQ (e9 p part) [];have h2:(e9 p part).length≤15000:=H5 (vBt _ _) (qP hil);simp at h1;omega
 rcases((vU (e9 p part) [] List.Pairwise.nil).2 x).1 hx with h|h
 ·cases h
 obtain⟨d,_,hd⟩:=vBu.1 h
 have:=aCw (fun y hy=>(inst_pt hv (insts_mem hy)).choose_spec.2.2.2.1) hd;omega
theorem uH(m:Nat)(ds:List (List Int)):(qQ m ds).length=m:=by
 unfold qQ;have key: ∀(ds:List (List Int)) (l:List Bool),(ds.foldl Y2 l).length=l.length:=fun ds=>by
  induction ds with
  |nil=>intro l;rfl
  |cons d ds ih=>intro l;rw [vBV,ih,A5]
 rw [key];simp
theorem N1{d:List Int}{k:Nat}:wJ d=some k↔d.getD k 0≠0∧ ∀j,j<k→d.getD j 0=0:=by
 unfold wJ;rw [vBe];constructor
 ·rintro⟨h,h1,h2⟩;refine⟨?_,fun j hj=>?_⟩
  ·rw [s8,cD h];simpa using h1
  have:=h2 j hj;rw [s8,cD (by omega)];simpa using this
 rintro⟨h1,h2⟩;have hk:k<d.length:=by
  apply vBv;intro hle;rw [s8,vAV hle] at h1;exact h1 rfl
 refine⟨hk,?_,fun j hj=>?_⟩
 ·rw [s8,cD hk] at h1;simpa using h1
 have:=h2 j hj;rw [s8,cD (by omega)] at this;simpa using this
theorem aD7{k:Nat}: ∀(ds:List (List Int)) (l:List Bool),k<l.length→(ds.foldl Y2 l).getD k false=(l.getD k false||ds.any fun d=>decide (wJ d=some k))
 | [],l,h=>by simp
 |d::ds,l,h=>by
  rw [vBV,aD7 ds (Y2 l d) (by rw [A5];exact h),List.any_cons];unfold Y2;cases hv:wJ d with
  |none=>simp
  |some a=>
   simp only [List.getD_eq_getElem?_getD,List.getElem?_set];by_cases ha:a=k
   ·subst ha;simp [h]
   simp [ha]
theorem aHj{m k:Nat}(h:k<m)(ds:List (List Int)):(qQ m ds).getD k false=ds.any (fun d=>decide (wJ d=some k)):=by unfold qQ;rw [aD7 ds _ (by simpa using h)];simp [List.getD_eq_getElem?_getD,h]
theorem aDB{l:List Bool}{k:Nat}:((k:Int)∈mM l)↔l.getD k false=true:=by
 unfold mM;simp only [List.mem_map,List.mem_filter,List.mem_range];constructor
 ·rintro⟨a,⟨h1,h2⟩,h3⟩;obtain rfl:a=k:=by omega
  exact h2
 intro h;refine⟨k,⟨?_,h⟩,rfl⟩;apply vBv;intro hle;rw [s8,vAV hle] at h;cases h
theorem aE2{n:Nat}{d:List Int}(hd:d.length≤1000)(hn:1000<n):mE n d=some (L2 d):=by
 unfold mE;refine Ev.eq (Ev.loop (fun x:Int=> ∃i:Nat,x=i∧i≤d.length∧ ∀j,j<i→d.getD j 0=0) (fun x=>d.length-x.toNat) ?_ n _ ⟨0,rfl,by omega,fun j hj=>absurd hj (vBy _)⟩ (by omega));rintro again z ⟨i,rfl,hi,h0⟩ hr;refine aH (fun hlt=>?_) fun hge=>Ev.some ?_
 ·have hlt:i<d.length:=by omega
  have e1:=cD hlt;have eg:d.getD i 0=d[i]:=by rw [s8,e1];rfl
  refine aA (aN e1) (dH (fun hne=>Ev.some ?_) fun he=>?_)
  ·have:wJ d=some i:=N1.2 ⟨by rw [eg];exact hne,h0⟩;unfold L2;rw [this]
  rw [aK (by omega)];refine hr _ ⟨i+1,by omega,by omega,fun j hj=>?_⟩ (by omega);by_cases hji:j=i
  ·subst hji;rw [eg];exact he
  exact h0 j (by omega)
 have:wJ d=none:=by
  cases hv:wJ d with
  |none=>rfl
  |some k=>
   obtain⟨h1,_⟩:=N1.1 hv;by_cases hk:k<d.length
   ·exact absurd (h0 k (by omega)) h1
   rw [s8,vAV (by omega)] at h1;exact absurd rfl h1
 unfold L2;rw [this]
theorem aKj{p:Prog}(hv:bO p=true){i:Nat}{P:Part}(hP:p.parts[i]? =some P): ∀d∈(e9 p i).foldl eQ [],d.length=P.nest.length:=fun d hd=>by
 rcases((vU (e9 p i) [] List.Pairwise.nil).2 d).1 hd with h|h
 ·cases h
 obtain⟨x,_,hx⟩:=vBu.1 h;unfold J1 at hx;split at hx
 ·rename_i a b ha hb;split at hx
  ·rename_i hab;cases hx;obtain⟨PA,a1,a2,a3,a4,a5⟩:=inst_pt hv (insts_mem (cK ha));obtain⟨PB,b1,b2,b3,b4,b5⟩:=inst_pt hv (insts_mem (cK hb));rw [hab.1,sZ,hP] at a1;rw [hab.2,sZ,hP] at b1;cases a1;cases b1;unfold minusL;rw [vBk];omega
  cases hx
 cases hx
def aAo(p:Prog)(i k:Nat):Bool:= !((e9 p i).foldl eQ []).any fun d=>decide (wJ d=some k)
theorem aHN{n:Nat}{p:Prog}(hp:SmP p)(hv:bO p=true)(part loop:Int):dN n p part loop=some (eO p part loop):=by
 unfold dN;refine Ev.eq (Ev.jn (fun z=>z=eO p part loop) (fun j hj=>?_) fun z hz=>Ev.some hz);refine aA (qF n hp.2.1 part) ?_;by_cases hi:0≤part∧part<(p.parts.length:Int)
 ·obtain⟨x,hx,hx2⟩:=iM hi.1 hi.2;rw [decide_eq_true hi];have h4:=(jZ ((eN hv).2.2.2.1 x (cK hx2))).1;refine cE (aA hx (aA (d8 n _ _ _) (hj _ ?_)));unfold eO;rw [hv,hx,aK (by omega)];exact decide_eq_decide.2 (by omega)
 rw [decide_eq_false hi];refine bV (hj _ ?_);unfold eO;rw [hv,aGW hi];rfl
theorem aG0{n:Nat}(hn:20000≤n){p:Prog}(hp:SmP p)(part loop:Int):gX n p part loop=some (eO p part loop&&aAo p part.toNat loop.toNat):=by
 unfold gX;refine Ev.eq (aA (w6 (by omega) hp) ?_);by_cases hv:bO p=true
 ·rw [if_pos hv];refine cE (Ev.jn (fun z=>z=(eO p part loop&&aAo p part.toNat loop.toNat)) (fun j hj=>cE (aA (aHN hp hv part loop) ?_)) fun z hz=>Ev.some hz);by_cases hc:eO p part loop=true
  ·obtain⟨_,i,k,P,l,rfl,rfl,hP,hl,hi,hkl,hok,hk⟩:=xA hc;rw [hc] at hj⊢;refine cE (aA (aFT hn hv hP) (aA (aN (cD (show k<_ by rw [uH];exact hkl))) (hj _ ?_)))
   have:=aHj hkl ((e9 p i).foldl eQ []);rw [s8,cD (by rw [uH];exact hkl)] at this;unfold aAo;rw [sZ,sZ,←this];rfl
  have hc':eO p part loop=false:=by simpa using hc
  rw [hc'] at hj⊢;exact bV (hj _ rfl)
 rw [if_neg hv];refine bV (Ev.jn (fun _=>True) (fun j hj=>bV (hj _ trivial)) fun z hz=>Ev.some ?_);unfold eO;rw [show bO p=false by simpa using hv];rfl
theorem aGC{n:Nat}(hn:20000≤n){p:Prog}(hp:BG 1000 p)(part loop:Int):gQ n p part loop=some (eO p part loop&&aAo p part.toNat loop.toNat):=by
 unfold gQ;refine Ev.eq (Ev.jn (fun z=>z=(eO p part loop&&aAo p part.toNat loop.toNat)) (fun j hj=>aA (aNB (by omega) hp part loop) ?_) fun z hz=>Ev.some hz);by_cases hc:eO p part loop=true
 ·obtain⟨hv,i,k,P,l,rfl,rfl,hP,hl,hi,hkl,hok,hk⟩:=xA hc;rw [hc] at hj⊢;have h4:=(jZ hok).1;obtain⟨b1,b2⟩:=aNM hv (i:Int);have hds:=aKj hv hP;have hD:oU n p (i:Int)=some ((e9 p i).foldl eQ []):=by
   unfold oU;refine Ev.eq (aA (jV (by omega) hp.sm) ?_);rw [hv];exact bV (aA (aE4 hn hp.sm hv _) (Ev.some rfl))
  refine cE (aA (x:=mM (qQ 4 ((e9 p i).foldl eQ []))) ?_ ?_)
  ·unfold l4;refine Ev.eq (aA (x:=List.replicate 4 false) rfl (aA hD ?_));generalize (e9 p i).foldl eQ []=ds at*;refine Ev.loop (fun x:List Bool×Int=> ∃t:Nat,x.2=t∧t≤ds.length∧x.1=qQ 4 (ds.take t)∧x.1.length=4) (fun x=>ds.length-x.2.toNat) ?_ n _ ⟨0,rfl,by omega,by simp [qQ],by simp⟩ (by dsimp only;omega);rintro again ⟨l,kk⟩ ⟨t,hkk,ht,hl2,hll⟩ hr;dsimp only at hkk hl2 hll⊢;subst hkk;refine aH (fun hlt=>?_) fun hge=>?_
   ·have hlt:t<ds.length:=by omega
    have e1:=cD hlt;have hdl:=hds _ (C6 hlt);have hstep:qQ 4 (ds.take (t+1))=Y2 l ds[t]:=by
     rw [hl2];unfold qQ;rw [v7,e1,List.foldl_append];rfl
    refine Ev.jn (fun z=>z=qQ 4 (ds.take (t+1))) (fun j hj=>aA (aN e1) (aA (aE2 (by omega) (by omega)) ?_)) fun z hz=>?_
    ·rw [hstep] at hj;unfold Y2 L2 at*;cases hv2:wJ ds[t] with
     |none=>
      rw [hv2] at hj;exact aH (fun h=>absurd h (by dsimp only;omega)) (fun _=>hj _ rfl)
     |some a=>
      rw [hv2] at hj;have ha:a<l.length:=by
       unfold wJ at hv2;obtain⟨h1,_⟩:=vBe.1 hv2;omega
      refine aH (fun _=>?_) fun h=>absurd (show(0:Int)≤(a:Int) by omega) h;refine aA (aN (cD ha)) (aA (d4 (by dsimp only;omega) _) (hj _ ?_));dsimp only;rw [sZ]
    subst hz;rw [aK (by omega)];exact hr _ ⟨t+1,by dsimp only;omega,by omega,rfl,by dsimp only;rw [hstep,A5,hll]⟩ (by dsimp only;omega)
   have:t=ds.length:=by omega
   subst this;rw [hl2,oE];exact aA (aB0 (by rw [uH];omega) (by rw [uH];omega)) (Ev.some rfl)
  have hfl:=aDS (qQ 4 ((e9 p i).foldl eQ []));rw [uH] at hfl;refine aA (Q1 (by omega) (by omega) _) (hj _ ?_);have key:decide ((k:Int)∈mM (qQ 4 ((e9 p i).foldl eQ [])))=((e9 p i).foldl eQ []).any (fun d=>decide (wJ d=some k)):=by
   rw [←aHj (show k<4 by omega)];by_cases hm:(k:Int)∈mM (qQ 4 ((e9 p i).foldl eQ []))
   ·rw [decide_eq_true hm,aDB.1 hm]
   rw [decide_eq_false hm];cases hg:(qQ 4 ((e9 p i).foldl eQ [])).getD k false with
   |false=>rfl
   |true=>exact absurd (aDB.2 hg) hm
  rw [key];unfold aAo;rw [sZ,sZ,vAX]
 have hc':eO p part loop=false:=by simpa using hc
 rw [hc'] at hj⊢;exact bV (hj _ rfl)
theorem aFn(kp:Nat→Bool)(m:Nat):keptL kp (m+1)=keptL kp m++(if kp m then [m] else []):=by unfold keptL;rw [vBq,vBE];congr 1;by_cases h:kp m<;>simp [h]
theorem aHb(l:List (List Int)): ∀m,m≤l.length→(keptL (ddK l) m).map (fun j=>l.getD j [])=bZ (l.take m)
 |0,_=>rfl
 |m+1,h=>by
  have ih:=aHb l m (by omega);have hm:m<l.length:=by omega
  have e0:l.getD m []=l[m]:=by rw [s8,cD hm];rfl
  rw [aFn,vAI,ih];by_cases h0:m=0
  ·subst h0;have e1:ddK l 0=true:=by simp [ddK]
   rw [e1,if_pos rfl,List.take_zero];show bZ []++[l.getD 0 []]=_;rw [e0,v7,cD hm];rfl
  rw [kK (by omega) hm];have e1:l.getD (m-1) []=l[m-1]:=by rw [s8,cD (by omega)];rfl
  have e2:ddK l m= !decide (l[m-1]=l[m]):=by
   unfold ddK;rw [e0,e1];by_cases hq:l[m-1]=l[m]
   ·simp [h0,hq]
   have hq':l[m]≠l[m-1]:=fun e=>hq e.symm;simp [h0,hq,hq']
  rw [e2];by_cases hq:l[m-1]=l[m]
  ·rw [if_pos hq,decide_eq_true hq];simp
  rw [if_neg hq,decide_eq_false hq];show _++[l.getD m []]=_;rw [e0]
theorem aFP(l:List (List Int)):ddL l=bZ l:=by have:=aHb l l.length (iR _);rw [oE] at this;exact this
theorem aDL{n:Nat}(hn:20000≤n){p:Prog}(hv:bO p=true)(part:Int):eY n (trc p) part=some ((e9 p part).foldl eQ []):=by
 have hil:=(eN hv).2.2.2.2;unfold eY;refine Ev.eq (aA (aBo (by omega) hv) ?_);rw [show(trc p).list=insts p.parts from rfl];have hok: ∀x∈insts p.parts,eI p x:=fun x hx=>insts_mem hx;have hD:=qP (p:=p) hil;have hb:=aFO (p:=p) (l:=insts p.parts);unfold e9;generalize iN p (insts p.parts) (insts p.parts).length=D at*;generalize insts p.parts=I at*;have hpt: ∀x∈I,x.point.length≤4:=fun x hx=>(inst_pt hv (hok x hx)).choose_spec.2.2.2.1;refine Ev.loop (fun x:List (List Int)×Int=> ∃i:Nat,x.2=i∧i≤D.length∧x.1=(D.take i).filterMap (J1 I part)) (fun x=>D.length-x.2.toNat) ?_ n _ ⟨0,rfl,by omega,by simp⟩ (by dsimp only;omega);rintro again ⟨x3,k⟩ ⟨i,hk,hi,hx⟩ hr;dsimp only at hk hx⊢;subst hk;have hlen:x3.length≤i:=by
  rw [hx];refine H5 (vBt _ _) ?_;rw [pS];omega
 refine aH (fun hlt=>?_) fun hge=>?_
 ·have hlt:i<D.length:=by omega
  have e1:=cD hlt;obtain⟨d1,d2,d3⟩:=hb _ (C6 hlt);have ea:=aBj (l:=I) (c:=D[i].fromF) d1 (by omega);have eb:=aBj (l:=I) (c:=D[i].toF) (by omega) (by omega);have ha:=C6 (show D[i].fromF.toNat<I.length by omega);have hbm:=C6 (show D[i].toF.toNat<I.length by omega);have hfa:I[D[i].fromF.toNat]? =some I[D[i].fromF.toNat]:=cD _;have hfb:I[D[i].toF.toNat]? =some I[D[i].toF.toNat]:=cD _;obtain⟨PA,pa1,pa2,pa3,pa4,pa5⟩:=inst_pt hv (hok _ ha);obtain⟨PB,pb1,pb2,pb3,pb4,pb5⟩:=inst_pt hv (hok _ hbm);have hdif:J1 I part D[i]=if I[D[i].fromF.toNat].part=part∧I[D[i].toF.toNat].part=part then some (minusL I[D[i].toF.toNat].point I[D[i].fromF.toNat].point) else none:=by
   unfold J1;rw [hfa,hfb]
  refine Ev.jn (fun z=>z.1=(D.take (i+1)).filterMap (J1 I part)) (fun j hj=>aA (aN e1) (aA ea (aA eb ?_))) fun z hz=>?_
  ·rw [nP e1,←hx] at hj;refine Ev.jn (fun z:Bool=>z= !decide (I[D[i].fromF.toNat].part=part∧I[D[i].toF.toNat].part=part)) (fun j2 hj2=>dH (fun h=>hj2 _ ?_) fun h=>hj2 _ ?_) fun z hz=>?_
   ·rw [decide_eq_false fun h2=>h h2.1];rfl
   ·congr 1;exact decide_eq_decide.2 ⟨fun h2=>⟨h,h2⟩,fun h2=>h2.2⟩
   subst hz;refine dH (fun h=>hj _ ?_) fun h=>?_
   ·rw [hdif,if_neg h];simp
   have hPP:PA=PB:=by
    rw [h.1] at pa1;rw [h.2] at pb1;rw [pa1] at pb1;cases pb1;rfl
   subst hPP;refine S7 (K:=fun x12=>Option.bind (app x3 [x12]) fun x19=>j (x19,D[i].fromF,D[i].toF,D[i].kinds,I[D[i].fromF.toNat].part,I[D[i].fromF.toNat].stmt,I[D[i].fromF.toNat].point,I[D[i].toF.toNat].part,I[D[i].toF.toNat].stmt,I[D[i].toF.toNat].point)) (by omega) (by omega) (by omega) pa5 pb5 ?_;refine aA (bU (by simp;omega)) (hj _ ?_);rw [hdif,if_pos h];rfl
  rw [aK (by omega)];exact hr _ ⟨i+1,by dsimp only;omega,by omega,hz⟩ (by dsimp only;omega)
 have:i=D.length:=by omega
 subst this;rw [oE] at hx;subst hx;have hall: ∀y∈D.filterMap (J1 I part),y.length≤4:=fun y hy=>by
  obtain⟨d,_,hd⟩:=vBu.1 hy;exact aCw hpt hd
 have hsl:(dQ (D.filterMap (J1 I part))).length≤15000:=by unfold dQ;rw [List.length_mergeSort];omega
 refine aA (x:=dQ (D.filterMap (J1 I part))) (by unfold m_sortL;rw [if_pos ⟨by omega,fun y hy=>by have:=hall y hy;omega⟩]) (Ev.some ?_);rw [aFP];exact aHa _
def dsO(p:Prog)(i:Nat):List (List Int):=(e9 p i).foldl eQ []
theorem aFu{n:Nat}(hn:20000≤n){p:Prog}(hp:SmP p)(hv:bO p=true){i:Nat}{P:Part}(hP:p.parts[i]? =some P):lM n p (i:Int)=some (dsO p i):=by unfold lM;refine Ev.eq (aA (w6 (by omega) hp) ?_);rw [if_pos hv];refine cE (Ev.jn (fun z=>z=false) (fun j hj=>bV (aA (aDG hp hP) (hj _ rfl))) fun z hz=>?_);rw [hz];exact bV (aA (aDL hn hv _) (Ev.some rfl))
theorem W8{p:Prog}{i:Nat}{d:List Int}:d∈dsO p i↔d∈e9 p i:=by
 unfold dsO
 have:=(vU (e9 p i) [] .nil).2 d;simpa using this
theorem aBt: ∀(ds l:List (List Int)),(ds.foldl eQ l).length≤l.length+ds.length
 | [],l=>by simp
 |d::ds,l=>by
  rw [vBV]
  have:=aBt ds (eQ l d)
  have:=C4 l d;rw [vBX];omega
theorem aKf{p:Prog}(hv:bO p=true){i:Nat}:(dsO p i).length≤15000:=by
 have hil:=(eN hv).2.2.2.2;have hD:=qP (p:=p) hil
 have:=aBt (e9 p i) [];have h2:(e9 p i).length≤(iN p (insts p.parts) (insts p.parts).length).length:=by unfold e9;exact vBt _ _
 unfold dsO;rw [List.length_nil] at this;omega
theorem zX{p:Prog}(hv:bO p=true){i:Nat}{P:Part}(hP:p.parts[i]? =some P){d:List Int}(hd:d∈dsO p i):d.length=P.nest.length∧ ∀x∈d,lV 99999 x:=by
 have hd:=W8.1 hd;unfold e9 at hd;obtain⟨e,_,he⟩:=vBu.1 hd;unfold J1 at he;split at he
 ·rename_i a b ha hb;split at he
  ·rename_i hp;cases he;have hak:eI p a:=insts_mem (cK ha);have hbk:eI p b:=insts_mem (cK hb);obtain⟨PA,a1,a2,a3,a4,a5⟩:=inst_pt hv hak;obtain⟨PB,b1,b2,b3,b4,b5⟩:=inst_pt hv hbk;rw [hp.1,sZ,hP] at a1;rw [hp.2,sZ,hP] at b1;cases a1;cases b1;unfold minusL;refine⟨by rw [vBk];omega,fun x hx=>?_⟩;obtain⟨u,v,hu,hv2,rfl⟩: ∃u v,u∈b.point∧v∈a.point∧x=u-v:=by
    rw [vAG] at hx;obtain⟨k,hk⟩:=hx;rw [List.getElem?_zipWith] at hk;cases h1:b.point[k]? with
    |none=>rw [h1] at hk;cases hk
    |some u=>
     cases h2:a.point[k]? with
     |none=>rw [h1,h2] at hk;cases hk
     |some v=>
      rw [h1,h2] at hk;cases hk;exact⟨u,v,cK h1,cK h2,rfl⟩
   have q1:=b5 u hu;have q2:=a5 v hv2;unfold lV at*;omega
  cases he
 cases he
def posL(d:List Int):Bool:=match wJ d with
 |some k=>decide (0≤d.getD k 0)
 |none=>true
theorem aJl{d:List Int}{k:Nat}(h:wJ d=some k):k<d.length∧d.getD k 0≠0:=by unfold wJ at h;rw [vBe] at h;obtain⟨h1,h2,_⟩:=h;refine⟨h1,?_⟩;rw [s8,cD h1];simpa using h2
theorem aFt{n:Nat}(hn:20000≤n){p:Prog}(hp:SmP p)(hv:bO p=true){i:Nat}{P:Part}(hP:p.parts[i]? =some P){F:List Int→Option (List Int)}{f:List Int→List Int}(hF: ∀d∈dsO p i,F d=some (f d))(hl: ∀d,(f d).length=d.length):
  N3 n p (i:Int) F=some ((dsO p i).all fun d=>posL (f d)):=by
 unfold N3;refine Ev.eq (aA (aFu hn hp hv hP) ?_);have hlen:=aKf hv (i:=i);have hsh:=fun d hd=>(zX hv hP (d:=d) hd).1;have h4:=(jZ ((eN hv).2.2.2.1 P (cK hP))).1;generalize dsO p i=D at hF hlen hsh;refine Ev.loop (fun x:List (List Int)×Int=> ∃k:Nat,x.2=k∧k≤D.length∧x.1.length=D.length∧(∀t,k≤t→x.1[t]? =D[t]?)∧ ∀d∈D.take k,posL (f d)=true) (fun x=>D.length-x.2.toNat) ?_ n _ ⟨0,rfl,by omega,rfl,fun _ _=>rfl,fun d hd=>by simp at hd⟩ (by dsimp only;omega);rintro again ⟨rows,kz⟩ ⟨k,hk,hkl,hrl,hrest,hpos⟩ hr;dsimp only at hk hrl hrest⊢;subst hk;refine aH (fun hlt=>?_) fun hge=>Ev.some ?_
 ·have hlt:k<D.length:=by omega
  have e1:rows[k]? =some D[k]:=by rw [hrest k (iR _),cD hlt]
  have hm:=C6 hlt;have hle:(f D[k]).length≤4:=by rw [hl,hsh _ hm];exact h4
  refine aA (aN e1) (aA (hF _ hm) (aA (fP (hl _)) (aA (w9 (by omega) (by omega)) (aA (d4 (by omega) _) ?_))));have hall: ∀(hq:posL (f D[k])=false),D.all (fun d=>posL (f d))=false:=fun hq=>vAM.2 ⟨_,hm,by simp [hq]⟩;have go:posL (f D[k])=true→Ev (again (rows.set (k:Int).toNat (f D[k]),wr ((k:Int)+1))) (fun r=>r=D.all fun d=>posL (f d)):=fun hq=>by
   rw [aK (by omega),sZ];refine hr _ ⟨k+1,by dsimp only;omega,by omega,by dsimp only;rw [vAW];exact hrl,fun t ht=>?_,fun d hd=>?_⟩ (by dsimp only;omega)
   ·dsimp only;rw [vAF (by omega)];exact hrest t (by omega)
   rw [v7,cD hlt] at hd;rcases wE.1 hd with h|h
   ·exact hpos d h
   have:d=D[k]:=by simpa using h
   subst this;exact hq
  unfold L2 posL at*;cases hlv:wJ (f D[k]) with
  |none=>
   rw [hlv] at go hall;exact aH (fun h=>absurd h (by show¬(0:Int)≤ -1;omega)) (fun _=>go rfl)
  |some t=>
   rw [hlv] at go hall;obtain⟨t1,t2⟩:=aJl hlv;refine aH (fun _=>?_) fun h=>absurd (show(0:Int)≤(t:Int) by omega) h;have e2:=cD t1;have e3:(f D[k]).getD t 0=(f D[k])[t]:=by rw [s8,e2];rfl
   refine aA (aN e2) (aH (fun h=>Ev.some ?_) fun h=>go ?_)
   ·exact(hall (decide_eq_false (by omega))).symm
   exact decide_eq_true (by omega)
 have:k=D.length:=by omega
 subst this;rw [oE] at hpos;exact(vAH.2 hpos).symm
theorem N4{α:Type}{l:List α}{k:Nat}(h:k<l.length)(z:α):l[k]? =some (l.getD k z):=by rw [s8,cD h];rfl
def ltI(x y:Inst):Prop:=x.part<y.part∨x.part=y.part∧(cmpL x.point y.point<0∨x.point=y.point∧x.stmt<y.stmt)
theorem aDC{x y:Inst}(h:ltI x y): ¬ltI y x:=fun h2=>by
 have hf:=gJ x.point y.point;have hs:=lA x.point;rcases h with h|⟨e,h|⟨e2,h⟩⟩<;>rcases h2 with g|⟨_,g|⟨g2,g⟩⟩
 ·omega
 ·omega
 ·omega
 ·omega
 ·omega
 ·rw [g2] at h;omega
 ·omega
 ·rw [←e2] at g;omega
 omega
theorem aHf: ∀p a b:List Int,cmpL (p++a) (p++b)=cmpL a b
 | [],_,_=>rfl
 |x::p,a,b=>by simp only [List.cons_append,cmpL];rw [if_neg (by omega),if_neg (by omega)];exact aHf p a b
theorem R3: ∀(ls:List Loop) (p:List Int) {x:List Int},x∈pts ls p→ ∃t,x=p++t∧t.length=ls.length
 | [],p,x,h=>⟨[],by simpa [pts] using h,rfl⟩
 |l::ls,p,x,h=>by simp only [pts] at h;obtain⟨v,_,h⟩:=vBO.1 h;obtain⟨t,rfl,ht⟩:=R3 ls _ h;exact⟨v::t,by simp,by simp [ht]⟩
theorem aNk(lo hi:Int):(jB lo hi).Pairwise (fun a b=>a<b):=by unfold jB;rw [List.pairwise_map];exact List.pairwise_lt_range.imp fun h=>by omega
theorem aI9: ∀(ls:List Loop) (p:List Int),SS (pts ls p)
 | [],p=>List.pairwise_singleton _ _
 |l::ls,p=>by simp only [pts];refine List.pairwise_flatMap.2 ⟨fun v _=>aI9 ls _,(aNk _ _).imp fun {v w} h x hx y hy=>?_⟩;obtain⟨s,rfl,_⟩:=R3 ls _ hx;obtain⟨t,rfl,_⟩:=R3 ls _ hy;rw [vAO,vAO,aHf];simp only [List.cons_append,cmpL];rw [if_pos h];omega
theorem insts_ss{p:Prog}(hv:bO p=true):(insts p.parts).Pairwise ltI:=by
 unfold insts;refine List.pairwise_flatMap.2 ⟨fun y hy=>?_,?_⟩
 ·obtain⟨P,i⟩:=y;have hP:=vBd.1 hy;have hok:=(eN hv).2.2.2.1 P (cK hP);dsimp only;unfold instP;rw [t6 hok];refine List.pairwise_flatMap.2 ⟨fun q _=>?_,(aI9 _ _).imp fun {q r} h x hx y hy=>?_⟩
  ·rw [List.pairwise_map];exact List.pairwise_lt_range.imp fun h=> .inr ⟨rfl,.inr ⟨rfl,by dsimp only;omega⟩⟩
  obtain⟨_,_,rfl⟩:=C8.1 hx;obtain⟨_,_,rfl⟩:=C8.1 hy;exact .inr ⟨rfl,.inl h⟩
 rw [vBj];intro i j hi hj hij x hx y hy;rw [List.getElem_zipIdx] at hx hy;unfold instP at hx hy;obtain⟨_,_,hx⟩:=vBO.1 hx;obtain⟨_,_,rfl⟩:=C8.1 hx;obtain⟨_,_,hy⟩:=vBO.1 hy;obtain⟨_,_,rfl⟩:=C8.1 hy;exact .inl (by dsimp only;omega)
theorem R5: ∀a b:List Int,a.length=b.length→posL (minusL b a)= !decide (cmpL b a<0)
 | [],[],_=>rfl
 | [],_::_,h=>by simp at h
 |_::_,[],h=>by simp at h
 |x::a,y::b,h=>by
  have ih:=R5 a b (by simpa using h);have e:minusL (y::b) (x::a)=(y-x)::minusL b a:=rfl;have ec:cmpL (y::b) (x::a)=if y<x then-1 else if x<y then 1 else cmpL b a:=rfl
  rw [e,ec];clear ec;by_cases hxy:y=x
  ·subst hxy;rw [if_neg (by omega),if_neg (by omega),←ih,Int.sub_self];unfold posL wJ;rw [List.findIdx?_cons];simp only [decide_true,Bool.not_true,Bool.false_eq_true,if_false];cases (minusL b a).findIdx? (fun x=> !decide (x=0)) with
   |none=>rfl
   |some k=>rfl
  have hl:wJ ((y-x)::minusL b a)=some 0:=by
   unfold wJ;rw [List.findIdx?_cons,if_pos (by simp;omega)]
  unfold posL;rw [hl];dsimp only;rw [List.getD_cons_zero];by_cases h2:y<x
  ·rw [if_pos h2,decide_eq_false (by omega),decide_eq_true (by omega)];rfl
  rw [if_neg h2,if_pos (by omega),decide_eq_true (by omega),decide_eq_false (by omega)];rfl
def movI(i:Nat)(τ:List Int→List Int)(x:Inst):Inst:=if x.part=(i:Int) then⟨x.part,x.stmt,τ x.point⟩ else x
theorem E6(i:Nat)(τ:List Int→List Int)(x:Inst):(movI i τ x).part=x.part:=by unfold movI;split<;>rfl
theorem rK{i:Nat}{τ:List Int→List Int}: ∀x:Inst,x.part≠(i:Int)→movI i τ x=x:=fun x hx=>by unfold movI;rw [if_neg hx]
theorem F6{α β:Type}{f g:α→List β}: ∀{l:List α},(∀x∈l,(f x).Perm (g x))→(l.flatMap f).Perm (l.flatMap g)
 | [],_=> .nil
 |x::l,h=>by rw [vBI,vBI];exact(h x uV).append (F6 fun y hy=>h y (q8 x hy))
theorem insts_perm{ps:List Part}{i:Nat}{P P':Part}(hP:ps[i]? =some P){σ:Inst→Inst}(h1:(instP i P').Perm ((instP i P).map σ))(h2: ∀x,x.part≠(i:Int)→σ x=x):(insts (ps.set i P')).Perm ((insts ps).map σ):=by
 unfold insts;rw [vBP];have e:(ps.set i P').zipIdx=ps.zipIdx.map (fun y=>if y.2=i then(P',i) else y):=by
  refine List.ext_getElem? fun j=>?_;rw [List.getElem?_zipIdx,q7,List.getElem?_zipIdx];by_cases hj:i=j
  ·subst hj;rw [vAy (cI.1 hP).1,hP];simp
  rw [vAF hj];cases ps[j]? with
  |none=>rfl
  |some y=>
   have: ¬j=i:=fun h=>hj h.symm;simp [this]
 rw [e,List.flatMap_map];refine F6 fun y hy=>?_;obtain⟨x,j⟩:=y;have hx:=vBd.1 hy;dsimp only at hx⊢;by_cases hji:j=i
 ·subst hji;rw [hP] at hx;cases hx;rw [if_pos rfl];exact h1
 rw [if_neg hji];refine .of_eq (aB9 fun z hz=>h2 z ?_).symm;unfold instP at hz;obtain⟨q,_,hz⟩:=vBO.1 hz;obtain⟨t,_,rfl⟩:=C8.1 hz;dsimp only;omega
theorem instP_perm{i:Nat}{τ:List Int→List Int}{P P':Part}(h1:(dA P').Perm ((dA P).map τ))(h2:P'.body.length=P.body.length):(instP i P').Perm ((instP i P).map (movI i τ)):=by unfold instP;rw [h2,vBP];refine(h1.flatMap_right _).trans (.of_eq ?_);rw [List.flatMap_map];refine N6 fun q _=>?_;rw [List.map_map];refine qE fun t _=>?_;show _=movI i τ _;unfold movI;rw [if_pos rfl]
structure Mov (p q:Prog) (i:Nat) (τ:List Int→List Int):Prop where
 arr:q.arrays=p.arrays
 perm:(insts q.parts).Perm ((insts p.parts).map (movI i τ))
 cells: ∀x∈insts p.parts,rc q (movI i τ x)=rc p x∧wc q (movI i τ x)=wc p x
 run: ∀x∈insts p.parts,∀m,runI q m (movI i τ x)=runI p m x
theorem aDz{p:Prog}(hv:bO p=true){i:Nat}{P P':Part}(hP:p.parts[i]? =some P){F:Affine→Affine}(hb:P'.body=P.body.map (T0 F)){τ:List Int→List Int}(hev: ∀q:List Int,q.length=P.nest.length→ ∀y,b8 y=true→cH (F y) (τ q)=cH y q){x:Inst}(hx:eI p x):
  ∃s s' d,pH p x=some s∧pH ⟨p.arrays,p.parts.set i P'⟩ (movI i τ x)=some s'∧fM s d=true∧
   (∀a,gN a d=true→cT p.arrays (if x.part=(i:Int) then fR F a else a) (movI i τ x).point 0=cT p.arrays a x.point 0)∧
   (s'.write=if x.part=(i:Int) then fR F s.write else s.write)∧
   (b9 5 s'.value=(b9 5 s.value).map fun a=>if x.part=(i:Int) then fR F a else a)∧
   ∀m,pE 5 p.arrays m s'.value (movI i τ x).point=pE 5 p.arrays m s.value x.point:=by
 obtain⟨i',k',Q,s,d,e1,e2,e3,e4,e5,e6,e7,e8⟩:=inst_d hv hx;have hi:=(cI.1 hP).1;by_cases hxi:x.part=(i:Int)
 ·obtain rfl:i'=i:=by omega
  rw [hP] at e3;cases e3;have hev:=hev x.point e7.1;have hs:movI i' τ x=⟨x.part,x.stmt,τ x.point⟩:=by unfold movI;rw [if_pos hxi]
  refine⟨s,T0 F s,d,e5,?_,e6,fun a ha=>?_,?_,?_,fun m=>?_⟩
  ·rw [hs];unfold pH;dsimp only;rw [e1,sZ,vAy hi];show(P'.body[x.stmt.toNat]?)=_;rw [hb,q7,e2,sZ,e4];rfl
  ·rw [if_pos hxi,hs];exact aFS (fun y hy=>hev y ((uS ha).2.2 y hy)) _ _
  ·rw [if_pos hxi];rfl
  ·simp only [if_pos hxi];exact aGH (jT e6).2.1
  rw [hs];exact aIB hev _ m (jT e6).2.1
 have hs:movI i τ x=x:=rK x hxi;refine⟨s,s,d,e5,?_,e6,fun a ha=>?_,?_,?_,fun m=>?_⟩
 ·rw [hs,←e5];unfold pH;dsimp only;rw [vAF (by omega)]
 ·rw [if_neg hxi,hs]
 ·rw [if_neg hxi]
 ·simp only [if_neg hxi,List.map_id']
 rw [hs]
theorem aNo{p:Prog}(hv:bO p=true){i:Nat}{P P':Part}(hP:p.parts[i]? =some P){F:Affine→Affine}(hb:P'.body=P.body.map (T0 F)){τ:List Int→List Int}(hev: ∀q:List Int,q.length=P.nest.length→ ∀y,b8 y=true→cH (F y) (τ q)=cH y q)(hpts:(dA P').Perm ((dA P).map τ)):Mov p ⟨p.arrays,p.parts.set i P'⟩ i τ where
 arr:=rfl
 perm:=insts_perm hP (instP_perm hpts (by rw [hb,mU])) rK
 cells x hx:=by
  obtain⟨s,s',d,s1,s2,s3,s4,s5,s6,s7⟩:=aDz hv hP hb hev (insts_mem hx);obtain⟨c1,_,c3,_⟩:=jT s3;unfold rc wc;rw [s1,s2];dsimp only;rw [s5,s6,List.map_map,s4 _ c1];exact⟨qE fun a ha=>s4 a (c3 a ha),rfl⟩
 run x hx m:=by obtain⟨s,s',d,s1,s2,s3,s4,s5,s6,s7⟩:=aDz hv hP hb hev (insts_mem hx);obtain⟨c1,_,c3,_⟩:=jT s3;unfold runI;rw [s1,s2];dsimp only;rw [s5,s4 _ c1,s7 m]
theorem aBi{p:Prog}{a b:Inst}:sU p a b≠0↔aCy p a b:=by unfold sU aCy;by_cases h1:(wc p a:Int)∈rc p b<;>by_cases h2:(wc p b:Int)∈rc p a<;>by_cases h3:wc p a=wc p b<;>(first|rw [if_pos h1]|rw [if_neg h1])<;>(first|rw [if_pos h2]|rw [if_neg h2])<;>(first|rw [if_pos h3]|rw [if_neg h3])<;>simp [h1,h2,h3]
theorem aKk{p:Prog}{a b:Inst}(h:aCy p a b):aCy p b a:=by
 rcases h with h|h|h
 ·exact .inr (.inl h)
 ·exact .inl h
 exact .inr (.inr h.symm)
theorem zZ{p:Prog}{i:Nat}{d:List Int}:d∈e9 p i↔ ∃j k:Nat,∃a b:Inst,j<k∧(insts p.parts)[j]? =some a∧(insts p.parts)[k]? =some b∧aCy p a b∧a.part=(i:Int)∧b.part=(i:Int)∧d=minusL b.point a.point:=by
 unfold e9;rw [vBu];constructor
 ·rintro⟨e,he,hd⟩;obtain⟨j,k,hjk,hk,hkd,rfl⟩:=S8.1 he;have ha:=cD (show j<(insts p.parts).length by omega);have hb:=cD hk;rw [zK ha hb] at hkd;unfold J1 at hd;dsimp only at hd;rw [sZ,sZ,ha,hb] at hd;dsimp only at hd;split at hd
  ·rename_i hp;cases hd;exact⟨j,k,_,_,hjk,ha,hb,aBi.1 hkd,hp.1,hp.2,rfl⟩
  cases hd
 rintro⟨j,k,a,b,hjk,ha,hb,hc,h1,h2,rfl⟩;refine⟨_,S8.2 ⟨j,k,hjk,(cI.1 hb).1,?_,rfl⟩,?_⟩
 ·rw [zK ha hb];exact aBi.2 hc
 unfold J1;dsimp only;rw [sZ,sZ,ha,hb];dsimp only;rw [if_pos ⟨h1,h2⟩]
theorem G2{p:Prog}(hv:bO p=true){i:Nat}{P:Part}(hP:p.parts[i]? =some P){a:Inst}(ha:a∈insts p.parts)(h:a.part=(i:Int)):a.point.length=P.nest.length∧ ∀y∈a.point,lV 9999 y:=by obtain⟨Q,q1,_,q2,_,q4⟩:=inst_pt hv (insts_mem ha);rw [h,sZ,hP] at q1;cases q1;exact⟨q2,q4⟩
theorem aKi{p:Prog}(hv:bO p=true){i:Nat}{P:Part}(hP:p.parts[i]? =some P){d:List Int}(hd:d∈e9 p i):posL d=true:=by
 obtain⟨j,k,a,b,hjk,ha,hb,_,h1,h2,rfl⟩:=zZ.1 hd;have hla:=(G2 hv hP (cK ha) h1).1;have hlb:=(G2 hv hP (cK hb) h2).1;rw [R5 _ _ (by omega)];have hs:=vBj.1 (insts_ss hv) j k (cI.1 ha).1 (cI.1 hb).1 hjk;rw [(cI.1 ha).2,(cI.1 hb).2] at hs;have hf:=gJ a.point b.point;have h0:=lA a.point;rcases hs with h|⟨_,h|⟨h,_⟩⟩
 ·omega
 ·rw [decide_eq_false (by omega)];rfl
 rw [←h,decide_eq_false (by omega)];rfl
structure Kept (p:Prog) (i:Nat) (P:Part) (τ f:List Int→List Int):Prop where
 pos:(dsO p i).all (fun d=>posL (f d))=true
 dist: ∀a b:List Int,a.length=P.nest.length→b.length=P.nest.length→f (minusL b a)=minusL (τ b) (τ a)
 len: ∀a:List Int,a.length=P.nest.length→(τ a).length=P.nest.length
 inj: ∀a b:List Int,a.length=P.nest.length→b.length=P.nest.length→τ a=τ b→a=b
theorem aLQ{p:Prog}(hv:bO p=true){i:Nat}{P:Part}(hP:p.parts[i]? =some P){τ f:List Int→List Int}(hK:Kept p i P τ f):(insts p.parts).Pairwise (fun a b=>aCy p a b→ltI (movI i τ a) (movI i τ b)):=by
 rw [vBj];intro j k hj hk hjk hc;have hs:=vBj.1 (insts_ss hv) j k hj hk hjk;have ha:=cD hj;have hb:=cD hk;generalize (insts p.parts)[j]=a at*;generalize (insts p.parts)[k]=b at*;unfold ltI;rw [E6,E6];rcases hs with h|⟨h,hs⟩
 ·exact .inl h
 refine .inr ⟨h,?_⟩;by_cases hi:a.part=(i:Int)
 ·have hbi:b.part=(i:Int):=by omega
  obtain⟨la,_⟩:=G2 hv hP (cK ha) hi;obtain⟨lb,_⟩:=G2 hv hP (cK hb) hbi;have hd:minusL b.point a.point∈dsO p i:=W8.2 (zZ.2 ⟨j,k,a,b,hjk,ha,hb,hc,hi,hbi,rfl⟩);have hpos:=vAH.1 hK.pos _ hd;rw [hK.dist _ _ la lb,R5 _ _ (by rw [hK.len _ la,hK.len _ lb])] at hpos;have hn: ¬cmpL (τ b.point) (τ a.point)<0:=by simpa using hpos
  have hf:=gJ (τ a.point) (τ b.point);unfold movI;rw [if_pos hi,if_pos hbi];dsimp only;by_cases h0:cmpL (τ a.point) (τ b.point)=0
  ·have e:=hK.inj _ _ la lb (nS h0);refine .inr ⟨nS h0,?_⟩;rcases hs with hs|⟨_,hs⟩
   ·have:=lA b.point;rw [e] at hs;omega
   exact hs
  exact .inl (by omega)
 rw [rK a hi,rK b (by omega)];exact hs
theorem aJj{p q:Prog}(hv:bO p=true)(hw:bO q=true){i:Nat}{P:Part}(hP:p.parts[i]? =some P){τ f:List Int→List Int}(hM:Mov p q i τ)(hK:Kept p i P τ f){d:List Int}(hd:d∈e9 q i): ∃e∈e9 p i,d=f e:=by
 obtain⟨j,k,x,y,hjk,hx,hy,hc,h1,h2,rfl⟩:=zZ.1 hd;have hs:=vBj.1 (insts_ss hw) j k (cI.1 hx).1 (cI.1 hy).1 hjk;rw [(cI.1 hx).2,(cI.1 hy).2] at hs;obtain⟨a,ha,rfl⟩:=C8.1 (hM.perm.subset (cK hx));obtain⟨b,hb,rfl⟩:=C8.1 (hM.perm.subset (cK hy));rw [E6] at h1 h2;obtain⟨a1,a2⟩:=hM.cells a ha;obtain⟨b1,b2⟩:=hM.cells b hb;have hc:aCy p a b:=by
  unfold aCy at hc⊢
  rwa [a1,a2,b1,b2] at hc
 obtain⟨la,_⟩:=G2 hv hP ha h1;obtain⟨lb,_⟩:=G2 hv hP hb h2;have e1:(movI i τ a).point=τ a.point:=by unfold movI;rw [if_pos h1]
 have e2:(movI i τ b).point=τ b.point:=by unfold movI;rw [if_pos h2]
 have hk:=vBj.1 (aLQ hv hP hK);obtain⟨ia,ha⟩:=vAG.1 ha;obtain⟨ib,hb⟩:=vAG.1 hb;have hal:=(cI.1 ha).1;have hbl:=(cI.1 hb).1;have hae:=(cI.1 ha).2;have hbe:=(cI.1 hb).2;rcases Nat.lt_trichotomy ia ib with h|h|h
 ·exact⟨_,zZ.2 ⟨ia,ib,a,b,h,ha,hb,hc,h1,h2,rfl⟩,by rw [e1,e2,hK.dist _ _ la lb]⟩
 ·subst h;rw [ha] at hb;cases hb;exact(aDC hs hs).elim
 have:=hk ib ia hbl hal h;rw [hae,hbe] at this;exact(aDC hs (this (aKk hc))).elim
def Q7(k:Nat)(c:Int):Affine:=⟨[0,0,0,0].set k (-1),c⟩
def Q8(k:Nat)(c:Int)(x:Affine):Affine:=aLm x k (Q7 k c)
def v8(k:Nat)(d:List Int):List Int:=d.set k (0-d.getD k 0)
def rE(l:Loop):Int:=pL l.lo+pL l.hi-1
def D5(k:Nat)(c:Int)(P:Part):Part:=⟨P.nest.take (k+1)++(P.nest.drop (k+1)).map (kP (Q8 k c)),P.body.map (T0 (Q8 k c))⟩
def I4(p:Prog)(i k:Nat)(l:Loop):Bool:=zV l&&(dsO p i).all fun d=>posL (v8 k d)
def yZ(p:Prog)(part loop:Int):Prog×Bool:=
 if eO p part loop=true then
  match ix p.parts part with
  |some P=>match ix P.nest loop with
   |some l=>if I4 p part.toNat loop.toNat l=true then aDV ⟨p.arrays,p.parts.set part.toNat (D5 loop.toNat (rE l) P)⟩ else noP
   |none=>noP
  |none=>noP
 else noP
theorem Q6(k:Nat)(d:List Int):(v8 k d).length=d.length:=by simp [v8]
theorem aB2{p:Prog}{i k:Nat}{P:Part}{l:Loop}(h:eO p (i:Int) (k:Int)=true)(hP:p.parts[i]? =some P)(hl:P.nest[k]? =some l):yZ p i k=if I4 p i k l=true then aDV ⟨p.arrays,p.parts.set i (D5 k (rE l) P)⟩ else noP:=by unfold yZ;rw [if_pos h,aN hP];dsimp only;rw [aN hl];simp only [Int.toNat_natCast]
theorem aLA{k:Nat}(hk:k<4){c:Int}(hc:lV 999 c):bB 1000 (Q7 k c):=by unfold lV at hc;rcases(show k=0∨k=1∨k=2∨k=3 by omega) with rfl|rfl|rfl|rfl<;>(unfold bB lV Q7;simp;omega)
theorem aGG(k:Nat)(c:Int): ∀x,b8 x=true→BA 4 (Q8 k c x):=fun x hx=>by have:=aNS ⟨x.coefs.set k 0,x.const⟩ (Q7 k c) (x.coefs.getD k 0) (by dsimp only;rw [vAW];exact(jG hx).1) (by simp [Q7]);unfold BA Q8 aLm;omega
theorem aCa{l:List Affine}(h: ∀x∈l,b8 x=true):lV 99 (pL l):=by
 unfold pL;cases l with
 |nil=>unfold lV;simp
 |cons x t=>exact(jG (h x uV)).2.1
theorem aNm{l:Loop}(h:aAp l):lV 999 (rE l):=by have h1:=aCa h.1.2;have h2:=aCa h.2.2;unfold lV at*;unfold rE;omega
theorem aHR(n:Nat){k:Nat}{d:List Int}(hk:k<d.length)(hd: ∀x∈d,lV 99999 x):eU n d (k:Int)=some (v8 k d):=by have e:=N4 hk (0:Int);have hb:=hd _ (cK e);unfold lV at hb;unfold eU;refine Ev.eq (aA (aN e) ?_);rw [aK (by omega)];refine aA (d4 (by omega) _) (Ev.some ?_);rw [sZ];rfl
theorem aKU(n:Nat){k:Nat}(hk:k<4):w5 n (k:Int) (-1)=some ⟨[0,0,0,0].set k (-1),0⟩:=by rcases(show k=0∨k=1∨k=2∨k=3 by omega) with rfl|rfl|rfl|rfl<;>rfl
theorem aHQ{n:Nat}(hn:5000≤n){k:Nat}(hk:k<4){c:Int}(hc:lV 999 c): ∀x,b8 x=true→eS n x (k:Int) (Q7 k c)=some (Q8 k c x):=fun x hx=>by unfold eS;rw [aFs hn ((aNR hx).mono (by omega)) (aLA hk hc) hk];rfl
theorem aI4{list:List Arr}{P:Part}(hP:cP list P=true){k:Nat}(hk:k<P.nest.length)(c:Int):BPt 4 (D5 k c P):=by
 obtain⟨h1,h2⟩:=jZ hP;obtain⟨_,h4,h5,_⟩:=iW hP;refine⟨⟨by simp only [D5,List.length_append,List.length_map,List.length_take,List.length_drop];omega,fun y hy=>?_⟩,by simp only [D5,List.length_map];exact h4.2,fun s hs=>?_⟩
 ·rcases wE.1 hy with hy|hy
  ·exact(aNP hP).1.2 y (vAD hy)
  obtain⟨z,hz,rfl⟩:=C8.1 hy;exact aMd (aGG k c) (h2 z (vAK hz))
 obtain⟨z,hz,rfl⟩:=C8.1 hs;exact aNO (aGG k c) (h5 z hz)
theorem aLz{p:Prog}(hp:BG 1000 p)(part loop:Int):BG 1000 (yZ p part loop).1:=by
 by_cases hb:eO p part loop=true
 ·obtain⟨hv,i,k,P,l,rfl,rfl,hP,hl,hi,hkl,hok,hk⟩:=xA hb;rw [aB2 hb hP hl];split
  ·exact aLX (aKr hp i (aI4 hok hkl _))
  exact aJg
 unfold yZ;rw [if_neg hb];exact aJg
theorem aJz{n:Nat}(hn:20000≤n){p:Prog}(hp:BG 1000 p)(part loop:Int):lJ n p part loop=some (yZ p part loop):=by
 unfold lJ;by_cases hneg:loop= -1
 ·subst hneg;unfold yZ;rw [if_neg fun h=>by rw [aDM (by omega)] at h;cases h];exact Ev.eq (aI (aH9 (by omega) hp part) fun x1 h1=>Ev.cond (fun _=>aH (fun _=>Ev.some rfl) fun h=>absurd (show(-1:Int)<0 by omega) h) fun _=>Ev.some rfl)
 refine Ev.eq (aA (aKs (by omega) hp part loop hneg) ?_);by_cases hb:eO p part loop=true
 ·rw [if_pos hb];refine cE (aH (fun h=>by rw [aDM h] at hb;cases hb) fun h0=>?_);obtain⟨hv,i,k,P,l,rfl,rfl,hP,hl,hi,hkl,hok,hk⟩:=xA hb;obtain⟨h1,h2⟩:=jZ hok;obtain⟨_,h4,h5,_⟩:=iW hok;have hlp:=h2 l (cK hl);rw [aB2 hb hP hl];refine aA (aN hP) (aA (aN hl) (aA (aJG (by omega) hlp) ?_));cases hf:zV l with
  |false=>exact bV (Ev.some (by rw [if_neg (by unfold I4;rw [hf];simp)];rfl))
  |true=>
   refine cE (aA (aFt hn hp.sm hv hP (F:=fun q0=>eU n q0 (k:Int)) (f:=v8 k) (fun d hd=>aHR n (by have:=(zX hv hP hd).1;omega) (zX hv hP hd).2) (Q6 k)) (Ev.cond (fun hd=>?_) fun hd=>Ev.some ?_))
   ·rw [show I4 p i k l=true by unfold I4;rw [hf,hd];rfl];refine aA (aKU n hk) ?_;have hc:=aNm hlp;have h1c:=aCa hlp.1.2;have h2c:=aCa hlp.2.2;unfold lV at h1c h2c;have hcc:(⟨([0,0,0,0]:List Int).set k (-1),wr ((wr (pL l.lo+pL l.hi))-1)⟩:Affine)=Q7 k (rE l):=by
     rw [aK (n:=pL l.lo+pL l.hi) (by omega),aK (by omega)];rfl
    rw [aK (n:=(k:Int)+1) (by omega)];have hch:=aAn (n:=n) (by omega) (nest:=P.nest) (body:=P.body) (s:=k+1) (by omega) h1 (fun y hy=>h2 y (vAK hy)) h4.2 h5 (F:=fun q0=>eS n q0 (k:Int) (⟨([0,0,0,0]:List Int).set k (-1),wr ((wr (pL l.lo+pL l.hi))-1)⟩:Affine)) (f:=Q8 k (rE l)) fun x hx=>by rw [hcc];exact aHQ (by omega) hk hc x hx
    rw [show(k:Int)+1=((k+1:Nat):Int) by omega];refine aA hch (aA (d4 (by dsimp only;omega) _) ?_);rw [sZ];exact aA (aDU (by omega) (aKr hp i (aI4 hok hkl (rE l)))) (Ev.some rfl)
   rw [if_neg (by unfold I4;rw [hf,hd];simp)];rfl
 unfold yZ;rw [if_neg hb,if_neg hb];exact bV (Ev.some rfl)
theorem aJb{F:Affine→Affine}{τ:List Int→List Int}{m:Nat}(hev: ∀q:List Int,m≤q.length→ ∀y,b8 y=true→cH (F y) (τ q)=cH y q)(happ: ∀(q:List Int) (v:Int),m≤q.length→τ (q++[v])=τ q++[v]): ∀(ls:List Loop) (p:List Int),(∀l∈ls,aAp l)→m≤p.length→pts (ls.map (kP F)) (τ p)=(pts ls p).map τ
 | [],p,_,_=>rfl
 |l::ls,p,h,hk=>by
  have hl:=h l uV;have ev: ∀{as:List Affine},(∀x∈as,b8 x=true)→evs (as.map F) (τ p)=evs as p:=fun ha=>by
   unfold evs;rw [List.map_map];exact qE fun x hx=>hev p hk x (ha x hx)
  have e1:jS (kP F l) (τ p)=jS l p:=by unfold jS kP;rw [ev hl.1.2]
  have e2:oH (kP F l) (τ p)=oH l p:=by unfold oH kP;rw [ev hl.2.2]
  simp only [List.map_cons,pts];rw [e1,e2,vBP];refine N6 fun v _=>?_;rw [←happ p v hk];exact aJb hev happ ls (p++[v]) (fun x hx=>h x (q8 _ hx)) (by simp;omega)
theorem aA4{A B:List Loop}{τ:List Int→List Int}{k:Nat}(h: ∀p:List Int,p.length=k→(pts B p).Perm ((pts A p).map τ)): ∀(os:List Loop) (p:List Int),p.length+os.length=k→(pts (os++B) p).Perm ((pts (os++A) p).map τ)
 | [],p,hk=>h p (by simpa using hk)
 |o::os,p,hk=>by simp only [List.cons_append,pts];rw [vBP];exact F6 fun v _=>aA4 h os (p++[v]) (by simp at hk ⊢; omega)
theorem aBc: ∀(b a:List Int) (k:Nat) (x y:Int),minusL (b.set k x) (a.set k y)=(minusL b a).set k (x-y)
 | [],a,k,x,y=>by simp [minusL]
 |b::bs,[],k,x,y=>by simp [minusL]
 |b::bs,a::as,0,x,y=>rfl
 |b::bs,a::as,k+1,x,y=>by show(b-a)::minusL (bs.set k x) (as.set k y)=(b-a)::(minusL bs as).set k (x-y);rw [aBc bs as k x y]
theorem aDA: ∀(b a:List Int) (k:Nat),k<b.length→k<a.length→(minusL b a).getD k 0=b.getD k 0-a.getD k 0
 | [],a,k,h,_=>by simp at h
 |b::bs,[],k,_,h=>by simp at h
 |b::bs,a::as,0,_,_=>rfl
 |b::bs,a::as,k+1,h1,h2=>aDA bs as k (by simpa using h1) (by simpa using h2)
theorem X2: ∀(cs p:List Int) (k:Nat) (v:Int),k<cs.length→tC (cs.set k v) p=tC cs p+(v-cs.getD k 0)*p.getD k 0
 | [],p,k,v,h=>by simp at h
 |c::cs,[],k,v,_=>by cases k<;>simp [tC]
 |c::cs,x::p,0,v,_=>by
  simp only [List.set_cons_zero,tC,List.getD_cons_zero];rw [Int.sub_mul];omega
 |c::cs,x::p,k+1,v,h=>by simp only [List.set_cons_succ,tC,List.getD_cons_succ];rw [X2 cs p k v (by simpa using h)];omega
theorem aH4: ∀p:List Int,tC [0,0,0,0] p=0:=fun p=>aG9 rfl p
def pJ(k:Nat)(c:Int)(q:List Int):List Int:=q.set k (c-q.getD k 0)
theorem aI2(k:Nat)(c:Int)(q:List Int):(pJ k c q).length=q.length:=by simp [pJ]
theorem lN{l:List Int}{k:Nat}(h:k<l.length)(v:Int):(l.set k v).getD k 0=v:=by rw [s8,vAy h];rfl
theorem aDt{k:Nat}{c:Int}{q:List Int}(hk:k<q.length):pJ k c (pJ k c q)=q:=by
 have e:c-(c-q.getD k 0)=q.getD k 0:=by omega
 unfold pJ;rw [lN hk,List.set_set,e];exact aIU (N4 hk 0)
theorem aGF{k:Nat}(hk:k<4){c:Int}{q:List Int}(hq:k<q.length){y:Affine}(hy:b8 y=true):cH (Q8 k c y) (pJ k c q)=cH y q:=by
 have h4:=(jG hy).1;have eb: ∀p:List Int,cH (Q7 k c) p=c-p.getD k 0:=fun p=>by
  unfold cH Q7;dsimp only;rw [X2 _ _ _ _ (by simpa using hk),aH4]
  have:([0,0,0,0]:List Int).getD k 0=0:=by rcases(show k=0∨k=1∨k=2∨k=3 by omega) with rfl|rfl|rfl|rfl<;>rfl
  rw [this];omega
 have e1:cH (Q8 k c y) (pJ k c q)=cH ⟨y.coefs.set k 0,y.const⟩ (pJ k c q)+y.coefs.getD k 0*cH (Q7 k c) (pJ k c q):=by
  unfold Q8 aLm aKw cH;dsimp only;rw [aG7 _ _ _ _ (by rw [vAW,h4];simp [Q7]),vBZ];omega
 rw [e1,eb];unfold cH pJ;dsimp only;rw [lN hq,X2 _ _ _ _ (by omega),aG8 _ _ _ _ hq,lN hq,show c-(c-q.getD k 0)=q.getD k 0 by omega,Int.zero_sub,Int.neg_mul,vCa,vCa];omega
theorem aI3{k:Nat}{c:Int}(q:List Int)(v:Int)(h:k+1≤q.length):pJ k c (q++[v])=pJ k c q++[v]:=by unfold pJ;rw [aHV (by omega),List.set_append_left _ _ (by omega)]
theorem aLy{k:Nat}{c:Int}{q:List Int}(h:q.length=k)(v:Int):pJ k c (q++[v])=q++[c-v]:=by subst h;unfold pJ;rw [aHW,vBU _ _ (iR _),vBC];rfl
theorem aLu(lo hi:Int):((jB lo hi).map fun v=>lo+hi-1-v).Perm (jB lo hi):=by
 have:(jB lo hi).map (fun v=>lo+hi-1-v)=(jB lo hi).reverse:=by
  unfold jB;rw [List.map_map];apply List.ext_getElem
  ·simp
  intro i h1 h2;simp at h1 h2⊢;omega
 rw [this];exact List.reverse_perm _
theorem aND{l:Loop}(h:zV l=true)(p:List Int):jS l p=pL l.lo∧oH l p=pL l.hi:=by
 unfold zV at h;simp only [Bool.and_eq_true,decide_eq_true_eq] at h;obtain⟨e1,e2,f1,f2⟩:=h;obtain⟨x,hx⟩:=vBS.1 e1;obtain⟨y,hy⟩:=vBS.1 e2;unfold V6 at f1 f2;rw [hx] at f1;rw [hy] at f2;have f1:cS x.coefs=0:=by simpa using f1
 have f2:cS y.coefs=0:=by simpa using f2
 unfold jS oH evs pL;rw [hx,hy];simp [mx,mn,cH,aG9 f1,aG9 f2]
theorem aLx{list:List Arr}{P:Part}(hP:cP list P=true){k:Nat}{l:Loop}(hl:P.nest[k]? =some l)(hf:zV l=true)(hq:cP list (D5 k (rE l) P)=true):(dA (D5 k (rE l) P)).Perm ((dA P).map (pJ k (rE l))):=by
 obtain⟨h1,h2⟩:=jZ hP;have hk:=(cI.1 hl).1;rw [t6 hq,t6 hP];have e:P.nest=P.nest.take k++l::P.nest.drop (k+1):=by rw [←kI hl,vBT]
 have e2:(D5 k (rE l) P).nest=P.nest.take k++l::(P.nest.drop (k+1)).map (kP (Q8 k (rE l))):=by
  show P.nest.take (k+1)++_=_;rw [v7,hl,vAO];rfl
 rw [e2]
 conv=>rhs;rw [e]
 have h3: ∀y∈P.nest.drop (k+1),aAp y:=fun y hy=>h2 y (vAK hy);generalize P.nest.drop (k+1)=ls at h3;refine aA4 (k:=k) (fun p hp=>?_) _ _ (by simp;omega);obtain⟨g1,g2⟩:=aND hf p;simp only [pts];rw [g1,g2,vBP];have e3:(jB (pL l.lo) (pL l.hi)).flatMap (fun v=>(pts ls (p++[v])).map (pJ k (rE l)))=((jB (pL l.lo) (pL l.hi)).map fun v=>pL l.lo+pL l.hi-1-v).flatMap (fun v=>pts (ls.map (kP (Q8 k (rE l)))) (p++[v])):=by
  rw [List.flatMap_map];refine N6 fun v _=>?_;rw [←aJb (m:=k+1) (fun q hq y hy=>aGF (by omega) (by omega) hy) (fun q v hq=>aI3 q v hq) ls _ h3 (by simp;omega),aLy hp];rfl
 rw [e3];exact((aLu _ _).flatMap_right _).symm
theorem aI1{p:Prog}{i k:Nat}{P:Part}(hk:k<P.nest.length)(h:(dsO p i).all (fun d=>posL (v8 k d))=true)(c:Int):Kept p i P (pJ k c) (v8 k) where
 pos:=h
 dist a b ha hb:=by
  unfold v8 pJ;rw [aBc,aDA _ _ _ (by omega) (by omega)];congr 1;omega
 len a ha:=by rw [aI2,ha]
 inj a b ha hb e:=by rw [←aDt (c:=c) (show k<a.length by omega),e,aDt (by omega)]
theorem aNl{k:Nat}{c:Int}{P:Part}{l:Loop}(hl:P.nest[k]? =some l):(D5 k c P).nest[k]? =some l∧(D5 k c P).nest.length=P.nest.length:=by have hk:=(cI.1 hl).1;refine⟨?_,by simp [D5];omega⟩;show(P.nest.take (k+1)++_)[k]? =_;rw [O7 (by simp;omega),K8,if_pos (by omega)];exact hl
theorem aOB{p q:Prog}{part loop:Int}(h:yZ p part loop=(q,true)):bO p=true∧bO q=true∧ ∃(i k:Nat) (P:Part) (l:Loop),part=i∧loop=k∧p.parts[i]? =some P∧P.nest[k]? =some l∧eO p part loop=true∧zV l=true∧q=⟨p.arrays,p.parts.set i (D5 k (rE l) P)⟩∧Mov p q i (pJ k (rE l))∧Kept p i P (pJ k (rE l)) (v8 k):=by
 by_cases hb:eO p part loop=true
 ·obtain⟨hv,i,k,P,l,rfl,rfl,hP,hl,hi,hkl,hok,hk⟩:=xA hb;rw [aB2 hb hP hl] at h;by_cases hr:I4 p i k l=true
  ·rw [if_pos hr] at h;obtain⟨rfl,hw⟩:=aNF h;unfold I4 at hr;rw [vBA] at hr;have hokq:=(eN hw).2.2.2.1 _ (cK (vAy hi));exact⟨hv,hw,i,k,P,l,rfl,rfl,hP,hl,hb,hr.1,rfl,aNo hv hP rfl (fun q hq y hy=>aGF hk (by omega) hy) (aLx hok hl hr.1 hokq),aI1 hkl hr.2 _⟩
  rw [if_neg hr] at h;cases h
 unfold yZ at h;rw [if_neg hb] at h;cases h
end Go.Lift
