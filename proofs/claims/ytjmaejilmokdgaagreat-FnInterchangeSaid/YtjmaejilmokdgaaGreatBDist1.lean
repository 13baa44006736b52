/- Distances: sorted lists of points without doubles. -/
import Derived.Test.YtjmaejilmokdgaaGreatBTran1
import Derived.Test.YtjmaejilmokdgaaGreatBRun1
set_option maxRecDepth 100000
set_option linter.unusedVariables false
namespace Go.Lift
open Go
theorem o5: ∀xs,cmpL xs xs=0
 | []=>rfl
 |x::xs=>by unfold cmpL;rw [if_neg (by omega),if_neg (by omega)];exact o5 xs
theorem jI: ∀xs ys,cmpL ys xs= -cmpL xs ys
 | [],[]=>by simp [cmpL]
 | [],_::_=>by simp [cmpL]
 |_::_,[]=>by simp [cmpL]
 |x::xs,y::ys=>by
  unfold cmpL;by_cases h1:x<y
  ·simp [h1,show¬y<x by omega]
  by_cases h2:y<x
  ·simp [h1,h2]
  rw [if_neg h1,if_neg h2,if_neg h2,if_neg h1];exact jI xs ys
theorem pT: ∀{xs ys},cmpL xs ys=0→xs=ys
 | [],[],_=>rfl
 | [],_::_,h=>by simp [cmpL] at h
 |_::_,[],h=>by simp [cmpL] at h
 |x::xs,y::ys,h=>by
  unfold cmpL at h;by_cases h1:x<y
  ·rw [if_pos h1] at h;omega
  by_cases h2:y<x
  ·rw [if_neg h1,if_pos h2] at h;omega
  rw [if_neg h1,if_neg h2] at h;rw [pT h,show x=y by omega]
theorem H2: ∀{xs ys zs},cmpL xs ys<0→cmpL ys zs<0→cmpL xs zs<0
 | [],[],_,h,_=>by simp [cmpL] at h
 | [],_::_,[],_,h=>by simp [cmpL] at h
 | [],_::_,_::_,_,_=>by simp [cmpL]
 |_::_,[],_,h,_=>by simp [cmpL] at h
 |_::_,_::_,[],_,h=>by simp [cmpL] at h
 |x::xs,y::ys,z::zs,h1,h2=>by
  unfold cmpL at h1 h2⊢;by_cases a:x<y
  ·by_cases b:y<z
   ·rw [if_pos (by omega)];omega
   by_cases c:z<y
   ·rw [if_neg b,if_pos c] at h2;omega
   rw [if_pos (by omega)];omega
  by_cases b:y<x
  ·rw [if_neg a,if_pos b] at h1;omega
  by_cases c:y<z
  ·rw [if_pos (by omega)];omega
  by_cases d:z<y
  ·rw [if_neg c,if_pos d] at h2;omega
  rw [if_neg (by omega),if_neg (by omega)];rw [if_neg a,if_neg b] at h1;rw [if_neg c,if_neg d] at h2;exact H2 h1 h2
theorem aEQ: ∀xs ys,aAe xs ys=decide (cmpL xs ys<0)
 | [],[]=>rfl
 | [],_::_=>rfl
 |_::_,[]=>rfl
 |x::xs,y::ys=>by
  unfold aAe cmpL;by_cases h:x=y
  ·subst h;simp only [if_true,Int.lt_irrefl,if_false];exact aEQ xs ys
  by_cases h1:x<y
  ·simp [h,h1]
  have:y<x:=by omega
  simp [h,h1,this]
abbrev SS(l:List (List Int)):Prop:=l.Pairwise fun a b=>cmpL a b<0
theorem aNR: ∀{l m:List (List Int)},SS l→SS m→(∀x,x∈l↔x∈m)→l=m
 | [],[],_,_,_=>rfl
 | [],y::m,_,_,h=>by have:=(h y).2 (by simp);simp at this
 |x::l,[],_,_,h=>by have:=(h x).1 (by simp);simp at this
 |x::l,y::m,hl,hm,h=>by
  obtain⟨l1,l2⟩:=vBe.1 hl;obtain⟨m1,m2⟩:=vBe.1 hm;have e:x=y:=by
   rcases qE.1 ((h x).1 (by simp)) with h1|h1
   ·exact h1
   rcases qE.1 ((h y).2 (by simp)) with h2|h2
   ·exact h2.symm
   have a:=m1 x h1;have b:=l1 y h2
   have:=H2 a b;rw [o5] at this;omega
  subst e;have hx1:x∉l:=fun hx=>by have:=l1 x hx;rw [o5] at this;omega
  have hx2:x∉m:=fun hx=>by have:=m1 x hx;rw [o5] at this;omega
  rw [aNR l2 m2 (fun z=>⟨fun hz=>by
   rcases qE.1 ((h z).1 (rK _ hz)) with rfl|h3
   ·exact absurd hz hx1
   ·exact h3,fun hz=>by
   rcases qE.1 ((h z).2 (rK _ hz)) with rfl|h3
   ·exact absurd hz hx2
   exact h3⟩)]
def sE:List (List Int)→List Int→List (List Int)
 | [],d=>[d]
 |x::xs,d=>if cmpL d x<0 then d::x::xs else x::sE xs d
theorem aAl{d z:List Int}: ∀{l:List (List Int)},z∈sE l d↔z=d∨z∈l
 | []=>by simp [sE]
 |x::xs=>by
  unfold sE;split
  ·simp
  simp only [List.mem_cons,aAl (l:=xs)];constructor
  ·rintro(h|h|h)
   ·exact .inr (.inl h)
   ·exact .inl h
   exact .inr (.inr h)
  rintro(h|h|h)
  ·exact .inr (.inl h)
  ·exact .inl h
  exact .inr (.inr h)
theorem aIh{d:List Int}: ∀{l:List (List Int)},SS l→d∉l→SS (sE l d)
 | [],_,_=>by simp [sE]
 |x::xs,hl,hd=>by
  obtain⟨l1,l2⟩:=vBe.1 hl;unfold sE;split
  ·rename_i h;refine vBe.2 ⟨fun z hz=>?_,hl⟩;rcases qE.1 hz with rfl|hz
   ·exact h
   exact H2 h (l1 z hz)
  rename_i h;refine vBe.2 ⟨fun z hz=>?_,aIh l2 fun hx=>hd (rK _ hx)⟩;rcases aAl.1 hz with rfl|hz
  ·have h1:=jI z x;have h2:cmpL z x≠0:=fun e=>hd (by rw [pT e];simp);omega
  exact l1 z hz
def rH(l:List (List Int))(d:List Int):List (List Int):=if d∈l then l else sE l d
theorem aNA{l:List (List Int)}(h:SS l)(d:List Int):SS (rH l d):=by
 unfold rH;split
 ·exact h
 exact aIh h ‹_›
theorem aFL{l:List (List Int)}{d z:List Int}:z∈rH l d↔z=d∨z∈l:=by
 unfold rH;split
 ·rename_i h;exact⟨.inr,fun hz=>by rcases hz with rfl|hz;exact h;exact hz⟩
 exact aAl
theorem aDu: ∀(ds l:List (List Int)),SS l→SS (ds.foldl rH l)∧ ∀z,z∈ds.foldl rH l↔z∈l∨z∈ds
 | [],l,h=>⟨h,fun z=>by simp⟩
 |d::ds,l,h=>by
  obtain⟨h1,h2⟩:=aDu ds (rH l d) (aNA h d);refine⟨h1,fun z=>?_⟩;rw [List.foldl_cons,h2 z,aFL,qE];constructor
  ·rintro((h|h)|h)
   ·exact .inr (.inl h)
   ·exact .inl h
   exact .inr (.inr h)
  rintro(h|h|h)
  ·exact .inl (.inr h)
  ·exact .inl (.inl h)
  exact .inr h
def cD:List (List Int)→List (List Int)
 | []=>[]
 | [x]=>[x]
 |x::y::r=>if x=y then cD (y::r) else x::cD (y::r)
theorem tU{z:List Int}: ∀{l:List (List Int)},z∈cD l↔z∈l
 | []=>by simp [cD]
 | [x]=>by simp [cD]
 |x::y::r=>by
  have ih:=tU (z:=z) (l:=y::r);unfold cD;split
  ·rename_i h;subst h;rw [ih];simp
  rw [qE,ih];simp
theorem v8: ∀{l:List (List Int)},l.Pairwise (fun a b=> ¬cmpL b a<0)→SS (cD l)
 | [],_=>by simp [cD]
 | [x],_=>by simp [cD]
 |x::y::r,h=>by
  obtain⟨h1,h2⟩:=vBe.1 h;obtain⟨h3,_⟩:=vBe.1 h2;unfold cD;split
  ·exact v8 h2
  rename_i hne;refine vBe.2 ⟨fun z hz=>?_,v8 h2⟩;have hxy:cmpL x y<0:=by
   have a:=h1 y (by simp);have b:=jI x y;have c:cmpL x y≠0:=fun e=>hne (pT e);omega
  rcases qE.1 (tU.1 hz) with rfl|hz
  ·exact hxy
  have a:=h3 z hz;have b:=jI y z;by_cases e:cmpL y z=0
  ·rw [←pT e];exact hxy
  exact H2 hxy (by omega)
theorem aC3(l:List (List Int)):(eX l).Pairwise (fun a b=> ¬cmpL b a<0):=by
 have:=List.pairwise_mergeSort (le:=fun x y=> !decide (cmpL y x<0)) (fun a b c h1 h2=>by
  simp only [Bool.not_eq_true',decide_eq_false_iff_not] at*;intro h;have f1:=jI a b;have f2:=jI b c;by_cases e:cmpL b a=0
  ·rw [pT e] at h2;exact h2 h
  ·exact h2 (H2 h (by omega))) (fun a b=>by
  have f1:=jI a b;by_cases h:cmpL b a<0
  ·have: ¬cmpL a b<0:=by omega
   simp [h,this]
  simp [h]) l
 refine this.imp fun h=>?_;simpa using h
theorem aNm(ds:List (List Int)):cD (eX ds)=ds.foldl rH []:=by obtain⟨h1,h2⟩:=aDu ds [] List.Pairwise.nil;refine aNR (v8 (aC3 ds)) h1 fun z=>?_;rw [tU,h2 z];unfold eX;rw [List.mem_mergeSort];simp
def minusL(b a:List Int):List Int:=List.zipWith (fun x y=>x-y) b a
theorem aEN{R:Type}{Q:R→Prop}{n:Nat}{a b:List Int}(hl:a.length=b.length)(hb:b.length≤1000)(hn:1000<n)(ha1: ∀x∈a,xL 9999 x)(hb1: ∀x∈b,xL 9999 x){K:List Int→Option R}(hK:Ev (K (minusL b a)) Q):
  Ev (aL (fun again15 ((x12,x13):(List Int)×Int)=>
   bif decide (x13<(b.length:Int)) then(
    Option.bind (ix b x13) fun x16=>
    Option.bind (ix a x13) fun x17=>
    Option.bind (app x12 [wr (x16-x17)]) fun x18=>
    again15 (x18,wr (x13+1))
   ) else(
    K x12
   )) n ([],0)) Q:=by
 refine Ev.loop (fun x:List Int×Int=> ∃i:Nat,x.2=i∧i≤b.length∧x.1=(minusL b a).take i) (fun x=>b.length-x.2.toNat) ?_ n _ ⟨0,rfl,by omega,by simp⟩ (by dsimp only;omega);rintro again ⟨x,k⟩ ⟨i,hk,hi,hx⟩ hr;dsimp only at hk hx⊢;subst hk;have hml:(minusL b a).length=b.length:=by unfold minusL;rw [vBJ];omega
 refine aH (fun hlt=>?_) fun hge=>?_
 ·have hlt:i<b.length:=by omega
  have e1:=cP hlt;have e2:=cP (show i<a.length by omega);have b1:=hb1 _ (T0 hlt);have b2:=ha1 _ (T0 (show i<a.length by omega));unfold xL at b1 b2;refine aA (aM e1) (aA (aM e2) (aA (bW (by rw [hx,rN];simp;omega)) ?_));rw [aO (n:=b[i]-a[i]) (by omega),aO (by omega)];refine hr _ ⟨i+1,by dsimp only;omega,by omega,?_⟩ (by dsimp only;omega);dsimp only;rw [xI,←hx];congr 1;unfold minusL;rw [List.getElem?_zipWith,e1,e2];rfl
 have:i=b.length:=by omega
 subst this;rw [vBf (by omega)] at hx;rw [hx];exact hK
theorem aGk{n:Nat}{a b:List Int}(hl:a.length=b.length)(hb:b.length≤1000)(hn:1000<n)(ha1: ∀x∈a,xL 9999 x)(hb1: ∀x∈b,xL 9999 x):wS n b a=some (minusL b a):=by unfold wS;exact Ev.eq (aEN hl hb hn ha1 hb1 (Ev.some rfl))
theorem aKh{n:Nat}(hn:20000≤n){l:List (List Int)}{d:List Int}(hl:l.length≤15000)(h1: ∀x∈l,x.length≤1000)(hd:d.length≤1000):T5 n l d=some (rH l d):=by
 unfold T5;refine Ev.eq (Ev.loop (fun x:List (List Int)×Bool×Int=> ∃i:Nat,x.2.2=i∧i≤l.length∧d∉l.take i∧(x.2.1=true→x.1.length≤i+1∧sE l d=x.1++l.drop i)∧(x.2.1=false→x.1.length≤i∧sE l d=x.1++sE (l.drop i) d)) (fun x=>l.length-x.2.2.toNat) ?_ n _ ⟨0,rfl,by omega,by simp,(fun h=>by cases h),fun _=>⟨by simp,by simp⟩⟩ (by dsimp only;omega));rintro again ⟨x1,x2,k⟩ ⟨i,hk,hi,hni,hT,hF⟩ hr;dsimp only at hk hT hF⊢;subst hk;refine aH (fun hlt=>?_) fun hge=>?_
 ·have hlt:i<l.length:=by omega
  have e1:=cP hlt;have hx6:l[i].length≤1000:=h1 _ (T0 hlt);refine aA (aM e1) (aA (aEy (by omega) (by omega)) (aH (fun heq=>Ev.some ?_) fun hne=>?_))
  ·unfold rH;rw [if_pos (by rw [←heq];exact T0 hlt)]
  have hdrop:=vBh hlt;have hni':d∉l.take (i+1):=by
   rw [xI,e1];simp only [List.mem_append,Option.toList_some,List.mem_singleton];rintro(h|h)
   ·exact hni h
   exact hne h.symm
  refine Ev.jn (fun z:List (List Int)×Bool=>(z.2=true→z.1.length≤i+1∧sE l d=z.1++l.drop i)∧(z.2=false→z.1.length≤i∧sE l d=z.1++l[i]::sE (l.drop (i+1)) d)) (fun j hj=>?_) fun z hz=>?_
  ·refine Ev.jn (fun z:Bool=>z=(!x2&&aAe d l[i])) (fun j2 hj2=>Ev.cond (fun h=>?_) fun h=>hj2 _ ?_) fun z hz=>?_
   ·have h:x2=false:=by simpa using h
    exact aA (aKg (by omega) hd hx6) (hj2 _ (by rw [h];rfl))
   ·have h:x2=true:=by simpa using h
    rw [h];rfl
   subst hz;cases hx2:x2 with
   |true=>exact cC (hj _ ⟨fun _=>hT hx2,fun h=>by cases h⟩)
   |false=>
    obtain⟨f1,f2⟩:=hF hx2;rw [hdrop] at f2;rw [aEQ];by_cases hc:cmpL d l[i]<0
    ·rw [decide_eq_true hc];refine cA (aA (bW (by simp;omega)) (hj _ ⟨fun _=>⟨by simp;omega,?_⟩,fun h=>by cases h⟩));rw [f2,hdrop];unfold sE;rw [if_pos hc];simp
    rw [decide_eq_false hc];refine cC (hj _ ⟨(fun h=>by cases h),fun _=>⟨f1,?_⟩⟩);rw [f2]
    conv=>lhs;rw [sE]
    rw [if_neg hc]
  obtain⟨z1,z2⟩:=z;obtain⟨g1,g2⟩:=hz;dsimp only at g1 g2⊢;have hz1:z1.length≤i+1:=by
   cases z2 with
   |true=>exact(g1 rfl).1
   |false=>have:=(g2 rfl).1;omega
  refine aA (bW (by simp;omega)) ?_;rw [aO (by omega)];refine hr _ ⟨i+1,by dsimp only;omega,by omega,hni',fun h=>?_,fun h=>?_⟩ (by dsimp only;omega)
  ·obtain⟨a1,a2⟩:=g1 h;refine⟨by simp;omega,?_⟩;rw [a2,hdrop];simp
  obtain⟨a1,a2⟩:=g2 h;refine⟨by simp;omega,?_⟩;rw [a2];simp
 have:i=l.length:=by omega
 subst this;rw [qG] at hni;have hadd:rH l d=sE l d:=by unfold rH;rw [if_neg hni]
 rw [hadd];refine Ev.jn (fun z=>z=sE l d) (fun j hj=>Ev.cond (fun h=>?_) fun h=>hj _ ?_) fun z hz=>Ev.some hz
 ·have h:x2=false:=by simpa using h
  obtain⟨a1,a2⟩:=hF h;refine aA (bW (by simp;omega)) (hj _ ?_);rw [a2,vBq];rfl
 have h:x2=true:=by simpa using h
 obtain⟨a1,a2⟩:=hT h;rw [a2,vBq,vBn]
theorem aEU(d:List Int): ∀l:List (List Int),(sE l d).length=l.length+1
 | []=>rfl
 |x::xs=>by
  unfold sE;split
  ·rfl
  rw [List.length_cons,aEU d xs];rfl
theorem aFM(l:List (List Int))(d:List Int):(rH l d).length≤l.length+1:=by
 unfold rH;split
 ·omega
 rw [aEU];omega
def dif(I:List Inst)(part:Int)(d:Dep):Option (List Int):=match I[d.fromF.toNat]?,I[d.toF.toNat]? with
 |some a,some b=>if a.part=part∧b.part=part then some (minusL b.point a.point) else none
 |_,_=>none
def N2(p:Prog)(part:Int):List (List Int):=(kC p (insts p.parts) (insts p.parts).length).filterMap (dif (insts p.parts) part)
theorem inst_pt{p:Prog}(hv:bM p=true){x:Inst}(hx:cY p x): ∃P,p.parts[x.part.toNat]? =some P∧0≤x.part∧x.point.length=P.nest.length∧x.point.length≤4∧ ∀y∈x.point,xL 9999 y:=by obtain⟨hl,hd,h4,hpo,hil⟩:=eN hv;obtain⟨i,k,P,s,e1,e2,e3,e4,e5⟩:=hx;obtain⟨q1,q2,q3,q4⟩:=gS (hpo P (cR e3));obtain⟨hf,hp1,hp2,hp3,hp4⟩:=aD5 q1;have hs:=cR e4;have hpt:=(q4 s hs _ e5).2;unfold ptV at hpt;simp only [Bool.and_eq_true,decide_eq_true_eq,List.all_eq_true] at hpt;exact⟨P,by rw [e1,yF];exact e3,by omega,(hp2 _ e5).1,hpt.1,fun y hy=>hpt.2 y hy⟩
theorem aNn{I:List Inst}{part:Int}(h: ∀x∈I,x.point.length≤4){d:Dep}{v:List Int}(hv:dif I part d=some v):v.length≤4:=by
 unfold dif at hv;split at hv
 ·rename_i a b ha hb;split at hv
  ·cases hv;unfold minusL;rw [vBJ]
   have:=h b (cR hb);omega
  cases hv
 cases hv
theorem v6{α β:Type}{f:α→Option β}{l:List α}{i:Nat}{x:α}(h:l[i]? =some x):(l.take (i+1)).filterMap f=(l.take i).filterMap f++(f x).toList:=by rw [xI,h,List.filterMap_append];cases hx:f x<;>simp [hx]
theorem aGl{n:Nat}(hn:20000≤n){p:Prog}(hp:SmP p)(hv:bM p=true)(part:Int):mC n p part=some ((N2 p part).foldl rH []):=by
 have hil:=(eN hv).2.2.2.2;unfold mC;refine Ev.eq (aA (vE (by omega) hv) (aA (aIN (by omega) hv) ?_));have hok: ∀x∈insts p.parts,cY p x:=fun x hx=>insts_mem hx;have hD:=aAI (p:=p) hil;have hb:=aLF (p:=p) (l:=insts p.parts);unfold N2;generalize kC p (insts p.parts) (insts p.parts).length=D at*;generalize insts p.parts=I at*;have hpt: ∀x∈I,x.point.length≤4:=fun x hx=>(inst_pt hv (hok x hx)).choose_spec.2.2.2.1;refine Ev.loop (fun x:List (List Int)×Int=> ∃i:Nat,x.2=i∧i≤D.length∧x.1=((D.take i).filterMap (dif I part)).foldl rH []∧x.1.length≤i∧ ∀y∈x.1,y.length≤4) (fun x=>D.length-x.2.toNat) ?_ n _ ⟨0,rfl,by omega,by simp,by simp,by simp⟩ (by dsimp only;omega);rintro again ⟨x3,k⟩ ⟨i,hk,hi,hx,hlen,hall⟩ hr;dsimp only at hk hx hlen hall⊢;subst hk;refine aH (fun hlt=>?_) fun hge=>Ev.some ?_
 ·have hlt:i<D.length:=by omega
  have e1:=cP hlt;obtain⟨d1,d2,d3⟩:=hb _ (T0 hlt);have ea:=aCk (l:=I) (c:=D[i].fromF) d1 (by omega);have eb:=aCk (l:=I) (c:=D[i].toF) (by omega) (by omega);have ha:=T0 (show D[i].fromF.toNat<I.length by omega);have hbm:=T0 (show D[i].toF.toNat<I.length by omega);have hfa:I[D[i].fromF.toNat]? =some I[D[i].fromF.toNat]:=cP _;have hfb:I[D[i].toF.toNat]? =some I[D[i].toF.toNat]:=cP _;obtain⟨PA,pa1,pa2,pa3,pa4,pa5⟩:=inst_pt hv (hok _ ha);obtain⟨PB,pb1,pb2,pb3,pb4,pb5⟩:=inst_pt hv (hok _ hbm);refine Ev.jn (fun z=>z.2.2.2.2.2.2=((D.take (i+1)).filterMap (dif I part)).foldl rH []∧z.2.2.2.2.2.2.length≤i+1∧ ∀y∈z.2.2.2.2.2.2,y.length≤4) (fun j hj=>aA (aM e1) (aA ea (aA eb ?_))) fun z hz=>?_
  ·rw [v6 e1,List.foldl_append,←hx] at hj;refine Ev.jn (fun z:Bool=>z=decide (I[D[i].fromF.toNat].part=part∧I[D[i].toF.toNat].part=part)) (fun j2 hj2=>aH (fun h=>hj2 _ ?_) fun h=>hj2 _ ?_) fun z hz=>?_
   ·exact decide_eq_decide.2 ⟨fun h2=>⟨h,h2⟩,fun h2=>h2.2⟩
   ·exact(decide_eq_false fun h2=>h h2.1).symm
   subst hz;have hdif:dif I part D[i]=if I[D[i].fromF.toNat].part=part∧I[D[i].toF.toNat].part=part then some (minusL I[D[i].toF.toNat].point I[D[i].fromF.toNat].point) else none:=by
    unfold dif;rw [hfa,hfb]
   refine aH (fun h=>?_) fun h=>hj _ ?_
   ·have hPP:PA=PB:=by
     rw [h.1] at pa1;rw [h.2] at pb1;rw [pa1] at pb1;cases pb1;rfl
    subst hPP;refine aA (aGk (by omega) (by omega) (by omega) pa5 pb5) (aA (aKh hn (by omega) (fun y hy=>by have:=hall y hy;omega) (by unfold minusL;rw [vBJ];omega)) (hj _ ?_));rw [hdif,if_pos h];dsimp only [Option.toList,List.foldl];refine⟨rfl,?_,fun y hy=>?_⟩
    ·have:=aFM x3 (minusL I[D[i].toF.toNat].point I[D[i].fromF.toNat].point);omega
    rcases aFL.1 hy with rfl|hy
    ·unfold minusL;rw [vBJ];omega
    exact hall y hy
   rw [hdif,if_neg h];exact⟨rfl,by dsimp only;omega,hall⟩
  obtain⟨z1,z2,z3⟩:=hz;rw [aO (by omega)];exact hr _ ⟨i+1,by dsimp only;omega,by omega,z1,z2,z3⟩ (by dsimp only;omega)
 have:i=D.length:=by omega
 subst this;rw [hx,qG]
theorem H1(x:List Int): ∀(y:List Int) (a:List (List Int)),cD ((y::a)++[x])=if(y::a).getLast (by simp)=x then cD (y::a) else cD (y::a)++[x]
 |y,[]=>by
  by_cases h:y=x
  ·subst h;simp [cD]
  simp [cD,h]
 |y,z::a=>by
  have ih:=H1 x z a;rw [List.getLast_cons (by simp)];show cD (y::z::(a++[x]))=_;unfold cD;by_cases h:y=z
  ·rw [if_pos h,if_pos h];exact ih
  rw [if_neg h,if_neg h];have ih':cD (z::(a++[x]))=_:=ih;rw [ih'];split<;>simp
theorem aDK{s:List (List Int)}{m:Nat}(hm:1≤m)(hl:m<s.length):cD (s.take (m+1))=if s[m-1]=s[m] then cD (s.take m) else cD (s.take m)++[s[m]]:=by
 have e:s.take (m+1)=s.take m++[s[m]]:=by rw [xI,cP hl];rfl
 have hne:s.take m≠[]:=by
  intro h
  have:=congrArg List.length h;rw [rN,Nat.min_eq_left (by omega),List.length_nil] at this;omega
 have hlast: ∀h,(s.take m).getLast h=s[m-1]:=fun h=>by
  rw [List.getLast_eq_getElem,List.getElem_take];congr 1;rw [rN];omega
 rw [e];obtain⟨y,a,hya⟩: ∃y a,s.take m=y::a:=by
  cases h:s.take m with
  |nil=>exact absurd h hne
  |cons y a=>exact⟨y,a,rfl⟩
 have hl2:=hlast hne;simp only [hya] at hl2⊢;rw [H1,hl2]
def lvl(d:List Int):Option Nat:=d.findIdx? fun x=> !decide (x=0)
def aDj(d:List Int):Int:=match lvl d with
 |some i=>(i:Int)
 |none=> -1
theorem aGN{n:Nat}{d:List Int}(hd:d.length≤1000)(hn:1000<n):nU n d=some (aDj d):=by
 unfold nU;refine Ev.eq (aA (x:=aDj d) ?_ (Ev.some rfl));unfold gX;refine Ev.eq (Ev.loop (fun x:Int=> ∃i:Nat,x=i∧i≤d.length∧ ∀j,j<i→d.getD j 0=0) (fun x=>d.length-x.toNat) ?_ n _ ⟨0,rfl,by omega,fun j hj=>absurd hj (vBs _)⟩ (by omega));rintro again z ⟨i,rfl,hi,h0⟩ hr;have hz: ∀j (hj:j<d.length),j<i→d[j]=0:=fun j hj hji=>by
  have:=h0 j hji
  rwa [z7,cP hj] at this
 refine aH (fun hlt=>?_) fun hge=>Ev.some ?_
 ·have hlt:i<d.length:=by omega
  have e1:=cP hlt;refine aA (aM e1) (aA (x:= !decide (d[i]=0)) rfl (dP (fun hne=>Ev.some ?_) fun he=>?_))
  ·have:lvl d=some i:=by
    unfold lvl;rw [vBy];exact⟨hlt,by simp [hne],fun j hj=>by simp [hz j (by omega) hj]⟩
   unfold aDj;rw [this]
  rw [aO (by omega)];refine hr _ ⟨i+1,by omega,by omega,fun j hj=>?_⟩ (by omega);by_cases hji:j=i
  ·subst hji;rw [z7,e1];exact he
  exact h0 j (by omega)
 have:lvl d=none:=by
  unfold lvl;rw [List.findIdx?_eq_none_iff];intro x hx;obtain⟨j,hj⟩:=vAH.1 hx;obtain⟨hjl,rfl⟩:=cZ.1 hj;simp [hz j hjl (by omega)]
 unfold aDj;rw [this]
theorem aKL{n:Nat}{p:Prog}(hp:SmP p){i:Nat}{P:Part}(hP:p.parts[i]? =some P):dM n p (i:Int)=some true:=by have hi:=(cZ.1 hP).1;rw [w9 n hp.2.1,decide_eq_true (by omega)]
theorem aGG(kp:Nat→Bool)(m:Nat):keptL kp (m+1)=keptL kp m++(if kp m then [m] else []):=by unfold keptL;rw [vBE,List.filter_append];congr 1;by_cases h:kp m<;>simp [h]
theorem aIo(l:List (List Int)): ∀m,m≤l.length→(keptL (ddK l) m).map (fun j=>l.getD j [])=cD (l.take m)
 |0,_=>rfl
 |m+1,h=>by
  have ih:=aIo l m (by omega);have hm:m<l.length:=by omega
  have e0:l.getD m []=l[m]:=by rw [z7,cP hm];rfl
  rw [aGG,vAM,ih];by_cases h0:m=0
  ·subst h0;have e1:ddK l 0=true:=by simp [ddK]
   rw [e1,if_pos rfl,List.take_zero];show cD []++[l.getD 0 []]=_;rw [e0,xI,cP hm];rfl
  rw [aDK (by omega) hm];have e1:l.getD (m-1) []=l[m-1]:=by rw [z7,cP (by omega)];rfl
  have e2:ddK l m= !decide (l[m-1]=l[m]):=by
   unfold ddK;rw [e0,e1];by_cases hq:l[m-1]=l[m]
   ·simp [h0,hq]
   have hq':l[m]≠l[m-1]:=fun e=>hq e.symm;simp [h0,hq,hq']
  rw [e2];by_cases hq:l[m-1]=l[m]
  ·rw [if_pos hq,decide_eq_true hq];simp
  rw [if_neg hq,decide_eq_false hq];show _++[l.getD m []]=_;rw [e0]
theorem aG8(l:List (List Int)):ddL l=cD l:=by have:=aIo l l.length (kL _);rw [qG] at this;exact this
theorem aEX{n:Nat}(hn:20000≤n){p:Prog}(hv:bM p=true)(part:Int):fR n (trc p) part=some ((N2 p part).foldl rH []):=by
 have hil:=(eN hv).2.2.2.2;unfold fR;refine Ev.eq (aA (aI8 (by omega) hv) ?_);rw [show(trc p).list=insts p.parts from rfl];have hok: ∀x∈insts p.parts,cY p x:=fun x hx=>insts_mem hx;have hD:=aAI (p:=p) hil;have hb:=aLF (p:=p) (l:=insts p.parts);unfold N2;generalize kC p (insts p.parts) (insts p.parts).length=D at*;generalize insts p.parts=I at*;have hpt: ∀x∈I,x.point.length≤4:=fun x hx=>(inst_pt hv (hok x hx)).choose_spec.2.2.2.1;refine Ev.loop (fun x:List (List Int)×Int=> ∃i:Nat,x.2=i∧i≤D.length∧x.1=(D.take i).filterMap (dif I part)) (fun x=>D.length-x.2.toNat) ?_ n _ ⟨0,rfl,by omega,by simp⟩ (by dsimp only;omega);rintro again ⟨x3,k⟩ ⟨i,hk,hi,hx⟩ hr;dsimp only at hk hx⊢;subst hk;have hlen:x3.length≤i:=by
  rw [hx];refine vAT (List.length_filterMap_le _ _) ?_;rw [rN];omega
 refine aH (fun hlt=>?_) fun hge=>?_
 ·have hlt:i<D.length:=by omega
  have e1:=cP hlt;obtain⟨d1,d2,d3⟩:=hb _ (T0 hlt);have ea:=aCk (l:=I) (c:=D[i].fromF) d1 (by omega);have eb:=aCk (l:=I) (c:=D[i].toF) (by omega) (by omega);have ha:=T0 (show D[i].fromF.toNat<I.length by omega);have hbm:=T0 (show D[i].toF.toNat<I.length by omega);have hfa:I[D[i].fromF.toNat]? =some I[D[i].fromF.toNat]:=cP _;have hfb:I[D[i].toF.toNat]? =some I[D[i].toF.toNat]:=cP _;obtain⟨PA,pa1,pa2,pa3,pa4,pa5⟩:=inst_pt hv (hok _ ha);obtain⟨PB,pb1,pb2,pb3,pb4,pb5⟩:=inst_pt hv (hok _ hbm);have hdif:dif I part D[i]=if I[D[i].fromF.toNat].part=part∧I[D[i].toF.toNat].part=part then some (minusL I[D[i].toF.toNat].point I[D[i].fromF.toNat].point) else none:=by
   unfold dif;rw [hfa,hfb]
  refine Ev.jn (fun z=>z.1=(D.take (i+1)).filterMap (dif I part)) (fun j hj=>aA (aM e1) (aA ea (aA eb ?_))) fun z hz=>?_
  ·rw [v6 e1,←hx] at hj;refine Ev.jn (fun z:Bool=>z= !decide (I[D[i].fromF.toNat].part=part∧I[D[i].toF.toNat].part=part)) (fun j2 hj2=>dP (fun h=>hj2 _ ?_) fun h=>hj2 _ ?_) fun z hz=>?_
   ·rw [decide_eq_false fun h2=>h h2.1];rfl
   ·congr 1;exact decide_eq_decide.2 ⟨fun h2=>⟨h,h2⟩,fun h2=>h2.2⟩
   subst hz;refine dP (fun h=>hj _ ?_) fun h=>?_
   ·rw [hdif,if_neg h];simp
   have hPP:PA=PB:=by
    rw [h.1] at pa1;rw [h.2] at pb1;rw [pa1] at pb1;cases pb1;rfl
   subst hPP;refine aEN (K:=fun x12=>Option.bind (app x3 [x12]) fun x19=>j (x19,D[i].fromF,D[i].toF,D[i].kinds,I[D[i].fromF.toNat].part,I[D[i].fromF.toNat].stmt,I[D[i].fromF.toNat].point,I[D[i].toF.toNat].part,I[D[i].toF.toNat].stmt,I[D[i].toF.toNat].point)) (by omega) (by omega) (by omega) pa5 pb5 ?_;refine aA (bW (by simp;omega)) (hj _ ?_);rw [hdif,if_pos h];rfl
  rw [aO (by omega)];exact hr _ ⟨i+1,by dsimp only;omega,by omega,hz⟩ (by dsimp only;omega)
 have:i=D.length:=by omega
 subst this;rw [qG] at hx;subst hx;have hall: ∀y∈D.filterMap (dif I part),y.length≤4:=fun y hy=>by
  obtain⟨d,_,hd⟩:=List.mem_filterMap.1 hy;exact aNn hpt hd
 have hsl:(eX (D.filterMap (dif I part))).length≤15000:=by unfold eX;rw [List.length_mergeSort];omega
 refine aA (x:=eX (D.filterMap (dif I part))) (by unfold m_sortL;rw [if_pos ⟨by omega,fun y hy=>by have:=hall y hy;omega⟩]) (Ev.some ?_);rw [aG8];exact aNm _
def dsO(p:Prog)(i:Nat):List (List Int):=(N2 p i).foldl rH []
theorem aGO{n:Nat}(hn:20000≤n){p:Prog}(hp:SmP p)(hv:bM p=true){i:Nat}{P:Part}(hP:p.parts[i]? =some P):mN n p (i:Int)=some (dsO p i):=by unfold mN;refine Ev.eq (aA (aGL (by omega) hp) ?_);rw [if_pos hv];refine cA (Ev.jn (fun z=>z=false) (fun j hj=>cC (aA (aKL hp hP) (hj _ rfl))) fun z hz=>?_);rw [hz];exact cC (aA (aEX hn hv _) (Ev.some rfl))
theorem aLy{p:Prog}{i:Nat}{d:List Int}:d∈dsO p i↔d∈N2 p i:=by
 unfold dsO
 have:=(aDu (N2 p i) [] .nil).2 d;simpa using this
theorem aCu: ∀(ds l:List (List Int)),(ds.foldl rH l).length≤l.length+ds.length
 | [],l=>by simp
 |d::ds,l=>by
  rw [List.foldl_cons]
  have:=aCu ds (rH l d)
  have:=aFM l d;rw [List.length_cons];omega
theorem aLz{p:Prog}(hv:bM p=true){i:Nat}:(dsO p i).length≤15000:=by
 have hil:=(eN hv).2.2.2.2;have hD:=aAI (p:=p) hil
 have:=aCu (N2 p i) [];have h2:(N2 p i).length≤(kC p (insts p.parts) (insts p.parts).length).length:=by unfold N2;exact List.length_filterMap_le _ _
 unfold dsO;rw [List.length_nil] at this;omega
theorem G6{p:Prog}(hv:bM p=true){i:Nat}{P:Part}(hP:p.parts[i]? =some P){d:List Int}(hd:d∈dsO p i):d.length=P.nest.length∧ ∀x∈d,xL 99999 x:=by
 have hd:=aLy.1 hd;unfold N2 at hd;obtain⟨e,_,he⟩:=List.mem_filterMap.1 hd;unfold dif at he;split at he
 ·rename_i a b ha hb;split at he
  ·rename_i hp;cases he;have hak:cY p a:=insts_mem (cR ha);have hbk:cY p b:=insts_mem (cR hb);obtain⟨PA,a1,a2,a3,a4,a5⟩:=inst_pt hv hak;obtain⟨PB,b1,b2,b3,b4,b5⟩:=inst_pt hv hbk;rw [hp.1,yF,hP] at a1;rw [hp.2,yF,hP] at b1;cases a1;cases b1;unfold minusL;refine⟨by rw [vBJ];omega,fun x hx=>?_⟩;obtain⟨u,v,hu,hv2,rfl⟩: ∃u v,u∈b.point∧v∈a.point∧x=u-v:=by
    rw [vAH] at hx;obtain⟨k,hk⟩:=hx;rw [List.getElem?_zipWith] at hk;cases h1:b.point[k]? with
    |none=>rw [h1] at hk;cases hk
    |some u=>
     cases h2:a.point[k]? with
     |none=>rw [h1,h2] at hk;cases hk
     |some v=>
      rw [h1,h2] at hk;cases hk;exact⟨u,v,cR h1,cR h2,rfl⟩
   have q1:=b5 u hu;have q2:=a5 v hv2;unfold xL at*;omega
  cases he
 cases he
def posL(d:List Int):Bool:=match lvl d with
 |some k=>decide (0≤d.getD k 0)
 |none=>true
theorem aKB{d:List Int}{k:Nat}(h:lvl d=some k):k<d.length∧d.getD k 0≠0:=by unfold lvl at h;rw [vBy] at h;obtain⟨h1,h2,_⟩:=h;refine⟨h1,?_⟩;rw [z7,cP h1];simpa using h2
theorem aGM{n:Nat}(hn:20000≤n){p:Prog}(hp:SmP p)(hv:bM p=true){i:Nat}{P:Part}(hP:p.parts[i]? =some P){F:List Int→Option (List Int)}{f:List Int→List Int}(hF: ∀d∈dsO p i,F d=some (f d))(hl: ∀d,(f d).length=d.length):
  U3 n p (i:Int) F=some ((dsO p i).all fun d=>posL (f d)):=by
 unfold U3;refine Ev.eq (aA (aGO hn hp hv hP) ?_);have hlen:=aLz hv (i:=i);have hsh:=fun d hd=>(G6 hv hP (d:=d) hd).1;have h4:=(nN ((eN hv).2.2.2.1 P (cR hP))).1;generalize dsO p i=D at hF hlen hsh;refine Ev.loop (fun x:List (List Int)×Int=> ∃k:Nat,x.2=k∧k≤D.length∧x.1.length=D.length∧(∀t,k≤t→x.1[t]? =D[t]?)∧ ∀d∈D.take k,posL (f d)=true) (fun x=>D.length-x.2.toNat) ?_ n _ ⟨0,rfl,by omega,rfl,fun _ _=>rfl,fun d hd=>by simp at hd⟩ (by dsimp only;omega);rintro again ⟨rows,kz⟩ ⟨k,hk,hkl,hrl,hrest,hpos⟩ hr;dsimp only at hk hrl hrest⊢;subst hk;refine aH (fun hlt=>?_) fun hge=>Ev.some ?_
 ·have hlt:k<D.length:=by omega
  have e1:rows[k]? =some D[k]:=by rw [hrest k (kL _),cP hlt]
  have hm:=T0 hlt;have hle:(f D[k]).length≤4:=by rw [hl,hsh _ hm];exact h4
  refine aA (aM e1) (aA (hF _ hm) (aA (gH (hl _)) (aA (aGN (by omega) (by omega)) (aA (dO (by omega) _) ?_))));have hall: ∀(hq:posL (f D[k])=false),D.all (fun d=>posL (f d))=false:=fun hq=>vAL.2 ⟨_,hm,by simp [hq]⟩;have go:posL (f D[k])=true→Ev (again (rows.set (k:Int).toNat (f D[k]),wr ((k:Int)+1))) (fun r=>r=D.all fun d=>posL (f d)):=fun hq=>by
   rw [aO (by omega),yF];refine hr _ ⟨k+1,by dsimp only;omega,by omega,by dsimp only;rw [vAI];exact hrl,fun t ht=>?_,fun d hd=>?_⟩ (by dsimp only;omega)
   ·dsimp only;rw [vAD (by omega)];exact hrest t (by omega)
   rw [xI,cP hlt] at hd;rcases xH.1 hd with h|h
   ·exact hpos d h
   have:d=D[k]:=by simpa using h
   subst this;exact hq
  unfold aDj posL at*;cases hlv:lvl (f D[k]) with
  |none=>
   rw [hlv] at go hall;exact aH (fun h=>absurd h (by show¬(0:Int)≤ -1;omega)) (fun _=>go rfl)
  |some t=>
   rw [hlv] at go hall;obtain⟨t1,t2⟩:=aKB hlv;refine aH (fun _=>?_) fun h=>absurd (show(0:Int)≤(t:Int) by omega) h;have e2:=cP t1;have e3:(f D[k]).getD t 0=(f D[k])[t]:=by rw [z7,e2];rfl
   refine aA (aM e2) (aH (fun h=>Ev.some ?_) fun h=>go ?_)
   ·exact(hall (decide_eq_false (by omega))).symm
   exact decide_eq_true (by omega)
 have:k=D.length:=by omega
 subst this;rw [qG] at hpos;exact(V9.2 hpos).symm
theorem aEA{n:Nat}{d:List Int}(hd:d.length≤1000)(hn:1000<n):nK n d=some (aDj d):=by
 unfold nK;refine Ev.eq (Ev.loop (fun x:Int=> ∃i:Nat,x=i∧i≤d.length∧ ∀j,j<i→d.getD j 0=0) (fun x=>d.length-x.toNat) ?_ n _ ⟨0,rfl,by omega,fun j hj=>absurd hj (vBs _)⟩ (by omega));rintro again z ⟨i,rfl,hi,h0⟩ hr;have hz: ∀j (hj:j<d.length),j<i→d[j]=0:=fun j hj hji=>by
  have:=h0 j hji
  rwa [z7,cP hj] at this
 refine aH (fun hlt=>?_) fun hge=>Ev.some ?_
 ·have hlt:i<d.length:=by omega
  have e1:=cP hlt;refine aA (aM e1) (dP (fun hne=>Ev.some ?_) fun he=>?_)
  ·have:lvl d=some i:=by
    unfold lvl;rw [vBy];exact⟨hlt,by simp [hne],fun j hj=>by simp [hz j (by omega) hj]⟩
   unfold aDj;rw [this]
  rw [aO (by omega)];refine hr _ ⟨i+1,by omega,by omega,fun j hj=>?_⟩ (by omega);by_cases hji:j=i
  ·subst hji;rw [z7,e1];exact he
  exact h0 j (by omega)
 have:lvl d=none:=by
  unfold lvl;rw [List.findIdx?_eq_none_iff];intro x hx;obtain⟨j,hj⟩:=vAH.1 hx;obtain⟨hjl,rfl⟩:=cZ.1 hj;simp [hz j hjl (by omega)]
 unfold aDj;rw [this]
theorem aIL{n:Nat}{d:List Int}(hd:d.length≤1000)(hn:1000<n):B1 n d=some (posL d):=by
 unfold B1;refine Ev.eq (aA (aEA hd hn) (Ev.jn (fun z:Bool=>z=posL d) (fun j hj=>?_) fun z hz=>Ev.some hz));unfold aDj posL at*;cases hlv:lvl d with
 |none=>
  rw [hlv] at hj;exact aH (fun _=>hj _ rfl) (fun h=>absurd (show(-1:Int)<0 by omega) h)
 |some t=>
  rw [hlv] at hj;obtain⟨t1,t2⟩:=aKB hlv;have e2:=cP t1;have e3:d.getD t 0=d[t]:=by rw [z7,e2];rfl
  refine aH (fun h=>absurd h (show¬(t:Int)<0 by omega)) fun _=>aA (aM e2) (hj _ ?_);exact decide_eq_decide.2 ⟨fun h=>by omega,fun h=>by omega⟩
def swA(k:Nat)(a:Affine):Affine:=⟨(a.coefs.set k (a.coefs.getD (k+1) 0)).set (k+1) (a.coefs.getD k 0),a.const⟩
def wO(k:Nat)(d:List Int):List Int:=(d.set k (d.getD (k+1) 0)).set (k+1) (d.getD k 0)
theorem T3(k:Nat)(d:List Int):(wO k d).length=d.length:=by simp [wO]
theorem aJ6{k:Nat}: ∀x,bY x=true→BA 4 (swA k x):=fun x hx=>by have:=(gM hx).1;unfold BA swA;simp;omega
theorem cJ{α:Type}{l:List α}{k:Nat}(h:k<l.length)(z:α):l[k]? =some (l.getD k z):=by rw [z7,cP h];rfl
theorem aHX{α R:Type}{Q:R→Prop}{l:List α}{k:Nat}(hk:k+1<l.length)(hb:l.length≤1000000)(z:α){K:List α→Option R}(hK:Ev (K ((l.set k (l.getD (k+1) z)).set (k+1) (l.getD k z))) Q):
  Ev (Option.bind (ix l (wr ((k:Int)+1))) fun x2=>Option.bind (ix l (k:Int)) fun x3=>Option.bind (dA l (k:Int) x2) fun x4=>Option.bind (ix x4 (wr ((k:Int)+1))) fun x5=>Option.bind (dA x4 (wr ((k:Int)+1)) x3) K) Q:=by rw [aO (n:=(k:Int)+1) (by omega),show(k:Int)+1=((k+1:Nat):Int) by omega];refine aA (aM (cJ hk z)) (aA (aM (cJ (by omega) z)) (aA (dO (by omega) _) ?_));rw [yF];refine aA (aM (cJ (l:=l.set k (l.getD (k+1) z)) (k:=k+1) (by simpa using hk) z)) (aA (dO (by rw [vAI];omega) _) ?_);rw [yF];exact hK
theorem aKQ{n k:Nat}{d:List Int}(hk:k+1<d.length)(hb:d.length≤1000):fL n d (k:Int)=some (wO k d):=by unfold fL;exact Ev.eq (aHX hk (by omega) 0 (Ev.some rfl))
theorem aKP(n:Nat){k:Nat}(hk:k+1<4): ∀x,bY x=true→fK n x (k:Int)=some (swA k x):=fun x hx=>by have h4:=(gM hx).1;unfold fK;refine Ev.eq (aA (L0 n x hx) (aHX (by omega) (by omega) 0 (Ev.some rfl)))
theorem aMN(n:Nat){k:Nat}(hk:k+1<4): ∀x,bY x=true→iO n x 0 (k:Int) ⟨[],0⟩=some (swA k x):=fun x hx=>by have h4:=(gM hx).1;unfold iO;refine Ev.eq (aH (fun _=>aA (x:=swA k x) ?_ (Ev.some rfl)) fun h=>absurd rfl h);unfold X7;have hc:eY n x=some x:=zA n (by omega);rw [aO (n:=(k:Int)+1) (by omega),show(k:Int)+1=((k+1:Nat):Int) by omega];refine Ev.eq (aA hc (aA (aM (cJ (by omega) 0)) (aA (aM (cJ (by omega) 0)) (aA (dO (by omega) _) (aA (aM (cJ (by omega) 0)) ?_)))));rw [yF];refine aA (aM (cJ (l:=x.coefs.set k (x.coefs.getD (k+1) 0)) (k:=k+1) (by simp;omega) 0)) (aA (dO (by rw [vAI];omega) _) ?_);rw [yF];exact Ev.some rfl
def K2(k:Nat)(a:Affine):Bool:= !decide (a.coefs.getD k 0=0)
def z8(l:Loop)(k:Nat):Bool:=l.lo.any (K2 k)||l.hi.any (K2 k)
theorem aEW{n:Nat}(hn:5000≤n){l:Loop}(hl:R3 l){k:Nat}(hk:k<4):qQ n l (k:Int)=some (z8 l k):=by
 obtain⟨⟨h1,h2⟩,h3,h4⟩:=hl;have hu: ∀x,bY x=true→eP n x (k:Int)=some (K2 k x):=fun x hx=>by
  have:=(gM hx).1;unfold eP;exact Ev.eq (aA (aM (cJ (by omega) 0)) (Ev.some rfl))
 unfold qQ z8;refine Ev.eq (Ev.jn (fun z=>z=(l.lo.any (K2 k)||l.hi.any (K2 k))) (fun j hj=>?_) fun z hz=>Ev.some hz);refine aA (kF (fun x hx=>hu x (h2 x hx)) (by omega) (by omega)) (Ev.cond (fun h=>hj _ (by rw [h];rfl)) fun h=>aA (kF (fun x hx=>hu x (h4 x hx)) (by omega) (by omega)) (hj _ (by rw [h];rfl)))
theorem aFJ{α:Type}{f:α→Bool}{l:List α}{i:Nat}{x:α}(h:l[i]? =some x):(l.take (i+1)).any f=((l.take i).any f||f x):=by rw [xI,h,List.any_append];simp
theorem aEr{n:Nat}(hn:5000≤n){l:Loop}(hl:R3 l){k:Nat}(hk:k<4):A9 n l (k:Int)=some (z8 l k):=by
 obtain⟨⟨h1,h2⟩,h3,h4⟩:=hl;unfold A9 z8;refine Ev.eq (Ev.loop (fun x:Int=> ∃i:Nat,x=i∧i≤l.lo.length∧(l.lo.take i).any (K2 k)=false) (fun x=>l.lo.length-x.toNat) ?_ n _ ⟨0,rfl,by omega,rfl⟩ (by omega));rintro again z ⟨i,rfl,hi,h0⟩ hr;refine aH (fun hlt=>?_) fun hge=>?_
 ·have hlt:i<l.lo.length:=by omega
  have e1:=cP hlt
  have:=(gM (h2 _ (T0 hlt))).1;refine aA (aM e1) (aA (aM (cJ (by omega) 0)) (dP (fun hne=>Ev.some ?_) fun he=>?_))
  ·rw [vBp.2 ⟨_,T0 hlt,by unfold K2;simpa using hne⟩];rfl
  rw [aO (by omega)];exact hr _ ⟨i+1,by omega,by omega,by rw [aFJ e1,h0];unfold K2;simpa using he⟩ (by omega)
 have:i=l.lo.length:=by omega
 subst this;rw [qG] at h0;rw [h0,Bool.false_or];clear hr;refine Ev.loop (fun x:Int=> ∃i:Nat,x=i∧i≤l.hi.length∧(l.hi.take i).any (K2 k)=false) (fun x=>l.hi.length-x.toNat) ?_ n _ ⟨0,rfl,by omega,rfl⟩ (by omega);rintro again z ⟨i,rfl,hi,h0⟩ hr;refine aH (fun hlt=>?_) fun hge=>Ev.some ?_
 ·have hlt:i<l.hi.length:=by omega
  have e1:=cP hlt
  have:=(gM (h4 _ (T0 hlt))).1;refine aA (aM e1) (aA (aM (cJ (by omega) 0)) (dP (fun hne=>Ev.some ?_) fun he=>?_))
  ·rw [vBp.2 ⟨_,T0 hlt,by unfold K2;simpa using hne⟩]
  rw [aO (by omega)];exact hr _ ⟨i+1,by omega,by omega,by rw [aFJ e1,h0];unfold K2;simpa using he⟩ (by omega)
 have:i=l.hi.length:=by omega
 subst this;rw [qG] at h0;exact h0.symm
def X0(k:Nat)(l:List Loop):List Loop:=(l.set k (l.getD (k+1) ⟨[],[]⟩)).set (k+1) (l.getD k ⟨[],[]⟩)
theorem A1(k:Nat)(l:List Loop):(X0 k l).length=l.length:=by simp [X0]
def swP(k:Nat)(P:Part):Part:=⟨(X0 k P.nest).take (k+2)++((X0 k P.nest).drop (k+2)).map (gU (swA k)),P.body.map (xK (swA k))⟩
def aBq(p:Prog)(i k:Nat)(P:Part):Bool:= !z8 (P.nest.getD (k+1) ⟨[],[]⟩) k&&(dsO p i).all fun d=>posL (wO k d)
def yC(p:Prog)(part loop:Int):Prog×Bool:=
 if jH p part loop=true∧jH p part (loop+1)=true then
  match ix p.parts part with
  |some P=>if aBq p part.toNat loop.toNat P=true then aDx ⟨p.arrays,p.parts.set part.toNat (swP loop.toNat P)⟩ else noP
  |none=>noP
 else noP
theorem aC1{k:Nat}{l:List Loop}(hk:k+1<l.length){y:Loop}(hy:y∈X0 k l):y∈l:=by
 unfold X0 at hy;rcases vAW hy with h|h
 ·rcases vAW h with h|h
  ·exact h
  rw [h];exact cR (cJ hk _)
 rw [h];exact cR (cJ (by omega) _)
theorem aJ4{list:List Arr}{P:Part}(hP:cW list P=true){k:Nat}(hk:k+1<P.nest.length):BPt 4 (swP k P):=by
 obtain⟨h1,h2⟩:=nN hP;obtain⟨_,h4,h5,_⟩:=gS hP;refine⟨⟨by simp only [swP,List.length_append,List.length_map,List.length_take,List.length_drop,A1];omega,fun y hy=>?_⟩,by simp only [swP,List.length_map];exact h4.2,fun s hs=>?_⟩
 ·rcases xH.1 hy with hy|hy
  ·exact(aPa hP).1.2 y (aC1 hk (vAC hy))
  obtain⟨z,hz,rfl⟩:=Q9.1 hy;exact aNx aJ6 (h2 z (aC1 hk (vAJ hz)))
 obtain⟨z,hz,rfl⟩:=Q9.1 hs;exact aO9 aJ6 (h5 z hz)
theorem U4{p:Prog}{i k:Nat}{P:Part}(hP:p.parts[i]? =some P)(h:jH p (i:Int) ((k:Int)+1)=true):k+1<P.nest.length:=by
 obtain⟨_,i',k',P',l',e1,e2,h1,_,_,h2,_⟩:=M3 h
 have:i'=i:=by omega
 subst this;rw [hP] at h1;cases h1;omega
theorem aMe{p:Prog}(hp:BG 1000 p)(part loop:Int):BG 1000 (yC p part loop).1:=by
 unfold yC;split
 ·rename_i h;split
  ·rename_i P hx;split
   ·obtain⟨hv,i,k,P',l,rfl,rfl,hP,hl,hi,hkl,hok,hk⟩:=M3 h.1;rw [aM hP] at hx;cases hx;have hk1:=U4 hP h.2
    have:=aLN hp i (aJ4 hok hk1);rw [yF,yF];unfold aDx;split
    ·exact this
    exact aDb
   exact aDb
  exact aDb
 exact aDb
theorem aCS{p:Prog}{i k:Nat}{P:Part}(h1:jH p (i:Int) (k:Int)=true)(h2:jH p (i:Int) ((k:Int)+1)=true)(hP:p.parts[i]? =some P):yC p i k=if aBq p i k P=true then aDx ⟨p.arrays,p.parts.set i (swP k P)⟩ else noP:=by unfold yC;rw [if_pos ⟨h1,h2⟩,aM hP];simp only [Int.toNat_natCast]
theorem aKS{n:Nat}(hn:20000≤n){p:Prog}(hp:BG 1000 p)(part loop:Int):mM n p part loop=some (yC p part loop):=by
 unfold mM;by_cases hneg:loop= -1
 ·subst hneg;unfold yC;rw [if_neg fun h=>by rw [aEY (by omega)] at h;cases h.1];exact Ev.eq (aN (aJk (by omega) hp part) fun x1 h1=>Ev.cond (fun _=>aH (fun _=>Ev.some rfl) fun h=>absurd (show(-1:Int)<0 by omega) h) fun _=>Ev.some rfl)
 refine Ev.eq (aA (aLO (by omega) hp part loop hneg) ?_);by_cases hb:jH p part loop=true
 ·rw [if_pos hb];refine cA (aH (fun h=>by rw [aEY h] at hb;cases hb) fun h0=>?_);obtain⟨hv,i,k,P,l,rfl,rfl,hP,hl,hi,hkl,hok,hk⟩:=M3 hb;obtain⟨h1,h2⟩:=nN hok;obtain⟨_,h4,h5,_⟩:=gS hok;refine aA (aM hP) ?_;rw [aO (n:=(k:Int)+1) (by omega),aO (n:=(k:Int)+2) (by omega)];refine aH (fun hge=>Ev.some ?_) fun hlt=>?_
  ·unfold yC;rw [if_neg fun h=>by have:=U4 hP h.2;omega];rfl
  have hk1:k+1<P.nest.length:=by omega
  have hb2:jH p (i:Int) ((k:Int)+1)=true:=by
   unfold jH;rw [hv,aM hP];exact decide_eq_true (by omega)
  rw [aCS hb hb2 hP];have e6:=cJ hk1 (⟨[],[]⟩:Loop);rw [show(k:Int)+1=((k+1:Nat):Int) by omega];refine aA (aM e6) (aA (aEW (by omega) (h2 _ (cR e6)) (by omega)) (Ev.cond (fun hu=>Ev.some ?_) fun hu=>?_))
  ·rw [if_neg (by unfold aBq;rw [hu];simp)];rfl
  refine aA (aGM hn hp.sm hv hP (F:=fun q0=>fL n q0 (k:Int)) (f:=wO k) (fun d hd=>aKQ (by have:=(G6 hv hP hd).1;omega) (by have:=(G6 hv hP hd).1;omega)) (T3 k)) (Ev.cond (fun hd=>?_) fun hd=>Ev.some ?_)
  ·rw [if_pos (by unfold aBq;rw [hu,hd];rfl)];refine aA (aM (cJ (by omega) (⟨[],[]⟩:Loop))) (aA (dO (by omega) _) (aA (dO (by rw [vAI];omega) _) (aA (dO (by dsimp only;omega) _) ?_)));rw [yF,yF,yF];have hch:=aBt (n:=n) (by omega) (nest:=X0 k P.nest) (body:=P.body) (s:=k+2) (by rw [A1];omega) (by rw [A1];omega) (fun y hy=>h2 y (aC1 hk1 (vAJ hy))) h4.2 h5 (F:=fun q0=>fK n q0 (k:Int)) (aKP n (by omega));rw [show(k:Int)+2=((k+2:Nat):Int) by omega];refine aA hch (aA (dO (by simp;omega) _) ?_);rw [yF,List.set_set];exact aA (aE5 (by omega) (aLN hp i (aJ4 hok hk1))) (Ev.some rfl)
  rw [if_neg (by unfold aBq;rw [hd];simp)];rfl
 unfold yC;rw [if_neg hb,if_neg fun h=>hb h.1];exact cC (Ev.some rfl)
theorem aOE{k:Nat}{l:List Loop}(hk:k+1<l.length)(j:Nat):(X0 k l)[j]? =if j=k then l[k+1]? else if j=k+1 then l[k]? else l[j]? :=by
 unfold X0;by_cases h1:j=k+1
 ·subst h1;rw [vAw (by rw [vAI];exact hk),if_neg (by omega),if_pos rfl];exact(cJ (by omega) _).symm
 rw [vAD (by omega)];by_cases h2:j=k
 ·subst h2;rw [vAw (by omega),if_pos rfl];exact(cJ hk _).symm
 rw [vAD (by omega),if_neg h2,if_neg h1]
theorem aHY{k:Nat}{a b:List Loop}(hk:k+1<a.length):X0 k (a++b)=X0 k a++b:=by
 have e1:(a++b).getD (k+1) ⟨[],[]⟩=a.getD (k+1) ⟨[],[]⟩:=by rw [z7,z7,S8 hk]
 have e2:(a++b).getD k ⟨[],[]⟩=a.getD k ⟨[],[]⟩:=by rw [z7,z7,S8 (by omega)]
 unfold X0;rw [e1,e2,vBP _ _ (by omega),vBP _ _ (by rw [vAI];exact hk)]
theorem aJ5{k:Nat}{l:List Loop}(hk:k+1<l.length):X0 k (l.take (k+2))=(X0 k l).take (k+2):=by have h:=aHY (k:=k) (a:=l.take (k+2)) (b:=l.drop (k+2)) (by rw [rN];omega);rw [vBx] at h;rw [h,List.take_append_of_le_length (by rw [A1,rN];omega)];exact(vBf (by rw [A1,rN];omega)).symm
theorem aEm{k:Nat}{l:List Loop}:(X0 k l).drop (k+2)=l.drop (k+2):=by unfold X0;rw [List.drop_set_of_lt (by omega),List.drop_set_of_lt (by omega)]
theorem aOD{k:Nat}{P:Part}(hk:k+1<P.nest.length)(r:List Loop):X0 k (P.nest.take (k+2)++r)=(X0 k P.nest).take (k+2)++r:=by rw [aHY (by rw [rN];omega),aJ5 hk]
theorem aKf{n:Nat}(hn:20000≤n){p:Prog}(hp:BG 1000 p)(part loop:Int):mE n p part loop=some (yC p part loop):=by
 unfold mE;by_cases hb:jH p part loop=true;rotate_left
 ·unfold yC;rw [if_neg fun h=>hb h.1];refine Ev.eq (aA (yP (by omega) hp) (Ev.jn (fun z=>z=true) (fun j hj=>aA (aAv (by omega) hp part loop) (Ev.cond (fun _=>hj _ rfl) fun h=>absurd (by simpa using h) hb)) fun z hz=>by rw [hz];exact cA (Ev.some rfl)))
 obtain⟨hv,i,k,P,l,rfl,rfl,hP,hl,hi,hkl,hok,hk⟩:=M3 hb;obtain⟨h1,h2⟩:=nN hok;obtain⟨_,h4,h5,_⟩:=gS hok;rw [aO (n:=(k:Int)+1) (by omega)];by_cases hb2:jH p (i:Int) ((k:Int)+1)=true;rotate_left
 ·unfold yC;rw [if_neg fun h=>hb2 h.2];refine Ev.eq (aA (yP (by omega) hp) (Ev.jn (fun z=>z=true) (fun j hj=>aA (aAv (by omega) hp _ _) (Ev.cond (fun h=>by rw [hb] at h;cases h) fun _=>aA (aAv (by omega) hp _ _) (Ev.cond (fun _=>hj _ rfl) fun h=>absurd (by simpa using h) hb2))) fun z hz=>by rw [hz];exact cA (Ev.some rfl)))
 rw [aCS hb hb2 hP];have hk1:=U4 hP hb2;have e6:=cJ hk1 (⟨[],[]⟩:Loop);refine Ev.eq (aA (yP (by omega) hp) (Ev.jn (fun z=>z=z8 (P.nest.getD (k+1) ⟨[],[]⟩) k) (fun j hj=>?_) fun z hz=>?_))
 ·refine aA (aAv (by omega) hp _ _) (Ev.cond (fun h=>by rw [hb] at h;cases h) fun _=>aA (aAv (by omega) hp _ _) (Ev.cond (fun h=>by rw [hb2] at h;cases h) fun _=>aA (aM hP) ?_));rw [show(k:Int)+1=((k+1:Nat):Int) by omega];exact aA (aM e6) (aA (aEr (by omega) (h2 _ (cR e6)) (by omega)) (hj _ rfl))
 subst hz;refine Ev.cond (fun hu=>Ev.some ?_) fun hu=>?_
 ·rw [if_neg (by unfold aBq;rw [hu];simp)];rfl
 refine aA (x:=dsO p i) (aGl hn hp.sm hv _) ?_;have hlen:=aLz hv (i:=i);have hsh:=fun d hd=>(G6 hv hP (d:=d) hd).1;have hsw:aBq p i k P=(dsO p i).all (fun d=>posL (wO k d)):=by unfold aBq;rw [hu];rfl
 rw [hsw];generalize dsO p i=D at hlen hsh;refine Ev.loop (fun x:Int=> ∃m:Nat,x=m∧m≤D.length∧ ∀d∈D.take m,posL (wO k d)=true) (fun x=>D.length-x.toNat) ?_ n _ ⟨0,rfl,by omega,fun d hd=>by simp at hd⟩ (by omega);rintro again z ⟨m,rfl,hm,hpos⟩ hr;refine aH (fun hlt=>?_) fun hge=>?_
 ·have hlt:m<D.length:=by omega
  have e1:=cP hlt;have hmem:=T0 hlt;have hdl:=hsh _ hmem;rw [show(k:Int)+1=((k+1:Nat):Int) by omega];refine aA (aM e1) (aA (bW (by simp;omega)) (aA (aM (cJ (by omega) 0)) (aA (x:=D[m].getD k 0) (aM (cJ (l:=D[m]) (by omega) 0)) (aA (dO (by rw [List.nil_append];omega) _) (aA (aM (cJ (by omega) 0)) ?_)))));rw [List.nil_append,yF];refine aA (aM (cJ (l:=D[m].set k (D[m].getD (k+1) 0)) (k:=k+1) (by simp;omega) 0)) (aA (dO (by rw [vAI];omega) _) ?_);rw [yF];refine aA (x:=posL (wO k D[m])) (aIL (d:=wO k D[m]) (by rw [T3];omega) (by omega)) (Ev.cond (fun h=>Ev.some ?_) fun h=>?_)
  ·rw [if_neg fun hall=>?_]
   ·rfl
   have:=V9.1 hall _ hmem;rw [this] at h;cases h
  rw [aO (by omega)];refine hr _ ⟨m+1,by omega,by omega,fun d hd=>?_⟩ (by omega);rw [xI,e1] at hd;rcases xH.1 hd with h'|h'
  ·exact hpos d h'
  have:d=D[m]:=by simpa using h'
  subst this;simpa using h
 have:m=D.length:=by omega
 subst this;rw [qG] at hpos;rw [if_pos (V9.2 hpos)];have hin:=aGF (n:=n) (by omega) (x:=P) (s:=k+1) (by omega) h1 h2 h4.2 h5 (way:=0) (v:=(k:Int)) (b:=⟨[],0⟩) (f:=swA k) fun n _ x hx=>aMN n (by omega) x hx;rw [show(k:Int)+1=((k+1:Nat):Int) by omega];refine aA (aM hP) (aA hin ?_);have hA:(P.nest.take (k+2)++(P.nest.drop (k+2)).map (gU (swA k))).length=P.nest.length:=by rw [qA,qF,rN,vAV];omega
 have hsw2:=aOD hk1 ((P.nest.drop (k+2)).map (gU (swA k)));rw [show k+1+1=k+2 by omega];dsimp only;generalize P.nest.take (k+2)++(P.nest.drop (k+2)).map (gU (swA k))=A at hA hsw2;refine aA (aM (cJ (by omega) (⟨[],[]⟩:Loop))) (aA (aM (cJ (by omega) (⟨[],[]⟩:Loop))) (aA (dO (by omega) _) ?_));rw [yF];refine aA (aM (cJ (l:=A.set k (A.getD (k+1) ⟨[],[]⟩)) (k:=k+1) (by rw [vAI];omega) (⟨[],[]⟩:Loop))) (aA (dO (by rw [vAI];omega) _) ?_);rw [yF];have hY:(⟨(A.set k (A.getD (k+1) ⟨[],[]⟩)).set (k+1) (A.getD k ⟨[],[]⟩),P.body.map (xK (swA k))⟩:Part)=swP k P:=by
  have:(A.set k (A.getD (k+1) ⟨[],[]⟩)).set (k+1) (A.getD k ⟨[],[]⟩)=X0 k A:=rfl;rw [this,hsw2,←aEm];rfl
 rw [hY];exact aA (aMf (by omega) hp hi ((aJ4 hok hk1).mono (by omega))) (Ev.some rfl)
theorem aLQ(code:List UInt8):Ev (Option.bind (sA N code) fun x1=>Option.bind (B5 N x1) fun x2=>some (x2.1,x2.2.1,x2.2.2.1)) (fun x=>BG 1000 x.1):=by have hN:N=100000:=rfl;refine aN (aMW code) fun x1 r1=>aN (P:=fun x=>BG 1000 x.1) ?_ fun x2 h2=>Ev.some h2;unfold B5;refine aN (aIX r1 (by omega)) fun x1 ⟨h1,r1⟩=>aN (aM1 (by omega) r1 (by omega) h1) fun x2 ⟨h2,r2⟩=>aN (jM N r2 (by omega) (by simp)) fun x3 ⟨_,r3⟩=>aN (jM N r3 (by omega) (by simp)) fun x4 ⟨_,r4⟩=>aN (jM N r4 (by omega) (by simp)) fun x5 ⟨_,r5⟩=>Ev.some (h2.mono (show 30≤1000 by omega))
def ltI(x y:Inst):Prop:=x.part<y.part∨x.part=y.part∧(cmpL x.point y.point<0∨x.point=y.point∧x.stmt<y.stmt)
theorem aKC{x y:Inst}(h:ltI x y): ¬ltI y x:=fun h2=>by
 have hf:=jI x.point y.point;have hs:=o5 x.point;rcases h with h|⟨e,h|⟨e2,h⟩⟩<;>rcases h2 with g|⟨_,g|⟨g2,g⟩⟩
 ·omega
 ·omega
 ·omega
 ·omega
 ·omega
 ·rw [g2] at h;omega
 ·omega
 ·rw [←e2] at g;omega
 omega
theorem aIs: ∀p a b:List Int,cmpL (p++a) (p++b)=cmpL a b
 | [],_,_=>rfl
 |x::p,a,b=>by simp only [List.cons_append,cmpL];rw [if_neg (by omega),if_neg (by omega)];exact aIs p a b
theorem Y8: ∀(ls:List Loop) (p:List Int) {x:List Int},x∈pts ls p→ ∃t,x=p++t∧t.length=ls.length
 | [],p,x,h=>⟨[],by simpa [pts] using h,rfl⟩
 |l::ls,p,x,h=>by simp only [pts] at h;obtain⟨v,_,h⟩:=vBM.1 h;obtain⟨t,rfl,ht⟩:=Y8 ls _ h;exact⟨v::t,by simp,by simp [ht]⟩
theorem aOG(lo hi:Int):(kS lo hi).Pairwise (fun a b=>a<b):=by unfold kS;rw [List.pairwise_map];exact List.pairwise_lt_range.imp fun h=>by omega
theorem aKo: ∀(ls:List Loop) (p:List Int),SS (pts ls p)
 | [],p=>List.pairwise_singleton _ _
 |l::ls,p=>by simp only [pts];refine List.pairwise_flatMap.2 ⟨fun v _=>aKo ls _,(aOG _ _).imp fun {v w} h x hx y hy=>?_⟩;obtain⟨s,rfl,_⟩:=Y8 ls _ hx;obtain⟨t,rfl,_⟩:=Y8 ls _ hy;rw [vAO,vAO,aIs];simp only [List.cons_append,cmpL];rw [if_pos h];omega
theorem insts_ss{p:Prog}(hv:bM p=true):(insts p.parts).Pairwise ltI:=by
 unfold insts;refine List.pairwise_flatMap.2 ⟨fun y hy=>?_,?_⟩
 ·obtain⟨P,i⟩:=y;have hP:=vBd.1 hy;have hok:=(eN hv).2.2.2.1 P (cR hP);dsimp only;unfold instP;rw [vO hok];refine List.pairwise_flatMap.2 ⟨fun q _=>?_,(aKo _ _).imp fun {q r} h x hx y hy=>?_⟩
  ·rw [List.pairwise_map];exact List.pairwise_lt_range.imp fun h=> .inr ⟨rfl,.inr ⟨rfl,by dsimp only;omega⟩⟩
  obtain⟨_,_,rfl⟩:=Q9.1 hx;obtain⟨_,_,rfl⟩:=Q9.1 hy;exact .inr ⟨rfl,.inl h⟩
 rw [List.pairwise_iff_getElem];intro i j hi hj hij x hx y hy;rw [List.getElem_zipIdx] at hx hy;unfold instP at hx hy;obtain⟨_,_,hx⟩:=vBM.1 hx;obtain⟨_,_,rfl⟩:=Q9.1 hx;obtain⟨_,_,hy⟩:=vBM.1 hy;obtain⟨_,_,rfl⟩:=Q9.1 hy;exact .inl (by dsimp only;omega)
theorem aEC{p:Prog}(hv:bM p=true){c:Inst}(hc:cY p c): ∀(S:List Inst) (m:List Int),(∀s∈S,cY p s∧com p c s)→iE p.arrays m→cH p (runI p m c) S=runI p (cH p m S) c
 | [],_,_,_=>rfl
 |s::S,m,h,hm=>by have h1:=h s uM;show cH p (runI p (runI p m c) s) S=runI p (cH p (runI p m s) S) c;rw [h1.2 m hm];exact aEC hv hc S _ (fun x hx=>h x (rK _ hx)) (wW hv hm h1.1)
theorem aED{p:Prog}(hv:bM p=true): ∀(C B:List Inst) (m:List Int),(∀x∈C,cY p x)→C.Perm B→B.Pairwise ltI→C.Pairwise (fun a b=>ltI a b∨com p a b)→iE p.arrays m→cH p m C=cH p m B
 | [],B,m,_,hp,_,_,_=>by rw [hp.symm.eq_nil]
 |c::C,B,m,hC,hp,hB,hc,hm=>by
  obtain⟨S,T,rfl⟩:=List.append_of_mem (hp.subset uM);have hp2:C.Perm (S++T):=(hp.trans List.perm_middle).cons_inv;have hcc:=hC c uM;have hCC:=fun x hx=>hC x (rK c hx);rw [vBe] at hc;rw [List.pairwise_append] at hB;obtain⟨b1,b2,b3⟩:=hB;rw [vBe] at b2;have hB2:(S++T).Pairwise ltI:=List.pairwise_append.2 ⟨b1,b2.2,fun a ha b hb=>b3 a ha b (rK c hb)⟩;show cH p (runI p m c) C=_;rw [aED hv C (S++T) _ hCC hp2 hB2 hc.2 (wW hv hm hcc)];have hS: ∀s∈S,cY p s∧com p c s:=fun s hs=>by
   have hsC:=hp2.symm.subset (vAX T hs);refine⟨hCC s hsC,(hc.1 s hsC).resolve_left fun h=>aKC h (b3 s hs c uM)⟩
  rw [Y2,Y2,aEC hv hcc S m hS hm];rfl
theorem aEI: ∀a b:List Int,a.length=b.length→posL (minusL b a)= !decide (cmpL b a<0)
 | [],[],_=>rfl
 | [],_::_,h=>by simp at h
 |_::_,[],h=>by simp at h
 |x::a,y::b,h=>by
  have ih:=aEI a b (by simpa using h);have e:minusL (y::b) (x::a)=(y-x)::minusL b a:=rfl;have ec:cmpL (y::b) (x::a)=if y<x then-1 else if x<y then 1 else cmpL b a:=rfl
  rw [e,ec];clear ec;by_cases hxy:y=x
  ·subst hxy;rw [if_neg (by omega),if_neg (by omega),←ih,Int.sub_self];unfold posL lvl;rw [List.findIdx?_cons];simp only [decide_true,Bool.not_true,Bool.false_eq_true,if_false];cases (minusL b a).findIdx? (fun x=> !decide (x=0)) with
   |none=>rfl
   |some k=>rfl
  have hl:lvl ((y-x)::minusL b a)=some 0:=by
   unfold lvl;rw [List.findIdx?_cons,if_pos (by simp;omega)]
  unfold posL;rw [hl];dsimp only;rw [List.getD_cons_zero];by_cases h2:y<x
  ·rw [if_pos h2,decide_eq_false (by omega),decide_eq_true (by omega)];rfl
  rw [if_neg h2,if_pos (by omega),decide_eq_true (by omega),decide_eq_false (by omega)];rfl
def movI(i:Nat)(τ:List Int→List Int)(x:Inst):Inst:=if x.part=(i:Int) then⟨x.part,x.stmt,τ x.point⟩ else x
theorem aCc(i:Nat)(τ:List Int→List Int)(x:Inst):(movI i τ x).part=x.part:=by unfold movI;split<;>rfl
theorem tI{i:Nat}{τ:List Int→List Int}: ∀x:Inst,x.part≠(i:Int)→movI i τ x=x:=fun x hx=>by unfold movI;rw [if_neg hx]
theorem M5{α β:Type}{f g:α→List β}: ∀{l:List α},(∀x∈l,(f x).Perm (g x))→(l.flatMap f).Perm (l.flatMap g)
 | [],_=> .nil
 |x::l,h=>by rw [vBD,vBD];exact(h x uM).append (M5 fun y hy=>h y (rK x hy))
theorem insts_perm{ps:List Part}{i:Nat}{P P':Part}(hP:ps[i]? =some P){σ:Inst→Inst}(h1:(instP i P').Perm ((instP i P).map σ))(h2: ∀x,x.part≠(i:Int)→σ x=x):(insts (ps.set i P')).Perm ((insts ps).map σ):=by
 unfold insts;rw [vBu];have e:(ps.set i P').zipIdx=ps.zipIdx.map (fun y=>if y.2=i then(P',i) else y):=by
  refine List.ext_getElem? fun j=>?_;rw [List.getElem?_zipIdx,sZ,List.getElem?_zipIdx];by_cases hj:i=j
  ·subst hj;rw [vAw (cZ.1 hP).1,hP];simp
  rw [vAD hj];cases ps[j]? with
  |none=>rfl
  |some y=>
   have: ¬j=i:=fun h=>hj h.symm;simp [this]
 rw [e,List.flatMap_map];refine M5 fun y hy=>?_;obtain⟨x,j⟩:=y;have hx:=vBd.1 hy;dsimp only at hx⊢;by_cases hji:j=i
 ·subst hji;rw [hP] at hx;cases hx;rw [if_pos rfl];exact h1
 rw [if_neg hji];refine .of_eq (aDi fun z hz=>h2 z ?_).symm;unfold instP at hz;obtain⟨q,_,hz⟩:=vBM.1 hz;obtain⟨t,_,rfl⟩:=Q9.1 hz;dsimp only;omega
theorem instP_perm{i:Nat}{τ:List Int→List Int}{P P':Part}(h1:(dS P').Perm ((dS P).map τ))(h2:P'.body.length=P.body.length):(instP i P').Perm ((instP i P).map (movI i τ)):=by unfold instP;rw [h2,vBu];refine(h1.flatMap_right _).trans (.of_eq ?_);rw [List.flatMap_map];refine G2 fun q _=>?_;rw [List.map_map];refine oW fun t _=>?_;show _=movI i τ _;unfold movI;rw [if_pos rfl]
structure Mov (p q:Prog) (i:Nat) (τ:List Int→List Int):Prop where
 arr:q.arrays=p.arrays
 perm:(insts q.parts).Perm ((insts p.parts).map (movI i τ))
 cells: ∀x∈insts p.parts,rc q (movI i τ x)=rc p x∧wc q (movI i τ x)=wc p x
 run: ∀x∈insts p.parts,∀m,runI q m (movI i τ x)=runI p m x
theorem aEM{p:Prog}(hv:bM p=true){i:Nat}{P P':Part}(hP:p.parts[i]? =some P){F:Affine→Affine}(hb:P'.body=P.body.map (xK F)){τ:List Int→List Int}(hev: ∀q:List Int,q.length=P.nest.length→ ∀y,bY y=true→dI (F y) (τ q)=dI y q){x:Inst}(hx:cY p x):
  ∃s s' d,q6 p x=some s∧q6 ⟨p.arrays,p.parts.set i P'⟩ (movI i τ x)=some s'∧fZ s d=true∧
   (∀a,iC a d=true→cK p.arrays (if x.part=(i:Int) then fX F a else a) (movI i τ x).point 0=cK p.arrays a x.point 0)∧
   (s'.write=if x.part=(i:Int) then fX F s.write else s.write)∧
   (bX 5 s'.value=(bX 5 s.value).map fun a=>if x.part=(i:Int) then fX F a else a)∧
   ∀m,o8 5 p.arrays m s'.value (movI i τ x).point=o8 5 p.arrays m s.value x.point:=by
 obtain⟨i',k',Q,s,d,e1,e2,e3,e4,e5,e6,e7,e8⟩:=inst_d hv hx;have hi:=(cZ.1 hP).1;by_cases hxi:x.part=(i:Int)
 ·obtain rfl:i'=i:=by omega
  rw [hP] at e3;cases e3;have hev:=hev x.point e7.1;have hs:movI i' τ x=⟨x.part,x.stmt,τ x.point⟩:=by unfold movI;rw [if_pos hxi]
  refine⟨s,xK F s,d,e5,?_,e6,fun a ha=>?_,?_,?_,fun m=>?_⟩
  ·rw [hs];unfold q6;dsimp only;rw [e1,yF,vAw hi];show(P'.body[x.stmt.toNat]?)=_;rw [hb,sZ,e2,yF,e4];rfl
  ·rw [if_pos hxi,hs];exact aHb (fun y hy=>hev y ((uL ha).2.2 y hy)) _ _
  ·rw [if_pos hxi];rfl
  ·simp only [if_pos hxi];exact aH2 (jQ e6).2.1
  rw [hs];exact aJO hev _ m (jQ e6).2.1
 have hs:movI i τ x=x:=tI x hxi;refine⟨s,s,d,e5,?_,e6,fun a ha=>?_,?_,?_,fun m=>?_⟩
 ·rw [hs,←e5];unfold q6;dsimp only;rw [vAD (by omega)]
 ·rw [if_neg hxi,hs]
 ·rw [if_neg hxi]
 ·simp only [if_neg hxi,List.map_id']
 rw [hs]
theorem aOJ{p:Prog}(hv:bM p=true){i:Nat}{P P':Part}(hP:p.parts[i]? =some P){F:Affine→Affine}(hb:P'.body=P.body.map (xK F)){τ:List Int→List Int}(hev: ∀q:List Int,q.length=P.nest.length→ ∀y,bY y=true→dI (F y) (τ q)=dI y q)(hpts:(dS P').Perm ((dS P).map τ)):Mov p ⟨p.arrays,p.parts.set i P'⟩ i τ where
 arr:=rfl
 perm:=insts_perm hP (instP_perm hpts (by rw [hb,qF])) tI
 cells x hx:=by
  obtain⟨s,s',d,s1,s2,s3,s4,s5,s6,s7⟩:=aEM hv hP hb hev (insts_mem hx);obtain⟨c1,_,c3,_⟩:=jQ s3;unfold rc wc;rw [s1,s2];dsimp only;rw [s5,s6,List.map_map,s4 _ c1];exact⟨oW fun a ha=>s4 a (c3 a ha),rfl⟩
 run x hx m:=by obtain⟨s,s',d,s1,s2,s3,s4,s5,s6,s7⟩:=aEM hv hP hb hev (insts_mem hx);obtain⟨c1,_,c3,_⟩:=jQ s3;unfold runI;rw [s1,s2];dsimp only;rw [s5,s4 _ c1,s7 m]
theorem aCj{p:Prog}{a b:Inst}:uH p a b≠0↔aG9 p a b:=by unfold uH aG9;by_cases h1:(wc p a:Int)∈rc p b<;>by_cases h2:(wc p b:Int)∈rc p a<;>by_cases h3:wc p a=wc p b<;>(first|rw [if_pos h1]|rw [if_neg h1])<;>(first|rw [if_pos h2]|rw [if_neg h2])<;>(first|rw [if_pos h3]|rw [if_neg h3])<;>simp [h1,h2,h3]
theorem aLE{p:Prog}{i:Nat}{d:List Int}:d∈N2 p i↔ ∃j k:Nat,∃a b:Inst,j<k∧(insts p.parts)[j]? =some a∧(insts p.parts)[k]? =some b∧aG9 p a b∧a.part=(i:Int)∧b.part=(i:Int)∧d=minusL b.point a.point:=by
 unfold N2;rw [List.mem_filterMap];constructor
 ·rintro⟨e,he,hd⟩;obtain⟨j,k,hjk,hk,hkd,rfl⟩:=aAc.1 he;have ha:=cP (show j<(insts p.parts).length by omega);have hb:=cP hk;rw [E7 ha hb] at hkd;unfold dif at hd;dsimp only at hd;rw [yF,yF,ha,hb] at hd;dsimp only at hd;split at hd
  ·rename_i hp;cases hd;exact⟨j,k,_,_,hjk,ha,hb,aCj.1 hkd,hp.1,hp.2,rfl⟩
  cases hd
 rintro⟨j,k,a,b,hjk,ha,hb,hc,h1,h2,rfl⟩;refine⟨_,aAc.2 ⟨j,k,hjk,(cZ.1 hb).1,?_,rfl⟩,?_⟩
 ·rw [E7 ha hb];exact aCj.2 hc
 unfold dif;dsimp only;rw [yF,yF,ha,hb];dsimp only;rw [if_pos ⟨h1,h2⟩]
theorem aLG{p:Prog}(hv:bM p=true){i:Nat}{P:Part}(hP:p.parts[i]? =some P){a:Inst}(ha:a∈insts p.parts)(h:a.part=(i:Int)):a.point.length=P.nest.length∧ ∀y∈a.point,xL 9999 y:=by obtain⟨Q,q1,_,q2,_,q4⟩:=inst_pt hv (insts_mem ha);rw [h,yF,hP] at q1;cases q1;exact⟨q2,q4⟩
structure Kept (p:Prog) (i:Nat) (P:Part) (τ f:List Int→List Int):Prop where
 pos:(dsO p i).all (fun d=>posL (f d))=true
 dist: ∀a b:List Int,a.length=P.nest.length→b.length=P.nest.length→f (minusL b a)=minusL (τ b) (τ a)
 len: ∀a:List Int,a.length=P.nest.length→(τ a).length=P.nest.length
 inj: ∀a b:List Int,a.length=P.nest.length→b.length=P.nest.length→τ a=τ b→a=b
theorem aNa{p:Prog}(hv:bM p=true){i:Nat}{P:Part}(hP:p.parts[i]? =some P){τ f:List Int→List Int}(hK:Kept p i P τ f):(insts p.parts).Pairwise (fun a b=>aG9 p a b→ltI (movI i τ a) (movI i τ b)):=by
 rw [List.pairwise_iff_getElem];intro j k hj hk hjk hc;have hs:=List.pairwise_iff_getElem.1 (insts_ss hv) j k hj hk hjk;have ha:=cP hj;have hb:=cP hk;generalize (insts p.parts)[j]=a at*;generalize (insts p.parts)[k]=b at*;unfold ltI;rw [aCc,aCc];rcases hs with h|⟨h,hs⟩
 ·exact .inl h
 refine .inr ⟨h,?_⟩;by_cases hi:a.part=(i:Int)
 ·have hbi:b.part=(i:Int):=by omega
  obtain⟨la,_⟩:=aLG hv hP (cR ha) hi;obtain⟨lb,_⟩:=aLG hv hP (cR hb) hbi;have hd:minusL b.point a.point∈dsO p i:=aLy.2 (aLE.2 ⟨j,k,a,b,hjk,ha,hb,hc,hi,hbi,rfl⟩);have hpos:=V9.1 hK.pos _ hd;rw [hK.dist _ _ la lb,aEI _ _ (by rw [hK.len _ la,hK.len _ lb])] at hpos;have hn: ¬cmpL (τ b.point) (τ a.point)<0:=by simpa using hpos
  have hf:=jI (τ a.point) (τ b.point);unfold movI;rw [if_pos hi,if_pos hbi];dsimp only;by_cases h0:cmpL (τ a.point) (τ b.point)=0
  ·have e:=hK.inj _ _ la lb (pT h0);refine .inr ⟨pT h0,?_⟩;rcases hs with hs|⟨_,hs⟩
   ·have:=o5 b.point;rw [e] at hs;omega
   exact hs
  exact .inl (by omega)
 rw [tI a hi,tI b (by omega)];exact hs
theorem aM2{p q:Prog}(hv:bM p=true)(hw:bM q=true){i:Nat}{P:Part}(hP:p.parts[i]? =some P){τ f:List Int→List Int}(hM:Mov p q i τ)(hK:Kept p i P τ f): ∀m,iE p.arrays m→cH q m (insts q.parts)=cH p m (insts p.parts):=fun m hm=>by
 have hB: ∀x∈insts q.parts,cY q x:=fun x hx=>insts_mem hx;have hC: ∀x∈(insts p.parts).map (movI i τ),cY q x:=fun x hx=>hB x (hM.perm.symm.subset hx);have hpw:((insts p.parts).map (movI i τ)).Pairwise (fun a b=>ltI a b∨com q a b):=by
  rw [List.pairwise_map];refine(aNa hv hP hK).imp_of_mem fun {a b} ha hb h=>?_;by_cases hc:aG9 p a b
  ·exact .inl (h hc)
  refine .inr (swap hw (hC _ (vBR ha)) (hC _ (vBR hb)) fun g=>hc ?_);obtain⟨a1,a2⟩:=hM.cells a ha;obtain⟨b1,b2⟩:=hM.cells b hb;unfold aG9 at g⊢
  rwa [a1,a2,b1,b2] at g
 rw [←aED hw _ _ m hC hM.perm.symm (insts_ss hw) hpw (by rw [hM.arr];exact hm)];unfold cH;rw [List.foldl_map];exact aAw fun x hx m=>hM.run x hx m
theorem aKq{F:Affine→Affine}{τ:List Int→List Int}{m:Nat}(hev: ∀q:List Int,m≤q.length→ ∀y,bY y=true→dI (F y) (τ q)=dI y q)(happ: ∀(q:List Int) (v:Int),m≤q.length→τ (q++[v])=τ q++[v]): ∀(ls:List Loop) (p:List Int),(∀l∈ls,R3 l)→m≤p.length→pts (ls.map (gU F)) (τ p)=(pts ls p).map τ
 | [],p,_,_=>rfl
 |l::ls,p,h,hk=>by
  have hl:=h l uM;have ev: ∀{as:List Affine},(∀x∈as,bY x=true)→evs (as.map F) (τ p)=evs as p:=fun ha=>by
   unfold evs;rw [List.map_map];exact oW fun x hx=>hev p hk x (ha x hx)
  have e1:jN (gU F l) (τ p)=jN l p:=by unfold jN gU;rw [ev hl.1.2]
  have e2:mV (gU F l) (τ p)=mV l p:=by unfold mV gU;rw [ev hl.2.2]
  simp only [List.map_cons,pts];rw [e1,e2,vBu];refine G2 fun v _=>?_;rw [←happ p v hk];exact aKq hev happ ls (p++[v]) (fun x hx=>h x (rK _ hx)) (by simp;omega)
theorem aB3{A B:List Loop}{τ:List Int→List Int}{k:Nat}(h: ∀p:List Int,p.length=k→(pts B p).Perm ((pts A p).map τ)): ∀(os:List Loop) (p:List Int),p.length+os.length=k→(pts (os++B) p).Perm ((pts (os++A) p).map τ)
 | [],p,hk=>h p (by simpa using hk)
 |o::os,p,hk=>by simp only [List.cons_append,pts];rw [vBu];exact M5 fun v _=>aB3 h os (p++[v]) (by simp at hk ⊢; omega)
theorem aE2{α β:Type}{f g:α→List β}: ∀l:List α,(l.flatMap f++l.flatMap g).Perm (l.flatMap fun b=>f b++g b)
 | []=> .nil
 |x::l=>by simp only [List.flatMap_cons,List.append_assoc];refine List.Perm.append_left _ ?_;refine(List.perm_append_comm_assoc _ _ _).trans ?_;exact List.Perm.append_left _ (aE2 l)
theorem aCv{α β γ:Type}{F:α→β→List γ}{B:List β}: ∀A:List α,(A.flatMap fun a=>B.flatMap (F a)).Perm (B.flatMap fun b=>A.flatMap fun a=>F a b)
 | []=>by
  have:B.flatMap (fun b=>([]:List α).flatMap fun a=>F a b)=[]:=List.flatMap_eq_nil_iff.2 fun _ _=>rfl;rw [this];exact .nil
 |a::A=>by simp only [List.flatMap_cons];exact(List.Perm.append_left _ (aCv A)).trans (aE2 B)
theorem L7: ∀(b a:List Int) (k:Nat) (x y:Int),minusL (b.set k x) (a.set k y)=(minusL b a).set k (x-y)
 | [],a,k,x,y=>by simp [minusL]
 |b::bs,[],k,x,y=>by simp [minusL]
 |b::bs,a::as,0,x,y=>rfl
 |b::bs,a::as,k+1,x,y=>by show(b-a)::minusL (bs.set k x) (as.set k y)=(b-a)::(minusL bs as).set k (x-y);rw [L7 bs as k x y]
theorem aAb: ∀(b a:List Int) (k:Nat),k<b.length→k<a.length→(minusL b a).getD k 0=b.getD k 0-a.getD k 0
 | [],a,k,h,_=>by simp at h
 |b::bs,[],k,_,h=>by simp at h
 |b::bs,a::as,0,_,_=>rfl
 |b::bs,a::as,k+1,h1,h2=>aAb bs as k (by simpa using h1) (by simpa using h2)
theorem aLB(code:List UInt8):Ev (iK N code) (fun x=>BG 1000 x.1):=by unfold iK;exact aLQ code
theorem aNQ{k:Nat}{q:List Int}(hk:k+1<q.length)(j:Nat):(wO k q)[j]? =if j=k then q[k+1]? else if j=k+1 then q[k]? else q[j]? :=by
 unfold wO;by_cases h1:j=k+1
 ·subst h1;rw [vAw (by rw [vAI];exact hk),if_neg (by omega),if_pos rfl];exact(cJ (by omega) _).symm
 rw [vAD (by omega)];by_cases h2:j=k
 ·subst h2;rw [vAw (by omega),if_pos rfl];exact(cJ hk _).symm
 rw [vAD (by omega),if_neg h2,if_neg h1]
theorem aHZ{k:Nat}{q:List Int}(hk:k+1<q.length):wO k (wO k q)=q:=by
 apply List.ext_getElem?;intro j;have h:=aNQ hk;rw [aNQ (by rw [T3];exact hk),h,h,h];by_cases h1:j=k
 ·subst h1;rw [if_pos rfl,if_neg (by omega),if_pos rfl]
 by_cases h2:j=k+1
 ·subst h2;rw [if_neg (by omega),if_pos rfl,if_pos rfl]
 rw [if_neg h1,if_neg h2,if_neg h1,if_neg h2]
theorem aLC: ∀(k:Nat) (cs q:List Int),k+1<cs.length→k+1<q.length→G8 (wO k cs) (wO k q)=G8 cs q
 |0,a::b::cs,x::y::q,_,_=>by
  show b*y+(a*x+G8 cs q)=a*x+(b*y+G8 cs q)
  omega
 |k+1,a::cs,x::q,h1,h2=>by
  show a*x+G8 (wO k cs) (wO k q)=a*x+G8 cs q;rw [aLC k cs q (by simpa using h1) (by simpa using h2)]
 |0,[],_,h,_=>by simp at h
 |0,[_],_,h,_=>by simp at h
 |0,_::_::_,[],_,h=>by simp at h
 |0,_::_::_,[_],_,h=>by simp at h
 |k+1,[],_,h,_=>by simp at h
 |k+1,_::_,[],_,h=>by simp at h
theorem aNP{k:Nat}(hk:k+1<4){q:List Int}(hq:k+1<q.length){y:Affine}(hy:bY y=true):dI (swA k y) (wO k q)=dI y q:=by have h4:=(gM hy).1;show y.const+G8 (wO k y.coefs) (wO k q)=y.const+G8 y.coefs q;rw [aLC k _ _ (by omega) hq]
theorem aOC{k:Nat}(q:List Int)(v:Int)(h:k+2≤q.length):wO k (q++[v])=wO k q++[v]:=by unfold wO;rw [aCq (by omega),aCq (by omega),vBP _ _ (by omega),vBP _ _ (by rw [vAI];omega)]
theorem aJ3: ∀(q:List Int) (a b:Int),wO q.length (q++[a]++[b])=q++[b]++[a]
 | [],a,b=>rfl
 |x::q,a,b=>by show x::wO q.length (q++[a]++[b])=x::(q++[b]++[a]);rw [aJ3 q a b]
theorem aQh{l:List Affine}{d:Nat}(h:cV l (d:Int)=true): ∀x∈l,x.coefs.getD d 0=0:=fun x hx=>by
 unfold cV b8 at h;simp only [Bool.and_eq_true,List.all_eq_true,decide_eq_true_eq] at h;obtain⟨h1,h2⟩:=h.1 x hx;have h4:=(gM h1).1;by_cases hd:d<x.coefs.length
 ·exact P3 (cJ hd 0) (by omega)
 rw [z7,vBm (by omega)];rfl
theorem G4{l:List Affine}{q:List Int}(h: ∀x∈l,x.coefs.getD q.length 0=0)(v:Int):evs l (q++[v])=evs l q:=by unfold evs;exact oW fun x hx=>by unfold dI;rw [aFd _ _ _ (h x hx)]
theorem aPP{l:Loop}{k:Nat}(h:z8 l k=false):(∀x∈l.lo,x.coefs.getD k 0=0)∧ ∀x∈l.hi,x.coefs.getD k 0=0:=by unfold z8 at h;rw [Bool.or_eq_false_iff,List.any_eq_false,List.any_eq_false] at h;exact⟨fun x hx=>by simpa [K2] using h.1 x hx,fun x hx=>by simpa [K2] using h.2 x hx⟩
theorem aMd{list:List Arr}{P:Part}(hP:cW list P=true){k:Nat}(hk:k+1<P.nest.length)(hu:z8 (P.nest.getD (k+1) ⟨[],[]⟩) k=false)(hq:cW list (swP k P)=true):(dS (swP k P)).Perm ((dS P).map (wO k)):=by
 obtain⟨h1,h2⟩:=nN hP;have hl0:=cJ (show k<P.nest.length by omega) (⟨[],[]⟩:Loop);have hl1:=cJ hk (⟨[],[]⟩:Loop);rw [vO hq,vO hP];have hfit:=(aD5 (gS hP).1).1.2 k _ hl0;have hlp0:=h2 _ (cR hl0);have hlp1:=h2 _ (cR hl1);have e:P.nest=P.nest.take k++P.nest.getD k ⟨[],[]⟩::P.nest.getD (k+1) ⟨[],[]⟩::P.nest.drop (k+2):=by
  rw [←jZ hl1,←jZ hl0,vBx]
 have e2:(swP k P).nest=P.nest.take k++P.nest.getD (k+1) ⟨[],[]⟩::P.nest.getD k ⟨[],[]⟩::(P.nest.drop (k+2)).map (gU (swA k)):=by
  show(X0 k P.nest).take (k+2)++((X0 k P.nest).drop (k+2)).map (gU (swA k))=_;have hs:=aOE hk;rw [aEm,xI,xI,hs,hs,if_pos rfl,if_neg (by omega),if_pos rfl,hl0,hl1]
  have:(X0 k P.nest).take k=P.nest.take k:=by
   unfold X0;rw [List.take_set_of_le (by omega),List.take_set_of_le (by omega)]
  rw [this];simp
 rw [e2]
 conv=>rhs;rw [e]
 obtain⟨u1,u2⟩:=aPP hu;have b1:=aQh hfit.1;have b2:=aQh hfit.2;have h3: ∀y∈P.nest.drop (k+2),R3 y:=fun y hy=>h2 y (vAJ hy);generalize P.nest.drop (k+2)=ls at h3;generalize P.nest.getD k ⟨[],[]⟩=l0 at*;generalize P.nest.getD (k+1) ⟨[],[]⟩=l1 at*;refine aB3 (k:=k) (fun p hp=>?_) _ _ (by simp;omega);subst hp;simp only [pts];have f1: ∀v,jN l1 (p++[v])=jN l1 p:=fun v=>by unfold jN;rw [G4 u1]
 have f2: ∀v,mV l1 (p++[v])=mV l1 p:=fun v=>by unfold mV;rw [G4 u2]
 have f3: ∀v,jN l0 (p++[v])=jN l0 p:=fun v=>by unfold jN;rw [G4 b1]
 have f4: ∀v,mV l0 (p++[v])=mV l0 p:=fun v=>by unfold mV;rw [G4 b2]
 simp only [f1,f2,f3,f4];rw [vBu];have e3:(kS (jN l0 p) (mV l0 p)).flatMap (fun v=>((kS (jN l1 p) (mV l1 p)).flatMap fun w=>pts ls (p++[v]++[w])).map (wO p.length))=(kS (jN l0 p) (mV l0 p)).flatMap (fun v=>(kS (jN l1 p) (mV l1 p)).flatMap fun w=>pts (ls.map (gU (swA p.length))) (p++[w]++[v])):=by
  refine G2 fun v _=>?_;rw [vBu];refine G2 fun w _=>?_;rw [←aKq (m:=p.length+2) (fun q hq y hy=>aNP (by omega) (by omega) hy) (fun q v hq=>aOC q v hq) ls _ h3 (by simp),aJ3]
 rw [e3];exact(aCv _).symm
theorem aJE{p:Prog}{i k:Nat}{P:Part}(hk:k+1<P.nest.length)(h:(dsO p i).all (fun d=>posL (wO k d))=true):Kept p i P (wO k) (wO k) where
 pos:=h
 dist a b ha hb:=by
  unfold wO;rw [L7,L7,aAb _ _ _ (by omega) (by omega),aAb _ _ _ (by omega) (by omega)]
 len a ha:=by rw [T3,ha]
 inj a b ha hb e:=by rw [←aHZ (show k+1<a.length by omega),e,aHZ (by omega)]
theorem aPH{p q:Prog}{part loop:Int}(h:yC p part loop=(q,true)):bM p=true∧bM q=true∧ ∃(i k:Nat) (P:Part),part=i∧loop=k∧p.parts[i]? =some P∧Mov p q i (wO k)∧Kept p i P (wO k) (wO k):=by
 by_cases hb:jH p part loop=true∧jH p part (loop+1)=true
 ·obtain⟨hv,i,k,P,l,rfl,rfl,hP,hl,hi,hkl,hok,hk⟩:=M3 hb.1;have hk1:=U4 hP hb.2;rw [aCS hb.1 hb.2 hP] at h;by_cases hr:aBq p i k P=true
  ·rw [if_pos hr] at h;obtain⟨rfl,hw⟩:=aO0 h;have h4:=(nN hok).1;unfold aBq at hr;rw [vBt,Bool.not_eq_true'] at hr;have hokq:=(eN hw).2.2.2.1 _ (cR (vAw hi));exact⟨hv,hw,i,k,P,rfl,rfl,hP,aOJ hv hP rfl (fun q hq y hy=>aNP (by omega) (by omega) hy) (aMd hok hk1 hr.1 hokq),aJE hk1 hr.2⟩
  rw [if_neg hr] at h;cases h
 unfold yC at h;rw [if_neg hb] at h;cases h
end Go.Lift
