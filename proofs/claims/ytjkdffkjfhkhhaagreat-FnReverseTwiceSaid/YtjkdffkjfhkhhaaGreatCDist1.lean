/- Distances: sorted lists of points without doubles. -/
import Derived.Test.YtjkdffkjfhkhhaaGreatCTran1
import Derived.Test.YtjkdffkjfhkhhaaGreatCRun1
set_option maxRecDepth 100000
set_option linter.unusedVariables false
namespace Go.Lift
open Go
theorem l5: ∀xs,cmpL xs xs=0
 | []=>rfl
 |x::xs=>by unfold cmpL;rw [if_neg (by omega),if_neg (by omega)];exact l5 xs
theorem gT: ∀xs ys,cmpL ys xs= -cmpL xs ys
 | [],[]=>by simp [cmpL]
 | [],_::_=>by simp [cmpL]
 |_::_,[]=>by simp [cmpL]
 |x::xs,y::ys=>by
  unfold cmpL;by_cases h1:x<y
  ·simp [h1,show¬y<x by omega]
  by_cases h2:y<x
  ·simp [h1,h2]
  rw [if_neg h1,if_neg h2,if_neg h2,if_neg h1];exact gT xs ys
theorem pJ: ∀{xs ys},cmpL xs ys=0→xs=ys
 | [],[],_=>rfl
 | [],_::_,h=>by simp [cmpL] at h
 |_::_,[],h=>by simp [cmpL] at h
 |x::xs,y::ys,h=>by
  unfold cmpL at h;by_cases h1:x<y
  ·rw [if_pos h1] at h;omega
  by_cases h2:y<x
  ·rw [if_neg h1,if_pos h2] at h;omega
  rw [if_neg h1,if_neg h2] at h;rw [pJ h,show x=y by omega]
theorem F9: ∀{xs ys zs},cmpL xs ys<0→cmpL ys zs<0→cmpL xs zs<0
 | [],[],_,h,_=>by simp [cmpL] at h
 | [],_::_,[],_,h=>by simp [cmpL] at h
 | [],_::_,_::_,_,_=>by simp [cmpL]
 |_::_,[],_,h,_=>by simp [cmpL] at h
 |_::_,_::_,[],_,h=>by simp [cmpL] at h
 |x::xs,y::ys,z::zs,h1,h2=>by
  unfold cmpL at h1 h2⊢;by_cases a:x<y
  ·by_cases b:y<z
   ·rw [if_pos (by omega)];omega
   by_cases c:z<y
   ·rw [if_neg b,if_pos c] at h2;omega
   rw [if_pos (by omega)];omega
  by_cases b:y<x
  ·rw [if_neg a,if_pos b] at h1;omega
  by_cases c:y<z
  ·rw [if_pos (by omega)];omega
  by_cases d:z<y
  ·rw [if_neg c,if_pos d] at h2;omega
  rw [if_neg (by omega),if_neg (by omega)];rw [if_neg a,if_neg b] at h1;rw [if_neg c,if_neg d] at h2;exact F9 h1 h2
theorem aEv: ∀xs ys,Y0 xs ys=decide (cmpL xs ys<0)
 | [],[]=>rfl
 | [],_::_=>rfl
 |_::_,[]=>rfl
 |x::xs,y::ys=>by
  unfold Y0 cmpL;by_cases h:x=y
  ·subst h;simp only [if_true,Int.lt_irrefl,if_false];exact aEv xs ys
  by_cases h1:x<y
  ·simp [h,h1]
  have:y<x:=by omega
  simp [h,h1,this]
abbrev SS(l:List (List Int)):Prop:=l.Pairwise fun a b=>cmpL a b<0
theorem aNF: ∀{l m:List (List Int)},SS l→SS m→(∀x,x∈l↔x∈m)→l=m
 | [],[],_,_,_=>rfl
 | [],y::m,_,_,h=>by have:=(h y).2 (by simp);simp at this
 |x::l,[],_,_,h=>by have:=(h x).1 (by simp);simp at this
 |x::l,y::m,hl,hm,h=>by
  obtain⟨l1,l2⟩:=vBk.1 hl;obtain⟨m1,m2⟩:=vBk.1 hm;have e:x=y:=by
   rcases pT.1 ((h x).1 (by simp)) with h1|h1
   ·exact h1
   rcases pT.1 ((h y).2 (by simp)) with h2|h2
   ·exact h2.symm
   have a:=m1 x h1;have b:=l1 y h2
   have:=F9 a b;rw [l5] at this;omega
  subst e;have hx1:x∉l:=fun hx=>by have:=l1 x hx;rw [l5] at this;omega
  have hx2:x∉m:=fun hx=>by have:=m1 x hx;rw [l5] at this;omega
  rw [aNF l2 m2 (fun z=>⟨fun hz=>by
   rcases pT.1 ((h z).1 (sO _ hz)) with rfl|h3
   ·exact absurd hz hx1
   ·exact h3,fun hz=>by
   rcases pT.1 ((h z).2 (sO _ hz)) with rfl|h3
   ·exact absurd hz hx2
   exact h3⟩)]
def rR:List (List Int)→List Int→List (List Int)
 | [],d=>[d]
 |x::xs,d=>if cmpL d x<0 then d::x::xs else x::rR xs d
theorem Y8{d z:List Int}: ∀{l:List (List Int)},z∈rR l d↔z=d∨z∈l
 | []=>by simp [rR]
 |x::xs=>by
  unfold rR;split
  ·simp
  simp only [List.mem_cons,Y8 (l:=xs)];constructor
  ·rintro(h|h|h)
   ·exact .inr (.inl h)
   ·exact .inl h
   exact .inr (.inr h)
  rintro(h|h|h)
  ·exact .inr (.inl h)
  ·exact .inl h
  exact .inr (.inr h)
theorem aHW{d:List Int}: ∀{l:List (List Int)},SS l→d∉l→SS (rR l d)
 | [],_,_=>by simp [rR]
 |x::xs,hl,hd=>by
  obtain⟨l1,l2⟩:=vBk.1 hl;unfold rR;split
  ·rename_i h;refine vBk.2 ⟨fun z hz=>?_,hl⟩;rcases pT.1 hz with rfl|hz
   ·exact h
   exact F9 h (l1 z hz)
  rename_i h;refine vBk.2 ⟨fun z hz=>?_,aHW l2 fun hx=>hd (sO _ hx)⟩;rcases Y8.1 hz with rfl|hz
  ·have h1:=gT z x;have h2:cmpL z x≠0:=fun e=>hd (by rw [pJ e];simp);omega
  exact l1 z hz
def qZ(l:List (List Int))(d:List Int):List (List Int):=if d∈l then l else rR l d
theorem aNv{l:List (List Int)}(h:SS l)(d:List Int):SS (qZ l d):=by
 unfold qZ;split
 ·exact h
 exact aHW h ‹_›
theorem aFo{l:List (List Int)}{d z:List Int}:z∈qZ l d↔z=d∨z∈l:=by
 unfold qZ;split
 ·rename_i h;exact⟨.inr,fun hz=>by rcases hz with rfl|hz;exact h;exact hz⟩
 exact Y8
theorem aCZ: ∀(ds l:List (List Int)),SS l→SS (ds.foldl qZ l)∧ ∀z,z∈ds.foldl qZ l↔z∈l∨z∈ds
 | [],l,h=>⟨h,fun z=>by simp⟩
 |d::ds,l,h=>by
  obtain⟨h1,h2⟩:=aCZ ds (qZ l d) (aNv h d);refine⟨h1,fun z=>?_⟩;rw [List.foldl_cons,h2 z,aFo,pT];constructor
  ·rintro((h|h)|h)
   ·exact .inr (.inl h)
   ·exact .inl h
   exact .inr (.inr h)
  rintro(h|h|h)
  ·exact .inl (.inr h)
  ·exact .inl (.inl h)
  exact .inr h
def cC:List (List Int)→List (List Int)
 | []=>[]
 | [x]=>[x]
 |x::y::r=>if x=y then cC (y::r) else x::cC (y::r)
theorem tQ{z:List Int}: ∀{l:List (List Int)},z∈cC l↔z∈l
 | []=>by simp [cC]
 | [x]=>by simp [cC]
 |x::y::r=>by
  have ih:=tQ (z:=z) (l:=y::r);unfold cC;split
  ·rename_i h;subst h;rw [ih];simp
  rw [pT,ih];simp
theorem v6: ∀{l:List (List Int)},l.Pairwise (fun a b=> ¬cmpL b a<0)→SS (cC l)
 | [],_=>by simp [cC]
 | [x],_=>by simp [cC]
 |x::y::r,h=>by
  obtain⟨h1,h2⟩:=vBk.1 h;obtain⟨h3,_⟩:=vBk.1 h2;unfold cC;split
  ·exact v6 h2
  rename_i hne;refine vBk.2 ⟨fun z hz=>?_,v6 h2⟩;have hxy:cmpL x y<0:=by
   have a:=h1 y (by simp);have b:=gT x y;have c:cmpL x y≠0:=fun e=>hne (pJ e);omega
  rcases pT.1 (tQ.1 hz) with rfl|hz
  ·exact hxy
  have a:=h3 z hz;have b:=gT y z;by_cases e:cmpL y z=0
  ·rw [←pJ e];exact hxy
  exact F9 hxy (by omega)
theorem aCC(l:List (List Int)):(eK l).Pairwise (fun a b=> ¬cmpL b a<0):=by
 have:=List.pairwise_mergeSort (le:=fun x y=> !decide (cmpL y x<0)) (fun a b c h1 h2=>by
  simp only [Bool.not_eq_true',decide_eq_false_iff_not] at*;intro h;have f1:=gT a b;have f2:=gT b c;by_cases e:cmpL b a=0
  ·rw [pJ e] at h2;exact h2 h
  ·exact h2 (F9 h (by omega))) (fun a b=>by
  have f1:=gT a b;by_cases h:cmpL b a<0
  ·have: ¬cmpL a b<0:=by omega
   simp [h,this]
  simp [h]) l
 refine this.imp fun h=>?_;simpa using h
theorem aNf(ds:List (List Int)):cC (eK ds)=ds.foldl qZ []:=by obtain⟨h1,h2⟩:=aCZ ds [] List.Pairwise.nil;refine aNF (v6 (aCC ds)) h1 fun z=>?_;rw [tQ,h2 z];unfold eK;rw [List.mem_mergeSort];simp
def minusL(b a:List Int):List Int:=List.zipWith (fun x y=>x-y) b a
theorem aEq{R:Type}{Q:R→Prop}{n:Nat}{a b:List Int}(hl:a.length=b.length)(hb:b.length≤1000)(hn:1000<n)(ha1: ∀x∈a,jU 9999 x)(hb1: ∀x∈b,jU 9999 x){K:List Int→Option R}(hK:Ev (K (minusL b a)) Q):
  Ev (aN (fun again15 ((x12,x13):(List Int)×Int)=>
   bif decide (x13<(b.length:Int)) then(
    Option.bind (ix b x13) fun x16=>
    Option.bind (ix a x13) fun x17=>
    Option.bind (app x12 [wr (x16-x17)]) fun x18=>
    again15 (x18,wr (x13+1))
   ) else(
    K x12
   )) n ([],0)) Q:=by
 refine Ev.loop (fun x:List Int×Int=> ∃i:Nat,x.2=i∧i≤b.length∧x.1=(minusL b a).take i) (fun x=>b.length-x.2.toNat) ?_ n _ ⟨0,rfl,by omega,by simp⟩ (by dsimp only;omega);rintro again ⟨x,k⟩ ⟨i,hk,hi,hx⟩ hr;dsimp only at hk hx⊢;subst hk;have hml:(minusL b a).length=b.length:=by unfold minusL;rw [vBt];omega
 refine aH (fun hlt=>?_) fun hge=>?_
 ·have hlt:i<b.length:=by omega
  have e1:=cP hlt;have e2:=cP (show i<a.length by omega);have b1:=hb1 _ (T5 hlt);have b2:=ha1 _ (T5 (show i<a.length by omega));unfold jU at b1 b2;refine aA (aS e1) (aA (aS e2) (aA (bU (by rw [hx,uI];simp;omega)) ?_));rw [aQ (n:=b[i]-a[i]) (by omega),aQ (by omega)];refine hr _ ⟨i+1,by dsimp only;omega,by omega,?_⟩ (by dsimp only;omega);dsimp only;rw [xX,←hx];congr 1;unfold minusL;rw [List.getElem?_zipWith,e1,e2];rfl
 have:i=b.length:=by omega
 subst this;rw [vBe (by omega)] at hx;rw [hx];exact hK
theorem aFU{n:Nat}{a b:List Int}(hl:a.length=b.length)(hb:b.length≤1000)(hn:1000<n)(ha1: ∀x∈a,jU 9999 x)(hb1: ∀x∈b,jU 9999 x):wN n b a=some (minusL b a):=by unfold wN;exact Ev.eq (aEq hl hb hn ha1 hb1 (Ev.some rfl))
theorem aJ6{n:Nat}(hn:20000≤n){l:List (List Int)}{d:List Int}(hl:l.length≤15000)(h1: ∀x∈l,x.length≤1000)(hd:d.length≤1000):R1 n l d=some (qZ l d):=by
 unfold R1;refine Ev.eq (Ev.loop (fun x:List (List Int)×Bool×Int=> ∃i:Nat,x.2.2=i∧i≤l.length∧d∉l.take i∧(x.2.1=true→x.1.length≤i+1∧rR l d=x.1++l.drop i)∧(x.2.1=false→x.1.length≤i∧rR l d=x.1++rR (l.drop i) d)) (fun x=>l.length-x.2.2.toNat) ?_ n _ ⟨0,rfl,by omega,by simp,(fun h=>by cases h),fun _=>⟨by simp,by simp⟩⟩ (by dsimp only;omega));rintro again ⟨x1,x2,k⟩ ⟨i,hk,hi,hni,hT,hF⟩ hr;dsimp only at hk hT hF⊢;subst hk;refine aH (fun hlt=>?_) fun hge=>?_
 ·have hlt:i<l.length:=by omega
  have e1:=cP hlt;have hx6:l[i].length≤1000:=h1 _ (T5 hlt);refine aA (aS e1) (aA (aEa (by omega) (by omega)) (aH (fun heq=>Ev.some ?_) fun hne=>?_))
  ·unfold qZ;rw [if_pos (by rw [←heq];exact T5 hlt)]
  have hdrop:=vBf hlt;have hni':d∉l.take (i+1):=by
   rw [xX,e1];simp only [List.mem_append,Option.toList_some,List.mem_singleton];rintro(h|h)
   ·exact hni h
   exact hne h.symm
  refine Ev.jn (fun z:List (List Int)×Bool=>(z.2=true→z.1.length≤i+1∧rR l d=z.1++l.drop i)∧(z.2=false→z.1.length≤i∧rR l d=z.1++l[i]::rR (l.drop (i+1)) d)) (fun j hj=>?_) fun z hz=>?_
  ·refine Ev.jn (fun z:Bool=>z=(!x2&&Y0 d l[i])) (fun j2 hj2=>Ev.cond (fun h=>?_) fun h=>hj2 _ ?_) fun z hz=>?_
   ·have h:x2=false:=by simpa using h
    exact aA (aJ5 (by omega) hd hx6) (hj2 _ (by rw [h];rfl))
   ·have h:x2=true:=by simpa using h
    rw [h];rfl
   subst hz;cases hx2:x2 with
   |true=>exact bZ (hj _ ⟨fun _=>hT hx2,fun h=>by cases h⟩)
   |false=>
    obtain⟨f1,f2⟩:=hF hx2;rw [hdrop] at f2;rw [aEv];by_cases hc:cmpL d l[i]<0
    ·rw [decide_eq_true hc];refine b8 (aA (bU (by simp;omega)) (hj _ ⟨fun _=>⟨by simp;omega,?_⟩,fun h=>by cases h⟩));rw [f2,hdrop];unfold rR;rw [if_pos hc];simp
    rw [decide_eq_false hc];refine bZ (hj _ ⟨(fun h=>by cases h),fun _=>⟨f1,?_⟩⟩);rw [f2]
    conv=>lhs;rw [rR]
    rw [if_neg hc]
  obtain⟨z1,z2⟩:=z;obtain⟨g1,g2⟩:=hz;dsimp only at g1 g2⊢;have hz1:z1.length≤i+1:=by
   cases z2 with
   |true=>exact(g1 rfl).1
   |false=>have:=(g2 rfl).1;omega
  refine aA (bU (by simp;omega)) ?_;rw [aQ (by omega)];refine hr _ ⟨i+1,by dsimp only;omega,by omega,hni',fun h=>?_,fun h=>?_⟩ (by dsimp only;omega)
  ·obtain⟨a1,a2⟩:=g1 h;refine⟨by simp;omega,?_⟩;rw [a2,hdrop];simp
  obtain⟨a1,a2⟩:=g2 h;refine⟨by simp;omega,?_⟩;rw [a2];simp
 have:i=l.length:=by omega
 subst this;rw [q7] at hni;have hadd:qZ l d=rR l d:=by unfold qZ;rw [if_neg hni]
 rw [hadd];refine Ev.jn (fun z=>z=rR l d) (fun j hj=>Ev.cond (fun h=>?_) fun h=>hj _ ?_) fun z hz=>Ev.some hz
 ·have h:x2=false:=by simpa using h
  obtain⟨a1,a2⟩:=hF h;refine aA (bU (by simp;omega)) (hj _ ?_);rw [a2,vBq];rfl
 have h:x2=true:=by simpa using h
 obtain⟨a1,a2⟩:=hT h;rw [a2,vBq,vBn]
theorem aEz(d:List Int): ∀l:List (List Int),(rR l d).length=l.length+1
 | []=>rfl
 |x::xs=>by
  unfold rR;split
  ·rfl
  rw [List.length_cons,aEz d xs];rfl
theorem aFp(l:List (List Int))(d:List Int):(qZ l d).length≤l.length+1:=by
 unfold qZ;split
 ·omega
 rw [aEz];omega
def dif(I:List Inst)(part:Int)(d:Dep):Option (List Int):=match I[d.fromF.toNat]?,I[d.toF.toNat]? with
 |some a,some b=>if a.part=part∧b.part=part then some (minusL b.point a.point) else none
 |_,_=>none
def xD(p:Prog)(part:Int):List (List Int):=(jO p (insts p.parts) (insts p.parts).length).filterMap (dif (insts p.parts) part)
theorem inst_pt{p:Prog}(hv:bV p=true){x:Inst}(hx:eZ p x): ∃P,p.parts[x.part.toNat]? =some P∧0≤x.part∧x.point.length=P.nest.length∧x.point.length≤4∧ ∀y∈x.point,jU 9999 y:=by obtain⟨hl,hd,h4,hpo,hil⟩:=fX hv;obtain⟨i,k,P,s,e1,e2,e3,e4,e5⟩:=hx;obtain⟨q1,q2,q3,q4⟩:=gE (hpo P (cN e3));obtain⟨hf,hp1,hp2,hp3,hp4⟩:=aFx q1;have hs:=cN e4;have hpt:=(q4 s hs _ e5).2;unfold ptV at hpt;simp only [Bool.and_eq_true,decide_eq_true_eq,List.all_eq_true] at hpt;exact⟨P,by rw [e1,vAG];exact e3,by omega,(hp2 _ e5).1,hpt.1,fun y hy=>hpt.2 y hy⟩
theorem aNg{I:List Inst}{part:Int}(h: ∀x∈I,x.point.length≤4){d:Dep}{v:List Int}(hv:dif I part d=some v):v.length≤4:=by
 unfold dif at hv;split at hv
 ·rename_i a b ha hb;split at hv
  ·cases hv;unfold minusL;rw [vBt]
   have:=h b (cN hb);omega
  cases hv
 cases hv
theorem vW{α β:Type}{f:α→Option β}{l:List α}{i:Nat}{x:α}(h:l[i]? =some x):(l.take (i+1)).filterMap f=(l.take i).filterMap f++(f x).toList:=by rw [xX,h,List.filterMap_append];cases hx:f x<;>simp [hx]
theorem aFV{n:Nat}(hn:20000≤n){p:Prog}(hp:SmP p)(hv:bV p=true)(part:Int):mB n p part=some ((xD p part).foldl qZ []):=by
 have hil:=(fX hv).2.2.2.2;unfold mB;refine Ev.eq (aA (u6 (by omega) hv) (aA (aIA (by omega) hv) ?_));have hok: ∀x∈insts p.parts,eZ p x:=fun x hx=>insts_mem hx;have hD:=aAl (p:=p) hil;have hb:=aLy (p:=p) (l:=insts p.parts);unfold xD;generalize jO p (insts p.parts) (insts p.parts).length=D at*;generalize insts p.parts=I at*;have hpt: ∀x∈I,x.point.length≤4:=fun x hx=>(inst_pt hv (hok x hx)).choose_spec.2.2.2.1;refine Ev.loop (fun x:List (List Int)×Int=> ∃i:Nat,x.2=i∧i≤D.length∧x.1=((D.take i).filterMap (dif I part)).foldl qZ []∧x.1.length≤i∧ ∀y∈x.1,y.length≤4) (fun x=>D.length-x.2.toNat) ?_ n _ ⟨0,rfl,by omega,by simp,by simp,by simp⟩ (by dsimp only;omega);rintro again ⟨x3,k⟩ ⟨i,hk,hi,hx,hlen,hall⟩ hr;dsimp only at hk hx hlen hall⊢;subst hk;refine aH (fun hlt=>?_) fun hge=>Ev.some ?_
 ·have hlt:i<D.length:=by omega
  have e1:=cP hlt;obtain⟨d1,d2,d3⟩:=hb _ (T5 hlt);have ea:=aHU (l:=I) (c:=D[i].fromF) d1 (by omega);have eb:=aHU (l:=I) (c:=D[i].toF) (by omega) (by omega);have ha:=T5 (show D[i].fromF.toNat<I.length by omega);have hbm:=T5 (show D[i].toF.toNat<I.length by omega);have hfa:I[D[i].fromF.toNat]? =some I[D[i].fromF.toNat]:=cP _;have hfb:I[D[i].toF.toNat]? =some I[D[i].toF.toNat]:=cP _;obtain⟨PA,pa1,pa2,pa3,pa4,pa5⟩:=inst_pt hv (hok _ ha);obtain⟨PB,pb1,pb2,pb3,pb4,pb5⟩:=inst_pt hv (hok _ hbm);refine Ev.jn (fun z=>z.2.2.2.2.2.2=((D.take (i+1)).filterMap (dif I part)).foldl qZ []∧z.2.2.2.2.2.2.length≤i+1∧ ∀y∈z.2.2.2.2.2.2,y.length≤4) (fun j hj=>aA (aS e1) (aA ea (aA eb ?_))) fun z hz=>?_
  ·rw [vW e1,List.foldl_append,←hx] at hj;refine Ev.jn (fun z:Bool=>z=decide (I[D[i].fromF.toNat].part=part∧I[D[i].toF.toNat].part=part)) (fun j2 hj2=>aH (fun h=>hj2 _ ?_) fun h=>hj2 _ ?_) fun z hz=>?_
   ·exact decide_eq_decide.2 ⟨fun h2=>⟨h,h2⟩,fun h2=>h2.2⟩
   ·exact(decide_eq_false fun h2=>h h2.1).symm
   subst hz;have hdif:dif I part D[i]=if I[D[i].fromF.toNat].part=part∧I[D[i].toF.toNat].part=part then some (minusL I[D[i].toF.toNat].point I[D[i].fromF.toNat].point) else none:=by
    unfold dif;rw [hfa,hfb]
   refine aH (fun h=>?_) fun h=>hj _ ?_
   ·have hPP:PA=PB:=by
     rw [h.1] at pa1;rw [h.2] at pb1;rw [pa1] at pb1;cases pb1;rfl
    subst hPP;refine aA (aFU (by omega) (by omega) (by omega) pa5 pb5) (aA (aJ6 hn (by omega) (fun y hy=>by have:=hall y hy;omega) (by unfold minusL;rw [vBt];omega)) (hj _ ?_));rw [hdif,if_pos h];dsimp only [Option.toList,List.foldl];refine⟨rfl,?_,fun y hy=>?_⟩
    ·have:=aFp x3 (minusL I[D[i].toF.toNat].point I[D[i].fromF.toNat].point);omega
    rcases aFo.1 hy with rfl|hy
    ·unfold minusL;rw [vBt];omega
    exact hall y hy
   rw [hdif,if_neg h];exact⟨rfl,by dsimp only;omega,hall⟩
  obtain⟨z1,z2,z3⟩:=hz;rw [aQ (by omega)];exact hr _ ⟨i+1,by dsimp only;omega,by omega,z1,z2,z3⟩ (by dsimp only;omega)
 have:i=D.length:=by omega
 subst this;rw [hx,q7]
theorem F8(x:List Int): ∀(y:List Int) (a:List (List Int)),cC ((y::a)++[x])=if(y::a).getLast (by simp)=x then cC (y::a) else cC (y::a)++[x]
 |y,[]=>by
  by_cases h:y=x
  ·subst h;simp [cC]
  simp [cC,h]
 |y,z::a=>by
  have ih:=F8 x z a;rw [List.getLast_cons (by simp)];show cC (y::z::(a++[x]))=_;unfold cC;by_cases h:y=z
  ·rw [if_pos h,if_pos h];exact ih
  rw [if_neg h,if_neg h];have ih':cC (z::(a++[x]))=_:=ih;rw [ih'];split<;>simp
theorem aDf{s:List (List Int)}{m:Nat}(hm:1≤m)(hl:m<s.length):cC (s.take (m+1))=if s[m-1]=s[m] then cC (s.take m) else cC (s.take m)++[s[m]]:=by
 have e:s.take (m+1)=s.take m++[s[m]]:=by rw [xX,cP hl];rfl
 have hne:s.take m≠[]:=by
  intro h
  have:=congrArg List.length h;rw [uI,Nat.min_eq_left (by omega),List.length_nil] at this;omega
 have hlast: ∀h,(s.take m).getLast h=s[m-1]:=fun h=>by
  rw [List.getLast_eq_getElem,List.getElem_take];congr 1;rw [uI];omega
 rw [e];obtain⟨y,a,hya⟩: ∃y a,s.take m=y::a:=by
  cases h:s.take m with
  |nil=>exact absurd h hne
  |cons y a=>exact⟨y,a,rfl⟩
 have hl2:=hlast hne;simp only [hya] at hl2⊢;rw [F8,hl2]
def lvl(d:List Int):Option Nat:=d.findIdx? fun x=> !decide (x=0)
def aCP(d:List Int):Int:=match lvl d with
 |some i=>(i:Int)
 |none=> -1
theorem aGr{n:Nat}{d:List Int}(hd:d.length≤1000)(hn:1000<n):nR n d=some (aCP d):=by
 unfold nR;refine Ev.eq (aA (x:=aCP d) ?_ (Ev.some rfl));unfold gG;refine Ev.eq (Ev.loop (fun x:Int=> ∃i:Nat,x=i∧i≤d.length∧ ∀j,j<i→d.getD j 0=0) (fun x=>d.length-x.toNat) ?_ n _ ⟨0,rfl,by omega,fun j hj=>absurd hj (vBs _)⟩ (by omega));rintro again z ⟨i,rfl,hi,h0⟩ hr;have hz: ∀j (hj:j<d.length),j<i→d[j]=0:=fun j hj hji=>by
  have:=h0 j hji
  rwa [M7,cP hj] at this
 refine aH (fun hlt=>?_) fun hge=>Ev.some ?_
 ·have hlt:i<d.length:=by omega
  have e1:=cP hlt;refine aA (aS e1) (aA (x:= !decide (d[i]=0)) rfl (dI (fun hne=>Ev.some ?_) fun he=>?_))
  ·have:lvl d=some i:=by
    unfold lvl;rw [vBA];exact⟨hlt,by simp [hne],fun j hj=>by simp [hz j (by omega) hj]⟩
   unfold aCP;rw [this]
  rw [aQ (by omega)];refine hr _ ⟨i+1,by omega,by omega,fun j hj=>?_⟩ (by omega);by_cases hji:j=i
  ·subst hji;rw [M7,e1];exact he
  exact h0 j (by omega)
 have:lvl d=none:=by
  unfold lvl;rw [List.findIdx?_eq_none_iff];intro x hx;obtain⟨j,hj⟩:=vAB.1 hx;obtain⟨hjl,rfl⟩:=cH.1 hj;simp [hz j hjl (by omega)]
 unfold aCP;rw [this]
theorem aKG{n:Nat}{p:Prog}(hp:SmP p){i:Nat}{P:Part}(hP:p.parts[i]? =some P):dD n p (i:Int)=some true:=by have hi:=(cH.1 hP).1;rw [w3 n hp.2.1,decide_eq_true (by omega)]
theorem aGj(kp:Nat→Bool)(m:Nat):keptL kp (m+1)=keptL kp m++(if kp m then [m] else []):=by unfold keptL;rw [vBF,List.filter_append];congr 1;by_cases h:kp m<;>simp [h]
theorem aH7(l:List (List Int)): ∀m,m≤l.length→(keptL (ddK l) m).map (fun j=>l.getD j [])=cC (l.take m)
 |0,_=>rfl
 |m+1,h=>by
  have ih:=aH7 l m (by omega);have hm:m<l.length:=by omega
  have e0:l.getD m []=l[m]:=by rw [M7,cP hm];rfl
  rw [aGj,vAN,ih];by_cases h0:m=0
  ·subst h0;have e1:ddK l 0=true:=by simp [ddK]
   rw [e1,if_pos rfl,List.take_zero];show cC []++[l.getD 0 []]=_;rw [e0,xX,cP hm];rfl
  rw [aDf (by omega) hm];have e1:l.getD (m-1) []=l[m-1]:=by rw [M7,cP (by omega)];rfl
  have e2:ddK l m= !decide (l[m-1]=l[m]):=by
   unfold ddK;rw [e0,e1];by_cases hq:l[m-1]=l[m]
   ·simp [h0,hq]
   have hq':l[m]≠l[m-1]:=fun e=>hq e.symm;simp [h0,hq,hq']
  rw [e2];by_cases hq:l[m-1]=l[m]
  ·rw [if_pos hq,decide_eq_true hq];simp
  rw [if_neg hq,decide_eq_false hq];show _++[l.getD m []]=_;rw [e0]
theorem aGM(l:List (List Int)):ddL l=cC l:=by have:=aH7 l l.length (jQ _);rw [q7] at this;exact this
theorem aEC{n:Nat}(hn:20000≤n){p:Prog}(hv:bV p=true)(part:Int):fG n (trc p) part=some ((xD p part).foldl qZ []):=by
 have hil:=(fX hv).2.2.2.2;unfold fG;refine Ev.eq (aA (aIX (by omega) hv) ?_);rw [show(trc p).list=insts p.parts from rfl];have hok: ∀x∈insts p.parts,eZ p x:=fun x hx=>insts_mem hx;have hD:=aAl (p:=p) hil;have hb:=aLy (p:=p) (l:=insts p.parts);unfold xD;generalize jO p (insts p.parts) (insts p.parts).length=D at*;generalize insts p.parts=I at*;have hpt: ∀x∈I,x.point.length≤4:=fun x hx=>(inst_pt hv (hok x hx)).choose_spec.2.2.2.1;refine Ev.loop (fun x:List (List Int)×Int=> ∃i:Nat,x.2=i∧i≤D.length∧x.1=(D.take i).filterMap (dif I part)) (fun x=>D.length-x.2.toNat) ?_ n _ ⟨0,rfl,by omega,by simp⟩ (by dsimp only;omega);rintro again ⟨x3,k⟩ ⟨i,hk,hi,hx⟩ hr;dsimp only at hk hx⊢;subst hk;have hlen:x3.length≤i:=by
  rw [hx];refine vAR (List.length_filterMap_le _ _) ?_;rw [uI];omega
 refine aH (fun hlt=>?_) fun hge=>?_
 ·have hlt:i<D.length:=by omega
  have e1:=cP hlt;obtain⟨d1,d2,d3⟩:=hb _ (T5 hlt);have ea:=aHU (l:=I) (c:=D[i].fromF) d1 (by omega);have eb:=aHU (l:=I) (c:=D[i].toF) (by omega) (by omega);have ha:=T5 (show D[i].fromF.toNat<I.length by omega);have hbm:=T5 (show D[i].toF.toNat<I.length by omega);have hfa:I[D[i].fromF.toNat]? =some I[D[i].fromF.toNat]:=cP _;have hfb:I[D[i].toF.toNat]? =some I[D[i].toF.toNat]:=cP _;obtain⟨PA,pa1,pa2,pa3,pa4,pa5⟩:=inst_pt hv (hok _ ha);obtain⟨PB,pb1,pb2,pb3,pb4,pb5⟩:=inst_pt hv (hok _ hbm);have hdif:dif I part D[i]=if I[D[i].fromF.toNat].part=part∧I[D[i].toF.toNat].part=part then some (minusL I[D[i].toF.toNat].point I[D[i].fromF.toNat].point) else none:=by
   unfold dif;rw [hfa,hfb]
  refine Ev.jn (fun z=>z.1=(D.take (i+1)).filterMap (dif I part)) (fun j hj=>aA (aS e1) (aA ea (aA eb ?_))) fun z hz=>?_
  ·rw [vW e1,←hx] at hj;refine Ev.jn (fun z:Bool=>z= !decide (I[D[i].fromF.toNat].part=part∧I[D[i].toF.toNat].part=part)) (fun j2 hj2=>dI (fun h=>hj2 _ ?_) fun h=>hj2 _ ?_) fun z hz=>?_
   ·rw [decide_eq_false fun h2=>h h2.1];rfl
   ·congr 1;exact decide_eq_decide.2 ⟨fun h2=>⟨h,h2⟩,fun h2=>h2.2⟩
   subst hz;refine dI (fun h=>hj _ ?_) fun h=>?_
   ·rw [hdif,if_neg h];simp
   have hPP:PA=PB:=by
    rw [h.1] at pa1;rw [h.2] at pb1;rw [pa1] at pb1;cases pb1;rfl
   subst hPP;refine aEq (K:=fun x12=>Option.bind (app x3 [x12]) fun x19=>j (x19,D[i].fromF,D[i].toF,D[i].kinds,I[D[i].fromF.toNat].part,I[D[i].fromF.toNat].stmt,I[D[i].fromF.toNat].point,I[D[i].toF.toNat].part,I[D[i].toF.toNat].stmt,I[D[i].toF.toNat].point)) (by omega) (by omega) (by omega) pa5 pb5 ?_;refine aA (bU (by simp;omega)) (hj _ ?_);rw [hdif,if_pos h];rfl
  rw [aQ (by omega)];exact hr _ ⟨i+1,by dsimp only;omega,by omega,hz⟩ (by dsimp only;omega)
 have:i=D.length:=by omega
 subst this;rw [q7] at hx;subst hx;have hall: ∀y∈D.filterMap (dif I part),y.length≤4:=fun y hy=>by
  obtain⟨d,_,hd⟩:=List.mem_filterMap.1 hy;exact aNg hpt hd
 have hsl:(eK (D.filterMap (dif I part))).length≤15000:=by unfold eK;rw [List.length_mergeSort];omega
 refine aA (x:=eK (D.filterMap (dif I part))) (by unfold m_sortL;rw [if_pos ⟨by omega,fun y hy=>by have:=hall y hy;omega⟩]) (Ev.some ?_);rw [aGM];exact aNf _
def dsO(p:Prog)(i:Nat):List (List Int):=(xD p i).foldl qZ []
theorem aGs{n:Nat}(hn:20000≤n){p:Prog}(hp:SmP p)(hv:bV p=true){i:Nat}{P:Part}(hP:p.parts[i]? =some P):mI n p (i:Int)=some (dsO p i):=by unfold mI;refine Ev.eq (aA (aGo (by omega) hp) ?_);rw [if_pos hv];refine b8 (Ev.jn (fun z=>z=false) (fun j hj=>bZ (aA (aKG hp hP) (hj _ rfl))) fun z hz=>?_);rw [hz];exact bZ (aA (aEC hn hv _) (Ev.some rfl))
theorem aDb{p:Prog}{i:Nat}{d:List Int}:d∈dsO p i↔d∈xD p i:=by
 unfold dsO
 have:=(aCZ (xD p i) [] .nil).2 d;simpa using this
theorem aB7: ∀(ds l:List (List Int)),(ds.foldl qZ l).length≤l.length+ds.length
 | [],l=>by simp
 |d::ds,l=>by
  rw [List.foldl_cons]
  have:=aB7 ds (qZ l d)
  have:=aFp l d;rw [List.length_cons];omega
theorem aLs{p:Prog}(hv:bV p=true){i:Nat}:(dsO p i).length≤15000:=by
 have hil:=(fX hv).2.2.2.2;have hD:=aAl (p:=p) hil
 have:=aB7 (xD p i) [];have h2:(xD p i).length≤(jO p (insts p.parts) (insts p.parts).length).length:=by unfold xD;exact List.length_filterMap_le _ _
 unfold dsO;rw [List.length_nil] at this;omega
theorem vX{p:Prog}(hv:bV p=true){i:Nat}{P:Part}(hP:p.parts[i]? =some P){d:List Int}(hd:d∈dsO p i):d.length=P.nest.length∧ ∀x∈d,jU 99999 x:=by
 have hd:=aDb.1 hd;unfold xD at hd;obtain⟨e,_,he⟩:=List.mem_filterMap.1 hd;unfold dif at he;split at he
 ·rename_i a b ha hb;split at he
  ·rename_i hp;cases he;have hak:eZ p a:=insts_mem (cN ha);have hbk:eZ p b:=insts_mem (cN hb);obtain⟨PA,a1,a2,a3,a4,a5⟩:=inst_pt hv hak;obtain⟨PB,b1,b2,b3,b4,b5⟩:=inst_pt hv hbk;rw [hp.1,vAG,hP] at a1;rw [hp.2,vAG,hP] at b1;cases a1;cases b1;unfold minusL;refine⟨by rw [vBt];omega,fun x hx=>?_⟩;obtain⟨u,v,hu,hv2,rfl⟩: ∃u v,u∈b.point∧v∈a.point∧x=u-v:=by
    rw [vAB] at hx;obtain⟨k,hk⟩:=hx;rw [List.getElem?_zipWith] at hk;cases h1:b.point[k]? with
    |none=>rw [h1] at hk;cases hk
    |some u=>
     cases h2:a.point[k]? with
     |none=>rw [h1,h2] at hk;cases hk
     |some v=>
      rw [h1,h2] at hk;cases hk;exact⟨u,v,cN h1,cN h2,rfl⟩
   have q1:=b5 u hu;have q2:=a5 v hv2;unfold jU at*;omega
  cases he
 cases he
def posL(d:List Int):Bool:=match lvl d with
 |some k=>decide (0≤d.getD k 0)
 |none=>true
theorem aKx{d:List Int}{k:Nat}(h:lvl d=some k):k<d.length∧d.getD k 0≠0:=by unfold lvl at h;rw [vBA] at h;obtain⟨h1,h2,_⟩:=h;refine⟨h1,?_⟩;rw [M7,cP h1];simpa using h2
theorem aGq{n:Nat}(hn:20000≤n){p:Prog}(hp:SmP p)(hv:bV p=true){i:Nat}{P:Part}(hP:p.parts[i]? =some P){F:List Int→Option (List Int)}{f:List Int→List Int}(hF: ∀d∈dsO p i,F d=some (f d))(hl: ∀d,(f d).length=d.length):
  R8 n p (i:Int) F=some ((dsO p i).all fun d=>posL (f d)):=by
 unfold R8;refine Ev.eq (aA (aGs hn hp hv hP) ?_);have hlen:=aLs hv (i:=i);have hsh:=fun d hd=>(vX hv hP (d:=d) hd).1;have h4:=(nL ((fX hv).2.2.2.1 P (cN hP))).1;generalize dsO p i=D at hF hlen hsh;refine Ev.loop (fun x:List (List Int)×Int=> ∃k:Nat,x.2=k∧k≤D.length∧x.1.length=D.length∧(∀t,k≤t→x.1[t]? =D[t]?)∧ ∀d∈D.take k,posL (f d)=true) (fun x=>D.length-x.2.toNat) ?_ n _ ⟨0,rfl,by omega,rfl,fun _ _=>rfl,fun d hd=>by simp at hd⟩ (by dsimp only;omega);rintro again ⟨rows,kz⟩ ⟨k,hk,hkl,hrl,hrest,hpos⟩ hr;dsimp only at hk hrl hrest⊢;subst hk;refine aH (fun hlt=>?_) fun hge=>Ev.some ?_
 ·have hlt:k<D.length:=by omega
  have e1:rows[k]? =some D[k]:=by rw [hrest k (jQ _),cP hlt]
  have hm:=T5 hlt;have hle:(f D[k]).length≤4:=by rw [hl,hsh _ hm];exact h4
  refine aA (aS e1) (aA (hF _ hm) (aA (fW (hl _)) (aA (aGr (by omega) (by omega)) (aA (fC (by omega) _) ?_))));have hall: ∀(hq:posL (f D[k])=false),D.all (fun d=>posL (f d))=false:=fun hq=>vAJ.2 ⟨_,hm,by simp [hq]⟩;have go:posL (f D[k])=true→Ev (again (rows.set (k:Int).toNat (f D[k]),wr ((k:Int)+1))) (fun r=>r=D.all fun d=>posL (f d)):=fun hq=>by
   rw [aQ (by omega),vAG];refine hr _ ⟨k+1,by dsimp only;omega,by omega,by dsimp only;rw [vAW];exact hrl,fun t ht=>?_,fun d hd=>?_⟩ (by dsimp only;omega)
   ·dsimp only;rw [vAI (by omega)];exact hrest t (by omega)
   rw [xX,cP hlt] at hd;rcases xJ.1 hd with h|h
   ·exact hpos d h
   have:d=D[k]:=by simpa using h
   subst this;exact hq
  unfold aCP posL at*;cases hlv:lvl (f D[k]) with
  |none=>
   rw [hlv] at go hall;exact aH (fun h=>absurd h (by show¬(0:Int)≤ -1;omega)) (fun _=>go rfl)
  |some t=>
   rw [hlv] at go hall;obtain⟨t1,t2⟩:=aKx hlv;refine aH (fun _=>?_) fun h=>absurd (show(0:Int)≤(t:Int) by omega) h;have e2:=cP t1;have e3:(f D[k]).getD t 0=(f D[k])[t]:=by rw [M7,e2];rfl
   refine aA (aS e2) (aH (fun h=>Ev.some ?_) fun h=>go ?_)
   ·exact(hall (decide_eq_false (by omega))).symm
   exact decide_eq_true (by omega)
 have:k=D.length:=by omega
 subst this;rw [q7] at hpos;exact(vAF.2 hpos).symm
theorem aEd{n:Nat}{d:List Int}(hd:d.length≤1000)(hn:1000<n):nI n d=some (aCP d):=by
 unfold nI;refine Ev.eq (Ev.loop (fun x:Int=> ∃i:Nat,x=i∧i≤d.length∧ ∀j,j<i→d.getD j 0=0) (fun x=>d.length-x.toNat) ?_ n _ ⟨0,rfl,by omega,fun j hj=>absurd hj (vBs _)⟩ (by omega));rintro again z ⟨i,rfl,hi,h0⟩ hr;have hz: ∀j (hj:j<d.length),j<i→d[j]=0:=fun j hj hji=>by
  have:=h0 j hji
  rwa [M7,cP hj] at this
 refine aH (fun hlt=>?_) fun hge=>Ev.some ?_
 ·have hlt:i<d.length:=by omega
  have e1:=cP hlt;refine aA (aS e1) (dI (fun hne=>Ev.some ?_) fun he=>?_)
  ·have:lvl d=some i:=by
    unfold lvl;rw [vBA];exact⟨hlt,by simp [hne],fun j hj=>by simp [hz j (by omega) hj]⟩
   unfold aCP;rw [this]
  rw [aQ (by omega)];refine hr _ ⟨i+1,by omega,by omega,fun j hj=>?_⟩ (by omega);by_cases hji:j=i
  ·subst hji;rw [M7,e1];exact he
  exact h0 j (by omega)
 have:lvl d=none:=by
  unfold lvl;rw [List.findIdx?_eq_none_iff];intro x hx;obtain⟨j,hj⟩:=vAB.1 hx;obtain⟨hjl,rfl⟩:=cH.1 hj;simp [hz j hjl (by omega)]
 unfold aCP;rw [this]
theorem aIy{n:Nat}{d:List Int}(hd:d.length≤1000)(hn:1000<n):zZ n d=some (posL d):=by
 unfold zZ;refine Ev.eq (aA (aEd hd hn) (Ev.jn (fun z:Bool=>z=posL d) (fun j hj=>?_) fun z hz=>Ev.some hz));unfold aCP posL at*;cases hlv:lvl d with
 |none=>
  rw [hlv] at hj;exact aH (fun _=>hj _ rfl) (fun h=>absurd (show(-1:Int)<0 by omega) h)
 |some t=>
  rw [hlv] at hj;obtain⟨t1,t2⟩:=aKx hlv;have e2:=cP t1;have e3:d.getD t 0=d[t]:=by rw [M7,e2];rfl
  refine aH (fun h=>absurd h (show¬(t:Int)<0 by omega)) fun _=>aA (aS e2) (hj _ ?_);exact decide_eq_decide.2 ⟨fun h=>by omega,fun h=>by omega⟩
theorem R9{α:Type}{l:List α}{k:Nat}(h:k<l.length)(z:α):l[k]? =some (l.getD k z):=by rw [M7,cP h];rfl
theorem aLJ(code:List UInt8):Ev (Option.bind (rK N code) fun x1=>Option.bind (A0 N x1) fun x2=>some (x2.1,x2.2.1,x2.2.2.1)) (fun x=>BG 1000 x.1):=by have hN:N=100000:=rfl;refine aM (aMR code) fun x1 r1=>aM (P:=fun x=>BG 1000 x.1) ?_ fun x2 h2=>Ev.some h2;unfold A0;refine aM (aIL r1 (by omega)) fun x1 ⟨h1,r1⟩=>aM (aMX (by omega) r1 (by omega) h1) fun x2 ⟨h2,r2⟩=>aM (i8 N r2 (by omega) (by simp)) fun x3 ⟨_,r3⟩=>aM (i8 N r3 (by omega) (by simp)) fun x4 ⟨_,r4⟩=>aM (i8 N r4 (by omega) (by simp)) fun x5 ⟨_,r5⟩=>Ev.some (h2.mono (show 30≤1000 by omega))
def ltI(x y:Inst):Prop:=x.part<y.part∨x.part=y.part∧(cmpL x.point y.point<0∨x.point=y.point∧x.stmt<y.stmt)
theorem aEu{x y:Inst}(h:ltI x y): ¬ltI y x:=fun h2=>by
 have hf:=gT x.point y.point;have hs:=l5 x.point;rcases h with h|⟨e,h|⟨e2,h⟩⟩<;>rcases h2 with g|⟨_,g|⟨g2,g⟩⟩
 ·omega
 ·omega
 ·omega
 ·omega
 ·omega
 ·rw [g2] at h;omega
 ·omega
 ·rw [←e2] at g;omega
 omega
theorem aIc: ∀p a b:List Int,cmpL (p++a) (p++b)=cmpL a b
 | [],_,_=>rfl
 |x::p,a,b=>by simp only [List.cons_append,cmpL];rw [if_neg (by omega),if_neg (by omega)];exact aIc p a b
theorem W3: ∀(ls:List Loop) (p:List Int) {x:List Int},x∈pts ls p→ ∃t,x=p++t∧t.length=ls.length
 | [],p,x,h=>⟨[],by simpa [pts] using h,rfl⟩
 |l::ls,p,x,h=>by simp only [pts] at h;obtain⟨v,_,h⟩:=vBN.1 h;obtain⟨t,rfl,ht⟩:=W3 ls _ h;exact⟨v::t,by simp,by simp [ht]⟩
theorem aOx(lo hi:Int):(jS lo hi).Pairwise (fun a b=>a<b):=by unfold jS;rw [List.pairwise_map];exact List.pairwise_lt_range.imp fun h=>by omega
theorem aKi: ∀(ls:List Loop) (p:List Int),SS (pts ls p)
 | [],p=>List.pairwise_singleton _ _
 |l::ls,p=>by simp only [pts];refine List.pairwise_flatMap.2 ⟨fun v _=>aKi ls _,(aOx _ _).imp fun {v w} h x hx y hy=>?_⟩;obtain⟨s,rfl,_⟩:=W3 ls _ hx;obtain⟨t,rfl,_⟩:=W3 ls _ hy;rw [vAL,vAL,aIc];simp only [List.cons_append,cmpL];rw [if_pos h];omega
theorem insts_ss{p:Prog}(hv:bV p=true):(insts p.parts).Pairwise ltI:=by
 unfold insts;refine List.pairwise_flatMap.2 ⟨fun y hy=>?_,?_⟩
 ·obtain⟨P,i⟩:=y;have hP:=vBb.1 hy;have hok:=(fX hv).2.2.2.1 P (cN hP);dsimp only;unfold instP;rw [vG hok];refine List.pairwise_flatMap.2 ⟨fun q _=>?_,(aKi _ _).imp fun {q r} h x hx y hy=>?_⟩
  ·rw [List.pairwise_map];exact List.pairwise_lt_range.imp fun h=> .inr ⟨rfl,.inr ⟨rfl,by dsimp only;omega⟩⟩
  obtain⟨_,_,rfl⟩:=I6.1 hx;obtain⟨_,_,rfl⟩:=I6.1 hy;exact .inr ⟨rfl,.inl h⟩
 rw [vBg];intro i j hi hj hij x hx y hy;rw [List.getElem_zipIdx] at hx hy;unfold instP at hx hy;obtain⟨_,_,hx⟩:=vBN.1 hx;obtain⟨_,_,rfl⟩:=I6.1 hx;obtain⟨_,_,hy⟩:=vBN.1 hy;obtain⟨_,_,rfl⟩:=I6.1 hy;exact .inl (by dsimp only;omega)
theorem W5: ∀a b:List Int,a.length=b.length→posL (minusL b a)= !decide (cmpL b a<0)
 | [],[],_=>rfl
 | [],_::_,h=>by simp at h
 |_::_,[],h=>by simp at h
 |x::a,y::b,h=>by
  have ih:=W5 a b (by simpa using h);have e:minusL (y::b) (x::a)=(y-x)::minusL b a:=rfl;have ec:cmpL (y::b) (x::a)=if y<x then-1 else if x<y then 1 else cmpL b a:=rfl
  rw [e,ec];clear ec;by_cases hxy:y=x
  ·subst hxy;rw [if_neg (by omega),if_neg (by omega),←ih,Int.sub_self];unfold posL lvl;rw [List.findIdx?_cons];simp only [decide_true,Bool.not_true,Bool.false_eq_true,if_false];cases (minusL b a).findIdx? (fun x=> !decide (x=0)) with
   |none=>rfl
   |some k=>rfl
  have hl:lvl ((y-x)::minusL b a)=some 0:=by
   unfold lvl;rw [List.findIdx?_cons,if_pos (by simp;omega)]
  unfold posL;rw [hl];dsimp only;rw [List.getD_cons_zero];by_cases h2:y<x
  ·rw [if_pos h2,decide_eq_false (by omega),decide_eq_true (by omega)];rfl
  rw [if_neg h2,if_pos (by omega),decide_eq_true (by omega),decide_eq_false (by omega)];rfl
def movI(i:Nat)(τ:List Int→List Int)(x:Inst):Inst:=if x.part=(i:Int) then⟨x.part,x.stmt,τ x.point⟩ else x
theorem K2(i:Nat)(τ:List Int→List Int)(x:Inst):(movI i τ x).part=x.part:=by unfold movI;split<;>rfl
theorem s9{i:Nat}{τ:List Int→List Int}: ∀x:Inst,x.part≠(i:Int)→movI i τ x=x:=fun x hx=>by unfold movI;rw [if_neg hx]
theorem K9{α β:Type}{f g:α→List β}: ∀{l:List α},(∀x∈l,(f x).Perm (g x))→(l.flatMap f).Perm (l.flatMap g)
 | [],_=> .nil
 |x::l,h=>by rw [vBE,vBE];exact(h x wI).append (K9 fun y hy=>h y (sO x hy))
theorem insts_perm{ps:List Part}{i:Nat}{P P':Part}(hP:ps[i]? =some P){σ:Inst→Inst}(h1:(instP i P').Perm ((instP i P).map σ))(h2: ∀x,x.part≠(i:Int)→σ x=x):(insts (ps.set i P')).Perm ((insts ps).map σ):=by
 unfold insts;rw [vBO];have e:(ps.set i P').zipIdx=ps.zipIdx.map (fun y=>if y.2=i then(P',i) else y):=by
  refine List.ext_getElem? fun j=>?_;rw [List.getElem?_zipIdx,sN,List.getElem?_zipIdx];by_cases hj:i=j
  ·subst hj;rw [vAA (cH.1 hP).1,hP];simp
  rw [vAI hj];cases ps[j]? with
  |none=>rfl
  |some y=>
   have: ¬j=i:=fun h=>hj h.symm;simp [this]
 rw [e,List.flatMap_map];refine K9 fun y hy=>?_;obtain⟨x,j⟩:=y;have hx:=vBb.1 hy;dsimp only at hx⊢;by_cases hji:j=i
 ·subst hji;rw [hP] at hx;cases hx;rw [if_pos rfl];exact h1
 rw [if_neg hji];refine .of_eq (vN fun z hz=>h2 z ?_).symm;unfold instP at hz;obtain⟨q,_,hz⟩:=vBN.1 hz;obtain⟨t,_,rfl⟩:=I6.1 hz;dsimp only;omega
theorem instP_perm{i:Nat}{τ:List Int→List Int}{P P':Part}(h1:(dM P').Perm ((dM P).map τ))(h2:P'.body.length=P.body.length):(instP i P').Perm ((instP i P).map (movI i τ)):=by unfold instP;rw [h2,vBO];refine(h1.flatMap_right _).trans (.of_eq ?_);rw [List.flatMap_map];refine S2 fun q _=>?_;rw [vBS];refine rO fun t _=>?_;show _=movI i τ _;unfold movI;rw [if_pos rfl]
structure Mov (p q:Prog) (i:Nat) (τ:List Int→List Int):Prop where
 arr:q.arrays=p.arrays
 perm:(insts q.parts).Perm ((insts p.parts).map (movI i τ))
 cells: ∀x∈insts p.parts,rc q (movI i τ x)=rc p x∧wc q (movI i τ x)=wc p x
 run: ∀x∈insts p.parts,∀m,runI q m (movI i τ x)=runI p m x
theorem aEp{p:Prog}(hv:bV p=true){i:Nat}{P P':Part}(hP:p.parts[i]? =some P){F:Affine→Affine}(hb:P'.body=P.body.map (o9 F)){τ:List Int→List Int}(hev: ∀q:List Int,q.length=P.nest.length→ ∀y,bO y=true→cI (F y) (τ q)=cI y q){x:Inst}(hx:eZ p x):
  ∃s s' d,qO p x=some s∧qO ⟨p.arrays,p.parts.set i P'⟩ (movI i τ x)=some s'∧fN s d=true∧
   (∀a,gN a d=true→cV p.arrays (if x.part=(i:Int) then dZ F a else a) (movI i τ x).point 0=cV p.arrays a x.point 0)∧
   (s'.write=if x.part=(i:Int) then dZ F s.write else s.write)∧
   (b9 5 s'.value=(b9 5 s.value).map fun a=>if x.part=(i:Int) then dZ F a else a)∧
   ∀m,qK 5 p.arrays m s'.value (movI i τ x).point=qK 5 p.arrays m s.value x.point:=by
 obtain⟨i',k',Q,s,d,e1,e2,e3,e4,e5,e6,e7,e8⟩:=inst_d hv hx;have hi:=(cH.1 hP).1;by_cases hxi:x.part=(i:Int)
 ·obtain rfl:i'=i:=by omega
  rw [hP] at e3;cases e3;have hev:=hev x.point e7.1;have hs:movI i' τ x=⟨x.part,x.stmt,τ x.point⟩:=by unfold movI;rw [if_pos hxi]
  refine⟨s,o9 F s,d,e5,?_,e6,fun a ha=>?_,?_,?_,fun m=>?_⟩
  ·rw [hs];unfold qO;dsimp only;rw [e1,vAG,vAA hi];show(P'.body[x.stmt.toNat]?)=_;rw [hb,sN,e2,vAG,e4];rfl
  ·rw [if_pos hxi,hs];exact aGO (fun y hy=>hev y ((uH ha).2.2 y hy)) _ _
  ·rw [if_pos hxi];rfl
  ·simp only [if_pos hxi];exact aHF (jY e6).2.1
  rw [hs];exact aJF hev _ m (jY e6).2.1
 have hs:movI i τ x=x:=s9 x hxi;refine⟨s,s,d,e5,?_,e6,fun a ha=>?_,?_,?_,fun m=>?_⟩
 ·rw [hs,←e5];unfold qO;dsimp only;rw [vAI (by omega)]
 ·rw [if_neg hxi,hs]
 ·rw [if_neg hxi]
 ·simp only [if_neg hxi,List.map_id']
 rw [hs]
theorem aOA{p:Prog}(hv:bV p=true){i:Nat}{P P':Part}(hP:p.parts[i]? =some P){F:Affine→Affine}(hb:P'.body=P.body.map (o9 F)){τ:List Int→List Int}(hev: ∀q:List Int,q.length=P.nest.length→ ∀y,bO y=true→cI (F y) (τ q)=cI y q)(hpts:(dM P').Perm ((dM P).map τ)):Mov p ⟨p.arrays,p.parts.set i P'⟩ i τ where
 arr:=rfl
 perm:=insts_perm hP (instP_perm hpts (by rw [hb,qL])) s9
 cells x hx:=by
  obtain⟨s,s',d,s1,s2,s3,s4,s5,s6,s7⟩:=aEp hv hP hb hev (insts_mem hx);obtain⟨c1,_,c3,_⟩:=jY s3;unfold rc wc;rw [s1,s2];dsimp only;rw [s5,s6,vBS,s4 _ c1];exact⟨rO fun a ha=>s4 a (c3 a ha),rfl⟩
 run x hx m:=by obtain⟨s,s',d,s1,s2,s3,s4,s5,s6,s7⟩:=aEp hv hP hb hev (insts_mem hx);obtain⟨c1,_,c3,_⟩:=jY s3;unfold runI;rw [s1,s2];dsimp only;rw [s5,s4 _ c1,s7 m]
theorem aBY{p:Prog}{a b:Inst}:uC p a b≠0↔aDe p a b:=by unfold uC aDe;by_cases h1:(wc p a:Int)∈rc p b<;>by_cases h2:(wc p b:Int)∈rc p a<;>by_cases h3:wc p a=wc p b<;>(first|rw [if_pos h1]|rw [if_neg h1])<;>(first|rw [if_pos h2]|rw [if_neg h2])<;>(first|rw [if_pos h3]|rw [if_neg h3])<;>simp [h1,h2,h3]
theorem aLz{p:Prog}{a b:Inst}(h:aDe p a b):aDe p b a:=by
 rcases h with h|h|h
 ·exact .inr (.inl h)
 ·exact .inl h
 exact .inr (.inr h.symm)
theorem F5{p:Prog}{i:Nat}{d:List Int}:d∈xD p i↔ ∃j k:Nat,∃a b:Inst,j<k∧(insts p.parts)[j]? =some a∧(insts p.parts)[k]? =some b∧aDe p a b∧a.part=(i:Int)∧b.part=(i:Int)∧d=minusL b.point a.point:=by
 unfold xD;rw [List.mem_filterMap];constructor
 ·rintro⟨e,he,hd⟩;obtain⟨j,k,hjk,hk,hkd,rfl⟩:=X8.1 he;have ha:=cP (show j<(insts p.parts).length by omega);have hb:=cP hk;rw [D6 ha hb] at hkd;unfold dif at hd;dsimp only at hd;rw [vAG,vAG,ha,hb] at hd;dsimp only at hd;split at hd
  ·rename_i hp;cases hd;exact⟨j,k,_,_,hjk,ha,hb,aBY.1 hkd,hp.1,hp.2,rfl⟩
  cases hd
 rintro⟨j,k,a,b,hjk,ha,hb,hc,h1,h2,rfl⟩;refine⟨_,X8.2 ⟨j,k,hjk,(cH.1 hb).1,?_,rfl⟩,?_⟩
 ·rw [D6 ha hb];exact aBY.2 hc
 unfold dif;dsimp only;rw [vAG,vAG,ha,hb];dsimp only;rw [if_pos ⟨h1,h2⟩]
theorem L5{p:Prog}(hv:bV p=true){i:Nat}{P:Part}(hP:p.parts[i]? =some P){a:Inst}(ha:a∈insts p.parts)(h:a.part=(i:Int)):a.point.length=P.nest.length∧ ∀y∈a.point,jU 9999 y:=by obtain⟨Q,q1,_,q2,_,q4⟩:=inst_pt hv (insts_mem ha);rw [h,vAG,hP] at q1;cases q1;exact⟨q2,q4⟩
theorem aLx{p:Prog}(hv:bV p=true){i:Nat}{P:Part}(hP:p.parts[i]? =some P){d:List Int}(hd:d∈xD p i):posL d=true:=by
 obtain⟨j,k,a,b,hjk,ha,hb,_,h1,h2,rfl⟩:=F5.1 hd;have hla:=(L5 hv hP (cN ha) h1).1;have hlb:=(L5 hv hP (cN hb) h2).1;rw [W5 _ _ (by omega)];have hs:=vBg.1 (insts_ss hv) j k (cH.1 ha).1 (cH.1 hb).1 hjk;rw [(cH.1 ha).2,(cH.1 hb).2] at hs;have hf:=gT a.point b.point;have h0:=l5 a.point;rcases hs with h|⟨_,h|⟨h,_⟩⟩
 ·omega
 ·rw [decide_eq_false (by omega)];rfl
 rw [←h,decide_eq_false (by omega)];rfl
structure Kept (p:Prog) (i:Nat) (P:Part) (τ f:List Int→List Int):Prop where
 pos:(dsO p i).all (fun d=>posL (f d))=true
 dist: ∀a b:List Int,a.length=P.nest.length→b.length=P.nest.length→f (minusL b a)=minusL (τ b) (τ a)
 len: ∀a:List Int,a.length=P.nest.length→(τ a).length=P.nest.length
 inj: ∀a b:List Int,a.length=P.nest.length→b.length=P.nest.length→τ a=τ b→a=b
theorem aM2{p:Prog}(hv:bV p=true){i:Nat}{P:Part}(hP:p.parts[i]? =some P){τ f:List Int→List Int}(hK:Kept p i P τ f):(insts p.parts).Pairwise (fun a b=>aDe p a b→ltI (movI i τ a) (movI i τ b)):=by
 rw [vBg];intro j k hj hk hjk hc;have hs:=vBg.1 (insts_ss hv) j k hj hk hjk;have ha:=cP hj;have hb:=cP hk;generalize (insts p.parts)[j]=a at*;generalize (insts p.parts)[k]=b at*;unfold ltI;rw [K2,K2];rcases hs with h|⟨h,hs⟩
 ·exact .inl h
 refine .inr ⟨h,?_⟩;by_cases hi:a.part=(i:Int)
 ·have hbi:b.part=(i:Int):=by omega
  obtain⟨la,_⟩:=L5 hv hP (cN ha) hi;obtain⟨lb,_⟩:=L5 hv hP (cN hb) hbi;have hd:minusL b.point a.point∈dsO p i:=aDb.2 (F5.2 ⟨j,k,a,b,hjk,ha,hb,hc,hi,hbi,rfl⟩);have hpos:=vAF.1 hK.pos _ hd;rw [hK.dist _ _ la lb,W5 _ _ (by rw [hK.len _ la,hK.len _ lb])] at hpos;have hn: ¬cmpL (τ b.point) (τ a.point)<0:=by simpa using hpos
  have hf:=gT (τ a.point) (τ b.point);unfold movI;rw [if_pos hi,if_pos hbi];dsimp only;by_cases h0:cmpL (τ a.point) (τ b.point)=0
  ·have e:=hK.inj _ _ la lb (pJ h0);refine .inr ⟨pJ h0,?_⟩;rcases hs with hs|⟨_,hs⟩
   ·have:=l5 b.point;rw [e] at hs;omega
   exact hs
  exact .inl (by omega)
 rw [s9 a hi,s9 b (by omega)];exact hs
theorem aKt{p q:Prog}(hv:bV p=true)(hw:bV q=true){i:Nat}{P:Part}(hP:p.parts[i]? =some P){τ f:List Int→List Int}(hM:Mov p q i τ)(hK:Kept p i P τ f){d:List Int}(hd:d∈xD q i): ∃e∈xD p i,d=f e:=by
 obtain⟨j,k,x,y,hjk,hx,hy,hc,h1,h2,rfl⟩:=F5.1 hd;have hs:=vBg.1 (insts_ss hw) j k (cH.1 hx).1 (cH.1 hy).1 hjk;rw [(cH.1 hx).2,(cH.1 hy).2] at hs;obtain⟨a,ha,rfl⟩:=I6.1 (hM.perm.subset (cN hx));obtain⟨b,hb,rfl⟩:=I6.1 (hM.perm.subset (cN hy));rw [K2] at h1 h2;obtain⟨a1,a2⟩:=hM.cells a ha;obtain⟨b1,b2⟩:=hM.cells b hb;have hc:aDe p a b:=by
  unfold aDe at hc⊢
  rwa [a1,a2,b1,b2] at hc
 obtain⟨la,_⟩:=L5 hv hP ha h1;obtain⟨lb,_⟩:=L5 hv hP hb h2;have e1:(movI i τ a).point=τ a.point:=by unfold movI;rw [if_pos h1]
 have e2:(movI i τ b).point=τ b.point:=by unfold movI;rw [if_pos h2]
 have hk:=vBg.1 (aM2 hv hP hK);obtain⟨ia,ha⟩:=vAB.1 ha;obtain⟨ib,hb⟩:=vAB.1 hb;have hal:=(cH.1 ha).1;have hbl:=(cH.1 hb).1;have hae:=(cH.1 ha).2;have hbe:=(cH.1 hb).2;rcases Nat.lt_trichotomy ia ib with h|h|h
 ·exact⟨_,F5.2 ⟨ia,ib,a,b,h,ha,hb,hc,h1,h2,rfl⟩,by rw [e1,e2,hK.dist _ _ la lb]⟩
 ·subst h;rw [ha] at hb;cases hb;exact(aEu hs hs).elim
 have:=hk ib ia hbl hal h;rw [hae,hbe] at this;exact(aEu hs (this (aLz hc))).elim
def xC(k:Nat)(c:Int):Affine:=⟨[0,0,0,0].set k (-1),c⟩
def lQ(k:Nat)(c:Int)(x:Affine):Affine:=aIv x k (xC k c)
def rN(k:Nat)(d:List Int):List Int:=d.set k (0-d.getD k 0)
def o7(l:Loop):Int:=kC l.lo+kC l.hi-1
def qS(k:Nat)(c:Int)(P:Part):Part:=⟨P.nest.take (k+1)++(P.nest.drop (k+1)).map (d9 (lQ k c)),P.body.map (o9 (lQ k c))⟩
def vE(p:Prog)(i k:Nat)(l:Loop):Bool:=kF l&&(dsO p i).all fun d=>posL (rN k d)
def yC(p:Prog)(part loop:Int):Prog×Bool:=
 if jN p part loop=true then
  match ix p.parts part with
  |some P=>match ix P.nest loop with
   |some l=>if vE p part.toNat loop.toNat l=true then aAb ⟨p.arrays,p.parts.set part.toNat (qS loop.toNat (o7 l) P)⟩ else noP
   |none=>noP
  |none=>noP
 else noP
theorem aEi(k:Nat)(d:List Int):(rN k d).length=d.length:=by simp [rN]
theorem C6{p:Prog}{i k:Nat}{P:Part}{l:Loop}(h:jN p (i:Int) (k:Int)=true)(hP:p.parts[i]? =some P)(hl:P.nest[k]? =some l):yC p i k=if vE p i k l=true then aAb ⟨p.arrays,p.parts.set i (qS k (o7 l) P)⟩ else noP:=by unfold yC;rw [if_pos h,aS hP];dsimp only;rw [aS hl];simp only [Int.toNat_natCast]
theorem aHD{k:Nat}(hk:k<4){c:Int}(hc:jU 999 c):bB 1000 (xC k c):=by unfold jU at hc;rcases(show k=0∨k=1∨k=2∨k=3 by omega) with rfl|rfl|rfl|rfl<;>(unfold bB jU xC;simp;omega)
theorem aHE(k:Nat)(c:Int): ∀x,bO x=true→BA 4 (lQ k c x):=fun x hx=>by have:=aO2 ⟨x.coefs.set k 0,x.const⟩ (xC k c) (x.coefs.getD k 0) (by dsimp only;rw [vAW];exact(hJ hx).1) (by simp [xC]);unfold BA lQ aIv;omega
theorem K3{l:List Affine}(h: ∀x∈l,bO x=true):jU 99 (kC l):=by
 unfold kC;cases l with
 |nil=>unfold jU;simp
 |cons x t=>exact(hJ (h x wI)).2.1
theorem aFZ{l:Loop}(h:yL l):jU 999 (o7 l):=by have h1:=K3 h.1.2;have h2:=K3 h.2.2;unfold jU at*;unfold o7;omega
theorem aIV(n:Nat){k:Nat}{d:List Int}(hk:k<d.length)(hd: ∀x∈d,jU 99999 x):fB n d (k:Int)=some (rN k d):=by have e:=R9 hk (0:Int);have hb:=hd _ (cN e);unfold jU at hb;unfold fB;refine Ev.eq (aA (aS e) ?_);rw [aQ (by omega)];refine aA (fC (by omega) _) (Ev.some ?_);rw [vAG];rfl
theorem aL9(n:Nat){k:Nat}(hk:k<4):yN n (k:Int) (-1)=some ⟨[0,0,0,0].set k (-1),0⟩:=by rcases(show k=0∨k=1∨k=2∨k=3 by omega) with rfl|rfl|rfl|rfl<;>rfl
theorem aIU{n:Nat}(hn:5000≤n){k:Nat}(hk:k<4){c:Int}(hc:jU 999 c): ∀x,bO x=true→fA n x (k:Int) (xC k c)=some (lQ k c x):=fun x hx=>by unfold fA;rw [aGp hn ((aLL hx).mono (by omega)) (aHD hk hc) hk];rfl
theorem aJ1{k:Nat}(hk:k<4){c:Int}(hc:jU 999 c): ∀n,5000≤n→ ∀x,bO x=true→iA n x 1 (k:Int) (xC k c)=some (lQ k c x):=fun n hn x hx=>by unfold iA;rw [aFR hn ((aLL hx).mono (by omega)) (aHD hk hc) hk];rfl
theorem aOv{n:Nat}(hn:5000≤n){k:Nat}(hk:k<4){c:Int}(hc:jU 999 c):eG n ⟨[0,0,0,0],c⟩ 1 (aDW k) (-1)=some (xC k c):=by unfold jU at hc;rw [aEc hn (by unfold bB jU;simp;omega) ((aMg hk).mono (by omega)) ⟨by omega,by omega⟩ ⟨by omega,by omega⟩];rcases(show k=0∨k=1∨k=2∨k=3 by omega) with rfl|rfl|rfl|rfl<;>simp [aNi,aDW,xC]
theorem aFY{list:List Arr}{P:Part}(hP:cQ list P=true){k:Nat}(hk:k<P.nest.length)(c:Int):BPt 4 (qS k c P):=by
 obtain⟨h1,h2⟩:=nL hP;obtain⟨_,h4,h5,_⟩:=gE hP;refine⟨⟨by simp only [qS,List.length_append,List.length_map,List.length_take,List.length_drop];omega,fun y hy=>?_⟩,by simp only [qS,List.length_map];exact h4.2,fun s hs=>?_⟩
 ·rcases xJ.1 hy with hy|hy
  ·exact(aO0 hP).1.2 y (vAC hy)
  obtain⟨z,hz,rfl⟩:=I6.1 hy;exact aNs (aHE k c) (h2 z (vAH hz))
 obtain⟨z,hz,rfl⟩:=I6.1 hs;exact aOZ (aHE k c) (h5 z hz)
theorem aMN{p:Prog}(hp:BG 1000 p)(part loop:Int):BG 1000 (yC p part loop).1:=by
 by_cases hb:jN p part loop=true
 ·obtain⟨hv,i,k,P,l,rfl,rfl,hP,hl,hi,hkl,hok,hk⟩:=Z7 hb;rw [C6 hb hP hl];split
  ·exact aNa (aLG hp i (aFY hok hkl _))
  exact aKq
 unfold yC;rw [if_neg hb];exact aKq
theorem aEB{n:Nat}(hn:20000≤n){p:Prog}(hp:BG 1000 p)(part loop:Int):jM n p part loop=some (yC p part loop):=by
 unfold jM;by_cases hneg:loop= -1
 ·subst hneg;unfold yC;rw [if_neg fun h=>by rw [aED (by omega)] at h;cases h];exact Ev.eq (aM (aJf (by omega) hp part) fun x1 h1=>Ev.cond (fun _=>aH (fun _=>Ev.some rfl) fun h=>absurd (show(-1:Int)<0 by omega) h) fun _=>Ev.some rfl)
 refine Ev.eq (aA (aLH (by omega) hp part loop hneg) ?_);by_cases hb:jN p part loop=true
 ·rw [if_pos hb];refine b8 (aH (fun h=>by rw [aED h] at hb;cases hb) fun h0=>?_);obtain⟨hv,i,k,P,l,rfl,rfl,hP,hl,hi,hkl,hok,hk⟩:=Z7 hb;obtain⟨h1,h2⟩:=nL hok;obtain⟨_,h4,h5,_⟩:=gE hok;have hlp:=h2 l (cN hl);rw [C6 hb hP hl];refine aA (aS hP) (aA (aS hl) (aA (aKT (by omega) hlp) ?_));cases hf:kF l with
  |false=>exact bZ (Ev.some (by rw [if_neg (by unfold vE;rw [hf];simp)];rfl))
  |true=>
   refine b8 (aA (aGq hn hp.sm hv hP (F:=fun q0=>fB n q0 (k:Int)) (f:=rN k) (fun d hd=>aIV n (by have:=(vX hv hP hd).1;omega) (vX hv hP hd).2) (aEi k)) (Ev.cond (fun hd=>?_) fun hd=>Ev.some ?_))
   ·rw [show vE p i k l=true by unfold vE;rw [hf,hd];rfl];refine aA (aL9 n hk) ?_;have hc:=aFZ hlp;have h1c:=K3 hlp.1.2;have h2c:=K3 hlp.2.2;unfold jU at h1c h2c;have hcc:(⟨([0,0,0,0]:List Int).set k (-1),wr ((wr (kC l.lo+kC l.hi))-1)⟩:Affine)=xC k (o7 l):=by
     rw [aQ (n:=kC l.lo+kC l.hi) (by omega),aQ (by omega)];rfl
    rw [aQ (n:=(k:Int)+1) (by omega)];have hch:=aA6 (n:=n) (by omega) (nest:=P.nest) (body:=P.body) (s:=k+1) (by omega) h1 (fun y hy=>h2 y (vAH hy)) h4.2 h5 (F:=fun q0=>fA n q0 (k:Int) (⟨([0,0,0,0]:List Int).set k (-1),wr ((wr (kC l.lo+kC l.hi))-1)⟩:Affine)) (f:=lQ k (o7 l)) fun x hx=>by rw [hcc];exact aIU (by omega) hk hc x hx
    rw [show(k:Int)+1=((k+1:Nat):Int) by omega];refine aA hch (aA (fC (by dsimp only;omega) _) ?_);rw [vAG];exact aA (aEJ (by omega) (aLG hp i (aFY hok hkl (o7 l)))) (Ev.some rfl)
   rw [if_neg (by unfold vE;rw [hf,hd];simp)];rfl
 unfold yC;rw [if_neg hb,if_neg hb];exact bZ (Ev.some rfl)
theorem aJ4{n:Nat}(hn:20000≤n){p:Prog}(hp:BG 1000 p)(part loop:Int):mE n p part loop=some (yC p part loop):=by
 unfold mE;refine Ev.eq (aA (aGc (by omega) hp) (aA (aOM (by omega) hp part loop) ?_));by_cases hb:jN p part loop=true;rotate_left
 ·unfold yC;rw [if_neg hb,show jN p part loop=false by simpa using hb];exact b8 (Ev.some rfl)
 rw [hb];refine bZ ?_;obtain⟨hv,i,k,P,l,rfl,rfl,hP,hl,hi,hkl,hok,hk⟩:=Z7 hb;obtain⟨h1,h2⟩:=nL hok;obtain⟨_,h4,h5,_⟩:=gE hok;have hlp:=h2 l (cN hl);rw [C6 hb hP hl];refine aA (aS hP) (aA (aS hl) (aA (aJa (by omega) hlp) (aA (x:=dsO p i) (aFV hn hp.sm hv _) ?_)));have hlen:=aLs hv (i:=i);have hsh:=fun d hd=>vX hv hP (d:=d) hd;have hrv:vE p i k l=(kF l&&(dsO p i).all fun d=>posL (rN k d)):=rfl;rw [hrv];have h3:(if kF l=true then(kC l.lo,kC l.hi,true) else((0:Int),(0:Int),false)).2.2=kF l:=by cases kF l<;>rfl
 generalize dsO p i=D at hlen hsh;refine Ev.loop (fun x:Bool×Int=> ∃m:Nat,x.2=m∧m≤D.length∧x.1=(kF l&&(D.take m).all fun d=>posL (rN k d))) (fun x=>D.length-x.2.toNat) ?_ n _ ⟨0,rfl,by omega,by dsimp only;rw [h3,List.take_zero];simp⟩ (by dsimp only;omega);rintro again ⟨ok,z⟩ ⟨m,hz,hm,hpos⟩ hr;dsimp only at hz hpos⊢;subst hz;refine aH (fun hlt=>?_) fun hge=>?_
 ·have hlt:m<D.length:=by omega
  have e1:=cP hlt;obtain⟨g1,g2⟩:=hsh _ (T5 hlt);have e2:=R9 (l:=D[m]) (k:=k) (by omega) 0;have hb:=g2 _ (cN e2);unfold jU at hb;refine Ev.jn (fun z=>z.2=(kF l&&(D.take (m+1)).all fun d=>posL (rN k d))) (fun j hj=>?_) fun z hz=>?_
  ·refine aA (aS e1) (aA (bU (by simp;omega)) ?_);rw [List.nil_append];refine aA (aS e2) ?_;rw [aQ (by omega)];refine aA (fC (by omega) _) ?_;rw [vAG];have hall:(D.take (m+1)).all (fun d=>posL (rN k d))=((D.take m).all (fun d=>posL (rN k d))&&posL (rN k D[m])):=by
    rw [xX,e1,List.all_append];simp
   rw [hall,←vBc,←hpos] at hj;cases ok with
   |true=>exact b8 (aA (x:=posL (rN k D[m])) (aIy (d:=rN k D[m]) (by rw [aEi];omega) (by omega)) (hj _ (by rw [vAV])))
   |false=>exact bZ (hj _ (by rw [Bool.false_and]))
  rw [aQ (by omega)];exact hr _ ⟨m+1,by dsimp only;omega,by omega,hz⟩ (by dsimp only;omega)
 have:m=D.length:=by omega
 subst this;rw [q7] at hpos;rw [←hpos];cases hok2:ok with
 |false=>exact b8 (Ev.some (by rw [if_neg (by simp)];rfl))
 |true=>
  rw [if_pos rfl];have hf:kF l=true:=by
   rw [hok2] at hpos;cases hf:kF l with
   |true=>rfl
   |false=>rw [hf] at hpos;cases hpos
  have h1c:=K3 hlp.1.2;have h2c:=K3 hlp.2.2;unfold jU at h1c h2c;have hcc:wr ((wr ((if kF l=true then(kC l.lo,kC l.hi,true) else((0:Int),(0:Int),false)).1+(if kF l=true then(kC l.lo,kC l.hi,true) else((0:Int),(0:Int),false)).2.1))-1)=o7 l:=by
   rw [if_pos hf];dsimp only;rw [aQ (n:=kC l.lo+kC l.hi) (by omega),aQ (by omega)];rfl
  rw [hcc];refine bZ (aA (gL n _) (aA (aJ0 n hk) (aA (aOv (by omega) hk (aFZ hlp)) (aA (aGi (n:=n) (by omega) (x:=P) (s:=k) (by omega) h1 h2 h4.2 h5 (way:=1) (v:=(k:Int)) (b:=xC k (o7 l)) (f:=lQ k (o7 l)) (aJ1 hk (aFZ hlp))) ?_))));exact aA (aL5 (by omega) hp hi ((aFY hok hkl (o7 l)).mono (by omega))) (Ev.some rfl)
theorem aKk{F:Affine→Affine}{τ:List Int→List Int}{m:Nat}(hev: ∀q:List Int,m≤q.length→ ∀y,bO y=true→cI (F y) (τ q)=cI y q)(happ: ∀(q:List Int) (v:Int),m≤q.length→τ (q++[v])=τ q++[v]): ∀(ls:List Loop) (p:List Int),(∀l∈ls,yL l)→m≤p.length→pts (ls.map (d9 F)) (τ p)=(pts ls p).map τ
 | [],p,_,_=>rfl
 |l::ls,p,h,hk=>by
  have hl:=h l wI;have ev: ∀{as:List Affine},(∀x∈as,bO x=true)→evs (as.map F) (τ p)=evs as p:=fun ha=>by
   unfold evs;rw [vBS];exact rO fun x hx=>hev p hk x (ha x hx)
  have e1:kL (d9 F l) (τ p)=kL l p:=by unfold kL d9;rw [ev hl.1.2]
  have e2:pQ (d9 F l) (τ p)=pQ l p:=by unfold pQ d9;rw [ev hl.2.2]
  simp only [List.map_cons,pts];rw [e1,e2,vBO];refine S2 fun v _=>?_;rw [←happ p v hk];exact aKk hev happ ls (p++[v]) (fun x hx=>h x (sO _ hx)) (by simp;omega)
theorem aBH{A B:List Loop}{τ:List Int→List Int}{k:Nat}(h: ∀p:List Int,p.length=k→(pts B p).Perm ((pts A p).map τ)): ∀(os:List Loop) (p:List Int),p.length+os.length=k→(pts (os++B) p).Perm ((pts (os++A) p).map τ)
 | [],p,hk=>h p (by simpa using hk)
 |o::os,p,hk=>by simp only [List.cons_append,pts];rw [vBO];exact K9 fun v _=>aBH h os (p++[v]) (by simp at hk ⊢; omega)
theorem aBR: ∀(b a:List Int) (k:Nat) (x y:Int),minusL (b.set k x) (a.set k y)=(minusL b a).set k (x-y)
 | [],a,k,x,y=>by simp [minusL]
 |b::bs,[],k,x,y=>by simp [minusL]
 |b::bs,a::as,0,x,y=>rfl
 |b::bs,a::as,k+1,x,y=>by show(b-a)::minusL (bs.set k x) (as.set k y)=(b-a)::(minusL bs as).set k (x-y);rw [aBR bs as k x y]
theorem aEr: ∀(b a:List Int) (k:Nat),k<b.length→k<a.length→(minusL b a).getD k 0=b.getD k 0-a.getD k 0
 | [],a,k,h,_=>by simp at h
 |b::bs,[],k,_,h=>by simp at h
 |b::bs,a::as,0,_,_=>rfl
 |b::bs,a::as,k+1,h1,h2=>aEr bs as k (by simpa using h1) (by simpa using h2)
theorem aAk: ∀(cs p:List Int) (k:Nat) (v:Int),k<cs.length→uK (cs.set k v) p=uK cs p+(v-cs.getD k 0)*p.getD k 0
 | [],p,k,v,h=>by simp at h
 |c::cs,[],k,v,_=>by cases k<;>simp [uK]
 |c::cs,x::p,0,v,_=>by
  simp only [List.set_cons_zero,uK,List.getD_cons_zero];rw [Int.sub_mul];omega
 |c::cs,x::p,k+1,v,h=>by simp only [List.set_cons_succ,uK,List.getD_cons_succ];rw [aAk cs p k v (by simpa using h)];omega
theorem aI9: ∀p:List Int,uK [0,0,0,0] p=0:=fun p=>aH6 rfl p
def qR(k:Nat)(c:Int)(q:List Int):List Int:=q.set k (c-q.getD k 0)
theorem aKa(k:Nat)(c:Int)(q:List Int):(qR k c q).length=q.length:=by simp [qR]
theorem mJ{l:List Int}{k:Nat}(h:k<l.length)(v:Int):(l.set k v).getD k 0=v:=by rw [M7,vAA h];rfl
theorem aEh{k:Nat}{c:Int}{q:List Int}(hk:k<q.length):qR k c (qR k c q)=q:=by
 have e:c-(c-q.getD k 0)=q.getD k 0:=by omega
 unfold qR;rw [mJ hk,List.set_set,e];exact U5 (R9 hk 0)
theorem aHC{k:Nat}(hk:k<4){c:Int}{q:List Int}(hq:k<q.length){y:Affine}(hy:bO y=true):cI (lQ k c y) (qR k c q)=cI y q:=by
 have h4:=(hJ hy).1;have eb: ∀p:List Int,cI (xC k c) p=c-p.getD k 0:=fun p=>by
  unfold cI xC;dsimp only;rw [aAk _ _ _ _ (by simpa using hk),aI9]
  have:([0,0,0,0]:List Int).getD k 0=0:=by rcases(show k=0∨k=1∨k=2∨k=3 by omega) with rfl|rfl|rfl|rfl<;>rfl
  rw [this];omega
 have e1:cI (lQ k c y) (qR k c q)=cI ⟨y.coefs.set k 0,y.const⟩ (qR k c q)+y.coefs.getD k 0*cI (xC k c) (qR k c q):=by
  unfold lQ aIv aFq cI;dsimp only;rw [aH4 _ _ _ _ (by rw [vAW,h4];simp [xC]),vBU];omega
 rw [e1,eb];unfold cI qR;dsimp only;rw [mJ hq,aAk _ _ _ _ (by omega),aH5 _ _ _ _ hq,mJ hq,show c-(c-q.getD k 0)=q.getD k 0 by omega,Int.zero_sub,Int.neg_mul,vBV,vBV];omega
theorem aKb{k:Nat}{c:Int}(q:List Int)(v:Int)(h:k+1≤q.length):qR k c (q++[v])=qR k c q++[v]:=by unfold qR;rw [aI0 (by omega),List.set_append_left _ _ (by omega)]
theorem aMM{k:Nat}{c:Int}{q:List Int}(h:q.length=k)(v:Int):qR k c (q++[v])=q++[c-v]:=by subst h;unfold qR;rw [aI1,vBQ _ _ (jQ _),vBx];rfl
theorem aMI(lo hi:Int):((jS lo hi).map fun v=>lo+hi-1-v).Perm (jS lo hi):=by
 have:(jS lo hi).map (fun v=>lo+hi-1-v)=(jS lo hi).reverse:=by
  unfold jS;rw [vBS];apply List.ext_getElem
  ·simp
  intro i h1 h2;simp at h1 h2⊢;omega
 rw [this];exact List.reverse_perm _
theorem aOP{l:Loop}(h:kF l=true)(p:List Int):kL l p=kC l.lo∧pQ l p=kC l.hi:=by
 unfold kF at h;simp only [Bool.and_eq_true,decide_eq_true_eq] at h;obtain⟨e1,e2,f1,f2⟩:=h;obtain⟨x,hx⟩:=vBl.1 e1;obtain⟨y,hy⟩:=vBl.1 e2;unfold nB at f1 f2;rw [hx] at f1;rw [hy] at f2;have f1:cM x.coefs=0:=by simpa using f1
 have f2:cM y.coefs=0:=by simpa using f2
 unfold kL pQ evs kC;rw [hx,hy];simp [mx,mn,cI,aH6 f1,aH6 f2]
theorem aML{list:List Arr}{P:Part}(hP:cQ list P=true){k:Nat}{l:Loop}(hl:P.nest[k]? =some l)(hf:kF l=true)(hq:cQ list (qS k (o7 l) P)=true):(dM (qS k (o7 l) P)).Perm ((dM P).map (qR k (o7 l))):=by
 obtain⟨h1,h2⟩:=nL hP;have hk:=(cH.1 hl).1;rw [vG hq,vG hP];have e:P.nest=P.nest.take k++l::P.nest.drop (k+1):=by rw [←kZ hl,vBz]
 have e2:(qS k (o7 l) P).nest=P.nest.take k++l::(P.nest.drop (k+1)).map (d9 (lQ k (o7 l))):=by
  show P.nest.take (k+1)++_=_;rw [xX,hl,vAL];rfl
 rw [e2]
 conv=>rhs;rw [e]
 have h3: ∀y∈P.nest.drop (k+1),yL y:=fun y hy=>h2 y (vAH hy);generalize P.nest.drop (k+1)=ls at h3;refine aBH (k:=k) (fun p hp=>?_) _ _ (by simp;omega);obtain⟨g1,g2⟩:=aOP hf p;simp only [pts];rw [g1,g2,vBO];have e3:(jS (kC l.lo) (kC l.hi)).flatMap (fun v=>(pts ls (p++[v])).map (qR k (o7 l)))=((jS (kC l.lo) (kC l.hi)).map fun v=>kC l.lo+kC l.hi-1-v).flatMap (fun v=>pts (ls.map (d9 (lQ k (o7 l)))) (p++[v])):=by
  rw [List.flatMap_map];refine S2 fun v _=>?_;rw [←aKk (m:=k+1) (fun q hq y hy=>aHC (by omega) (by omega) hy) (fun q v hq=>aKb q v hq) ls _ h3 (by simp;omega),aMM hp];rfl
 rw [e3];exact((aMI _ _).flatMap_right _).symm
theorem aJ8{p:Prog}{i k:Nat}{P:Part}(hk:k<P.nest.length)(h:(dsO p i).all (fun d=>posL (rN k d))=true)(c:Int):Kept p i P (qR k c) (rN k) where
 pos:=h
 dist a b ha hb:=by
  unfold rN qR;rw [aBR,aEr _ _ _ (by omega) (by omega)];congr 1;omega
 len a ha:=by rw [aKa,ha]
 inj a b ha hb e:=by rw [←aEh (c:=c) (show k<a.length by omega),e,aEh (by omega)]
theorem aOy{k:Nat}{c:Int}{P:Part}{l:Loop}(hl:P.nest[k]? =some l):(qS k c P).nest[k]? =some l∧(qS k c P).nest.length=P.nest.length:=by have hk:=(cH.1 hl).1;refine⟨?_,by simp [qS];omega⟩;show(P.nest.take (k+1)++_)[k]? =_;rw [T3 (by simp;omega),P4,if_pos (by omega)];exact hl
theorem aPM{p q:Prog}{part loop:Int}(h:yC p part loop=(q,true)):bV p=true∧bV q=true∧ ∃(i k:Nat) (P:Part) (l:Loop),part=i∧loop=k∧p.parts[i]? =some P∧P.nest[k]? =some l∧jN p part loop=true∧kF l=true∧q=⟨p.arrays,p.parts.set i (qS k (o7 l) P)⟩∧Mov p q i (qR k (o7 l))∧Kept p i P (qR k (o7 l)) (rN k):=by
 by_cases hb:jN p part loop=true
 ·obtain⟨hv,i,k,P,l,rfl,rfl,hP,hl,hi,hkl,hok,hk⟩:=Z7 hb;rw [C6 hb hP hl] at h;by_cases hr:vE p i k l=true
  ·rw [if_pos hr] at h;obtain⟨rfl,hw⟩:=aOR h;unfold vE at hr;rw [vBu] at hr;have hokq:=(fX hw).2.2.2.1 _ (cN (vAA hi));exact⟨hv,hw,i,k,P,l,rfl,rfl,hP,hl,hb,hr.1,rfl,aOA hv hP rfl (fun q hq y hy=>aHC hk (by omega) hy) (aML hok hl hr.1 hokq),aJ8 hkl hr.2 _⟩
  rw [if_neg hr] at h;cases h
 unfold yC at h;rw [if_neg hb] at h;cases h
theorem aLv(code:List UInt8):Ev (gY N code) (fun x=>BG 1000 x.1):=by unfold gY;exact aLJ code
theorem aLu(code:List UInt8):Ev (gX N code) (fun x=>BG 1000 x.1):=by unfold gX;exact aM (aLv code) fun x1 hp=>Ev.some hp
end Go.Lift
