/- Distances: sorted lists of points without doubles. -/
import Derived.Test.YtcihigfifglboabGreatETran1
import Derived.Test.YtcihigfifglboabGreatERun1
set_option maxRecDepth 100000
set_option linter.unusedVariables false
namespace Go.Lift
open Go
theorem xR: ∀xs,cmpL xs xs=0
 | []=>rfl
 |x::xs=>by unfold cmpL;rw [if_neg (by omega),if_neg (by omega)];exact xR xs
theorem mC: ∀xs ys,cmpL ys xs= -cmpL xs ys
 | [],[]=>by simp [cmpL]
 | [],_::_=>by simp [cmpL]
 |_::_,[]=>by simp [cmpL]
 |x::xs,y::ys=>by
  unfold cmpL;by_cases h1:x<y
  ·simp [h1,show¬y<x by omega]
  by_cases h2:y<x
  ·simp [h1,h2]
  rw [if_neg h1,if_neg h2,if_neg h2,if_neg h1];exact mC xs ys
theorem wB: ∀{xs ys},cmpL xs ys=0→xs=ys
 | [],[],_=>rfl
 | [],_::_,h=>by simp [cmpL] at h
 |_::_,[],h=>by simp [cmpL] at h
 |x::xs,y::ys,h=>by
  unfold cmpL at h;by_cases h1:x<y
  ·rw [if_pos h1] at h;omega
  by_cases h2:y<x
  ·rw [if_neg h1,if_pos h2] at h;omega
  rw [if_neg h1,if_neg h2] at h;rw [wB h,show x=y by omega]
theorem I5: ∀{xs ys zs},cmpL xs ys<0→cmpL ys zs<0→cmpL xs zs<0
 | [],[],_,h,_=>by simp [cmpL] at h
 | [],_::_,[],_,h=>by simp [cmpL] at h
 | [],_::_,_::_,_,_=>by simp [cmpL]
 |_::_,[],_,h,_=>by simp [cmpL] at h
 |_::_,_::_,[],_,h=>by simp [cmpL] at h
 |x::xs,y::ys,z::zs,h1,h2=>by
  unfold cmpL at h1 h2⊢;by_cases a:x<y
  ·by_cases b:y<z
   ·rw [if_pos (by omega)];omega
   by_cases c:z<y
   ·rw [if_neg b,if_pos c] at h2;omega
   rw [if_pos (by omega)];omega
  by_cases b:y<x
  ·rw [if_neg a,if_pos b] at h1;omega
  by_cases c:y<z
  ·rw [if_pos (by omega)];omega
  by_cases d:z<y
  ·rw [if_neg c,if_pos d] at h2;omega
  rw [if_neg (by omega),if_neg (by omega)];rw [if_neg a,if_neg b] at h1;rw [if_neg c,if_neg d] at h2;exact I5 h1 h2
theorem aE8: ∀xs ys,aAx xs ys=decide (cmpL xs ys<0)
 | [],[]=>rfl
 | [],_::_=>rfl
 |_::_,[]=>rfl
 |x::xs,y::ys=>by
  unfold aAx cmpL;by_cases h:x=y
  ·subst h;simp only [if_true,Int.lt_irrefl,if_false];exact aE8 xs ys
  by_cases h1:x<y
  ·simp [h,h1]
  have:y<x:=by omega
  simp [h,h1,this]
abbrev SS(l:List (List Int)):Prop:=l.Pairwise fun a b=>cmpL a b<0
theorem aOH: ∀{l m:List (List Int)},SS l→SS m→(∀x,x∈l↔x∈m)→l=m
 | [],[],_,_,_=>rfl
 | [],y::m,_,_,h=>by have:=(h y).2 (by simp);simp at this
 |x::l,[],_,_,h=>by have:=(h x).1 (by simp);simp at this
 |x::l,y::m,hl,hm,h=>by
  obtain⟨l1,l2⟩:=vBl.1 hl;obtain⟨m1,m2⟩:=vBl.1 hm;have e:x=y:=by
   rcases pU.1 ((h x).1 (by simp)) with h1|h1
   ·exact h1
   rcases pU.1 ((h y).2 (by simp)) with h2|h2
   ·exact h2.symm
   have a:=m1 x h1;have b:=l1 y h2
   have:=I5 a b;rw [xR] at this;omega
  subst e;have hx1:x∉l:=fun hx=>by have:=l1 x hx;rw [xR] at this;omega
  have hx2:x∉m:=fun hx=>by have:=m1 x hx;rw [xR] at this;omega
  rw [aOH l2 m2 (fun z=>⟨fun hz=>by
   rcases pU.1 ((h z).1 (tH _ hz)) with rfl|h3
   ·exact absurd hz hx1
   ·exact h3,fun hz=>by
   rcases pU.1 ((h z).2 (tH _ hz)) with rfl|h3
   ·exact absurd hz hx2
   exact h3⟩)]
def sL:List (List Int)→List Int→List (List Int)
 | [],d=>[d]
 |x::xs,d=>if cmpL d x<0 then d::x::xs else x::sL xs d
theorem aAG{d z:List Int}: ∀{l:List (List Int)},z∈sL l d↔z=d∨z∈l
 | []=>by simp [sL]
 |x::xs=>by
  unfold sL;split
  ·simp
  simp only [List.mem_cons,aAG (l:=xs)];constructor
  ·rintro(h|h|h)
   ·exact .inr (.inl h)
   ·exact .inl h
   exact .inr (.inr h)
  rintro(h|h|h)
  ·exact .inr (.inl h)
  ·exact .inl h
  exact .inr (.inr h)
theorem aIG{d:List Int}: ∀{l:List (List Int)},SS l→d∉l→SS (sL l d)
 | [],_,_=>by simp [sL]
 |x::xs,hl,hd=>by
  obtain⟨l1,l2⟩:=vBl.1 hl;unfold sL;split
  ·rename_i h;refine vBl.2 ⟨fun z hz=>?_,hl⟩;rcases pU.1 hz with rfl|hz
   ·exact h
   exact I5 h (l1 z hz)
  rename_i h;refine vBl.2 ⟨fun z hz=>?_,aIG l2 fun hx=>hd (tH _ hx)⟩;rcases aAG.1 hz with rfl|hz
  ·have h1:=mC z x;have h2:cmpL z x≠0:=fun e=>hd (by rw [wB e];simp);omega
  exact l1 z hz
def rN(l:List (List Int))(d:List Int):List (List Int):=if d∈l then l else sL l d
theorem aOq{l:List (List Int)}(h:SS l)(d:List Int):SS (rN l d):=by
 unfold rN;split
 ·exact h
 exact aIG h ‹_›
theorem aF1{l:List (List Int)}{d z:List Int}:z∈rN l d↔z=d∨z∈l:=by
 unfold rN;split
 ·rename_i h;exact⟨.inr,fun hz=>by rcases hz with rfl|hz;exact h;exact hz⟩
 exact aAG
theorem aDN: ∀(ds l:List (List Int)),SS l→SS (ds.foldl rN l)∧ ∀z,z∈ds.foldl rN l↔z∈l∨z∈ds
 | [],l,h=>⟨h,fun z=>by simp⟩
 |d::ds,l,h=>by
  obtain⟨h1,h2⟩:=aDN ds (rN l d) (aOq h d);refine⟨h1,fun z=>?_⟩;rw [List.foldl_cons,h2 z,aF1,pU];constructor
  ·rintro((h|h)|h)
   ·exact .inr (.inl h)
   ·exact .inl h
   exact .inr (.inr h)
  rintro(h|h|h)
  ·exact .inl (.inr h)
  ·exact .inl (.inl h)
  exact .inr h
def cF:List (List Int)→List (List Int)
 | []=>[]
 | [x]=>[x]
 |x::y::r=>if x=y then cF (y::r) else x::cF (y::r)
theorem uA{z:List Int}: ∀{l:List (List Int)},z∈cF l↔z∈l
 | []=>by simp [cF]
 | [x]=>by simp [cF]
 |x::y::r=>by
  have ih:=uA (z:=z) (l:=y::r);unfold cF;split
  ·rename_i h;subst h;rw [ih];simp
  rw [pU,ih];simp
theorem wA: ∀{l:List (List Int)},l.Pairwise (fun a b=> ¬cmpL b a<0)→SS (cF l)
 | [],_=>by simp [cF]
 | [x],_=>by simp [cF]
 |x::y::r,h=>by
  obtain⟨h1,h2⟩:=vBl.1 h;obtain⟨h3,_⟩:=vBl.1 h2;unfold cF;split
  ·exact wA h2
  rename_i hne;refine vBl.2 ⟨fun z hz=>?_,wA h2⟩;have hxy:cmpL x y<0:=by
   have a:=h1 y (by simp);have b:=mC x y;have c:cmpL x y≠0:=fun e=>hne (wB e);omega
  rcases pU.1 (uA.1 hz) with rfl|hz
  ·exact hxy
  have a:=h3 z hz;have b:=mC y z;by_cases e:cmpL y z=0
  ·rw [←wB e];exact hxy
  exact I5 hxy (by omega)
theorem aDl(l:List (List Int)):(eJ l).Pairwise (fun a b=> ¬cmpL b a<0):=by
 have:=List.pairwise_mergeSort (le:=fun x y=> !decide (cmpL y x<0)) (fun a b c h1 h2=>by
  simp only [Bool.not_eq_true',decide_eq_false_iff_not] at*;intro h;have f1:=mC a b;have f2:=mC b c;by_cases e:cmpL b a=0
  ·rw [wB e] at h2;exact h2 h
  ·exact h2 (I5 h (by omega))) (fun a b=>by
  have f1:=mC a b;by_cases h:cmpL b a<0
  ·have: ¬cmpL a b<0:=by omega
   simp [h,this]
  simp [h]) l
 refine this.imp fun h=>?_;simpa using h
theorem aOc(ds:List (List Int)):cF (eJ ds)=ds.foldl rN []:=by obtain⟨h1,h2⟩:=aDN ds [] List.Pairwise.nil;refine aOH (wA (aDl ds)) h1 fun z=>?_;rw [uA,h2 z];unfold eJ;rw [List.mem_mergeSort];simp
def minusL(b a:List Int):List Int:=List.zipWith (fun x y=>x-y) b a
theorem aE6{R:Type}{Q:R→Prop}{n:Nat}{a b:List Int}(hl:a.length=b.length)(hb:b.length≤1000)(hn:1000<n)(ha1: ∀x∈a,nD 9999 x)(hb1: ∀x∈b,nD 9999 x){K:List Int→Option R}(hK:Ev (K (minusL b a)) Q):
  Ev (aJ (fun again15 ((x12,x13):(List Int)×Int)=>
   bif decide (x13<(b.length:Int)) then(
    Option.bind (ix b x13) fun x16=>
    Option.bind (ix a x13) fun x17=>
    Option.bind (app x12 [wr (x16-x17)]) fun x18=>
    again15 (x18,wr (x13+1))
   ) else(
    K x12
   )) n ([],0)) Q:=by
 refine Ev.loop (fun x:List Int×Int=> ∃i:Nat,x.2=i∧i≤b.length∧x.1=(minusL b a).take i) (fun x=>b.length-x.2.toNat) ?_ n _ ⟨0,rfl,by omega,by simp⟩ (by dsimp only;omega);rintro again ⟨x,k⟩ ⟨i,hk,hi,hx⟩ hr;dsimp only at hk hx⊢;subst hk;have hml:(minusL b a).length=b.length:=by unfold minusL;rw [vBz];omega
 refine aG (fun hlt=>?_) fun hge=>?_
 ·have hlt:i<b.length:=by omega
  have e1:=cP hlt;have e2:=cP (show i<a.length by omega);have b1:=hb1 _ (T0 hlt);have b2:=ha1 _ (T0 (show i<a.length by omega));unfold nD at b1 b2;refine aA (aI e1) (aA (aI e2) (aA (bJ (by rw [hx,rQ];simp;omega)) ?_));rw [aN (n:=b[i]-a[i]) (by omega),aN (by omega)];refine hr _ ⟨i+1,by dsimp only;omega,by omega,?_⟩ (by dsimp only;omega);dsimp only;rw [xT,←hx];congr 1;unfold minusL;rw [List.getElem?_zipWith,e1,e2];rfl
 have:i=b.length:=by omega
 subst this;rw [vBf (by omega)] at hx;rw [hx];exact hK
theorem aGA{n:Nat}{a b:List Int}(hl:a.length=b.length)(hb:b.length≤1000)(hn:1000<n)(ha1: ∀x∈a,nD 9999 x)(hb1: ∀x∈b,nD 9999 x):w4 n b a=some (minusL b a):=by unfold w4;exact Ev.eq (aE6 hl hb hn ha1 hb1 (Ev.some rfl))
theorem aKU{n:Nat}(hn:20000≤n){l:List (List Int)}{d:List Int}(hl:l.length≤15000)(h1: ∀x∈l,x.length≤1000)(hd:d.length≤1000):V9 n l d=some (rN l d):=by
 unfold V9;refine Ev.eq (Ev.loop (fun x:List (List Int)×Bool×Int=> ∃i:Nat,x.2.2=i∧i≤l.length∧d∉l.take i∧(x.2.1=true→x.1.length≤i+1∧sL l d=x.1++l.drop i)∧(x.2.1=false→x.1.length≤i∧sL l d=x.1++sL (l.drop i) d)) (fun x=>l.length-x.2.2.toNat) ?_ n _ ⟨0,rfl,by omega,by simp,(fun h=>by cases h),fun _=>⟨by simp,by simp⟩⟩ (by dsimp only;omega));rintro again ⟨x1,x2,k⟩ ⟨i,hk,hi,hni,hT,hF⟩ hr;dsimp only at hk hT hF⊢;subst hk;refine aG (fun hlt=>?_) fun hge=>?_
 ·have hlt:i<l.length:=by omega
  have e1:=cP hlt;have hx6:l[i].length≤1000:=h1 _ (T0 hlt);refine aA (aI e1) (aA (aET (by omega) (by omega)) (aG (fun heq=>Ev.some ?_) fun hne=>?_))
  ·unfold rN;rw [if_pos (by rw [←heq];exact T0 hlt)]
  have hdrop:=vBh hlt;have hni':d∉l.take (i+1):=by
   rw [xT,e1];simp only [List.mem_append,Option.toList_some,List.mem_singleton];rintro(h|h)
   ·exact hni h
   exact hne h.symm
  refine Ev.jn (fun z:List (List Int)×Bool=>(z.2=true→z.1.length≤i+1∧sL l d=z.1++l.drop i)∧(z.2=false→z.1.length≤i∧sL l d=z.1++l[i]::sL (l.drop (i+1)) d)) (fun j hj=>?_) fun z hz=>?_
  ·refine Ev.jn (fun z:Bool=>z=(!x2&&aAx d l[i])) (fun j2 hj2=>Ev.cond (fun h=>?_) fun h=>hj2 _ ?_) fun z hz=>?_
   ·have h:x2=false:=by simpa using h
    exact aA (aKT (by omega) hd hx6) (hj2 _ (by rw [h];rfl))
   ·have h:x2=true:=by simpa using h
    rw [h];rfl
   subst hz;cases hx2:x2 with
   |true=>exact b7 (hj _ ⟨fun _=>hT hx2,fun h=>by cases h⟩)
   |false=>
    obtain⟨f1,f2⟩:=hF hx2;rw [hdrop] at f2;rw [aE8];by_cases hc:cmpL d l[i]<0
    ·rw [decide_eq_true hc];refine bZ (aA (bJ (by simp;omega)) (hj _ ⟨fun _=>⟨by simp;omega,?_⟩,fun h=>by cases h⟩));rw [f2,hdrop];unfold sL;rw [if_pos hc];simp
    rw [decide_eq_false hc];refine b7 (hj _ ⟨(fun h=>by cases h),fun _=>⟨f1,?_⟩⟩);rw [f2]
    conv=>lhs;rw [sL]
    rw [if_neg hc]
  obtain⟨z1,z2⟩:=z;obtain⟨g1,g2⟩:=hz;dsimp only at g1 g2⊢;have hz1:z1.length≤i+1:=by
   cases z2 with
   |true=>exact(g1 rfl).1
   |false=>have:=(g2 rfl).1;omega
  refine aA (bJ (by simp;omega)) ?_;rw [aN (by omega)];refine hr _ ⟨i+1,by dsimp only;omega,by omega,hni',fun h=>?_,fun h=>?_⟩ (by dsimp only;omega)
  ·obtain⟨a1,a2⟩:=g1 h;refine⟨by simp;omega,?_⟩;rw [a2,hdrop];simp
  obtain⟨a1,a2⟩:=g2 h;refine⟨by simp;omega,?_⟩;rw [a2];simp
 have:i=l.length:=by omega
 subst this;rw [pY] at hni;have hadd:rN l d=sL l d:=by unfold rN;rw [if_neg hni]
 rw [hadd];refine Ev.jn (fun z=>z=sL l d) (fun j hj=>Ev.cond (fun h=>?_) fun h=>hj _ ?_) fun z hz=>Ev.some hz
 ·have h:x2=false:=by simpa using h
  obtain⟨a1,a2⟩:=hF h;refine aA (bJ (by simp;omega)) (hj _ ?_);rw [a2,vBu];rfl
 have h:x2=true:=by simpa using h
 obtain⟨a1,a2⟩:=hT h;rw [a2,vBu,vBo]
theorem aFc(d:List Int): ∀l:List (List Int),(sL l d).length=l.length+1
 | []=>rfl
 |x::xs=>by
  unfold sL;split
  ·rfl
  rw [List.length_cons,aFc d xs];rfl
theorem aF2(l:List (List Int))(d:List Int):(rN l d).length≤l.length+1:=by
 unfold rN;split
 ·omega
 rw [aFc];omega
def dif(I:List Inst)(part:Int)(d:Dep):Option (List Int):=match I[d.fromF.toNat]?,I[d.toF.toNat]? with
 |some a,some b=>if a.part=part∧b.part=part then some (minusL b.point a.point) else none
 |_,_=>none
def aA4(p:Prog)(part:Int):List (List Int):=(kG p (insts p.parts) (insts p.parts).length).filterMap (dif (insts p.parts) part)
theorem inst_pt{p:Prog}(hv:bF p=true){x:Inst}(hx:eA p x): ∃P,p.parts[x.part.toNat]? =some P∧0≤x.part∧x.point.length=P.nest.length∧x.point.length≤4∧ ∀y∈x.point,nD 9999 y:=by obtain⟨hl,hd,h4,hpo,hil⟩:=gC hv;obtain⟨i,k,P,s,e1,e2,e3,e4,e5⟩:=hx;obtain⟨q1,q2,q3,q4⟩:=fL (hpo P (cR e3));obtain⟨hf,hp1,hp2,hp3,hp4⟩:=aEp q1;have hs:=cR e4;have hpt:=(q4 s hs _ e5).2;unfold ptV at hpt;simp only [Bool.and_eq_true,decide_eq_true_eq,List.all_eq_true] at hpt;exact⟨P,by rw [e1,A3];exact e3,by omega,(hp2 _ e5).1,hpt.1,fun y hy=>hpt.2 y hy⟩
theorem aOd{I:List Inst}{part:Int}(h: ∀x∈I,x.point.length≤4){d:Dep}{v:List Int}(hv:dif I part d=some v):v.length≤4:=by
 unfold dif at hv;split at hv
 ·rename_i a b ha hb;split at hv
  ·cases hv;unfold minusL;rw [vBz]
   have:=h b (cR hb);omega
  cases hv
 cases hv
theorem v6{α β:Type}{f:α→Option β}{l:List α}{i:Nat}{x:α}(h:l[i]? =some x):(l.take (i+1)).filterMap f=(l.take i).filterMap f++(f x).toList:=by rw [xT,h,List.filterMap_append];cases hx:f x<;>simp [hx]
theorem aGB{n:Nat}(hn:20000≤n){p:Prog}(hp:SmP p)(hv:bF p=true)(part:Int):mK n p part=some ((aA4 p part).foldl rN []):=by
 have hil:=(gC hv).2.2.2.2;unfold mK;refine Ev.eq (aA (vF (by omega) hv) (aA (aJi (by omega) hv) ?_));have hok: ∀x∈insts p.parts,eA p x:=fun x hx=>insts_mem hx;have hD:=aA5 (p:=p) hil;have hb:=aMm (p:=p) (l:=insts p.parts);unfold aA4;generalize kG p (insts p.parts) (insts p.parts).length=D at*;generalize insts p.parts=I at*;have hpt: ∀x∈I,x.point.length≤4:=fun x hx=>(inst_pt hv (hok x hx)).choose_spec.2.2.2.1;refine Ev.loop (fun x:List (List Int)×Int=> ∃i:Nat,x.2=i∧i≤D.length∧x.1=((D.take i).filterMap (dif I part)).foldl rN []∧x.1.length≤i∧ ∀y∈x.1,y.length≤4) (fun x=>D.length-x.2.toNat) ?_ n _ ⟨0,rfl,by omega,by simp,by simp,by simp⟩ (by dsimp only;omega);rintro again ⟨x3,k⟩ ⟨i,hk,hi,hx,hlen,hall⟩ hr;dsimp only at hk hx hlen hall⊢;subst hk;refine aG (fun hlt=>?_) fun hge=>Ev.some ?_
 ·have hlt:i<D.length:=by omega
  have e1:=cP hlt;obtain⟨d1,d2,d3⟩:=hb _ (T0 hlt);have ea:=aIE (l:=I) (c:=D[i].fromF) d1 (by omega);have eb:=aIE (l:=I) (c:=D[i].toF) (by omega) (by omega);have ha:=T0 (show D[i].fromF.toNat<I.length by omega);have hbm:=T0 (show D[i].toF.toNat<I.length by omega);have hfa:I[D[i].fromF.toNat]? =some I[D[i].fromF.toNat]:=cP _;have hfb:I[D[i].toF.toNat]? =some I[D[i].toF.toNat]:=cP _;obtain⟨PA,pa1,pa2,pa3,pa4,pa5⟩:=inst_pt hv (hok _ ha);obtain⟨PB,pb1,pb2,pb3,pb4,pb5⟩:=inst_pt hv (hok _ hbm);refine Ev.jn (fun z=>z.2.2.2.2.2.2=((D.take (i+1)).filterMap (dif I part)).foldl rN []∧z.2.2.2.2.2.2.length≤i+1∧ ∀y∈z.2.2.2.2.2.2,y.length≤4) (fun j hj=>aA (aI e1) (aA ea (aA eb ?_))) fun z hz=>?_
  ·rw [v6 e1,List.foldl_append,←hx] at hj;refine Ev.jn (fun z:Bool=>z=decide (I[D[i].fromF.toNat].part=part∧I[D[i].toF.toNat].part=part)) (fun j2 hj2=>aG (fun h=>hj2 _ ?_) fun h=>hj2 _ ?_) fun z hz=>?_
   ·exact decide_eq_decide.2 ⟨fun h2=>⟨h,h2⟩,fun h2=>h2.2⟩
   ·exact(decide_eq_false fun h2=>h h2.1).symm
   subst hz;have hdif:dif I part D[i]=if I[D[i].fromF.toNat].part=part∧I[D[i].toF.toNat].part=part then some (minusL I[D[i].toF.toNat].point I[D[i].fromF.toNat].point) else none:=by
    unfold dif;rw [hfa,hfb]
   refine aG (fun h=>?_) fun h=>hj _ ?_
   ·have hPP:PA=PB:=by
     rw [h.1] at pa1;rw [h.2] at pb1;rw [pa1] at pb1;cases pb1;rfl
    subst hPP;refine aA (aGA (by omega) (by omega) (by omega) pa5 pb5) (aA (aKU hn (by omega) (fun y hy=>by have:=hall y hy;omega) (by unfold minusL;rw [vBz];omega)) (hj _ ?_));rw [hdif,if_pos h];dsimp only [Option.toList,List.foldl];refine⟨rfl,?_,fun y hy=>?_⟩
    ·have:=aF2 x3 (minusL I[D[i].toF.toNat].point I[D[i].fromF.toNat].point);omega
    rcases aF1.1 hy with rfl|hy
    ·unfold minusL;rw [vBz];omega
    exact hall y hy
   rw [hdif,if_neg h];exact⟨rfl,by dsimp only;omega,hall⟩
  obtain⟨z1,z2,z3⟩:=hz;rw [aN (by omega)];exact hr _ ⟨i+1,by dsimp only;omega,by omega,z1,z2,z3⟩ (by dsimp only;omega)
 have:i=D.length:=by omega
 subst this;rw [hx,pY]
theorem I4(x:List Int): ∀(y:List Int) (a:List (List Int)),cF ((y::a)++[x])=if(y::a).getLast (by simp)=x then cF (y::a) else cF (y::a)++[x]
 |y,[]=>by
  by_cases h:y=x
  ·subst h;simp [cF]
  simp [cF,h]
 |y,z::a=>by
  have ih:=I4 x z a;rw [List.getLast_cons (by simp)];show cF (y::z::(a++[x]))=_;unfold cF;by_cases h:y=z
  ·rw [if_pos h,if_pos h];exact ih
  rw [if_neg h,if_neg h];have ih':cF (z::(a++[x]))=_:=ih;rw [ih'];split<;>simp
theorem aD2{s:List (List Int)}{m:Nat}(hm:1≤m)(hl:m<s.length):cF (s.take (m+1))=if s[m-1]=s[m] then cF (s.take m) else cF (s.take m)++[s[m]]:=by
 have e:s.take (m+1)=s.take m++[s[m]]:=by rw [xT,cP hl];rfl
 have hne:s.take m≠[]:=by
  intro h
  have:=congrArg List.length h;rw [rQ,Nat.min_eq_left (by omega),List.length_nil] at this;omega
 have hlast: ∀h,(s.take m).getLast h=s[m-1]:=fun h=>by
  rw [List.getLast_eq_getElem,List.getElem_take];congr 1;rw [rQ];omega
 rw [e];obtain⟨y,a,hya⟩: ∃y a,s.take m=y::a:=by
  cases h:s.take m with
  |nil=>exact absurd h hne
  |cons y a=>exact⟨y,a,rfl⟩
 have hl2:=hlast hne;simp only [hya] at hl2⊢;rw [I4,hl2]
def lvl(d:List Int):Option Nat:=d.findIdx? fun x=> !decide (x=0)
def aDC(d:List Int):Int:=match lvl d with
 |some i=>(i:Int)
 |none=> -1
theorem aG4{n:Nat}{d:List Int}(hd:d.length≤1000)(hn:1000<n):nZ n d=some (aDC d):=by
 unfold nZ;refine Ev.eq (aA (x:=aDC d) ?_ (Ev.some rfl));unfold gT;refine Ev.eq (Ev.loop (fun x:Int=> ∃i:Nat,x=i∧i≤d.length∧ ∀j,j<i→d.getD j 0=0) (fun x=>d.length-x.toNat) ?_ n _ ⟨0,rfl,by omega,fun j hj=>absurd hj (vBy _)⟩ (by omega));rintro again z ⟨i,rfl,hi,h0⟩ hr;have hz: ∀j (hj:j<d.length),j<i→d[j]=0:=fun j hj hji=>by
  have:=h0 j hji
  rwa [wW,cP hj] at this
 refine aG (fun hlt=>?_) fun hge=>Ev.some ?_
 ·have hlt:i<d.length:=by omega
  have e1:=cP hlt;refine aA (aI e1) (aA (x:= !decide (d[i]=0)) rfl (cZ (fun hne=>Ev.some ?_) fun he=>?_))
  ·have:lvl d=some i:=by
    unfold lvl;rw [vBE];exact⟨hlt,by simp [hne],fun j hj=>by simp [hz j (by omega) hj]⟩
   unfold aDC;rw [this]
  rw [aN (by omega)];refine hr _ ⟨i+1,by omega,by omega,fun j hj=>?_⟩ (by omega);by_cases hji:j=i
  ·subst hji;rw [wW,e1];exact he
  exact h0 j (by omega)
 have:lvl d=none:=by
  unfold lvl;rw [List.findIdx?_eq_none_iff];intro x hx;obtain⟨j,hj⟩:=vAJ.1 hx;obtain⟨hjl,rfl⟩:=cX.1 hj;simp [hz j hjl (by omega)]
 unfold aDC;rw [this]
theorem aLs{n:Nat}{p:Prog}(hp:SmP p){i:Nat}{P:Part}(hP:p.parts[i]? =some P):dK n p (i:Int)=some true:=by have hi:=(cX.1 hP).1;rw [xI n hp.2.1,decide_eq_true (by omega)]
theorem aGW(kp:Nat→Bool)(m:Nat):keptL kp (m+1)=keptL kp m++(if kp m then [m] else []):=by unfold keptL;rw [vBq,vBD];congr 1;by_cases h:kp m<;>simp [h]
theorem aIS(l:List (List Int)): ∀m,m≤l.length→(keptL (ddK l) m).map (fun j=>l.getD j [])=cF (l.take m)
 |0,_=>rfl
 |m+1,h=>by
  have ih:=aIS l m (by omega);have hm:m<l.length:=by omega
  have e0:l.getD m []=l[m]:=by rw [wW,cP hm];rfl
  rw [aGW,vAK,ih];by_cases h0:m=0
  ·subst h0;have e1:ddK l 0=true:=by simp [ddK]
   rw [e1,if_pos rfl,List.take_zero];show cF []++[l.getD 0 []]=_;rw [e0,xT,cP hm];rfl
  rw [aD2 (by omega) hm];have e1:l.getD (m-1) []=l[m-1]:=by rw [wW,cP (by omega)];rfl
  have e2:ddK l m= !decide (l[m-1]=l[m]):=by
   unfold ddK;rw [e0,e1];by_cases hq:l[m-1]=l[m]
   ·simp [h0,hq]
   have hq':l[m]≠l[m-1]:=fun e=>hq e.symm;simp [h0,hq,hq']
  rw [e2];by_cases hq:l[m-1]=l[m]
  ·rw [if_pos hq,decide_eq_true hq];simp
  rw [if_neg hq,decide_eq_false hq];show _++[l.getD m []]=_;rw [e0]
theorem aHs(l:List (List Int)):ddL l=cF l:=by have:=aIS l l.length (kH _);rw [pY] at this;exact this
theorem aFg{n:Nat}(hn:20000≤n){p:Prog}(hv:bF p=true)(part:Int):fN n (trc p) part=some ((aA4 p part).foldl rN []):=by
 have hil:=(gC hv).2.2.2.2;unfold fN;refine Ev.eq (aA (aJG (by omega) hv) ?_);rw [show(trc p).list=insts p.parts from rfl];have hok: ∀x∈insts p.parts,eA p x:=fun x hx=>insts_mem hx;have hD:=aA5 (p:=p) hil;have hb:=aMm (p:=p) (l:=insts p.parts);unfold aA4;generalize kG p (insts p.parts) (insts p.parts).length=D at*;generalize insts p.parts=I at*;have hpt: ∀x∈I,x.point.length≤4:=fun x hx=>(inst_pt hv (hok x hx)).choose_spec.2.2.2.1;refine Ev.loop (fun x:List (List Int)×Int=> ∃i:Nat,x.2=i∧i≤D.length∧x.1=(D.take i).filterMap (dif I part)) (fun x=>D.length-x.2.toNat) ?_ n _ ⟨0,rfl,by omega,by simp⟩ (by dsimp only;omega);rintro again ⟨x3,k⟩ ⟨i,hk,hi,hx⟩ hr;dsimp only at hk hx⊢;subst hk;have hlen:x3.length≤i:=by
  rw [hx];refine V4 (List.length_filterMap_le _ _) ?_;rw [rQ];omega
 refine aG (fun hlt=>?_) fun hge=>?_
 ·have hlt:i<D.length:=by omega
  have e1:=cP hlt;obtain⟨d1,d2,d3⟩:=hb _ (T0 hlt);have ea:=aIE (l:=I) (c:=D[i].fromF) d1 (by omega);have eb:=aIE (l:=I) (c:=D[i].toF) (by omega) (by omega);have ha:=T0 (show D[i].fromF.toNat<I.length by omega);have hbm:=T0 (show D[i].toF.toNat<I.length by omega);have hfa:I[D[i].fromF.toNat]? =some I[D[i].fromF.toNat]:=cP _;have hfb:I[D[i].toF.toNat]? =some I[D[i].toF.toNat]:=cP _;obtain⟨PA,pa1,pa2,pa3,pa4,pa5⟩:=inst_pt hv (hok _ ha);obtain⟨PB,pb1,pb2,pb3,pb4,pb5⟩:=inst_pt hv (hok _ hbm);have hdif:dif I part D[i]=if I[D[i].fromF.toNat].part=part∧I[D[i].toF.toNat].part=part then some (minusL I[D[i].toF.toNat].point I[D[i].fromF.toNat].point) else none:=by
   unfold dif;rw [hfa,hfb]
  refine Ev.jn (fun z=>z.1=(D.take (i+1)).filterMap (dif I part)) (fun j hj=>aA (aI e1) (aA ea (aA eb ?_))) fun z hz=>?_
  ·rw [v6 e1,←hx] at hj;refine Ev.jn (fun z:Bool=>z= !decide (I[D[i].fromF.toNat].part=part∧I[D[i].toF.toNat].part=part)) (fun j2 hj2=>cZ (fun h=>hj2 _ ?_) fun h=>hj2 _ ?_) fun z hz=>?_
   ·rw [decide_eq_false fun h2=>h h2.1];rfl
   ·congr 1;exact decide_eq_decide.2 ⟨fun h2=>⟨h,h2⟩,fun h2=>h2.2⟩
   subst hz;refine cZ (fun h=>hj _ ?_) fun h=>?_
   ·rw [hdif,if_neg h];simp
   have hPP:PA=PB:=by
    rw [h.1] at pa1;rw [h.2] at pb1;rw [pa1] at pb1;cases pb1;rfl
   subst hPP;refine aE6 (K:=fun x12=>Option.bind (app x3 [x12]) fun x19=>j (x19,D[i].fromF,D[i].toF,D[i].kinds,I[D[i].fromF.toNat].part,I[D[i].fromF.toNat].stmt,I[D[i].fromF.toNat].point,I[D[i].toF.toNat].part,I[D[i].toF.toNat].stmt,I[D[i].toF.toNat].point)) (by omega) (by omega) (by omega) pa5 pb5 ?_;refine aA (bJ (by simp;omega)) (hj _ ?_);rw [hdif,if_pos h];rfl
  rw [aN (by omega)];exact hr _ ⟨i+1,by dsimp only;omega,by omega,hz⟩ (by dsimp only;omega)
 have:i=D.length:=by omega
 subst this;rw [pY] at hx;subst hx;have hall: ∀y∈D.filterMap (dif I part),y.length≤4:=fun y hy=>by
  obtain⟨d,_,hd⟩:=List.mem_filterMap.1 hy;exact aOd hpt hd
 have hsl:(eJ (D.filterMap (dif I part))).length≤15000:=by unfold eJ;rw [List.length_mergeSort];omega
 refine aA (x:=eJ (D.filterMap (dif I part))) (by unfold m_sortL;rw [if_pos ⟨by omega,fun y hy=>by have:=hall y hy;omega⟩]) (Ev.some ?_);rw [aHs];exact aOc _
def dsO(p:Prog)(i:Nat):List (List Int):=(aA4 p i).foldl rN []
theorem aG5{n:Nat}(hn:20000≤n){p:Prog}(hp:SmP p)(hv:bF p=true){i:Nat}{P:Part}(hP:p.parts[i]? =some P):mT n p (i:Int)=some (dsO p i):=by unfold mT;refine Ev.eq (aA (aG1 (by omega) hp) ?_);rw [if_pos hv];refine bZ (Ev.jn (fun z=>z=false) (fun j hj=>b7 (aA (aLs hp hP) (hj _ rfl))) fun z hz=>?_);rw [hz];exact b7 (aA (aFg hn hv _) (Ev.some rfl))
theorem aPS{p:Prog}{i:Nat}{d:List Int}:d∈dsO p i↔d∈aA4 p i:=by
 unfold dsO
 have:=(aDN (aA4 p i) [] .nil).2 d;simpa using this
theorem aCN: ∀(ds l:List (List Int)),(ds.foldl rN l).length≤l.length+ds.length
 | [],l=>by simp
 |d::ds,l=>by
  rw [List.foldl_cons]
  have:=aCN ds (rN l d)
  have:=aF2 l d;rw [List.length_cons];omega
theorem aMh{p:Prog}(hv:bF p=true){i:Nat}:(dsO p i).length≤15000:=by
 have hil:=(gC hv).2.2.2.2;have hD:=aA5 (p:=p) hil
 have:=aCN (aA4 p i) [];have h2:(aA4 p i).length≤(kG p (insts p.parts) (insts p.parts).length).length:=by unfold aA4;exact List.length_filterMap_le _ _
 unfold dsO;rw [List.length_nil] at this;omega
theorem sS{p:Prog}(hv:bF p=true){i:Nat}{P:Part}(hP:p.parts[i]? =some P){d:List Int}(hd:d∈dsO p i):d.length=P.nest.length∧ ∀x∈d,nD 99999 x:=by
 have hd:=aPS.1 hd;unfold aA4 at hd;obtain⟨e,_,he⟩:=List.mem_filterMap.1 hd;unfold dif at he;split at he
 ·rename_i a b ha hb;split at he
  ·rename_i hp;cases he;have hak:eA p a:=insts_mem (cR ha);have hbk:eA p b:=insts_mem (cR hb);obtain⟨PA,a1,a2,a3,a4,a5⟩:=inst_pt hv hak;obtain⟨PB,b1,b2,b3,b4,b5⟩:=inst_pt hv hbk;rw [hp.1,A3,hP] at a1;rw [hp.2,A3,hP] at b1;cases a1;cases b1;unfold minusL;refine⟨by rw [vBz];omega,fun x hx=>?_⟩;obtain⟨u,v,hu,hv2,rfl⟩: ∃u v,u∈b.point∧v∈a.point∧x=u-v:=by
    rw [vAJ] at hx;obtain⟨k,hk⟩:=hx;rw [List.getElem?_zipWith] at hk;cases h1:b.point[k]? with
    |none=>rw [h1] at hk;cases hk
    |some u=>
     cases h2:a.point[k]? with
     |none=>rw [h1,h2] at hk;cases hk
     |some v=>
      rw [h1,h2] at hk;cases hk;exact⟨u,v,cR h1,cR h2,rfl⟩
   have q1:=b5 u hu;have q2:=a5 v hv2;unfold nD at*;omega
  cases he
 cases he
def posL(d:List Int):Bool:=match lvl d with
 |some k=>decide (0≤d.getD k 0)
 |none=>true
theorem aLj{d:List Int}{k:Nat}(h:lvl d=some k):k<d.length∧d.getD k 0≠0:=by unfold lvl at h;rw [vBE] at h;obtain⟨h1,h2,_⟩:=h;refine⟨h1,?_⟩;rw [wW,cP h1];simpa using h2
theorem aAK{n:Nat}(hn:20000≤n){p:Prog}(hp:SmP p)(hv:bF p=true){i:Nat}{P:Part}(hP:p.parts[i]? =some P){F:List Int→Option (List Int)}{f:List Int→List Int}(hF: ∀d∈dsO p i,F d=some (f d))(hl: ∀d,(f d).length=d.length):
  G7 n p (i:Int) F=some ((dsO p i).all fun d=>posL (f d)):=by
 unfold G7;refine Ev.eq (aA (aG5 hn hp hv hP) ?_);have hlen:=aMh hv (i:=i);have hsh:=fun d hd=>(sS hv hP (d:=d) hd).1;have h4:=(kK ((gC hv).2.2.2.1 P (cR hP))).1;generalize dsO p i=D at hF hlen hsh;refine Ev.loop (fun x:List (List Int)×Int=> ∃k:Nat,x.2=k∧k≤D.length∧x.1.length=D.length∧(∀t,k≤t→x.1[t]? =D[t]?)∧ ∀d∈D.take k,posL (f d)=true) (fun x=>D.length-x.2.toNat) ?_ n _ ⟨0,rfl,by omega,rfl,fun _ _=>rfl,fun d hd=>by simp at hd⟩ (by dsimp only;omega);rintro again ⟨rows,kz⟩ ⟨k,hk,hkl,hrl,hrest,hpos⟩ hr;dsimp only at hk hrl hrest⊢;subst hk;refine aG (fun hlt=>?_) fun hge=>Ev.some ?_
 ·have hlt:k<D.length:=by omega
  have e1:rows[k]? =some D[k]:=by rw [hrest k (kH _),cP hlt]
  have hm:=T0 hlt;have hle:(f D[k]).length≤4:=by rw [hl,hsh _ hm];exact h4
  refine aA (aI e1) (aA (hF _ hm) (aA (gI (hl _)) (aA (aG4 (by omega) (by omega)) (aA (cS (by omega) _) ?_))));have hall: ∀(hq:posL (f D[k])=false),D.all (fun d=>posL (f d))=false:=fun hq=>vAM.2 ⟨_,hm,by simp [hq]⟩;have go:posL (f D[k])=true→Ev (again (rows.set (k:Int).toNat (f D[k]),wr ((k:Int)+1))) (fun r=>r=D.all fun d=>posL (f d)):=fun hq=>by
   rw [aN (by omega),A3];refine hr _ ⟨k+1,by dsimp only;omega,by omega,by dsimp only;rw [L5];exact hrl,fun t ht=>?_,fun d hd=>?_⟩ (by dsimp only;omega)
   ·dsimp only;rw [vAA (by omega)];exact hrest t (by omega)
   rw [xT,cP hlt] at hd;rcases wV.1 hd with h|h
   ·exact hpos d h
   have:d=D[k]:=by simpa using h
   subst this;exact hq
  unfold aDC posL at*;cases hlv:lvl (f D[k]) with
  |none=>
   rw [hlv] at go hall;exact aG (fun h=>absurd h (by show¬(0:Int)≤ -1;omega)) (fun _=>go rfl)
  |some t=>
   rw [hlv] at go hall;obtain⟨t1,t2⟩:=aLj hlv;refine aG (fun _=>?_) fun h=>absurd (show(0:Int)≤(t:Int) by omega) h;have e2:=cP t1;have e3:(f D[k]).getD t 0=(f D[k])[t]:=by rw [wW,e2];rfl
   refine aA (aI e2) (aG (fun h=>Ev.some ?_) fun h=>go ?_)
   ·exact(hall (decide_eq_false (by omega))).symm
   exact decide_eq_true (by omega)
 have:k=D.length:=by omega
 subst this;rw [pY] at hpos;exact(vAI.2 hpos).symm
theorem aEV{n:Nat}{d:List Int}(hd:d.length≤1000)(hn:1000<n):nR n d=some (aDC d):=by
 unfold nR;refine Ev.eq (Ev.loop (fun x:Int=> ∃i:Nat,x=i∧i≤d.length∧ ∀j,j<i→d.getD j 0=0) (fun x=>d.length-x.toNat) ?_ n _ ⟨0,rfl,by omega,fun j hj=>absurd hj (vBy _)⟩ (by omega));rintro again z ⟨i,rfl,hi,h0⟩ hr;have hz: ∀j (hj:j<d.length),j<i→d[j]=0:=fun j hj hji=>by
  have:=h0 j hji
  rwa [wW,cP hj] at this
 refine aG (fun hlt=>?_) fun hge=>Ev.some ?_
 ·have hlt:i<d.length:=by omega
  have e1:=cP hlt;refine aA (aI e1) (cZ (fun hne=>Ev.some ?_) fun he=>?_)
  ·have:lvl d=some i:=by
    unfold lvl;rw [vBE];exact⟨hlt,by simp [hne],fun j hj=>by simp [hz j (by omega) hj]⟩
   unfold aDC;rw [this]
  rw [aN (by omega)];refine hr _ ⟨i+1,by omega,by omega,fun j hj=>?_⟩ (by omega);by_cases hji:j=i
  ·subst hji;rw [wW,e1];exact he
  exact h0 j (by omega)
 have:lvl d=none:=by
  unfold lvl;rw [List.findIdx?_eq_none_iff];intro x hx;obtain⟨j,hj⟩:=vAJ.1 hx;obtain⟨hjl,rfl⟩:=cX.1 hj;simp [hz j hjl (by omega)]
 unfold aDC;rw [this]
theorem aJg{n:Nat}{d:List Int}(hd:d.length≤1000)(hn:1000<n):B6 n d=some (posL d):=by
 unfold B6;refine Ev.eq (aA (aEV hd hn) (Ev.jn (fun z:Bool=>z=posL d) (fun j hj=>?_) fun z hz=>Ev.some hz));unfold aDC posL at*;cases hlv:lvl d with
 |none=>
  rw [hlv] at hj;exact aG (fun _=>hj _ rfl) (fun h=>absurd (show(-1:Int)<0 by omega) h)
 |some t=>
  rw [hlv] at hj;obtain⟨t1,t2⟩:=aLj hlv;have e2:=cP t1;have e3:d.getD t 0=d[t]:=by rw [wW,e2];rfl
  refine aG (fun h=>absurd h (show¬(t:Int)<0 by omega)) fun _=>aA (aI e2) (hj _ ?_);exact decide_eq_decide.2 ⟨fun h=>by omega,fun h=>by omega⟩
def swA(k:Nat)(a:Affine):Affine:=⟨(a.coefs.set k (a.coefs.getD (k+1) 0)).set (k+1) (a.coefs.getD k 0),a.const⟩
def wY(k:Nat)(d:List Int):List Int:=(d.set k (d.getD (k+1) 0)).set (k+1) (d.getD k 0)
theorem V7(k:Nat)(d:List Int):(wY k d).length=d.length:=by simp [wY]
theorem aKI{k:Nat}: ∀x,bI x=true→BA 4 (swA k x):=fun x hx=>by have:=(d6 hx).1;unfold BA swA;simp;omega
theorem cB{α:Type}{l:List α}{k:Nat}(h:k<l.length)(z:α):l[k]? =some (l.getD k z):=by rw [wW,cP h];rfl
theorem aIi{α R:Type}{Q:R→Prop}{l:List α}{k:Nat}(hk:k+1<l.length)(hb:l.length≤1000000)(z:α){K:List α→Option R}(hK:Ev (K ((l.set k (l.getD (k+1) z)).set (k+1) (l.getD k z))) Q):
  Ev (Option.bind (ix l (wr ((k:Int)+1))) fun x2=>Option.bind (ix l (k:Int)) fun x3=>Option.bind (cQ l (k:Int) x2) fun x4=>Option.bind (ix x4 (wr ((k:Int)+1))) fun x5=>Option.bind (cQ x4 (wr ((k:Int)+1)) x3) K) Q:=by rw [aN (n:=(k:Int)+1) (by omega),show(k:Int)+1=((k+1:Nat):Int) by omega];refine aA (aI (cB hk z)) (aA (aI (cB (by omega) z)) (aA (cS (by omega) _) ?_));rw [A3];refine aA (aI (cB (l:=l.set k (l.getD (k+1) z)) (k:=k+1) (by simpa using hk) z)) (aA (cS (by rw [L5];omega) _) ?_);rw [A3];exact hK
theorem aLx{n k:Nat}{d:List Int}(hk:k+1<d.length)(hb:d.length≤1000):fI n d (k:Int)=some (wY k d):=by unfold fI;exact Ev.eq (aIi hk (by omega) 0 (Ev.some rfl))
theorem aLw(n:Nat){k:Nat}(hk:k+1<4): ∀x,bI x=true→fH n x (k:Int)=some (swA k x):=fun x hx=>by have h4:=(d6 hx).1;unfold fH;refine Ev.eq (aA (M5 n x hx) (aIi (by omega) (by omega) 0 (Ev.some rfl)))
theorem aNB(n:Nat){k:Nat}(hk:k+1<4): ∀x,bI x=true→iR n x 0 (k:Int) ⟨[],0⟩=some (swA k x):=fun x hx=>by have h4:=(d6 hx).1;unfold iR;refine Ev.eq (aG (fun _=>aA (x:=swA k x) ?_ (Ev.some rfl)) fun h=>absurd rfl h);unfold Z6;have hc:eM n x=some x:=zJ n (by omega);rw [aN (n:=(k:Int)+1) (by omega),show(k:Int)+1=((k+1:Nat):Int) by omega];refine Ev.eq (aA hc (aA (aI (cB (by omega) 0)) (aA (aI (cB (by omega) 0)) (aA (cS (by omega) _) (aA (aI (cB (by omega) 0)) ?_)))));rw [A3];refine aA (aI (cB (l:=x.coefs.set k (x.coefs.getD (k+1) 0)) (k:=k+1) (by simp;omega) 0)) (aA (cS (by rw [L5];omega) _) ?_);rw [A3];exact Ev.some rfl
def L6(k:Nat)(a:Affine):Bool:= !decide (a.coefs.getD k 0=0)
def A6(l:Loop)(k:Nat):Bool:=l.lo.any (L6 k)||l.hi.any (L6 k)
theorem aFe{n:Nat}(hn:5000≤n){l:Loop}(hl:zA l){k:Nat}(hk:k<4):qL n l (k:Int)=some (A6 l k):=by
 obtain⟨⟨h1,h2⟩,h3,h4⟩:=hl;have hu: ∀x,bI x=true→eE n x (k:Int)=some (L6 k x):=fun x hx=>by
  have:=(d6 hx).1;unfold eE;exact Ev.eq (aA (aI (cB (by omega) 0)) (Ev.some rfl))
 unfold qL A6;refine Ev.eq (Ev.jn (fun z=>z=(l.lo.any (L6 k)||l.hi.any (L6 k))) (fun j hj=>?_) fun z hz=>Ev.some hz);refine aA (hJ (fun x hx=>hu x (h2 x hx)) (by omega) (by omega)) (Ev.cond (fun h=>hj _ (by rw [h];rfl)) fun h=>aA (hJ (fun x hx=>hu x (h4 x hx)) (by omega) (by omega)) (hj _ (by rw [h];rfl)))
theorem aFZ{α:Type}{f:α→Bool}{l:List α}{i:Nat}{x:α}(h:l[i]? =some x):(l.take (i+1)).any f=((l.take i).any f||f x):=by rw [xT,h,List.any_append];simp
theorem aEM{n:Nat}(hn:5000≤n){l:Loop}(hl:zA l){k:Nat}(hk:k<4):B4 n l (k:Int)=some (A6 l k):=by
 obtain⟨⟨h1,h2⟩,h3,h4⟩:=hl;unfold B4 A6;refine Ev.eq (Ev.loop (fun x:Int=> ∃i:Nat,x=i∧i≤l.lo.length∧(l.lo.take i).any (L6 k)=false) (fun x=>l.lo.length-x.toNat) ?_ n _ ⟨0,rfl,by omega,rfl⟩ (by omega));rintro again z ⟨i,rfl,hi,h0⟩ hr;refine aG (fun hlt=>?_) fun hge=>?_
 ·have hlt:i<l.lo.length:=by omega
  have e1:=cP hlt
  have:=(d6 (h2 _ (T0 hlt))).1;refine aA (aI e1) (aA (aI (cB (by omega) 0)) (cZ (fun hne=>Ev.some ?_) fun he=>?_))
  ·rw [vBs.2 ⟨_,T0 hlt,by unfold L6;simpa using hne⟩];rfl
  rw [aN (by omega)];exact hr _ ⟨i+1,by omega,by omega,by rw [aFZ e1,h0];unfold L6;simpa using he⟩ (by omega)
 have:i=l.lo.length:=by omega
 subst this;rw [pY] at h0;rw [h0,Bool.false_or];clear hr;refine Ev.loop (fun x:Int=> ∃i:Nat,x=i∧i≤l.hi.length∧(l.hi.take i).any (L6 k)=false) (fun x=>l.hi.length-x.toNat) ?_ n _ ⟨0,rfl,by omega,rfl⟩ (by omega);rintro again z ⟨i,rfl,hi,h0⟩ hr;refine aG (fun hlt=>?_) fun hge=>Ev.some ?_
 ·have hlt:i<l.hi.length:=by omega
  have e1:=cP hlt
  have:=(d6 (h4 _ (T0 hlt))).1;refine aA (aI e1) (aA (aI (cB (by omega) 0)) (cZ (fun hne=>Ev.some ?_) fun he=>?_))
  ·rw [vBs.2 ⟨_,T0 hlt,by unfold L6;simpa using hne⟩]
  rw [aN (by omega)];exact hr _ ⟨i+1,by omega,by omega,by rw [aFZ e1,h0];unfold L6;simpa using he⟩ (by omega)
 have:i=l.hi.length:=by omega
 subst this;rw [pY] at h0;exact h0.symm
def Z0(k:Nat)(l:List Loop):List Loop:=(l.set k (l.getD (k+1) ⟨[],[]⟩)).set (k+1) (l.getD k ⟨[],[]⟩)
theorem A8(k:Nat)(l:List Loop):(Z0 k l).length=l.length:=by simp [Z0]
def swP(k:Nat)(P:Part):Part:=⟨(Z0 k P.nest).take (k+2)++((Z0 k P.nest).drop (k+2)).map (fX (swA k)),P.body.map (vR (swA k))⟩
def aBL(p:Prog)(i k:Nat)(P:Part):Bool:= !A6 (P.nest.getD (k+1) ⟨[],[]⟩) k&&(dsO p i).all fun d=>posL (wY k d)
def qY(p:Prog)(part loop:Int):Prog×Bool:=
 if gG p part loop=true∧gG p part (loop+1)=true then
  match ix p.parts part with
  |some P=>if aBL p part.toNat loop.toNat P=true then O4 ⟨p.arrays,p.parts.set part.toNat (swP loop.toNat P)⟩ else noP
  |none=>noP
 else noP
theorem aDj{k:Nat}{l:List Loop}(hk:k+1<l.length){y:Loop}(hy:y∈Z0 k l):y∈l:=by
 unfold Z0 at hy;rcases vAW hy with h|h
 ·rcases vAW h with h|h
  ·exact h
  rw [h];exact cR (cB hk _)
 rw [h];exact cR (cB (by omega) _)
theorem aKG{list:List Arr}{P:Part}(hP:cL list P=true){k:Nat}(hk:k+1<P.nest.length):BPt 4 (swP k P):=by
 obtain⟨h1,h2⟩:=kK hP;obtain⟨_,h4,h5,_⟩:=fL hP;refine⟨⟨by simp only [swP,List.length_append,List.length_map,List.length_take,List.length_drop,A8];omega,fun y hy=>?_⟩,by simp only [swP,List.length_map];exact h4.2,fun s hs=>?_⟩
 ·rcases wV.1 hy with hy|hy
  ·exact(aMs hP).1.2 y (aDj hk (vAF hy))
  obtain⟨z,hz,rfl⟩:=V3.1 hy;exact aI1 aKI (h2 z (aDj hk (vAH hz)))
 obtain⟨z,hz,rfl⟩:=V3.1 hs;exact aMr aKI (h5 z hz)
theorem W9{p:Prog}{i k:Nat}{P:Part}(hP:p.parts[i]? =some P)(h:gG p (i:Int) ((k:Int)+1)=true):k+1<P.nest.length:=by
 obtain⟨_,i',k',P',l',e1,e2,h1,_,_,h2,_⟩:=tY h
 have:i'=i:=by omega
 subst this;rw [hP] at h1;cases h1;omega
theorem aMT{p:Prog}(hp:BG 1000 p)(part loop:Int):BG 1000 (qY p part loop).1:=by
 unfold qY;split
 ·rename_i h;split
  ·rename_i P hx;split
   ·obtain⟨hv,i,k,P',l,rfl,rfl,hP,hl,hi,hkl,hok,hk⟩:=tY h.1;rw [aI hP] at hx;cases hx;have hk1:=W9 hP h.2
    have:=aEd hp i (aKG hok hk1);rw [A3,A3];unfold O4;split
    ·exact this
    exact N2
   exact N2
  exact N2
 exact N2
theorem aDd{p:Prog}{i k:Nat}{P:Part}(h1:gG p (i:Int) (k:Int)=true)(h2:gG p (i:Int) ((k:Int)+1)=true)(hP:p.parts[i]? =some P):qY p i k=if aBL p i k P=true then O4 ⟨p.arrays,p.parts.set i (swP k P)⟩ else noP:=by unfold qY;rw [if_pos ⟨h1,h2⟩,aI hP];simp only [Int.toNat_natCast]
theorem aLB{n:Nat}(hn:20000≤n){p:Prog}(hp:BG 1000 p)(part loop:Int):mS n p part loop=some (qY p part loop):=by
 unfold mS;by_cases hneg:loop= -1
 ·subst hneg;unfold qY;rw [if_neg fun h=>by rw [H3 (by omega)] at h;cases h.1];exact Ev.eq (aK (aC2 (by omega) hp part) fun x1 h1=>Ev.cond (fun _=>aG (fun _=>Ev.some rfl) fun h=>absurd (show(-1:Int)<0 by omega) h) fun _=>Ev.some rfl)
 refine Ev.eq (aA (aFX (by omega) hp part loop hneg) ?_);by_cases hb:gG p part loop=true
 ·rw [if_pos hb];refine bZ (aG (fun h=>by rw [H3 h] at hb;cases hb) fun h0=>?_);obtain⟨hv,i,k,P,l,rfl,rfl,hP,hl,hi,hkl,hok,hk⟩:=tY hb;obtain⟨h1,h2⟩:=kK hok;obtain⟨_,h4,h5,_⟩:=fL hok;refine aA (aI hP) ?_;rw [aN (n:=(k:Int)+1) (by omega),aN (n:=(k:Int)+2) (by omega)];refine aG (fun hge=>Ev.some ?_) fun hlt=>?_
  ·unfold qY;rw [if_neg fun h=>by have:=W9 hP h.2;omega];rfl
  have hk1:k+1<P.nest.length:=by omega
  have hb2:gG p (i:Int) ((k:Int)+1)=true:=by
   unfold gG;rw [hv,aI hP];exact decide_eq_true (by omega)
  rw [aDd hb hb2 hP];have e6:=cB hk1 (⟨[],[]⟩:Loop);rw [show(k:Int)+1=((k+1:Nat):Int) by omega];refine aA (aI e6) (aA (aFe (by omega) (h2 _ (cR e6)) (by omega)) (Ev.cond (fun hu=>Ev.some ?_) fun hu=>?_))
  ·rw [if_neg (by unfold aBL;rw [hu];simp)];rfl
  refine aA (aAK hn hp.sm hv hP (F:=fun q0=>fI n q0 (k:Int)) (f:=wY k) (fun d hd=>aLx (by have:=(sS hv hP hd).1;omega) (by have:=(sS hv hP hd).1;omega)) (V7 k)) (Ev.cond (fun hd=>?_) fun hd=>Ev.some ?_)
  ·rw [if_pos (by unfold aBL;rw [hu,hd];rfl)];refine aA (aI (cB (by omega) (⟨[],[]⟩:Loop))) (aA (cS (by omega) _) (aA (cS (by rw [L5];omega) _) (aA (cS (by dsimp only;omega) _) ?_)));rw [A3,A3,A3];have hch:=yC (n:=n) (by omega) (nest:=Z0 k P.nest) (body:=P.body) (s:=k+2) (by rw [A8];omega) (by rw [A8];omega) (fun y hy=>h2 y (aDj hk1 (vAH hy))) h4.2 h5 (F:=fun q0=>fH n q0 (k:Int)) (aLw n (by omega));rw [show(k:Int)+2=((k+2:Nat):Int) by omega];refine aA hch (aA (cS (by simp;omega) _) ?_);rw [A3,List.set_set];exact aA (Q9 (by omega) (aEd hp i (aKG hok hk1))) (Ev.some rfl)
  rw [if_neg (by unfold aBL;rw [hd];simp)];rfl
 unfold qY;rw [if_neg hb,if_neg fun h=>hb h.1];exact b7 (Ev.some rfl)
theorem aPu{k:Nat}{l:List Loop}(hk:k+1<l.length)(j:Nat):(Z0 k l)[j]? =if j=k then l[k+1]? else if j=k+1 then l[k]? else l[j]? :=by
 unfold Z0;by_cases h1:j=k+1
 ·subst h1;rw [L4 (by rw [L5];exact hk),if_neg (by omega),if_pos rfl];exact(cB (by omega) _).symm
 rw [vAA (by omega)];by_cases h2:j=k
 ·subst h2;rw [L4 (by omega),if_pos rfl];exact(cB hk _).symm
 rw [vAA (by omega),if_neg h2,if_neg h1]
theorem aIj{k:Nat}{a b:List Loop}(hk:k+1<a.length):Z0 k (a++b)=Z0 k a++b:=by
 have e1:(a++b).getD (k+1) ⟨[],[]⟩=a.getD (k+1) ⟨[],[]⟩:=by rw [wW,wW,V1 hk]
 have e2:(a++b).getD k ⟨[],[]⟩=a.getD k ⟨[],[]⟩:=by rw [wW,wW,V1 (by omega)]
 unfold Z0;rw [e1,e2,vBG _ _ (by omega),vBG _ _ (by rw [L5];exact hk)]
theorem aKH{k:Nat}{l:List Loop}(hk:k+1<l.length):Z0 k (l.take (k+2))=(Z0 k l).take (k+2):=by have h:=aIj (k:=k) (a:=l.take (k+2)) (b:=l.drop (k+2)) (by rw [rQ];omega);rw [vBp] at h;rw [h,List.take_append_of_le_length (by rw [A8,rQ];omega)];exact(vBf (by rw [A8,rQ];omega)).symm
theorem aEI{k:Nat}{l:List Loop}:(Z0 k l).drop (k+2)=l.drop (k+2):=by unfold Z0;rw [List.drop_set_of_lt (by omega),List.drop_set_of_lt (by omega)]
theorem aPt{k:Nat}{P:Part}(hk:k+1<P.nest.length)(r:List Loop):Z0 k (P.nest.take (k+2)++r)=(Z0 k P.nest).take (k+2)++r:=by rw [aIj (by rw [rQ];omega),aKH hk]
theorem aKS{n:Nat}(hn:20000≤n){p:Prog}(hp:BG 1000 p)(part loop:Int):mM n p part loop=some (qY p part loop):=by
 unfold mM;by_cases hb:gG p part loop=true;rotate_left
 ·unfold qY;rw [if_neg fun h=>hb h.1];refine Ev.eq (aA (yX (by omega) hp) (Ev.jn (fun z=>z=true) (fun j hj=>aA (aAQ (by omega) hp part loop) (Ev.cond (fun _=>hj _ rfl) fun h=>absurd (by simpa using h) hb)) fun z hz=>by rw [hz];exact bZ (Ev.some rfl)))
 obtain⟨hv,i,k,P,l,rfl,rfl,hP,hl,hi,hkl,hok,hk⟩:=tY hb;obtain⟨h1,h2⟩:=kK hok;obtain⟨_,h4,h5,_⟩:=fL hok;rw [aN (n:=(k:Int)+1) (by omega)];by_cases hb2:gG p (i:Int) ((k:Int)+1)=true;rotate_left
 ·unfold qY;rw [if_neg fun h=>hb2 h.2];refine Ev.eq (aA (yX (by omega) hp) (Ev.jn (fun z=>z=true) (fun j hj=>aA (aAQ (by omega) hp _ _) (Ev.cond (fun h=>by rw [hb] at h;cases h) fun _=>aA (aAQ (by omega) hp _ _) (Ev.cond (fun _=>hj _ rfl) fun h=>absurd (by simpa using h) hb2))) fun z hz=>by rw [hz];exact bZ (Ev.some rfl)))
 rw [aDd hb hb2 hP];have hk1:=W9 hP hb2;have e6:=cB hk1 (⟨[],[]⟩:Loop);refine Ev.eq (aA (yX (by omega) hp) (Ev.jn (fun z=>z=A6 (P.nest.getD (k+1) ⟨[],[]⟩) k) (fun j hj=>?_) fun z hz=>?_))
 ·refine aA (aAQ (by omega) hp _ _) (Ev.cond (fun h=>by rw [hb] at h;cases h) fun _=>aA (aAQ (by omega) hp _ _) (Ev.cond (fun h=>by rw [hb2] at h;cases h) fun _=>aA (aI hP) ?_));rw [show(k:Int)+1=((k+1:Nat):Int) by omega];exact aA (aI e6) (aA (aEM (by omega) (h2 _ (cR e6)) (by omega)) (hj _ rfl))
 subst hz;refine Ev.cond (fun hu=>Ev.some ?_) fun hu=>?_
 ·rw [if_neg (by unfold aBL;rw [hu];simp)];rfl
 refine aA (x:=dsO p i) (aGB hn hp.sm hv _) ?_;have hlen:=aMh hv (i:=i);have hsh:=fun d hd=>(sS hv hP (d:=d) hd).1;have hsw:aBL p i k P=(dsO p i).all (fun d=>posL (wY k d)):=by unfold aBL;rw [hu];rfl
 rw [hsw];generalize dsO p i=D at hlen hsh;refine Ev.loop (fun x:Int=> ∃m:Nat,x=m∧m≤D.length∧ ∀d∈D.take m,posL (wY k d)=true) (fun x=>D.length-x.toNat) ?_ n _ ⟨0,rfl,by omega,fun d hd=>by simp at hd⟩ (by omega);rintro again z ⟨m,rfl,hm,hpos⟩ hr;refine aG (fun hlt=>?_) fun hge=>?_
 ·have hlt:m<D.length:=by omega
  have e1:=cP hlt;have hmem:=T0 hlt;have hdl:=hsh _ hmem;rw [show(k:Int)+1=((k+1:Nat):Int) by omega];refine aA (aI e1) (aA (bJ (by simp;omega)) (aA (aI (cB (by omega) 0)) (aA (x:=D[m].getD k 0) (aI (cB (l:=D[m]) (by omega) 0)) (aA (cS (by rw [List.nil_append];omega) _) (aA (aI (cB (by omega) 0)) ?_)))));rw [List.nil_append,A3];refine aA (aI (cB (l:=D[m].set k (D[m].getD (k+1) 0)) (k:=k+1) (by simp;omega) 0)) (aA (cS (by rw [L5];omega) _) ?_);rw [A3];refine aA (x:=posL (wY k D[m])) (aJg (d:=wY k D[m]) (by rw [V7];omega) (by omega)) (Ev.cond (fun h=>Ev.some ?_) fun h=>?_)
  ·rw [if_neg fun hall=>?_]
   ·rfl
   have:=vAI.1 hall _ hmem;rw [this] at h;cases h
  rw [aN (by omega)];refine hr _ ⟨m+1,by omega,by omega,fun d hd=>?_⟩ (by omega);rw [xT,e1] at hd;rcases wV.1 hd with h'|h'
  ·exact hpos d h'
  have:d=D[m]:=by simpa using h'
  subst this;simpa using h
 have:m=D.length:=by omega
 subst this;rw [pY] at hpos;rw [if_pos (vAI.2 hpos)];have hin:=aGV (n:=n) (by omega) (x:=P) (s:=k+1) (by omega) h1 h2 h4.2 h5 (way:=0) (v:=(k:Int)) (b:=⟨[],0⟩) (f:=swA k) fun n _ x hx=>aNB n (by omega) x hx;rw [show(k:Int)+1=((k+1:Nat):Int) by omega];refine aA (aI hP) (aA hin ?_);have hA:(P.nest.take (k+2)++(P.nest.drop (k+2)).map (fX (swA k))).length=P.nest.length:=by rw [pV,o7,rQ,vAU];omega
 have hsw2:=aPt hk1 ((P.nest.drop (k+2)).map (fX (swA k)));rw [show k+1+1=k+2 by omega];dsimp only;generalize P.nest.take (k+2)++(P.nest.drop (k+2)).map (fX (swA k))=A at hA hsw2;refine aA (aI (cB (by omega) (⟨[],[]⟩:Loop))) (aA (aI (cB (by omega) (⟨[],[]⟩:Loop))) (aA (cS (by omega) _) ?_));rw [A3];refine aA (aI (cB (l:=A.set k (A.getD (k+1) ⟨[],[]⟩)) (k:=k+1) (by rw [L5];omega) (⟨[],[]⟩:Loop))) (aA (cS (by rw [L5];omega) _) ?_);rw [A3];have hY:(⟨(A.set k (A.getD (k+1) ⟨[],[]⟩)).set (k+1) (A.getD k ⟨[],[]⟩),P.body.map (vR (swA k))⟩:Part)=swP k P:=by
  have:(A.set k (A.getD (k+1) ⟨[],[]⟩)).set (k+1) (A.getD k ⟨[],[]⟩)=Z0 k A:=rfl;rw [this,hsw2,←aEI];rfl
 rw [hY];exact aA (aMU (by omega) hp hi ((aKG hok hk1).mono (by omega))) (Ev.some rfl)
theorem aMx(code:List UInt8):Ev (Option.bind (sH N code) fun x1=>Option.bind (B9 N x1) fun x2=>some (x2.1,x2.2.1,x2.2.2.1)) (fun x=>BG 1000 x.1):=by have hN:N=100000:=rfl;refine aK (aNO code) fun x1 r1=>aK (P:=fun x=>BG 1000 x.1) ?_ fun x2 h2=>Ev.some h2;unfold B9;refine aK (aJu r1 (by omega)) fun x1 ⟨h1,r1⟩=>aK (aNU (by omega) r1 (by omega) h1) fun x2 ⟨h2,r2⟩=>aK (jQ N r2 (by omega) (by simp)) fun x3 ⟨_,r3⟩=>aK (jQ N r3 (by omega) (by simp)) fun x4 ⟨_,r4⟩=>aK (jQ N r4 (by omega) (by simp)) fun x5 ⟨_,r5⟩=>Ev.some (h2.mono (show 30≤1000 by omega))
def movI(i:Nat)(τ:List Int→List Int)(x:Inst):Inst:=if x.part=(i:Int) then⟨x.part,x.stmt,τ x.point⟩ else x
theorem aAv{i:Nat}{τ:List Int→List Int}: ∀x:Inst,x.part≠(i:Int)→movI i τ x=x:=fun x hx=>by unfold movI;rw [if_neg hx]
theorem O1{α β:Type}{f g:α→List β}: ∀{l:List α},(∀x∈l,(f x).Perm (g x))→(l.flatMap f).Perm (l.flatMap g)
 | [],_=> .nil
 |x::l,h=>by rw [vBI,vBI];exact(h x uW).append (O1 fun y hy=>h y (tH x hy))
theorem insts_perm{ps:List Part}{i:Nat}{P P':Part}(hP:ps[i]? =some P){σ:Inst→Inst}(h1:(instP i P').Perm ((instP i P).map σ))(h2: ∀x,x.part≠(i:Int)→σ x=x):(insts (ps.set i P')).Perm ((insts ps).map σ):=by
 unfold insts;rw [vBv];have e:(ps.set i P').zipIdx=ps.zipIdx.map (fun y=>if y.2=i then(P',i) else y):=by
  refine List.ext_getElem? fun j=>?_;rw [List.getElem?_zipIdx,tG,List.getElem?_zipIdx];by_cases hj:i=j
  ·subst hj;rw [L4 (cX.1 hP).1,hP];simp
  rw [vAA hj];cases ps[j]? with
  |none=>rfl
  |some y=>
   have: ¬j=i:=fun h=>hj h.symm;simp [this]
 rw [e,List.flatMap_map];refine O1 fun y hy=>?_;obtain⟨x,j⟩:=y;have hx:=vBj.1 hy;dsimp only at hx⊢;by_cases hji:j=i
 ·subst hji;rw [hP] at hx;cases hx;rw [if_pos rfl];exact h1
 rw [if_neg hji];refine .of_eq (aDB fun z hz=>h2 z ?_).symm;unfold instP at hz;obtain⟨q,_,hz⟩:=List.mem_flatMap.1 hz;obtain⟨t,_,rfl⟩:=V3.1 hz;dsimp only;omega
theorem instP_perm{i:Nat}{τ:List Int→List Int}{P P':Part}(h1:(dE P').Perm ((dE P).map τ))(h2:P'.body.length=P.body.length):(instP i P').Perm ((instP i P).map (movI i τ)):=by unfold instP;rw [h2,vBv];refine(h1.flatMap_right _).trans (.of_eq ?_);rw [List.flatMap_map];refine xM fun q _=>?_;rw [List.map_map];refine oW fun t _=>?_;show _=movI i τ _;unfold movI;rw [if_pos rfl]
structure Mov (p q:Prog) (i:Nat) (τ:List Int→List Int):Prop where
 arr:q.arrays=p.arrays
 perm:(insts q.parts).Perm ((insts p.parts).map (movI i τ))
 cells: ∀x∈insts p.parts,rc q (movI i τ x)=rc p x∧wc q (movI i τ x)=wc p x
 run: ∀x∈insts p.parts,∀m,runI q m (movI i τ x)=runI p m x
theorem aE5{p:Prog}(hv:bF p=true){i:Nat}{P P':Part}(hP:p.parts[i]? =some P){F:Affine→Affine}(hb:P'.body=P.body.map (vR F)){τ:List Int→List Int}(hev: ∀q:List Int,q.length=P.nest.length→ ∀y,bI y=true→cC (F y) (τ q)=cC y q){x:Inst}(hx:eA p x):
  ∃s s' d,q5 p x=some s∧q5 ⟨p.arrays,p.parts.set i P'⟩ (movI i τ x)=some s'∧fW s d=true∧
   (∀a,iB a d=true→dD p.arrays (if x.part=(i:Int) then fV F a else a) (movI i τ x).point 0=dD p.arrays a x.point 0)∧
   (s'.write=if x.part=(i:Int) then fV F s.write else s.write)∧
   (b8 5 s'.value=(b8 5 s.value).map fun a=>if x.part=(i:Int) then fV F a else a)∧
   ∀m,qZ 5 p.arrays m s'.value (movI i τ x).point=qZ 5 p.arrays m s.value x.point:=by
 obtain⟨i',k',Q,s,d,e1,e2,e3,e4,e5,e6,e7,e8⟩:=inst_d hv hx;have hi:=(cX.1 hP).1;by_cases hxi:x.part=(i:Int)
 ·obtain rfl:i'=i:=by omega
  rw [hP] at e3;cases e3;have hev:=hev x.point e7.1;have hs:movI i' τ x=⟨x.part,x.stmt,τ x.point⟩:=by unfold movI;rw [if_pos hxi]
  refine⟨s,vR F s,d,e5,?_,e6,fun a ha=>?_,?_,?_,fun m=>?_⟩
  ·rw [hs];unfold q5;dsimp only;rw [e1,A3,L4 hi];show(P'.body[x.stmt.toNat]?)=_;rw [hb,tG,e2,A3,e4];rfl
  ·rw [if_pos hxi,hs];exact aHw (fun y hy=>hev y ((uQ ha).2.2 y hy)) _ _
  ·rw [if_pos hxi];rfl
  ·simp only [if_pos hxi];exact aIq (kO e6).2.1
  rw [hs];exact aKq hev _ m (kO e6).2.1
 have hs:movI i τ x=x:=aAv x hxi;refine⟨s,s,d,e5,?_,e6,fun a ha=>?_,?_,?_,fun m=>?_⟩
 ·rw [hs,←e5];unfold q5;dsimp only;rw [vAA (by omega)]
 ·rw [if_neg hxi,hs]
 ·rw [if_neg hxi]
 ·simp only [if_neg hxi,List.map_id']
 rw [hs]
theorem aLf{p:Prog}(hv:bF p=true){i:Nat}{P P':Part}(hP:p.parts[i]? =some P){F:Affine→Affine}(hb:P'.body=P.body.map (vR F)){τ:List Int→List Int}(hev: ∀q:List Int,q.length=P.nest.length→ ∀y,bI y=true→cC (F y) (τ q)=cC y q)(hpts:(dE P').Perm ((dE P).map τ)):Mov p ⟨p.arrays,p.parts.set i P'⟩ i τ where
 arr:=rfl
 perm:=insts_perm hP (instP_perm hpts (by rw [hb,o7])) aAv
 cells x hx:=by
  obtain⟨s,s',d,s1,s2,s3,s4,s5,s6,s7⟩:=aE5 hv hP hb hev (insts_mem hx);obtain⟨c1,_,c3,_⟩:=kO s3;unfold rc wc;rw [s1,s2];dsimp only;rw [s5,s6,List.map_map,s4 _ c1];exact⟨oW fun a ha=>s4 a (c3 a ha),rfl⟩
 run x hx m:=by obtain⟨s,s',d,s1,s2,s3,s4,s5,s6,s7⟩:=aE5 hv hP hb hev (insts_mem hx);obtain⟨c1,_,c3,_⟩:=kO s3;unfold runI;rw [s1,s2];dsimp only;rw [s5,s4 _ c1,s7 m]
structure Kept (p:Prog) (i:Nat) (P:Part) (τ f:List Int→List Int):Prop where
 pos:(dsO p i).all (fun d=>posL (f d))=true
 dist: ∀a b:List Int,a.length=P.nest.length→b.length=P.nest.length→f (minusL b a)=minusL (τ b) (τ a)
 len: ∀a:List Int,a.length=P.nest.length→(τ a).length=P.nest.length
 inj: ∀a b:List Int,a.length=P.nest.length→b.length=P.nest.length→τ a=τ b→a=b
def aAc(k:Nat)(c:Int):Affine:=⟨[0,0,0,0].set k (-1),c⟩
def aAd(k:Nat)(c:Int)(x:Affine):Affine:=aNv x k (aAc k c)
def aDt(k:Nat)(d:List Int):List Int:=d.set k (0-d.getD k 0)
def vN(l:Loop):Int:=rA l.lo+rA l.hi-1
def aDr(k:Nat)(c:Int)(P:Part):Part:=⟨P.nest.take (k+1)++(P.nest.drop (k+1)).map (fX (aAd k c)),P.body.map (vR (aAd k c))⟩
def Q4(p:Prog)(i k:Nat)(l:Loop):Bool:=H5 l&&(dsO p i).all fun d=>posL (aDt k d)
def E2(p:Prog)(part loop:Int):Prog×Bool:=
 if gG p part loop=true then
  match ix p.parts part with
  |some P=>match ix P.nest loop with
   |some l=>if Q4 p part.toNat loop.toNat l=true then O4 ⟨p.arrays,p.parts.set part.toNat (aDr loop.toNat (vN l) P)⟩ else noP
   |none=>noP
  |none=>noP
 else noP
theorem aK0(k:Nat)(d:List Int):(aDt k d).length=d.length:=by simp [aDt]
theorem aDs{p:Prog}{i k:Nat}{P:Part}{l:Loop}(h:gG p (i:Int) (k:Int)=true)(hP:p.parts[i]? =some P)(hl:P.nest[k]? =some l):E2 p i k=if Q4 p i k l=true then O4 ⟨p.arrays,p.parts.set i (aDr k (vN l) P)⟩ else noP:=by unfold E2;rw [if_pos h,aI hP];dsimp only;rw [aI hl];simp only [Int.toNat_natCast]
theorem aNK{k:Nat}(hk:k<4){c:Int}(hc:nD 999 c):bB 1000 (aAc k c):=by unfold nD at hc;rcases(show k=0∨k=1∨k=2∨k=3 by omega) with rfl|rfl|rfl|rfl<;>(unfold bB nD aAc;simp;omega)
theorem aIp(k:Nat)(c:Int): ∀x,bI x=true→BA 4 (aAd k c x):=fun x hx=>by have:=aPX ⟨x.coefs.set k 0,x.const⟩ (aAc k c) (x.coefs.getD k 0) (by dsimp only;rw [L5];exact(d6 hx).1) (by simp [aAc]);unfold BA aAd aNv;omega
theorem aDD{l:List Affine}(h: ∀x∈l,bI x=true):nD 99 (rA l):=by
 unfold rA;cases l with
 |nil=>unfold nD;simp
 |cons x t=>exact(d6 (h x uW)).2.1
theorem aPw{l:Loop}(h:zA l):nD 999 (vN l):=by have h1:=aDD h.1.2;have h2:=aDD h.2.2;unfold nD at*;unfold vN;omega
theorem aJE(n:Nat){k:Nat}{d:List Int}(hk:k<d.length)(hd: ∀x∈d,nD 99999 x):fG n d (k:Int)=some (aDt k d):=by have e:=cB hk (0:Int);have hb:=hd _ (cR e);unfold nD at hb;unfold fG;refine Ev.eq (aA (aI e) ?_);rw [aN (by omega)];refine aA (cS (by omega) _) (Ev.some ?_);rw [A3];rfl
theorem aMY(n:Nat){k:Nat}(hk:k<4):zB n (k:Int) (-1)=some ⟨[0,0,0,0].set k (-1),0⟩:=by rcases(show k=0∨k=1∨k=2∨k=3 by omega) with rfl|rfl|rfl|rfl<;>rfl
theorem aJD{n:Nat}(hn:5000≤n){k:Nat}(hk:k<4){c:Int}(hc:nD 999 c): ∀x,bI x=true→fE n x (k:Int) (aAc k c)=some (aAd k c x):=fun x hx=>by unfold fE;rw [aG2 hn ((aPW hx).mono (by omega)) (aNK hk hc) hk];rfl
theorem aKZ{list:List Arr}{P:Part}(hP:cL list P=true){k:Nat}(hk:k<P.nest.length)(c:Int):BPt 4 (aDr k c P):=by
 obtain⟨h1,h2⟩:=kK hP;obtain⟨_,h4,h5,_⟩:=fL hP;refine⟨⟨by simp only [aDr,List.length_append,List.length_map,List.length_take,List.length_drop];omega,fun y hy=>?_⟩,by simp only [aDr,List.length_map];exact h4.2,fun s hs=>?_⟩
 ·rcases wV.1 hy with hy|hy
  ·exact(aMs hP).1.2 y (vAF hy)
  obtain⟨z,hz,rfl⟩:=V3.1 hy;exact aI1 (aIp k c) (h2 z (vAH hz))
 obtain⟨z,hz,rfl⟩:=V3.1 hs;exact aMr (aIp k c) (h5 z hz)
theorem aNJ{p:Prog}(hp:BG 1000 p)(part loop:Int):BG 1000 (E2 p part loop).1:=by
 by_cases hb:gG p part loop=true
 ·obtain⟨hv,i,k,P,l,rfl,rfl,hP,hl,hi,hkl,hok,hk⟩:=tY hb;rw [aDs hb hP hl];split
  ·exact aN8 (aEd hp i (aKZ hok hkl _))
  exact N2
 unfold E2;rw [if_neg hb];exact N2
theorem aLC{n:Nat}(hn:20000≤n){p:Prog}(hp:BG 1000 p)(part loop:Int):mQ n p part loop=some (E2 p part loop):=by
 unfold mQ;by_cases hneg:loop= -1
 ·subst hneg;unfold E2;rw [if_neg fun h=>by rw [H3 (by omega)] at h;cases h];exact Ev.eq (aK (aC2 (by omega) hp part) fun x1 h1=>Ev.cond (fun _=>aG (fun _=>Ev.some rfl) fun h=>absurd (show(-1:Int)<0 by omega) h) fun _=>Ev.some rfl)
 refine Ev.eq (aA (aFX (by omega) hp part loop hneg) ?_);by_cases hb:gG p part loop=true
 ·rw [if_pos hb];refine bZ (aG (fun h=>by rw [H3 h] at hb;cases hb) fun h0=>?_);obtain⟨hv,i,k,P,l,rfl,rfl,hP,hl,hi,hkl,hok,hk⟩:=tY hb;obtain⟨h1,h2⟩:=kK hok;obtain⟨_,h4,h5,_⟩:=fL hok;have hlp:=h2 l (cR hl);rw [aDs hb hP hl];refine aA (aI hP) (aA (aI hl) (aA (aLI (by omega) hlp) ?_));cases hf:H5 l with
  |false=>exact b7 (Ev.some (by rw [if_neg (by unfold Q4;rw [hf];simp)];rfl))
  |true=>
   refine bZ (aA (aAK hn hp.sm hv hP (F:=fun q0=>fG n q0 (k:Int)) (f:=aDt k) (fun d hd=>aJE n (by have:=(sS hv hP hd).1;omega) (sS hv hP hd).2) (aK0 k)) (Ev.cond (fun hd=>?_) fun hd=>Ev.some ?_))
   ·rw [show Q4 p i k l=true by unfold Q4;rw [hf,hd];rfl];refine aA (aMY n hk) ?_;have hc:=aPw hlp;have h1c:=aDD hlp.1.2;have h2c:=aDD hlp.2.2;unfold nD at h1c h2c;have hcc:(⟨([0,0,0,0]:List Int).set k (-1),wr ((wr (rA l.lo+rA l.hi))-1)⟩:Affine)=aAc k (vN l):=by
     rw [aN (n:=rA l.lo+rA l.hi) (by omega),aN (by omega)];rfl
    rw [aN (n:=(k:Int)+1) (by omega)];have hch:=yC (n:=n) (by omega) (nest:=P.nest) (body:=P.body) (s:=k+1) (by omega) h1 (fun y hy=>h2 y (vAH hy)) h4.2 h5 (F:=fun q0=>fE n q0 (k:Int) (⟨([0,0,0,0]:List Int).set k (-1),wr ((wr (rA l.lo+rA l.hi))-1)⟩:Affine)) (f:=aAd k (vN l)) fun x hx=>by rw [hcc];exact aJD (by omega) hk hc x hx
    rw [show(k:Int)+1=((k+1:Nat):Int) by omega];refine aA hch (aA (cS (by dsimp only;omega) _) ?_);rw [A3];exact aA (Q9 (by omega) (aEd hp i (aKZ hok hkl (vN l)))) (Ev.some rfl)
   rw [if_neg (by unfold Q4;rw [hf,hd];simp)];rfl
 unfold E2;rw [if_neg hb,if_neg hb];exact b7 (Ev.some rfl)
theorem aGF{F:Affine→Affine}{τ:List Int→List Int}{m:Nat}(hev: ∀q:List Int,m≤q.length→ ∀y,bI y=true→cC (F y) (τ q)=cC y q)(happ: ∀(q:List Int) (v:Int),m≤q.length→τ (q++[v])=τ q++[v]): ∀(ls:List Loop) (p:List Int),(∀l∈ls,zA l)→m≤p.length→pts (ls.map (fX F)) (τ p)=(pts ls p).map τ
 | [],p,_,_=>rfl
 |l::ls,p,h,hk=>by
  have hl:=h l uW;have ev: ∀{as:List Affine},(∀x∈as,bI x=true)→evs (as.map F) (τ p)=evs as p:=fun ha=>by
   unfold evs;rw [List.map_map];exact oW fun x hx=>hev p hk x (ha x hx)
  have e1:jF (fX F l) (τ p)=jF l p:=by unfold jF fX;rw [ev hl.1.2]
  have e2:mB (fX F l) (τ p)=mB l p:=by unfold mB fX;rw [ev hl.2.2]
  simp only [List.map_cons,pts];rw [e1,e2,vBv];refine xM fun v _=>?_;rw [←happ p v hk];exact aGF hev happ ls (p++[v]) (fun x hx=>h x (tH _ hx)) (by simp;omega)
theorem M4{A B:List Loop}{τ:List Int→List Int}{k:Nat}(h: ∀p:List Int,p.length=k→(pts B p).Perm ((pts A p).map τ)): ∀(os:List Loop) (p:List Int),p.length+os.length=k→(pts (os++B) p).Perm ((pts (os++A) p).map τ)
 | [],p,hk=>h p (by simpa using hk)
 |o::os,p,hk=>by simp only [List.cons_append,pts];rw [vBv];exact O1 fun v _=>M4 h os (p++[v]) (by simp at hk ⊢; omega)
theorem aFl{α β:Type}{f g:α→List β}: ∀l:List α,(l.flatMap f++l.flatMap g).Perm (l.flatMap fun b=>f b++g b)
 | []=> .nil
 |x::l=>by simp only [List.flatMap_cons,List.append_assoc];refine List.Perm.append_left _ ?_;refine(List.perm_append_comm_assoc _ _ _).trans ?_;exact List.Perm.append_left _ (aFl l)
theorem aCO{α β γ:Type}{F:α→β→List γ}{B:List β}: ∀A:List α,(A.flatMap fun a=>B.flatMap (F a)).Perm (B.flatMap fun b=>A.flatMap fun a=>F a b)
 | []=>by
  have:B.flatMap (fun b=>([]:List α).flatMap fun a=>F a b)=[]:=List.flatMap_eq_nil_iff.2 fun _ _=>rfl;rw [this];exact .nil
 |a::A=>by simp only [List.flatMap_cons];exact(List.Perm.append_left _ (aCO A)).trans (aFl B)
theorem xG: ∀(b a:List Int) (k:Nat) (x y:Int),minusL (b.set k x) (a.set k y)=(minusL b a).set k (x-y)
 | [],a,k,x,y=>by simp [minusL]
 |b::bs,[],k,x,y=>by simp [minusL]
 |b::bs,a::as,0,x,y=>rfl
 |b::bs,a::as,k+1,x,y=>by show(b-a)::minusL (bs.set k x) (as.set k y)=(b-a)::(minusL bs as).set k (x-y);rw [xG bs as k x y]
theorem F5: ∀(b a:List Int) (k:Nat),k<b.length→k<a.length→(minusL b a).getD k 0=b.getD k 0-a.getD k 0
 | [],a,k,h,_=>by simp at h
 |b::bs,[],k,_,h=>by simp at h
 |b::bs,a::as,0,_,_=>rfl
 |b::bs,a::as,k+1,h1,h2=>F5 bs as k (by simpa using h1) (by simpa using h2)
theorem aA3: ∀(cs p:List Int) (k:Nat) (v:Int),k<cs.length→nJ (cs.set k v) p=nJ cs p+(v-cs.getD k 0)*p.getD k 0
 | [],p,k,v,h=>by simp at h
 |c::cs,[],k,v,_=>by cases k<;>simp [nJ]
 |c::cs,x::p,0,v,_=>by
  simp only [List.set_cons_zero,nJ,List.getD_cons_zero];rw [Int.sub_mul];omega
 |c::cs,x::p,k+1,v,h=>by simp only [List.set_cons_succ,nJ,List.getD_cons_succ];rw [aA3 cs p k v (by simpa using h)];omega
theorem aJS: ∀p:List Int,nJ [0,0,0,0] p=0:=fun p=>aIR rfl p
def q8(k:Nat)(c:Int)(q:List Int):List Int:=q.set k (c-q.getD k 0)
theorem aKX(k:Nat)(c:Int)(q:List Int):(q8 k c q).length=q.length:=by simp [q8]
theorem rE{l:List Int}{k:Nat}(h:k<l.length)(v:Int):(l.set k v).getD k 0=v:=by rw [wW,L4 h];rfl
theorem aEZ{k:Nat}{c:Int}{q:List Int}(hk:k<q.length):q8 k c (q8 k c q)=q:=by
 have e:c-(c-q.getD k 0)=q.getD k 0:=by omega
 unfold q8;rw [rE hk,List.set_set,e];exact aKO (cB hk 0)
theorem aIo{k:Nat}(hk:k<4){c:Int}{q:List Int}(hq:k<q.length){y:Affine}(hy:bI y=true):cC (aAd k c y) (q8 k c q)=cC y q:=by
 have h4:=(d6 hy).1;have eb: ∀p:List Int,cC (aAc k c) p=c-p.getD k 0:=fun p=>by
  unfold cC aAc;dsimp only;rw [aA3 _ _ _ _ (by simpa using hk),aJS]
  have:([0,0,0,0]:List Int).getD k 0=0:=by rcases(show k=0∨k=1∨k=2∨k=3 by omega) with rfl|rfl|rfl|rfl<;>rfl
  rw [this];omega
 have e1:cC (aAd k c y) (q8 k c q)=cC ⟨y.coefs.set k 0,y.const⟩ (q8 k c q)+y.coefs.getD k 0*cC (aAc k c) (q8 k c q):=by
  unfold aAd aNv aMz cC;dsimp only;rw [aIP _ _ _ _ (by rw [L5,h4];simp [aAc]),vBW];omega
 rw [e1,eb];unfold cC q8;dsimp only;rw [rE hq,aA3 _ _ _ _ (by omega),aIQ _ _ _ _ hq,rE hq,show c-(c-q.getD k 0)=q.getD k 0 by omega,Int.zero_sub,Int.neg_mul,vBX,vBX];omega
theorem aKY{k:Nat}{c:Int}(q:List Int)(v:Int)(h:k+1≤q.length):q8 k c (q++[v])=q8 k c q++[v]:=by unfold q8;rw [N9 (by omega),vBG _ _ (by omega)]
theorem aNI{k:Nat}{c:Int}{q:List Int}(h:q.length=k)(v:Int):q8 k c (q++[v])=q++[c-v]:=by subst h;unfold q8;rw [aJJ,vBR _ _ (kH _),vBB];rfl
theorem aNE(lo hi:Int):((jU lo hi).map fun v=>lo+hi-1-v).Perm (jU lo hi):=by
 have:(jU lo hi).map (fun v=>lo+hi-1-v)=(jU lo hi).reverse:=by
  unfold jU;rw [List.map_map];apply List.ext_getElem
  ·simp
  intro i h1 h2;simp at h1 h2⊢;omega
 rw [this];exact List.reverse_perm _
theorem aPK{l:Loop}(h:H5 l=true)(p:List Int):jF l p=rA l.lo∧mB l p=rA l.hi:=by
 unfold H5 at h;simp only [Bool.and_eq_true,decide_eq_true_eq] at h;obtain⟨e1,e2,f1,f2⟩:=h;obtain⟨x,hx⟩:=vBP.1 e1;obtain⟨y,hy⟩:=vBP.1 e2;unfold aAS at f1 f2;rw [hx] at f1;rw [hy] at f2;have f1:dC x.coefs=0:=by simpa using f1
 have f2:dC y.coefs=0:=by simpa using f2
 unfold jF mB evs rA;rw [hx,hy];simp [mx,mn,cC,aIR f1,aIR f2]
theorem aNH{list:List Arr}{P:Part}(hP:cL list P=true){k:Nat}{l:Loop}(hl:P.nest[k]? =some l)(hf:H5 l=true)(hq:cL list (aDr k (vN l) P)=true):(dE (aDr k (vN l) P)).Perm ((dE P).map (q8 k (vN l))):=by
 obtain⟨h1,h2⟩:=kK hP;have hk:=(cX.1 hl).1;rw [qE hq,qE hP];have e:P.nest=P.nest.take k++l::P.nest.drop (k+1):=by rw [←jA hl,vBp]
 have e2:(aDr k (vN l) P).nest=P.nest.take k++l::(P.nest.drop (k+1)).map (fX (aAd k (vN l))):=by
  show P.nest.take (k+1)++_=_;rw [xT,hl,vAR];rfl
 rw [e2]
 conv=>rhs;rw [e]
 have h3: ∀y∈P.nest.drop (k+1),zA y:=fun y hy=>h2 y (vAH hy);generalize P.nest.drop (k+1)=ls at h3;refine M4 (k:=k) (fun p hp=>?_) _ _ (by simp;omega);obtain⟨g1,g2⟩:=aPK hf p;simp only [pts];rw [g1,g2,vBv];have e3:(jU (rA l.lo) (rA l.hi)).flatMap (fun v=>(pts ls (p++[v])).map (q8 k (vN l)))=((jU (rA l.lo) (rA l.hi)).map fun v=>rA l.lo+rA l.hi-1-v).flatMap (fun v=>pts (ls.map (fX (aAd k (vN l)))) (p++[v])):=by
  rw [List.flatMap_map];refine xM fun v _=>?_;rw [←aGF (m:=k+1) (fun q hq y hy=>aIo (by omega) (by omega) hy) (fun q v hq=>aKY q v hq) ls _ h3 (by simp;omega),aNI hp];rfl
 rw [e3];exact((aNE _ _).flatMap_right _).symm
theorem aKW{p:Prog}{i k:Nat}{P:Part}(hk:k<P.nest.length)(h:(dsO p i).all (fun d=>posL (aDt k d))=true)(c:Int):Kept p i P (q8 k c) (aDt k) where
 pos:=h
 dist a b ha hb:=by
  unfold aDt q8;rw [xG,F5 _ _ _ (by omega) (by omega)];congr 1;omega
 len a ha:=by rw [aKX,ha]
 inj a b ha hb e:=by rw [←aEZ (c:=c) (show k<a.length by omega),e,aEZ (by omega)]
theorem aQN{p q:Prog}{part loop:Int}(h:E2 p part loop=(q,true)):bF p=true∧bF q=true∧ ∃(i k:Nat) (P:Part) (l:Loop),part=i∧loop=k∧p.parts[i]? =some P∧P.nest[k]? =some l∧gG p part loop=true∧H5 l=true∧q=⟨p.arrays,p.parts.set i (aDr k (vN l) P)⟩∧Mov p q i (q8 k (vN l))∧Kept p i P (q8 k (vN l)) (aDt k):=by
 by_cases hb:gG p part loop=true
 ·obtain⟨hv,i,k,P,l,rfl,rfl,hP,hl,hi,hkl,hok,hk⟩:=tY hb;rw [aDs hb hP hl] at h;by_cases hr:Q4 p i k l=true
  ·rw [if_pos hr] at h;obtain⟨rfl,hw⟩:=aLK h;unfold Q4 at hr;rw [vBt] at hr;have hokq:=(gC hw).2.2.2.1 _ (cR (L4 hi));exact⟨hv,hw,i,k,P,l,rfl,rfl,hP,hl,hb,hr.1,rfl,aLf hv hP rfl (fun q hq y hy=>aIo hk (by omega) hy) (aNH hok hl hr.1 hokq),aKW hkl hr.2 _⟩
  rw [if_neg hr] at h;cases h
 unfold E2 at h;rw [if_neg hb] at h;cases h
theorem aMj(code:List UInt8):Ev (iK N code) (fun x=>BG 1000 x.1):=by unfold iK;exact aMx code
theorem aOG{k:Nat}{q:List Int}(hk:k+1<q.length)(j:Nat):(wY k q)[j]? =if j=k then q[k+1]? else if j=k+1 then q[k]? else q[j]? :=by
 unfold wY;by_cases h1:j=k+1
 ·subst h1;rw [L4 (by rw [L5];exact hk),if_neg (by omega),if_pos rfl];exact(cB (by omega) _).symm
 rw [vAA (by omega)];by_cases h2:j=k
 ·subst h2;rw [L4 (by omega),if_pos rfl];exact(cB hk _).symm
 rw [vAA (by omega),if_neg h2,if_neg h1]
theorem aIk{k:Nat}{q:List Int}(hk:k+1<q.length):wY k (wY k q)=q:=by
 apply List.ext_getElem?;intro j;have h:=aOG hk;rw [aOG (by rw [V7];exact hk),h,h,h];by_cases h1:j=k
 ·subst h1;rw [if_pos rfl,if_neg (by omega),if_pos rfl]
 by_cases h2:j=k+1
 ·subst h2;rw [if_neg (by omega),if_pos rfl,if_pos rfl]
 rw [if_neg h1,if_neg h2,if_neg h1,if_neg h2]
theorem aMk: ∀(k:Nat) (cs q:List Int),k+1<cs.length→k+1<q.length→nJ (wY k cs) (wY k q)=nJ cs q
 |0,a::b::cs,x::y::q,_,_=>by
  show b*y+(a*x+nJ cs q)=a*x+(b*y+nJ cs q)
  omega
 |k+1,a::cs,x::q,h1,h2=>by
  show a*x+nJ (wY k cs) (wY k q)=a*x+nJ cs q;rw [aMk k cs q (by simpa using h1) (by simpa using h2)]
 |0,[],_,h,_=>by simp at h
 |0,[_],_,h,_=>by simp at h
 |0,_::_::_,[],_,h=>by simp at h
 |0,_::_::_,[_],_,h=>by simp at h
 |k+1,[],_,h,_=>by simp at h
 |k+1,_::_,[],_,h=>by simp at h
theorem aOF{k:Nat}(hk:k+1<4){q:List Int}(hq:k+1<q.length){y:Affine}(hy:bI y=true):cC (swA k y) (wY k q)=cC y q:=by have h4:=(d6 hy).1;show y.const+nJ (wY k y.coefs) (wY k q)=y.const+nJ y.coefs q;rw [aMk k _ _ (by omega) hq]
theorem aPs{k:Nat}(q:List Int)(v:Int)(h:k+2≤q.length):wY k (q++[v])=wY k q++[v]:=by unfold wY;rw [N9 (by omega),N9 (by omega),vBG _ _ (by omega),vBG _ _ (by rw [L5];omega)]
theorem aKF: ∀(q:List Int) (a b:Int),wY q.length (q++[a]++[b])=q++[b]++[a]
 | [],a,b=>rfl
 |x::q,a,b=>by show x::wY q.length (q++[a]++[b])=x::(q++[b]++[a]);rw [aKF q a b]
theorem aRd{l:List Affine}{d:Nat}(h:cW l (d:Int)=true): ∀x∈l,x.coefs.getD d 0=0:=fun x hx=>by
 unfold cW bY at h;simp only [Bool.and_eq_true,List.all_eq_true,decide_eq_true_eq] at h;obtain⟨h1,h2⟩:=h.1 x hx;have h4:=(d6 h1).1;by_cases hd:d<x.coefs.length
 ·exact v7 (cB hd 0) (by omega)
 rw [wW,vBn (by omega)];rfl
theorem H6{l:List Affine}{q:List Int}(h: ∀x∈l,x.coefs.getD q.length 0=0)(v:Int):evs l (q++[v])=evs l q:=by unfold evs;exact oW fun x hx=>by unfold cC;rw [aFw _ _ _ (h x hx)]
theorem aQJ{l:Loop}{k:Nat}(h:A6 l k=false):(∀x∈l.lo,x.coefs.getD k 0=0)∧ ∀x∈l.hi,x.coefs.getD k 0=0:=by unfold A6 at h;rw [Bool.or_eq_false_iff,List.any_eq_false,List.any_eq_false] at h;exact⟨fun x hx=>by simpa [L6] using h.1 x hx,fun x hx=>by simpa [L6] using h.2 x hx⟩
theorem aMS{list:List Arr}{P:Part}(hP:cL list P=true){k:Nat}(hk:k+1<P.nest.length)(hu:A6 (P.nest.getD (k+1) ⟨[],[]⟩) k=false)(hq:cL list (swP k P)=true):(dE (swP k P)).Perm ((dE P).map (wY k)):=by
 obtain⟨h1,h2⟩:=kK hP;have hl0:=cB (show k<P.nest.length by omega) (⟨[],[]⟩:Loop);have hl1:=cB hk (⟨[],[]⟩:Loop);rw [qE hq,qE hP];have hfit:=(aEp (fL hP).1).1.2 k _ hl0;have hlp0:=h2 _ (cR hl0);have hlp1:=h2 _ (cR hl1);have e:P.nest=P.nest.take k++P.nest.getD k ⟨[],[]⟩::P.nest.getD (k+1) ⟨[],[]⟩::P.nest.drop (k+2):=by
  rw [←jA hl1,←jA hl0,vBp]
 have e2:(swP k P).nest=P.nest.take k++P.nest.getD (k+1) ⟨[],[]⟩::P.nest.getD k ⟨[],[]⟩::(P.nest.drop (k+2)).map (fX (swA k)):=by
  show(Z0 k P.nest).take (k+2)++((Z0 k P.nest).drop (k+2)).map (fX (swA k))=_;have hs:=aPu hk;rw [aEI,xT,xT,hs,hs,if_pos rfl,if_neg (by omega),if_pos rfl,hl0,hl1]
  have:(Z0 k P.nest).take k=P.nest.take k:=by
   unfold Z0;rw [List.take_set_of_le (by omega),List.take_set_of_le (by omega)]
  rw [this];simp
 rw [e2]
 conv=>rhs;rw [e]
 obtain⟨u1,u2⟩:=aQJ hu;have b1:=aRd hfit.1;have b2:=aRd hfit.2;have h3: ∀y∈P.nest.drop (k+2),zA y:=fun y hy=>h2 y (vAH hy);generalize P.nest.drop (k+2)=ls at h3;generalize P.nest.getD k ⟨[],[]⟩=l0 at*;generalize P.nest.getD (k+1) ⟨[],[]⟩=l1 at*;refine M4 (k:=k) (fun p hp=>?_) _ _ (by simp;omega);subst hp;simp only [pts];have f1: ∀v,jF l1 (p++[v])=jF l1 p:=fun v=>by unfold jF;rw [H6 u1]
 have f2: ∀v,mB l1 (p++[v])=mB l1 p:=fun v=>by unfold mB;rw [H6 u2]
 have f3: ∀v,jF l0 (p++[v])=jF l0 p:=fun v=>by unfold jF;rw [H6 b1]
 have f4: ∀v,mB l0 (p++[v])=mB l0 p:=fun v=>by unfold mB;rw [H6 b2]
 simp only [f1,f2,f3,f4];rw [vBv];have e3:(jU (jF l0 p) (mB l0 p)).flatMap (fun v=>((jU (jF l1 p) (mB l1 p)).flatMap fun w=>pts ls (p++[v]++[w])).map (wY p.length))=(jU (jF l0 p) (mB l0 p)).flatMap (fun v=>(jU (jF l1 p) (mB l1 p)).flatMap fun w=>pts (ls.map (fX (swA p.length))) (p++[w]++[v])):=by
  refine xM fun v _=>?_;rw [vBv];refine xM fun w _=>?_;rw [←aGF (m:=p.length+2) (fun q hq y hy=>aOF (by omega) (by omega) hy) (fun q v hq=>aPs q v hq) ls _ h3 (by simp),aKF]
 rw [e3];exact(aCO _).symm
theorem aKg{p:Prog}{i k:Nat}{P:Part}(hk:k+1<P.nest.length)(h:(dsO p i).all (fun d=>posL (wY k d))=true):Kept p i P (wY k) (wY k) where
 pos:=h
 dist a b ha hb:=by
  unfold wY;rw [xG,xG,F5 _ _ _ (by omega) (by omega),F5 _ _ _ (by omega) (by omega)]
 len a ha:=by rw [V7,ha]
 inj a b ha hb e:=by rw [←aIk (show k+1<a.length by omega),e,aIk (by omega)]
theorem aQB{p q:Prog}{part loop:Int}(h:qY p part loop=(q,true)):bF p=true∧bF q=true∧ ∃(i k:Nat) (P:Part),part=i∧loop=k∧p.parts[i]? =some P∧Mov p q i (wY k)∧Kept p i P (wY k) (wY k):=by
 by_cases hb:gG p part loop=true∧gG p part (loop+1)=true
 ·obtain⟨hv,i,k,P,l,rfl,rfl,hP,hl,hi,hkl,hok,hk⟩:=tY hb.1;have hk1:=W9 hP hb.2;rw [aDd hb.1 hb.2 hP] at h;by_cases hr:aBL p i k P=true
  ·rw [if_pos hr] at h;obtain⟨rfl,hw⟩:=aLK h;have h4:=(kK hok).1;unfold aBL at hr;rw [vBt,Bool.not_eq_true'] at hr;have hokq:=(gC hw).2.2.2.1 _ (cR (L4 hi));exact⟨hv,hw,i,k,P,rfl,rfl,hP,aLf hv hP rfl (fun q hq y hy=>aOF (by omega) (by omega) hy) (aMS hok hk1 hr.1 hokq),aKg hk1 hr.2⟩
  rw [if_neg hr] at h;cases h
 unfold qY at h;rw [if_neg hb] at h;cases h
end Go.Lift
