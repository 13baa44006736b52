/- Distances: sorted lists of points without doubles. -/
import Derived.Test.YtjmaejilmokdgaaGreatATran1
import Derived.Test.YtjmaejilmokdgaaGreatARun1
set_option maxRecDepth 100000
set_option linter.unusedVariables false
namespace Go.Lift
open Go
theorem o6: ∀xs,cmpL xs xs=0
 | []=>rfl
 |x::xs=>by unfold cmpL;rw [if_neg (by omega),if_neg (by omega)];exact o6 xs
theorem jH: ∀xs ys,cmpL ys xs= -cmpL xs ys
 | [],[]=>by simp [cmpL]
 | [],_::_=>by simp [cmpL]
 |_::_,[]=>by simp [cmpL]
 |x::xs,y::ys=>by
  unfold cmpL;by_cases h1:x<y
  ·simp [h1,show¬y<x by omega]
  by_cases h2:y<x
  ·simp [h1,h2]
  rw [if_neg h1,if_neg h2,if_neg h2,if_neg h1];exact jH xs ys
theorem pW: ∀{xs ys},cmpL xs ys=0→xs=ys
 | [],[],_=>rfl
 | [],_::_,h=>by simp [cmpL] at h
 |_::_,[],h=>by simp [cmpL] at h
 |x::xs,y::ys,h=>by
  unfold cmpL at h;by_cases h1:x<y
  ·rw [if_pos h1] at h;omega
  by_cases h2:y<x
  ·rw [if_neg h1,if_pos h2] at h;omega
  rw [if_neg h1,if_neg h2] at h;rw [pW h,show x=y by omega]
theorem H5: ∀{xs ys zs},cmpL xs ys<0→cmpL ys zs<0→cmpL xs zs<0
 | [],[],_,h,_=>by simp [cmpL] at h
 | [],_::_,[],_,h=>by simp [cmpL] at h
 | [],_::_,_::_,_,_=>by simp [cmpL]
 |_::_,[],_,h,_=>by simp [cmpL] at h
 |_::_,_::_,[],_,h=>by simp [cmpL] at h
 |x::xs,y::ys,z::zs,h1,h2=>by
  unfold cmpL at h1 h2⊢;by_cases a:x<y
  ·by_cases b:y<z
   ·rw [if_pos (by omega)];omega
   by_cases c:z<y
   ·rw [if_neg b,if_pos c] at h2;omega
   rw [if_pos (by omega)];omega
  by_cases b:y<x
  ·rw [if_neg a,if_pos b] at h1;omega
  by_cases c:y<z
  ·rw [if_pos (by omega)];omega
  by_cases d:z<y
  ·rw [if_neg c,if_pos d] at h2;omega
  rw [if_neg (by omega),if_neg (by omega)];rw [if_neg a,if_neg b] at h1;rw [if_neg c,if_neg d] at h2;exact H5 h1 h2
theorem aE1: ∀xs ys,aAf xs ys=decide (cmpL xs ys<0)
 | [],[]=>rfl
 | [],_::_=>rfl
 |_::_,[]=>rfl
 |x::xs,y::ys=>by
  unfold aAf cmpL;by_cases h:x=y
  ·subst h;simp only [if_true,Int.lt_irrefl,if_false];exact aE1 xs ys
  by_cases h1:x<y
  ·simp [h,h1]
  have:y<x:=by omega
  simp [h,h1,this]
abbrev SS(l:List (List Int)):Prop:=l.Pairwise fun a b=>cmpL a b<0
theorem aOs: ∀{l m:List (List Int)},SS l→SS m→(∀x,x∈l↔x∈m)→l=m
 | [],[],_,_,_=>rfl
 | [],y::m,_,_,h=>by have:=(h y).2 (by simp);simp at this
 |x::l,[],_,_,h=>by have:=(h x).1 (by simp);simp at this
 |x::l,y::m,hl,hm,h=>by
  obtain⟨l1,l2⟩:=vBd.1 hl;obtain⟨m1,m2⟩:=vBd.1 hm;have e:x=y:=by
   rcases qH.1 ((h x).1 (by simp)) with h1|h1
   ·exact h1
   rcases qH.1 ((h y).2 (by simp)) with h2|h2
   ·exact h2.symm
   have a:=m1 x h1;have b:=l1 y h2
   have:=H5 a b;rw [o6] at this;omega
  subst e;have hx1:x∉l:=fun hx=>by have:=l1 x hx;rw [o6] at this;omega
  have hx2:x∉m:=fun hx=>by have:=m1 x hx;rw [o6] at this;omega
  rw [aOs l2 m2 (fun z=>⟨fun hz=>by
   rcases qH.1 ((h z).1 (rQ _ hz)) with rfl|h3
   ·exact absurd hz hx1
   ·exact h3,fun hz=>by
   rcases qH.1 ((h z).2 (rQ _ hz)) with rfl|h3
   ·exact absurd hz hx2
   exact h3⟩)]
def sK:List (List Int)→List Int→List (List Int)
 | [],d=>[d]
 |x::xs,d=>if cmpL d x<0 then d::x::xs else x::sK xs d
theorem aAn{d z:List Int}: ∀{l:List (List Int)},z∈sK l d↔z=d∨z∈l
 | []=>by simp [sK]
 |x::xs=>by
  unfold sK;split
  ·simp
  simp only [List.mem_cons,aAn (l:=xs)];constructor
  ·rintro(h|h|h)
   ·exact .inr (.inl h)
   ·exact .inl h
   exact .inr (.inr h)
  rintro(h|h|h)
  ·exact .inr (.inl h)
  ·exact .inl h
  exact .inr (.inr h)
theorem aIx{d:List Int}: ∀{l:List (List Int)},SS l→d∉l→SS (sK l d)
 | [],_,_=>by simp [sK]
 |x::xs,hl,hd=>by
  obtain⟨l1,l2⟩:=vBd.1 hl;unfold sK;split
  ·rename_i h;refine vBd.2 ⟨fun z hz=>?_,hl⟩;rcases qH.1 hz with rfl|hz
   ·exact h
   exact H5 h (l1 z hz)
  rename_i h;refine vBd.2 ⟨fun z hz=>?_,aIx l2 fun hx=>hd (rQ _ hx)⟩;rcases aAn.1 hz with rfl|hz
  ·have h1:=jH z x;have h2:cmpL z x≠0:=fun e=>hd (by rw [pW e];simp);omega
  exact l1 z hz
def rO(l:List (List Int))(d:List Int):List (List Int):=if d∈l then l else sK l d
theorem aOg{l:List (List Int)}(h:SS l)(d:List Int):SS (rO l d):=by
 unfold rO;split
 ·exact h
 exact aIx h ‹_›
theorem aFU{l:List (List Int)}{d z:List Int}:z∈rO l d↔z=d∨z∈l:=by
 unfold rO;split
 ·rename_i h;exact⟨.inr,fun hz=>by rcases hz with rfl|hz;exact h;exact hz⟩
 exact aAn
theorem aDx: ∀(ds l:List (List Int)),SS l→SS (ds.foldl rO l)∧ ∀z,z∈ds.foldl rO l↔z∈l∨z∈ds
 | [],l,h=>⟨h,fun z=>by simp⟩
 |d::ds,l,h=>by
  obtain⟨h1,h2⟩:=aDx ds (rO l d) (aOg h d);refine⟨h1,fun z=>?_⟩;rw [List.foldl_cons,h2 z,aFU,qH];constructor
  ·rintro((h|h)|h)
   ·exact .inr (.inl h)
   ·exact .inl h
   exact .inr (.inr h)
  rintro(h|h|h)
  ·exact .inl (.inr h)
  ·exact .inl (.inl h)
  exact .inr h
def cD:List (List Int)→List (List Int)
 | []=>[]
 | [x]=>[x]
 |x::y::r=>if x=y then cD (y::r) else x::cD (y::r)
theorem t7{z:List Int}: ∀{l:List (List Int)},z∈cD l↔z∈l
 | []=>by simp [cD]
 | [x]=>by simp [cD]
 |x::y::r=>by
  have ih:=t7 (z:=z) (l:=y::r);unfold cD;split
  ·rename_i h;subst h;rw [ih];simp
  rw [qH,ih];simp
theorem wL: ∀{l:List (List Int)},l.Pairwise (fun a b=> ¬cmpL b a<0)→SS (cD l)
 | [],_=>by simp [cD]
 | [x],_=>by simp [cD]
 |x::y::r,h=>by
  obtain⟨h1,h2⟩:=vBd.1 h;obtain⟨h3,_⟩:=vBd.1 h2;unfold cD;split
  ·exact wL h2
  rename_i hne;refine vBd.2 ⟨fun z hz=>?_,wL h2⟩;have hxy:cmpL x y<0:=by
   have a:=h1 y (by simp);have b:=jH x y;have c:cmpL x y≠0:=fun e=>hne (pW e);omega
  rcases qH.1 (t7.1 hz) with rfl|hz
  ·exact hxy
  have a:=h3 z hz;have b:=jH y z;by_cases e:cmpL y z=0
  ·rw [←pW e];exact hxy
  exact H5 hxy (by omega)
theorem aC7(l:List (List Int)):(eU l).Pairwise (fun a b=> ¬cmpL b a<0):=by
 have:=List.pairwise_mergeSort (le:=fun x y=> !decide (cmpL y x<0)) (fun a b c h1 h2=>by
  simp only [Bool.not_eq_true',decide_eq_false_iff_not] at*;intro h;have f1:=jH a b;have f2:=jH b c;by_cases e:cmpL b a=0
  ·rw [pW e] at h2;exact h2 h
  ·exact h2 (H5 h (by omega))) (fun a b=>by
  have f1:=jH a b;by_cases h:cmpL b a<0
  ·have: ¬cmpL a b<0:=by omega
   simp [h,this]
  simp [h]) l
 refine this.imp fun h=>?_;simpa using h
theorem aNZ(ds:List (List Int)):cD (eU ds)=ds.foldl rO []:=by obtain⟨h1,h2⟩:=aDx ds [] List.Pairwise.nil;refine aOs (wL (aC7 ds)) h1 fun z=>?_;rw [t7,h2 z];unfold eU;rw [List.mem_mergeSort];simp
def minusL(b a:List Int):List Int:=List.zipWith (fun x y=>x-y) b a
theorem aEX{R:Type}{Q:R→Prop}{n:Nat}{a b:List Int}(hl:a.length=b.length)(hb:b.length≤1000)(hn:1000<n)(ha1: ∀x∈a,kG 9999 x)(hb1: ∀x∈b,kG 9999 x){K:List Int→Option R}(hK:Ev (K (minusL b a)) Q):
  Ev (aM (fun again15 ((x12,x13):(List Int)×Int)=>
   bif decide (x13<(b.length:Int)) then(
    Option.bind (ix b x13) fun x16=>
    Option.bind (ix a x13) fun x17=>
    Option.bind (app x12 [wr (x16-x17)]) fun x18=>
    again15 (x18,wr (x13+1))
   ) else(
    K x12
   )) n ([],0)) Q:=by
 refine Ev.loop (fun x:List Int×Int=> ∃i:Nat,x.2=i∧i≤b.length∧x.1=(minusL b a).take i) (fun x=>b.length-x.2.toNat) ?_ n _ ⟨0,rfl,by omega,by simp⟩ (by dsimp only;omega);rintro again ⟨x,k⟩ ⟨i,hk,hi,hx⟩ hr;dsimp only at hk hx⊢;subst hk;have hml:(minusL b a).length=b.length:=by unfold minusL;rw [vBs];omega
 refine aH (fun hlt=>?_) fun hge=>?_
 ·have hlt:i<b.length:=by omega
  have e1:=cP hlt;have e2:=cP (show i<a.length by omega);have b1:=hb1 _ (W4 hlt);have b2:=ha1 _ (W4 (show i<a.length by omega));unfold kG at b1 b2;refine aA (aS e1) (aA (aS e2) (aA (bW (by rw [hx,u4];simp;omega)) ?_));rw [aN (n:=b[i]-a[i]) (by omega),aN (by omega)];refine hr _ ⟨i+1,by dsimp only;omega,by omega,?_⟩ (by dsimp only;omega);dsimp only;rw [yB,←hx];congr 1;unfold minusL;rw [List.getElem?_zipWith,e1,e2];rfl
 have:i=b.length:=by omega
 subst this;rw [vBl (by omega)] at hx;rw [hx];exact hK
theorem aGt{n:Nat}{a b:List Int}(hl:a.length=b.length)(hb:b.length≤1000)(hn:1000<n)(ha1: ∀x∈a,kG 9999 x)(hb1: ∀x∈b,kG 9999 x):w7 n b a=some (minusL b a):=by unfold w7;exact Ev.eq (aEX hl hb hn ha1 hb1 (Ev.some rfl))
theorem aKI{n:Nat}(hn:20000≤n){l:List (List Int)}{d:List Int}(hl:l.length≤15000)(h1: ∀x∈l,x.length≤1000)(hd:d.length≤1000):T4 n l d=some (rO l d):=by
 unfold T4;refine Ev.eq (Ev.loop (fun x:List (List Int)×Bool×Int=> ∃i:Nat,x.2.2=i∧i≤l.length∧d∉l.take i∧(x.2.1=true→x.1.length≤i+1∧sK l d=x.1++l.drop i)∧(x.2.1=false→x.1.length≤i∧sK l d=x.1++sK (l.drop i) d)) (fun x=>l.length-x.2.2.toNat) ?_ n _ ⟨0,rfl,by omega,by simp,(fun h=>by cases h),fun _=>⟨by simp,by simp⟩⟩ (by dsimp only;omega));rintro again ⟨x1,x2,k⟩ ⟨i,hk,hi,hni,hT,hF⟩ hr;dsimp only at hk hT hF⊢;subst hk;refine aH (fun hlt=>?_) fun hge=>?_
 ·have hlt:i<l.length:=by omega
  have e1:=cP hlt;have hx6:l[i].length≤1000:=h1 _ (W4 hlt);refine aA (aS e1) (aA (aEF (by omega) (by omega)) (aH (fun heq=>Ev.some ?_) fun hne=>?_))
  ·unfold rO;rw [if_pos (by rw [←heq];exact W4 hlt)]
  have hdrop:=vBg hlt;have hni':d∉l.take (i+1):=by
   rw [yB,e1];simp only [List.mem_append,Option.toList_some,List.mem_singleton];rintro(h|h)
   ·exact hni h
   exact hne h.symm
  refine Ev.jn (fun z:List (List Int)×Bool=>(z.2=true→z.1.length≤i+1∧sK l d=z.1++l.drop i)∧(z.2=false→z.1.length≤i∧sK l d=z.1++l[i]::sK (l.drop (i+1)) d)) (fun j hj=>?_) fun z hz=>?_
  ·refine Ev.jn (fun z:Bool=>z=(!x2&&aAf d l[i])) (fun j2 hj2=>Ev.cond (fun h=>?_) fun h=>hj2 _ ?_) fun z hz=>?_
   ·have h:x2=false:=by simpa using h
    exact aA (aKH (by omega) hd hx6) (hj2 _ (by rw [h];rfl))
   ·have h:x2=true:=by simpa using h
    rw [h];rfl
   subst hz;cases hx2:x2 with
   |true=>exact b6 (hj _ ⟨fun _=>hT hx2,fun h=>by cases h⟩)
   |false=>
    obtain⟨f1,f2⟩:=hF hx2;rw [hdrop] at f2;rw [aE1];by_cases hc:cmpL d l[i]<0
    ·rw [decide_eq_true hc];refine b9 (aA (bW (by simp;omega)) (hj _ ⟨fun _=>⟨by simp;omega,?_⟩,fun h=>by cases h⟩));rw [f2,hdrop];unfold sK;rw [if_pos hc];simp
    rw [decide_eq_false hc];refine b6 (hj _ ⟨(fun h=>by cases h),fun _=>⟨f1,?_⟩⟩);rw [f2]
    conv=>lhs;rw [sK]
    rw [if_neg hc]
  obtain⟨z1,z2⟩:=z;obtain⟨g1,g2⟩:=hz;dsimp only at g1 g2⊢;have hz1:z1.length≤i+1:=by
   cases z2 with
   |true=>exact(g1 rfl).1
   |false=>have:=(g2 rfl).1;omega
  refine aA (bW (by simp;omega)) ?_;rw [aN (by omega)];refine hr _ ⟨i+1,by dsimp only;omega,by omega,hni',fun h=>?_,fun h=>?_⟩ (by dsimp only;omega)
  ·obtain⟨a1,a2⟩:=g1 h;refine⟨by simp;omega,?_⟩;rw [a2,hdrop];simp
  obtain⟨a1,a2⟩:=g2 h;refine⟨by simp;omega,?_⟩;rw [a2];simp
 have:i=l.length:=by omega
 subst this;rw [qI] at hni;have hadd:rO l d=sK l d:=by unfold rO;rw [if_neg hni]
 rw [hadd];refine Ev.jn (fun z=>z=sK l d) (fun j hj=>Ev.cond (fun h=>?_) fun h=>hj _ ?_) fun z hz=>Ev.some hz
 ·have h:x2=false:=by simpa using h
  obtain⟨a1,a2⟩:=hF h;refine aA (bW (by simp;omega)) (hj _ ?_);rw [a2,vBq];rfl
 have h:x2=true:=by simpa using h
 obtain⟨a1,a2⟩:=hT h;rw [a2,vBq,vBo]
theorem aE5(d:List Int): ∀l:List (List Int),(sK l d).length=l.length+1
 | []=>rfl
 |x::xs=>by
  unfold sK;split
  ·rfl
  rw [List.length_cons,aE5 d xs];rfl
theorem aFV(l:List (List Int))(d:List Int):(rO l d).length≤l.length+1:=by
 unfold rO;split
 ·omega
 rw [aE5];omega
def dif(I:List Inst)(part:Int)(d:Dep):Option (List Int):=match I[d.fromF.toNat]?,I[d.toF.toNat]? with
 |some a,some b=>if a.part=part∧b.part=part then some (minusL b.point a.point) else none
 |_,_=>none
def N6(p:Prog)(part:Int):List (List Int):=(jZ p (insts p.parts) (insts p.parts).length).filterMap (dif (insts p.parts) part)
theorem inst_pt{p:Prog}(hv:bM p=true){x:Inst}(hx:cX p x): ∃P,p.parts[x.part.toNat]? =some P∧0≤x.part∧x.point.length=P.nest.length∧x.point.length≤4∧ ∀y∈x.point,kG 9999 y:=by obtain⟨hl,hd,h4,hpo,hil⟩:=eN hv;obtain⟨i,k,P,s,e1,e2,e3,e4,e5⟩:=hx;obtain⟨q1,q2,q3,q4⟩:=iQ (hpo P (cS e3));obtain⟨hf,hp1,hp2,hp3,hp4⟩:=aF2 q1;have hs:=cS e4;have hpt:=(q4 s hs _ e5).2;unfold ptV at hpt;simp only [Bool.and_eq_true,decide_eq_true_eq,List.all_eq_true] at hpt;exact⟨P,by rw [e1,vAE];exact e3,by omega,(hp2 _ e5).1,hpt.1,fun y hy=>hpt.2 y hy⟩
theorem aN0{I:List Inst}{part:Int}(h: ∀x∈I,x.point.length≤4){d:Dep}{v:List Int}(hv:dif I part d=some v):v.length≤4:=by
 unfold dif at hv;split at hv
 ·rename_i a b ha hb;split at hv
  ·cases hv;unfold minusL;rw [vBs]
   have:=h b (cS hb);omega
  cases hv
 cases hv
theorem wJ{α β:Type}{f:α→Option β}{l:List α}{i:Nat}{x:α}(h:l[i]? =some x):(l.take (i+1)).filterMap f=(l.take i).filterMap f++(f x).toList:=by rw [yB,h,List.filterMap_append];cases hx:f x<;>simp [hx]
theorem aGu{n:Nat}(hn:20000≤n){p:Prog}(hp:SmP p)(hv:bM p=true)(part:Int):mE n p part=some ((N6 p part).foldl rO []):=by
 have hil:=(eN hv).2.2.2.2;unfold mE;refine Ev.eq (aA (vV (by omega) hv) (aA (aI9 (by omega) hv) ?_));have hok: ∀x∈insts p.parts,cX p x:=fun x hx=>insts_mem hx;have hD:=aAL (p:=p) hil;have hb:=aMa (p:=p) (l:=insts p.parts);unfold N6;generalize jZ p (insts p.parts) (insts p.parts).length=D at*;generalize insts p.parts=I at*;have hpt: ∀x∈I,x.point.length≤4:=fun x hx=>(inst_pt hv (hok x hx)).choose_spec.2.2.2.1;refine Ev.loop (fun x:List (List Int)×Int=> ∃i:Nat,x.2=i∧i≤D.length∧x.1=((D.take i).filterMap (dif I part)).foldl rO []∧x.1.length≤i∧ ∀y∈x.1,y.length≤4) (fun x=>D.length-x.2.toNat) ?_ n _ ⟨0,rfl,by omega,by simp,by simp,by simp⟩ (by dsimp only;omega);rintro again ⟨x3,k⟩ ⟨i,hk,hi,hx,hlen,hall⟩ hr;dsimp only at hk hx hlen hall⊢;subst hk;refine aH (fun hlt=>?_) fun hge=>Ev.some ?_
 ·have hlt:i<D.length:=by omega
  have e1:=cP hlt;obtain⟨d1,d2,d3⟩:=hb _ (W4 hlt);have ea:=aCt (l:=I) (c:=D[i].fromF) d1 (by omega);have eb:=aCt (l:=I) (c:=D[i].toF) (by omega) (by omega);have ha:=W4 (show D[i].fromF.toNat<I.length by omega);have hbm:=W4 (show D[i].toF.toNat<I.length by omega);have hfa:I[D[i].fromF.toNat]? =some I[D[i].fromF.toNat]:=cP _;have hfb:I[D[i].toF.toNat]? =some I[D[i].toF.toNat]:=cP _;obtain⟨PA,pa1,pa2,pa3,pa4,pa5⟩:=inst_pt hv (hok _ ha);obtain⟨PB,pb1,pb2,pb3,pb4,pb5⟩:=inst_pt hv (hok _ hbm);refine Ev.jn (fun z=>z.2.2.2.2.2.2=((D.take (i+1)).filterMap (dif I part)).foldl rO []∧z.2.2.2.2.2.2.length≤i+1∧ ∀y∈z.2.2.2.2.2.2,y.length≤4) (fun j hj=>aA (aS e1) (aA ea (aA eb ?_))) fun z hz=>?_
  ·rw [wJ e1,List.foldl_append,←hx] at hj;refine Ev.jn (fun z:Bool=>z=decide (I[D[i].fromF.toNat].part=part∧I[D[i].toF.toNat].part=part)) (fun j2 hj2=>aH (fun h=>hj2 _ ?_) fun h=>hj2 _ ?_) fun z hz=>?_
   ·exact decide_eq_decide.2 ⟨fun h2=>⟨h,h2⟩,fun h2=>h2.2⟩
   ·exact(decide_eq_false fun h2=>h h2.1).symm
   subst hz;have hdif:dif I part D[i]=if I[D[i].fromF.toNat].part=part∧I[D[i].toF.toNat].part=part then some (minusL I[D[i].toF.toNat].point I[D[i].fromF.toNat].point) else none:=by
    unfold dif;rw [hfa,hfb]
   refine aH (fun h=>?_) fun h=>hj _ ?_
   ·have hPP:PA=PB:=by
     rw [h.1] at pa1;rw [h.2] at pb1;rw [pa1] at pb1;cases pb1;rfl
    subst hPP;refine aA (aGt (by omega) (by omega) (by omega) pa5 pb5) (aA (aKI hn (by omega) (fun y hy=>by have:=hall y hy;omega) (by unfold minusL;rw [vBs];omega)) (hj _ ?_));rw [hdif,if_pos h];dsimp only [Option.toList,List.foldl];refine⟨rfl,?_,fun y hy=>?_⟩
    ·have:=aFV x3 (minusL I[D[i].toF.toNat].point I[D[i].fromF.toNat].point);omega
    rcases aFU.1 hy with rfl|hy
    ·unfold minusL;rw [vBs];omega
    exact hall y hy
   rw [hdif,if_neg h];exact⟨rfl,by dsimp only;omega,hall⟩
  obtain⟨z1,z2,z3⟩:=hz;rw [aN (by omega)];exact hr _ ⟨i+1,by dsimp only;omega,by omega,z1,z2,z3⟩ (by dsimp only;omega)
 have:i=D.length:=by omega
 subst this;rw [hx,qI]
theorem H4(x:List Int): ∀(y:List Int) (a:List (List Int)),cD ((y::a)++[x])=if(y::a).getLast (by simp)=x then cD (y::a) else cD (y::a)++[x]
 |y,[]=>by
  by_cases h:y=x
  ·subst h;simp [cD]
  simp [cD,h]
 |y,z::a=>by
  have ih:=H4 x z a;rw [List.getLast_cons (by simp)];show cD (y::z::(a++[x]))=_;unfold cD;by_cases h:y=z
  ·rw [if_pos h,if_pos h];exact ih
  rw [if_neg h,if_neg h];have ih':cD (z::(a++[x]))=_:=ih;rw [ih'];split<;>simp
theorem aDL{s:List (List Int)}{m:Nat}(hm:1≤m)(hl:m<s.length):cD (s.take (m+1))=if s[m-1]=s[m] then cD (s.take m) else cD (s.take m)++[s[m]]:=by
 have e:s.take (m+1)=s.take m++[s[m]]:=by rw [yB,cP hl];rfl
 have hne:s.take m≠[]:=by
  intro h
  have:=congrArg List.length h;rw [u4,Nat.min_eq_left (by omega),List.length_nil] at this;omega
 have hlast: ∀h,(s.take m).getLast h=s[m-1]:=fun h=>by
  rw [List.getLast_eq_getElem,List.getElem_take];congr 1;rw [u4];omega
 rw [e];obtain⟨y,a,hya⟩: ∃y a,s.take m=y::a:=by
  cases h:s.take m with
  |nil=>exact absurd h hne
  |cons y a=>exact⟨y,a,rfl⟩
 have hl2:=hlast hne;simp only [hya] at hl2⊢;rw [H4,hl2]
def lvl(d:List Int):Option Nat:=d.findIdx? fun x=> !decide (x=0)
def aDm(d:List Int):Int:=match lvl d with
 |some i=>(i:Int)
 |none=> -1
theorem aG0{n:Nat}{d:List Int}(hd:d.length≤1000)(hn:1000<n):nY n d=some (aDm d):=by
 unfold nY;refine Ev.eq (aA (x:=aDm d) ?_ (Ev.some rfl));unfold gQ;refine Ev.eq (Ev.loop (fun x:Int=> ∃i:Nat,x=i∧i≤d.length∧ ∀j,j<i→d.getD j 0=0) (fun x=>d.length-x.toNat) ?_ n _ ⟨0,rfl,by omega,fun j hj=>absurd hj (vBr _)⟩ (by omega));rintro again z ⟨i,rfl,hi,h0⟩ hr;have hz: ∀j (hj:j<d.length),j<i→d[j]=0:=fun j hj hji=>by
  have:=h0 j hji
  rwa [K6,cP hj] at this
 refine aH (fun hlt=>?_) fun hge=>Ev.some ?_
 ·have hlt:i<d.length:=by omega
  have e1:=cP hlt;refine aA (aS e1) (aA (x:= !decide (d[i]=0)) rfl (cZ (fun hne=>Ev.some ?_) fun he=>?_))
  ·have:lvl d=some i:=by
    unfold lvl;rw [vBy];exact⟨hlt,by simp [hne],fun j hj=>by simp [hz j (by omega) hj]⟩
   unfold aDm;rw [this]
  rw [aN (by omega)];refine hr _ ⟨i+1,by omega,by omega,fun j hj=>?_⟩ (by omega);by_cases hji:j=i
  ·subst hji;rw [K6,e1];exact he
  exact h0 j (by omega)
 have:lvl d=none:=by
  unfold lvl;rw [List.findIdx?_eq_none_iff];intro x hx;obtain⟨j,hj⟩:=vAG.1 hx;obtain⟨hjl,rfl⟩:=cY.1 hj;simp [hz j hjl (by omega)]
 unfold aDm;rw [this]
theorem aLg{n:Nat}{p:Prog}(hp:SmP p){i:Nat}{P:Part}(hP:p.parts[i]? =some P):dL n p (i:Int)=some true:=by have hi:=(cY.1 hP).1;rw [xM n hp.2.1,decide_eq_true (by omega)]
theorem aGS(kp:Nat→Bool)(m:Nat):keptL kp (m+1)=keptL kp m++(if kp m then [m] else []):=by unfold keptL;rw [vBE,List.filter_append];congr 1;by_cases h:kp m<;>simp [h]
theorem aII(l:List (List Int)): ∀m,m≤l.length→(keptL (ddK l) m).map (fun j=>l.getD j [])=cD (l.take m)
 |0,_=>rfl
 |m+1,h=>by
  have ih:=aII l m (by omega);have hm:m<l.length:=by omega
  have e0:l.getD m []=l[m]:=by rw [K6,cP hm];rfl
  rw [aGS,vAM,ih];by_cases h0:m=0
  ·subst h0;have e1:ddK l 0=true:=by simp [ddK]
   rw [e1,if_pos rfl,List.take_zero];show cD []++[l.getD 0 []]=_;rw [e0,yB,cP hm];rfl
  rw [aDL (by omega) hm];have e1:l.getD (m-1) []=l[m-1]:=by rw [K6,cP (by omega)];rfl
  have e2:ddK l m= !decide (l[m-1]=l[m]):=by
   unfold ddK;rw [e0,e1];by_cases hq:l[m-1]=l[m]
   ·simp [h0,hq]
   have hq':l[m]≠l[m-1]:=fun e=>hq e.symm;simp [h0,hq,hq']
  rw [e2];by_cases hq:l[m-1]=l[m]
  ·rw [if_pos hq,decide_eq_true hq];simp
  rw [if_neg hq,decide_eq_false hq];show _++[l.getD m []]=_;rw [e0]
theorem aHl(l:List (List Int)):ddL l=cD l:=by have:=aII l l.length (kC _);rw [qI] at this;exact this
theorem aE7{n:Nat}(hn:20000≤n){p:Prog}(hv:bM p=true)(part:Int):fP n (trc p) part=some ((N6 p part).foldl rO []):=by
 have hil:=(eN hv).2.2.2.2;unfold fP;refine Ev.eq (aA (aJv (by omega) hv) ?_);rw [show(trc p).list=insts p.parts from rfl];have hok: ∀x∈insts p.parts,cX p x:=fun x hx=>insts_mem hx;have hD:=aAL (p:=p) hil;have hb:=aMa (p:=p) (l:=insts p.parts);unfold N6;generalize jZ p (insts p.parts) (insts p.parts).length=D at*;generalize insts p.parts=I at*;have hpt: ∀x∈I,x.point.length≤4:=fun x hx=>(inst_pt hv (hok x hx)).choose_spec.2.2.2.1;refine Ev.loop (fun x:List (List Int)×Int=> ∃i:Nat,x.2=i∧i≤D.length∧x.1=(D.take i).filterMap (dif I part)) (fun x=>D.length-x.2.toNat) ?_ n _ ⟨0,rfl,by omega,by simp⟩ (by dsimp only;omega);rintro again ⟨x3,k⟩ ⟨i,hk,hi,hx⟩ hr;dsimp only at hk hx⊢;subst hk;have hlen:x3.length≤i:=by
  rw [hx];refine vAS (List.length_filterMap_le _ _) ?_;rw [u4];omega
 refine aH (fun hlt=>?_) fun hge=>?_
 ·have hlt:i<D.length:=by omega
  have e1:=cP hlt;obtain⟨d1,d2,d3⟩:=hb _ (W4 hlt);have ea:=aCt (l:=I) (c:=D[i].fromF) d1 (by omega);have eb:=aCt (l:=I) (c:=D[i].toF) (by omega) (by omega);have ha:=W4 (show D[i].fromF.toNat<I.length by omega);have hbm:=W4 (show D[i].toF.toNat<I.length by omega);have hfa:I[D[i].fromF.toNat]? =some I[D[i].fromF.toNat]:=cP _;have hfb:I[D[i].toF.toNat]? =some I[D[i].toF.toNat]:=cP _;obtain⟨PA,pa1,pa2,pa3,pa4,pa5⟩:=inst_pt hv (hok _ ha);obtain⟨PB,pb1,pb2,pb3,pb4,pb5⟩:=inst_pt hv (hok _ hbm);have hdif:dif I part D[i]=if I[D[i].fromF.toNat].part=part∧I[D[i].toF.toNat].part=part then some (minusL I[D[i].toF.toNat].point I[D[i].fromF.toNat].point) else none:=by
   unfold dif;rw [hfa,hfb]
  refine Ev.jn (fun z=>z.1=(D.take (i+1)).filterMap (dif I part)) (fun j hj=>aA (aS e1) (aA ea (aA eb ?_))) fun z hz=>?_
  ·rw [wJ e1,←hx] at hj;refine Ev.jn (fun z:Bool=>z= !decide (I[D[i].fromF.toNat].part=part∧I[D[i].toF.toNat].part=part)) (fun j2 hj2=>cZ (fun h=>hj2 _ ?_) fun h=>hj2 _ ?_) fun z hz=>?_
   ·rw [decide_eq_false fun h2=>h h2.1];rfl
   ·congr 1;exact decide_eq_decide.2 ⟨fun h2=>⟨h,h2⟩,fun h2=>h2.2⟩
   subst hz;refine cZ (fun h=>hj _ ?_) fun h=>?_
   ·rw [hdif,if_neg h];simp
   have hPP:PA=PB:=by
    rw [h.1] at pa1;rw [h.2] at pb1;rw [pa1] at pb1;cases pb1;rfl
   subst hPP;refine aEX (K:=fun x12=>Option.bind (app x3 [x12]) fun x19=>j (x19,D[i].fromF,D[i].toF,D[i].kinds,I[D[i].fromF.toNat].part,I[D[i].fromF.toNat].stmt,I[D[i].fromF.toNat].point,I[D[i].toF.toNat].part,I[D[i].toF.toNat].stmt,I[D[i].toF.toNat].point)) (by omega) (by omega) (by omega) pa5 pb5 ?_;refine aA (bW (by simp;omega)) (hj _ ?_);rw [hdif,if_pos h];rfl
  rw [aN (by omega)];exact hr _ ⟨i+1,by dsimp only;omega,by omega,hz⟩ (by dsimp only;omega)
 have:i=D.length:=by omega
 subst this;rw [qI] at hx;subst hx;have hall: ∀y∈D.filterMap (dif I part),y.length≤4:=fun y hy=>by
  obtain⟨d,_,hd⟩:=List.mem_filterMap.1 hy;exact aN0 hpt hd
 have hsl:(eU (D.filterMap (dif I part))).length≤15000:=by unfold eU;rw [List.length_mergeSort];omega
 refine aA (x:=eU (D.filterMap (dif I part))) (by unfold m_sortL;rw [if_pos ⟨by omega,fun y hy=>by have:=hall y hy;omega⟩]) (Ev.some ?_);rw [aHl];exact aNZ _
def dsO(p:Prog)(i:Nat):List (List Int):=(N6 p i).foldl rO []
theorem aG1{n:Nat}(hn:20000≤n){p:Prog}(hp:SmP p)(hv:bM p=true){i:Nat}{P:Part}(hP:p.parts[i]? =some P):mO n p (i:Int)=some (dsO p i):=by unfold mO;refine Ev.eq (aA (aGX (by omega) hp) ?_);rw [if_pos hv];refine b9 (Ev.jn (fun z=>z=false) (fun j hj=>b6 (aA (aLg hp hP) (hj _ rfl))) fun z hz=>?_);rw [hz];exact b6 (aA (aE7 hn hv _) (Ev.some rfl))
theorem aL3{p:Prog}{i:Nat}{d:List Int}:d∈dsO p i↔d∈N6 p i:=by
 unfold dsO
 have:=(aDx (N6 p i) [] .nil).2 d;simpa using this
theorem aCC: ∀(ds l:List (List Int)),(ds.foldl rO l).length≤l.length+ds.length
 | [],l=>by simp
 |d::ds,l=>by
  rw [List.foldl_cons]
  have:=aCC ds (rO l d)
  have:=aFV l d;rw [List.length_cons];omega
theorem aL4{p:Prog}(hv:bM p=true){i:Nat}:(dsO p i).length≤15000:=by
 have hil:=(eN hv).2.2.2.2;have hD:=aAL (p:=p) hil
 have:=aCC (N6 p i) [];have h2:(N6 p i).length≤(jZ p (insts p.parts) (insts p.parts).length).length:=by unfold N6;exact List.length_filterMap_le _ _
 unfold dsO;rw [List.length_nil] at this;omega
theorem H0{p:Prog}(hv:bM p=true){i:Nat}{P:Part}(hP:p.parts[i]? =some P){d:List Int}(hd:d∈dsO p i):d.length=P.nest.length∧ ∀x∈d,kG 99999 x:=by
 have hd:=aL3.1 hd;unfold N6 at hd;obtain⟨e,_,he⟩:=List.mem_filterMap.1 hd;unfold dif at he;split at he
 ·rename_i a b ha hb;split at he
  ·rename_i hp;cases he;have hak:cX p a:=insts_mem (cS ha);have hbk:cX p b:=insts_mem (cS hb);obtain⟨PA,a1,a2,a3,a4,a5⟩:=inst_pt hv hak;obtain⟨PB,b1,b2,b3,b4,b5⟩:=inst_pt hv hbk;rw [hp.1,vAE,hP] at a1;rw [hp.2,vAE,hP] at b1;cases a1;cases b1;unfold minusL;refine⟨by rw [vBs];omega,fun x hx=>?_⟩;obtain⟨u,v,hu,hv2,rfl⟩: ∃u v,u∈b.point∧v∈a.point∧x=u-v:=by
    rw [vAG] at hx;obtain⟨k,hk⟩:=hx;rw [List.getElem?_zipWith] at hk;cases h1:b.point[k]? with
    |none=>rw [h1] at hk;cases hk
    |some u=>
     cases h2:a.point[k]? with
     |none=>rw [h1,h2] at hk;cases hk
     |some v=>
      rw [h1,h2] at hk;cases hk;exact⟨u,v,cS h1,cS h2,rfl⟩
   have q1:=b5 u hu;have q2:=a5 v hv2;unfold kG at*;omega
  cases he
 cases he
def posL(d:List Int):Bool:=match lvl d with
 |some k=>decide (0≤d.getD k 0)
 |none=>true
theorem aK6{d:List Int}{k:Nat}(h:lvl d=some k):k<d.length∧d.getD k 0≠0:=by unfold lvl at h;rw [vBy] at h;obtain⟨h1,h2,_⟩:=h;refine⟨h1,?_⟩;rw [K6,cP h1];simpa using h2
theorem aGZ{n:Nat}(hn:20000≤n){p:Prog}(hp:SmP p)(hv:bM p=true){i:Nat}{P:Part}(hP:p.parts[i]? =some P){F:List Int→Option (List Int)}{f:List Int→List Int}(hF: ∀d∈dsO p i,F d=some (f d))(hl: ∀d,(f d).length=d.length):
  U5 n p (i:Int) F=some ((dsO p i).all fun d=>posL (f d)):=by
 unfold U5;refine Ev.eq (aA (aG1 hn hp hv hP) ?_);have hlen:=aL4 hv (i:=i);have hsh:=fun d hd=>(H0 hv hP (d:=d) hd).1;have h4:=(qN ((eN hv).2.2.2.1 P (cS hP))).1;generalize dsO p i=D at hF hlen hsh;refine Ev.loop (fun x:List (List Int)×Int=> ∃k:Nat,x.2=k∧k≤D.length∧x.1.length=D.length∧(∀t,k≤t→x.1[t]? =D[t]?)∧ ∀d∈D.take k,posL (f d)=true) (fun x=>D.length-x.2.toNat) ?_ n _ ⟨0,rfl,by omega,rfl,fun _ _=>rfl,fun d hd=>by simp at hd⟩ (by dsimp only;omega);rintro again ⟨rows,kz⟩ ⟨k,hk,hkl,hrl,hrest,hpos⟩ hr;dsimp only at hk hrl hrest⊢;subst hk;refine aH (fun hlt=>?_) fun hge=>Ev.some ?_
 ·have hlt:k<D.length:=by omega
  have e1:rows[k]? =some D[k]:=by rw [hrest k (kC _),cP hlt]
  have hm:=W4 hlt;have hle:(f D[k]).length≤4:=by rw [hl,hsh _ hm];exact h4
  refine aA (aS e1) (aA (hF _ hm) (aA (gE (hl _)) (aA (aG0 (by omega) (by omega)) (aA (fL (by omega) _) ?_))));have hall: ∀(hq:posL (f D[k])=false),D.all (fun d=>posL (f d))=false:=fun hq=>vAI.2 ⟨_,hm,by simp [hq]⟩;have go:posL (f D[k])=true→Ev (again (rows.set (k:Int).toNat (f D[k]),wr ((k:Int)+1))) (fun r=>r=D.all fun d=>posL (f d)):=fun hq=>by
   rw [aN (by omega),vAE];refine hr _ ⟨k+1,by dsimp only;omega,by omega,by dsimp only;rw [vAV];exact hrl,fun t ht=>?_,fun d hd=>?_⟩ (by dsimp only;omega)
   ·dsimp only;rw [vAH (by omega)];exact hrest t (by omega)
   rw [yB,cP hlt] at hd;rcases yA.1 hd with h|h
   ·exact hpos d h
   have:d=D[k]:=by simpa using h
   subst this;exact hq
  unfold aDm posL at*;cases hlv:lvl (f D[k]) with
  |none=>
   rw [hlv] at go hall;exact aH (fun h=>absurd h (by show¬(0:Int)≤ -1;omega)) (fun _=>go rfl)
  |some t=>
   rw [hlv] at go hall;obtain⟨t1,t2⟩:=aK6 hlv;refine aH (fun _=>?_) fun h=>absurd (show(0:Int)≤(t:Int) by omega) h;have e2:=cP t1;have e3:(f D[k]).getD t 0=(f D[k])[t]:=by rw [K6,e2];rfl
   refine aA (aS e2) (aH (fun h=>Ev.some ?_) fun h=>go ?_)
   ·exact(hall (decide_eq_false (by omega))).symm
   exact decide_eq_true (by omega)
 have:k=D.length:=by omega
 subst this;rw [qI] at hpos;exact(vAF.2 hpos).symm
theorem aEI{n:Nat}{d:List Int}(hd:d.length≤1000)(hn:1000<n):nO n d=some (aDm d):=by
 unfold nO;refine Ev.eq (Ev.loop (fun x:Int=> ∃i:Nat,x=i∧i≤d.length∧ ∀j,j<i→d.getD j 0=0) (fun x=>d.length-x.toNat) ?_ n _ ⟨0,rfl,by omega,fun j hj=>absurd hj (vBr _)⟩ (by omega));rintro again z ⟨i,rfl,hi,h0⟩ hr;have hz: ∀j (hj:j<d.length),j<i→d[j]=0:=fun j hj hji=>by
  have:=h0 j hji
  rwa [K6,cP hj] at this
 refine aH (fun hlt=>?_) fun hge=>Ev.some ?_
 ·have hlt:i<d.length:=by omega
  have e1:=cP hlt;refine aA (aS e1) (cZ (fun hne=>Ev.some ?_) fun he=>?_)
  ·have:lvl d=some i:=by
    unfold lvl;rw [vBy];exact⟨hlt,by simp [hne],fun j hj=>by simp [hz j (by omega) hj]⟩
   unfold aDm;rw [this]
  rw [aN (by omega)];refine hr _ ⟨i+1,by omega,by omega,fun j hj=>?_⟩ (by omega);by_cases hji:j=i
  ·subst hji;rw [K6,e1];exact he
  exact h0 j (by omega)
 have:lvl d=none:=by
  unfold lvl;rw [List.findIdx?_eq_none_iff];intro x hx;obtain⟨j,hj⟩:=vAG.1 hx;obtain⟨hjl,rfl⟩:=cY.1 hj;simp [hz j hjl (by omega)]
 unfold aDm;rw [this]
theorem aI7{n:Nat}{d:List Int}(hd:d.length≤1000)(hn:1000<n):B4 n d=some (posL d):=by
 unfold B4;refine Ev.eq (aA (aEI hd hn) (Ev.jn (fun z:Bool=>z=posL d) (fun j hj=>?_) fun z hz=>Ev.some hz));unfold aDm posL at*;cases hlv:lvl d with
 |none=>
  rw [hlv] at hj;exact aH (fun _=>hj _ rfl) (fun h=>absurd (show(-1:Int)<0 by omega) h)
 |some t=>
  rw [hlv] at hj;obtain⟨t1,t2⟩:=aK6 hlv;have e2:=cP t1;have e3:d.getD t 0=d[t]:=by rw [K6,e2];rfl
  refine aH (fun h=>absurd h (show¬(t:Int)<0 by omega)) fun _=>aA (aS e2) (hj _ ?_);exact decide_eq_decide.2 ⟨fun h=>by omega,fun h=>by omega⟩
theorem aDv{α:Type}{l:List α}{k:Nat}(h:k<l.length)(z:α):l[k]? =some (l.getD k z):=by rw [K6,cP h];rfl
theorem aMl(code:List UInt8):Ev (Option.bind (sE N code) fun x1=>Option.bind (B7 N x1) fun x2=>some (x2.1,x2.2.1,x2.2.2.1)) (fun x=>BG 1000 x.1):=by have hN:N=100000:=rfl;refine aO (aNv code) fun x1 r1=>aO (P:=fun x=>BG 1000 x.1) ?_ fun x2 h2=>Ev.some h2;unfold B7;refine aO (aJi r1 (by omega)) fun x1 ⟨h1,r1⟩=>aO (aNB (by omega) r1 (by omega) h1) fun x2 ⟨h2,r2⟩=>aO (jK N r2 (by omega) (by simp)) fun x3 ⟨_,r3⟩=>aO (jK N r3 (by omega) (by simp)) fun x4 ⟨_,r4⟩=>aO (jK N r4 (by omega) (by simp)) fun x5 ⟨_,r5⟩=>Ev.some (h2.mono (show 30≤1000 by omega))
def ltI(x y:Inst):Prop:=x.part<y.part∨x.part=y.part∧(cmpL x.point y.point<0∨x.point=y.point∧x.stmt<y.stmt)
theorem aK7{x y:Inst}(h:ltI x y): ¬ltI y x:=fun h2=>by
 have hf:=jH x.point y.point;have hs:=o6 x.point;rcases h with h|⟨e,h|⟨e2,h⟩⟩<;>rcases h2 with g|⟨_,g|⟨g2,g⟩⟩
 ·omega
 ·omega
 ·omega
 ·omega
 ·omega
 ·rw [g2] at h;omega
 ·omega
 ·rw [←e2] at g;omega
 omega
theorem aIN: ∀p a b:List Int,cmpL (p++a) (p++b)=cmpL a b
 | [],_,_=>rfl
 |x::p,a,b=>by simp only [List.cons_append,cmpL];rw [if_neg (by omega),if_neg (by omega)];exact aIN p a b
theorem Z0: ∀(ls:List Loop) (p:List Int) {x:List Int},x∈pts ls p→ ∃t,x=p++t∧t.length=ls.length
 | [],p,x,h=>⟨[],by simpa [pts] using h,rfl⟩
 |l::ls,p,x,h=>by simp only [pts] at h;obtain⟨v,_,h⟩:=vBM.1 h;obtain⟨t,rfl,ht⟩:=Z0 ls _ h;exact⟨v::t,by simp,by simp [ht]⟩
theorem aPf(lo hi:Int):(kE lo hi).Pairwise (fun a b=>a<b):=by unfold kE;rw [List.pairwise_map];exact List.pairwise_lt_range.imp fun h=>by omega
theorem aKS: ∀(ls:List Loop) (p:List Int),SS (pts ls p)
 | [],p=>List.pairwise_singleton _ _
 |l::ls,p=>by simp only [pts];refine List.pairwise_flatMap.2 ⟨fun v _=>aKS ls _,(aPf _ _).imp fun {v w} h x hx y hy=>?_⟩;obtain⟨s,rfl,_⟩:=Z0 ls _ hx;obtain⟨t,rfl,_⟩:=Z0 ls _ hy;rw [vAK,vAK,aIN];simp only [List.cons_append,cmpL];rw [if_pos h];omega
theorem insts_ss{p:Prog}(hv:bM p=true):(insts p.parts).Pairwise ltI:=by
 unfold insts;refine List.pairwise_flatMap.2 ⟨fun y hy=>?_,?_⟩
 ·obtain⟨P,i⟩:=y;have hP:=vBc.1 hy;have hok:=(eN hv).2.2.2.1 P (cS hP);dsimp only;unfold instP;rw [wA hok];refine List.pairwise_flatMap.2 ⟨fun q _=>?_,(aKS _ _).imp fun {q r} h x hx y hy=>?_⟩
  ·rw [List.pairwise_map];exact List.pairwise_lt_range.imp fun h=> .inr ⟨rfl,.inr ⟨rfl,by dsimp only;omega⟩⟩
  obtain⟨_,_,rfl⟩:=R3.1 hx;obtain⟨_,_,rfl⟩:=R3.1 hy;exact .inr ⟨rfl,.inl h⟩
 rw [List.pairwise_iff_getElem];intro i j hi hj hij x hx y hy;rw [List.getElem_zipIdx] at hx hy;unfold instP at hx hy;obtain⟨_,_,hx⟩:=vBM.1 hx;obtain⟨_,_,rfl⟩:=R3.1 hx;obtain⟨_,_,hy⟩:=vBM.1 hy;obtain⟨_,_,rfl⟩:=R3.1 hy;exact .inl (by dsimp only;omega)
theorem aEK{p:Prog}(hv:bM p=true){c:Inst}(hc:cX p c): ∀(S:List Inst) (m:List Int),(∀s∈S,cX p s∧com p c s)→hJ p.arrays m→cH p (runI p m c) S=runI p (cH p m S) c
 | [],_,_,_=>rfl
 |s::S,m,h,hm=>by have h1:=h s uN;show cH p (runI p (runI p m c) s) S=runI p (cH p (runI p m s) S) c;rw [h1.2 m hm];exact aEK hv hc S _ (fun x hx=>h x (rQ _ hx)) (xC hv hm h1.1)
theorem aEL{p:Prog}(hv:bM p=true): ∀(C B:List Inst) (m:List Int),(∀x∈C,cX p x)→C.Perm B→B.Pairwise ltI→C.Pairwise (fun a b=>ltI a b∨com p a b)→hJ p.arrays m→cH p m C=cH p m B
 | [],B,m,_,hp,_,_,_=>by rw [hp.symm.eq_nil]
 |c::C,B,m,hC,hp,hB,hc,hm=>by
  obtain⟨S,T,rfl⟩:=List.append_of_mem (hp.subset uN);have hp2:C.Perm (S++T):=(hp.trans List.perm_middle).cons_inv;have hcc:=hC c uN;have hCC:=fun x hx=>hC x (rQ c hx);rw [vBd] at hc;rw [List.pairwise_append] at hB;obtain⟨b1,b2,b3⟩:=hB;rw [vBd] at b2;have hB2:(S++T).Pairwise ltI:=List.pairwise_append.2 ⟨b1,b2.2,fun a ha b hb=>b3 a ha b (rQ c hb)⟩;show cH p (runI p m c) C=_;rw [aEL hv C (S++T) _ hCC hp2 hB2 hc.2 (xC hv hm hcc)];have hS: ∀s∈S,cX p s∧com p c s:=fun s hs=>by
   have hsC:=hp2.symm.subset (vAX T hs);refine⟨hCC s hsC,(hc.1 s hsC).resolve_left fun h=>aK7 h (b3 s hs c uN)⟩
  rw [Y3,Y3,aEK hv hcc S m hS hm];rfl
theorem aES: ∀a b:List Int,a.length=b.length→posL (minusL b a)= !decide (cmpL b a<0)
 | [],[],_=>rfl
 | [],_::_,h=>by simp at h
 |_::_,[],h=>by simp at h
 |x::a,y::b,h=>by
  have ih:=aES a b (by simpa using h);have e:minusL (y::b) (x::a)=(y-x)::minusL b a:=rfl;have ec:cmpL (y::b) (x::a)=if y<x then-1 else if x<y then 1 else cmpL b a:=rfl
  rw [e,ec];clear ec;by_cases hxy:y=x
  ·subst hxy;rw [if_neg (by omega),if_neg (by omega),←ih,Int.sub_self];unfold posL lvl;rw [List.findIdx?_cons];simp only [decide_true,Bool.not_true,Bool.false_eq_true,if_false];cases (minusL b a).findIdx? (fun x=> !decide (x=0)) with
   |none=>rfl
   |some k=>rfl
  have hl:lvl ((y-x)::minusL b a)=some 0:=by
   unfold lvl;rw [List.findIdx?_cons,if_pos (by simp;omega)]
  unfold posL;rw [hl];dsimp only;rw [List.getD_cons_zero];by_cases h2:y<x
  ·rw [if_pos h2,decide_eq_false (by omega),decide_eq_true (by omega)];rfl
  rw [if_neg h2,if_pos (by omega),decide_eq_true (by omega),decide_eq_false (by omega)];rfl
def movI(i:Nat)(τ:List Int→List Int)(x:Inst):Inst:=if x.part=(i:Int) then⟨x.part,x.stmt,τ x.point⟩ else x
theorem aCk(i:Nat)(τ:List Int→List Int)(x:Inst):(movI i τ x).part=x.part:=by unfold movI;split<;>rfl
theorem tO{i:Nat}{τ:List Int→List Int}: ∀x:Inst,x.part≠(i:Int)→movI i τ x=x:=fun x hx=>by unfold movI;rw [if_neg hx]
theorem M9{α β:Type}{f g:α→List β}: ∀{l:List α},(∀x∈l,(f x).Perm (g x))→(l.flatMap f).Perm (l.flatMap g)
 | [],_=> .nil
 |x::l,h=>by rw [vBD,vBD];exact(h x uN).append (M9 fun y hy=>h y (rQ x hy))
theorem insts_perm{ps:List Part}{i:Nat}{P P':Part}(hP:ps[i]? =some P){σ:Inst→Inst}(h1:(instP i P').Perm ((instP i P).map σ))(h2: ∀x,x.part≠(i:Int)→σ x=x):(insts (ps.set i P')).Perm ((insts ps).map σ):=by
 unfold insts;rw [vBN];have e:(ps.set i P').zipIdx=ps.zipIdx.map (fun y=>if y.2=i then(P',i) else y):=by
  refine List.ext_getElem? fun j=>?_;rw [List.getElem?_zipIdx,tD,List.getElem?_zipIdx];by_cases hj:i=j
  ·subst hj;rw [vAA (cY.1 hP).1,hP];simp
  rw [vAH hj];cases ps[j]? with
  |none=>rfl
  |some y=>
   have: ¬j=i:=fun h=>hj h.symm;simp [this]
 rw [e,List.flatMap_map];refine M9 fun y hy=>?_;obtain⟨x,j⟩:=y;have hx:=vBc.1 hy;dsimp only at hx⊢;by_cases hji:j=i
 ·subst hji;rw [hP] at hx;cases hx;rw [if_pos rfl];exact h1
 rw [if_neg hji];refine .of_eq (aDl fun z hz=>h2 z ?_).symm;unfold instP at hz;obtain⟨q,_,hz⟩:=vBM.1 hz;obtain⟨t,_,rfl⟩:=R3.1 hz;dsimp only;omega
theorem instP_perm{i:Nat}{τ:List Int→List Int}{P P':Part}(h1:(dQ P').Perm ((dQ P).map τ))(h2:P'.body.length=P.body.length):(instP i P').Perm ((instP i P).map (movI i τ)):=by unfold instP;rw [h2,vBN];refine(h1.flatMap_right _).trans (.of_eq ?_);rw [List.flatMap_map];refine U7 fun q _=>?_;rw [List.map_map];refine sH fun t _=>?_;show _=movI i τ _;unfold movI;rw [if_pos rfl]
structure Mov (p q:Prog) (i:Nat) (τ:List Int→List Int):Prop where
 arr:q.arrays=p.arrays
 perm:(insts q.parts).Perm ((insts p.parts).map (movI i τ))
 cells: ∀x∈insts p.parts,rc q (movI i τ x)=rc p x∧wc q (movI i τ x)=wc p x
 run: ∀x∈insts p.parts,∀m,runI q m (movI i τ x)=runI p m x
theorem aEW{p:Prog}(hv:bM p=true){i:Nat}{P P':Part}(hP:p.parts[i]? =some P){F:Affine→Affine}(hb:P'.body=P.body.map (y0 F)){τ:List Int→List Int}(hev: ∀q:List Int,q.length=P.nest.length→ ∀y,bX y=true→cJ (F y) (τ q)=cJ y q){x:Inst}(hx:cX p x):
  ∃s s' d,q9 p x=some s∧q9 ⟨p.arrays,p.parts.set i P'⟩ (movI i τ x)=some s'∧fX s d=true∧
   (∀a,gY a d=true→cK p.arrays (if x.part=(i:Int) then fV F a else a) (movI i τ x).point 0=cK p.arrays a x.point 0)∧
   (s'.write=if x.part=(i:Int) then fV F s.write else s.write)∧
   (bY 5 s'.value=(bY 5 s.value).map fun a=>if x.part=(i:Int) then fV F a else a)∧
   ∀m,pA 5 p.arrays m s'.value (movI i τ x).point=pA 5 p.arrays m s.value x.point:=by
 obtain⟨i',k',Q,s,d,e1,e2,e3,e4,e5,e6,e7,e8⟩:=inst_d hv hx;have hi:=(cY.1 hP).1;by_cases hxi:x.part=(i:Int)
 ·obtain rfl:i'=i:=by omega
  rw [hP] at e3;cases e3;have hev:=hev x.point e7.1;have hs:movI i' τ x=⟨x.part,x.stmt,τ x.point⟩:=by unfold movI;rw [if_pos hxi]
  refine⟨s,y0 F s,d,e5,?_,e6,fun a ha=>?_,?_,?_,fun m=>?_⟩
  ·rw [hs];unfold q9;dsimp only;rw [e1,vAE,vAA hi];show(P'.body[x.stmt.toNat]?)=_;rw [hb,tD,e2,vAE,e4];rfl
  ·rw [if_pos hxi,hs];exact aHo (fun y hy=>hev y ((uU ha).2.2 y hy)) _ _
  ·rw [if_pos hxi];rfl
  ·simp only [if_pos hxi];exact aIh (jN e6).2.1
  rw [hs];exact aKf hev _ m (jN e6).2.1
 have hs:movI i τ x=x:=tO x hxi;refine⟨s,s,d,e5,?_,e6,fun a ha=>?_,?_,?_,fun m=>?_⟩
 ·rw [hs,←e5];unfold q9;dsimp only;rw [vAH (by omega)]
 ·rw [if_neg hxi,hs]
 ·rw [if_neg hxi]
 ·simp only [if_neg hxi,List.map_id']
 rw [hs]
theorem aPh{p:Prog}(hv:bM p=true){i:Nat}{P P':Part}(hP:p.parts[i]? =some P){F:Affine→Affine}(hb:P'.body=P.body.map (y0 F)){τ:List Int→List Int}(hev: ∀q:List Int,q.length=P.nest.length→ ∀y,bX y=true→cJ (F y) (τ q)=cJ y q)(hpts:(dQ P').Perm ((dQ P).map τ)):Mov p ⟨p.arrays,p.parts.set i P'⟩ i τ where
 arr:=rfl
 perm:=insts_perm hP (instP_perm hpts (by rw [hb,q7])) tO
 cells x hx:=by
  obtain⟨s,s',d,s1,s2,s3,s4,s5,s6,s7⟩:=aEW hv hP hb hev (insts_mem hx);obtain⟨c1,_,c3,_⟩:=jN s3;unfold rc wc;rw [s1,s2];dsimp only;rw [s5,s6,List.map_map,s4 _ c1];exact⟨sH fun a ha=>s4 a (c3 a ha),rfl⟩
 run x hx m:=by obtain⟨s,s',d,s1,s2,s3,s4,s5,s6,s7⟩:=aEW hv hP hb hev (insts_mem hx);obtain⟨c1,_,c3,_⟩:=jN s3;unfold runI;rw [s1,s2];dsimp only;rw [s5,s4 _ c1,s7 m]
theorem aCs{p:Prog}{a b:Inst}:uP p a b≠0↔aHm p a b:=by unfold uP aHm;by_cases h1:(wc p a:Int)∈rc p b<;>by_cases h2:(wc p b:Int)∈rc p a<;>by_cases h3:wc p a=wc p b<;>(first|rw [if_pos h1]|rw [if_neg h1])<;>(first|rw [if_pos h2]|rw [if_neg h2])<;>(first|rw [if_pos h3]|rw [if_neg h3])<;>simp [h1,h2,h3]
theorem aL9{p:Prog}{i:Nat}{d:List Int}:d∈N6 p i↔ ∃j k:Nat,∃a b:Inst,j<k∧(insts p.parts)[j]? =some a∧(insts p.parts)[k]? =some b∧aHm p a b∧a.part=(i:Int)∧b.part=(i:Int)∧d=minusL b.point a.point:=by
 unfold N6;rw [List.mem_filterMap];constructor
 ·rintro⟨e,he,hd⟩;obtain⟨j,k,hjk,hk,hkd,rfl⟩:=aAd.1 he;have ha:=cP (show j<(insts p.parts).length by omega);have hb:=cP hk;rw [F7 ha hb] at hkd;unfold dif at hd;dsimp only at hd;rw [vAE,vAE,ha,hb] at hd;dsimp only at hd;split at hd
  ·rename_i hp;cases hd;exact⟨j,k,_,_,hjk,ha,hb,aCs.1 hkd,hp.1,hp.2,rfl⟩
  cases hd
 rintro⟨j,k,a,b,hjk,ha,hb,hc,h1,h2,rfl⟩;refine⟨_,aAd.2 ⟨j,k,hjk,(cY.1 hb).1,?_,rfl⟩,?_⟩
 ·rw [F7 ha hb];exact aCs.2 hc
 unfold dif;dsimp only;rw [vAE,vAE,ha,hb];dsimp only;rw [if_pos ⟨h1,h2⟩]
theorem aMb{p:Prog}(hv:bM p=true){i:Nat}{P:Part}(hP:p.parts[i]? =some P){a:Inst}(ha:a∈insts p.parts)(h:a.part=(i:Int)):a.point.length=P.nest.length∧ ∀y∈a.point,kG 9999 y:=by obtain⟨Q,q1,_,q2,_,q4⟩:=inst_pt hv (insts_mem ha);rw [h,vAE,hP] at q1;cases q1;exact⟨q2,q4⟩
structure Kept (p:Prog) (i:Nat) (P:Part) (τ f:List Int→List Int):Prop where
 pos:(dsO p i).all (fun d=>posL (f d))=true
 dist: ∀a b:List Int,a.length=P.nest.length→b.length=P.nest.length→f (minusL b a)=minusL (τ b) (τ a)
 len: ∀a:List Int,a.length=P.nest.length→(τ a).length=P.nest.length
 inj: ∀a b:List Int,a.length=P.nest.length→b.length=P.nest.length→τ a=τ b→a=b
theorem aNL{p:Prog}(hv:bM p=true){i:Nat}{P:Part}(hP:p.parts[i]? =some P){τ f:List Int→List Int}(hK:Kept p i P τ f):(insts p.parts).Pairwise (fun a b=>aHm p a b→ltI (movI i τ a) (movI i τ b)):=by
 rw [List.pairwise_iff_getElem];intro j k hj hk hjk hc;have hs:=List.pairwise_iff_getElem.1 (insts_ss hv) j k hj hk hjk;have ha:=cP hj;have hb:=cP hk;generalize (insts p.parts)[j]=a at*;generalize (insts p.parts)[k]=b at*;unfold ltI;rw [aCk,aCk];rcases hs with h|⟨h,hs⟩
 ·exact .inl h
 refine .inr ⟨h,?_⟩;by_cases hi:a.part=(i:Int)
 ·have hbi:b.part=(i:Int):=by omega
  obtain⟨la,_⟩:=aMb hv hP (cS ha) hi;obtain⟨lb,_⟩:=aMb hv hP (cS hb) hbi;have hd:minusL b.point a.point∈dsO p i:=aL3.2 (aL9.2 ⟨j,k,a,b,hjk,ha,hb,hc,hi,hbi,rfl⟩);have hpos:=vAF.1 hK.pos _ hd;rw [hK.dist _ _ la lb,aES _ _ (by rw [hK.len _ la,hK.len _ lb])] at hpos;have hn: ¬cmpL (τ b.point) (τ a.point)<0:=by simpa using hpos
  have hf:=jH (τ a.point) (τ b.point);unfold movI;rw [if_pos hi,if_pos hbi];dsimp only;by_cases h0:cmpL (τ a.point) (τ b.point)=0
  ·have e:=hK.inj _ _ la lb (pW h0);refine .inr ⟨pW h0,?_⟩;rcases hs with hs|⟨_,hs⟩
   ·have:=o6 b.point;rw [e] at hs;omega
   exact hs
  exact .inl (by omega)
 rw [tO a hi,tO b (by omega)];exact hs
theorem aNC{p q:Prog}(hv:bM p=true)(hw:bM q=true){i:Nat}{P:Part}(hP:p.parts[i]? =some P){τ f:List Int→List Int}(hM:Mov p q i τ)(hK:Kept p i P τ f): ∀m,hJ p.arrays m→cH q m (insts q.parts)=cH p m (insts p.parts):=fun m hm=>by
 have hB: ∀x∈insts q.parts,cX q x:=fun x hx=>insts_mem hx;have hC: ∀x∈(insts p.parts).map (movI i τ),cX q x:=fun x hx=>hB x (hM.perm.symm.subset hx);have hpw:((insts p.parts).map (movI i τ)).Pairwise (fun a b=>ltI a b∨com q a b):=by
  rw [List.pairwise_map];refine(aNL hv hP hK).imp_of_mem fun {a b} ha hb h=>?_;by_cases hc:aHm p a b
  ·exact .inl (h hc)
  refine .inr (swap hw (hC _ (vBS ha)) (hC _ (vBS hb)) fun g=>hc ?_);obtain⟨a1,a2⟩:=hM.cells a ha;obtain⟨b1,b2⟩:=hM.cells b hb;unfold aHm at g⊢
  rwa [a1,a2,b1,b2] at g
 rw [←aEL hw _ _ m hC hM.perm.symm (insts_ss hw) hpw (by rw [hM.arr];exact hm)];unfold cH;rw [List.foldl_map];exact aAy fun x hx m=>hM.run x hx m
def yR(k:Nat)(c:Int):Affine:=⟨[0,0,0,0].set k (-1),c⟩
def L5(k:Nat)(c:Int)(x:Affine):Affine:=aKw x k (yR k c)
def v7(k:Nat)(d:List Int):List Int:=d.set k (0-d.getD k 0)
def rD(l:Loop):Int:=kJ l.lo+kJ l.hi-1
def aDd(k:Nat)(c:Int)(P:Part):Part:=⟨P.nest.take (k+1)++(P.nest.drop (k+1)).map (jW (L5 k c)),P.body.map (y0 (L5 k c))⟩
def E2(p:Prog)(i k:Nat)(l:Loop):Bool:=kM l&&(dsO p i).all fun d=>posL (v7 k d)
def L4(p:Prog)(part loop:Int):Prog×Bool:=
 if kT p part loop=true then
  match ix p.parts part with
  |some P=>match ix P.nest loop with
   |some l=>if E2 p part.toNat loop.toNat l=true then aBD ⟨p.arrays,p.parts.set part.toNat (aDd loop.toNat (rD l) P)⟩ else noP
   |none=>noP
  |none=>noP
 else noP
theorem aEQ(k:Nat)(d:List Int):(v7 k d).length=d.length:=by simp [v7]
theorem T7{p:Prog}{i k:Nat}{P:Part}{l:Loop}(h:kT p (i:Int) (k:Int)=true)(hP:p.parts[i]? =some P)(hl:P.nest[k]? =some l):L4 p i k=if E2 p i k l=true then aBD ⟨p.arrays,p.parts.set i (aDd k (rD l) P)⟩ else noP:=by unfold L4;rw [if_pos h,aS hP];dsimp only;rw [aS hl];simp only [Int.toNat_natCast]
theorem aIf{k:Nat}(hk:k<4){c:Int}(hc:kG 999 c):bB 1000 (yR k c):=by unfold kG at hc;rcases(show k=0∨k=1∨k=2∨k=3 by omega) with rfl|rfl|rfl|rfl<;>(unfold bB kG yR;simp;omega)
theorem aIg(k:Nat)(c:Int): ∀x,bX x=true→BA 4 (L5 k c x):=fun x hx=>by have:=aPL ⟨x.coefs.set k 0,x.const⟩ (yR k c) (x.coefs.getD k 0) (by dsimp only;rw [vAV];exact(jJ hx).1) (by simp [yR]);unfold BA L5 aKw;omega
theorem M2{l:List Affine}(h: ∀x∈l,bX x=true):kG 99 (kJ l):=by
 unfold kJ;cases l with
 |nil=>unfold kG;simp
 |cons x t=>exact(jJ (h x uN)).2.1
theorem aGy{l:Loop}(h:F6 l):kG 999 (rD l):=by have h1:=M2 h.1.2;have h2:=M2 h.2.2;unfold kG at*;unfold rD;omega
theorem aJs(n:Nat){k:Nat}{d:List Int}(hk:k<d.length)(hd: ∀x∈d,kG 99999 x):fH n d (k:Int)=some (v7 k d):=by have e:=aDv hk (0:Int);have hb:=hd _ (cS e);unfold kG at hb;unfold fH;refine Ev.eq (aA (aS e) ?_);rw [aN (by omega)];refine aA (fL (by omega) _) (Ev.some ?_);rw [vAE];rfl
theorem aMO(n:Nat){k:Nat}(hk:k<4):zB n (k:Int) (-1)=some ⟨[0,0,0,0].set k (-1),0⟩:=by rcases(show k=0∨k=1∨k=2∨k=3 by omega) with rfl|rfl|rfl|rfl<;>rfl
theorem aJr{n:Nat}(hn:5000≤n){k:Nat}(hk:k<4){c:Int}(hc:kG 999 c): ∀x,bX x=true→fG n x (k:Int) (yR k c)=some (L5 k c x):=fun x hx=>by unfold fG;rw [aGY hn ((aMo hx).mono (by omega)) (aIf hk hc) hk];rfl
theorem aKD{k:Nat}(hk:k<4){c:Int}(hc:kG 999 c): ∀n,5000≤n→ ∀x,bX x=true→iM n x 1 (k:Int) (yR k c)=some (L5 k c x):=fun n hn x hx=>by unfold iM;rw [aGq hn ((aMo hx).mono (by omega)) (aIf hk hc) hk];rfl
theorem aPd{n:Nat}(hn:5000≤n){k:Nat}(hk:k<4){c:Int}(hc:kG 999 c):eO n ⟨[0,0,0,0],c⟩ 1 (aEq k) (-1)=some (yR k c):=by unfold kG at hc;rw [aEH hn (by unfold bB kG;simp;omega) ((aMT hk).mono (by omega)) ⟨by omega,by omega⟩ ⟨by omega,by omega⟩];rcases(show k=0∨k=1∨k=2∨k=3 by omega) with rfl|rfl|rfl|rfl<;>simp [aN2,aEq,yR]
theorem aGx{list:List Arr}{P:Part}(hP:cV list P=true){k:Nat}(hk:k<P.nest.length)(c:Int):BPt 4 (aDd k c P):=by
 obtain⟨h1,h2⟩:=qN hP;obtain⟨_,h4,h5,_⟩:=iQ hP;refine⟨⟨by simp only [aDd,List.length_append,List.length_map,List.length_take,List.length_drop];omega,fun y hy=>?_⟩,by simp only [aDd,List.length_map];exact h4.2,fun s hs=>?_⟩
 ·rcases yA.1 hy with hy|hy
  ·exact(aPJ hP).1.2 y (vAB hy)
  obtain⟨z,hz,rfl⟩:=R3.1 hy;exact aOd (aIg k c) (h2 z (vAJ hz))
 obtain⟨z,hz,rfl⟩:=R3.1 hs;exact aPI (aIg k c) (h5 z hz)
theorem aNr{p:Prog}(hp:BG 1000 p)(part loop:Int):BG 1000 (L4 p part loop).1:=by
 by_cases hb:kT p part loop=true
 ·obtain⟨hv,i,k,P,l,rfl,rfl,hP,hl,hi,hkl,hok,hk⟩:=aAx hb;rw [T7 hb hP hl];split
  ·exact aNU (aMi hp i (aGx hok hkl _))
  exact aK1
 unfold L4;rw [if_neg hb];exact aK1
theorem aLm{n:Nat}(hn:20000≤n){p:Prog}(hp:BG 1000 p)(part loop:Int):mK n p part loop=some (L4 p part loop):=by
 unfold mK;by_cases hneg:loop= -1
 ·subst hneg;unfold L4;rw [if_neg fun h=>by rw [aE8 (by omega)] at h;cases h];exact Ev.eq (aO (aJN (by omega) hp part) fun x1 h1=>Ev.cond (fun _=>aH (fun _=>Ev.some rfl) fun h=>absurd (show(-1:Int)<0 by omega) h) fun _=>Ev.some rfl)
 refine Ev.eq (aA (aMj (by omega) hp part loop hneg) ?_);by_cases hb:kT p part loop=true
 ·rw [if_pos hb];refine b9 (aH (fun h=>by rw [aE8 h] at hb;cases hb) fun h0=>?_);obtain⟨hv,i,k,P,l,rfl,rfl,hP,hl,hi,hkl,hok,hk⟩:=aAx hb;obtain⟨h1,h2⟩:=qN hok;obtain⟨_,h4,h5,_⟩:=iQ hok;have hlp:=h2 l (cS hl);rw [T7 hb hP hl];refine aA (aS hP) (aA (aS hl) (aA (aLt (by omega) hlp) ?_));cases hf:kM l with
  |false=>exact b6 (Ev.some (by rw [if_neg (by unfold E2;rw [hf];simp)];rfl))
  |true=>
   refine b9 (aA (aGZ hn hp.sm hv hP (F:=fun q0=>fH n q0 (k:Int)) (f:=v7 k) (fun d hd=>aJs n (by have:=(H0 hv hP hd).1;omega) (H0 hv hP hd).2) (aEQ k)) (Ev.cond (fun hd=>?_) fun hd=>Ev.some ?_))
   ·rw [show E2 p i k l=true by unfold E2;rw [hf,hd];rfl];refine aA (aMO n hk) ?_;have hc:=aGy hlp;have h1c:=M2 hlp.1.2;have h2c:=M2 hlp.2.2;unfold kG at h1c h2c;have hcc:(⟨([0,0,0,0]:List Int).set k (-1),wr ((wr (kJ l.lo+kJ l.hi))-1)⟩:Affine)=yR k (rD l):=by
     rw [aN (n:=kJ l.lo+kJ l.hi) (by omega),aN (by omega)];rfl
    rw [aN (n:=(k:Int)+1) (by omega)];have hch:=aBx (n:=n) (by omega) (nest:=P.nest) (body:=P.body) (s:=k+1) (by omega) h1 (fun y hy=>h2 y (vAJ hy)) h4.2 h5 (F:=fun q0=>fG n q0 (k:Int) (⟨([0,0,0,0]:List Int).set k (-1),wr ((wr (kJ l.lo+kJ l.hi))-1)⟩:Affine)) (f:=L5 k (rD l)) fun x hx=>by rw [hcc];exact aJr (by omega) hk hc x hx
    rw [show(k:Int)+1=((k+1:Nat):Int) by omega];refine aA hch (aA (fL (by dsimp only;omega) _) ?_);rw [vAE];exact aA (aFe (by omega) (aMi hp i (aGx hok hkl (rD l)))) (Ev.some rfl)
   rw [if_neg (by unfold E2;rw [hf,hd];simp)];rfl
 unfold L4;rw [if_neg hb,if_neg hb];exact b6 (Ev.some rfl)
theorem aKG{n:Nat}(hn:20000≤n){p:Prog}(hp:BG 1000 p)(part loop:Int):mI n p part loop=some (L4 p part loop):=by
 unfold mI;refine Ev.eq (aA (aGL (by omega) hp) (aA (aPt (by omega) hp part loop) ?_));by_cases hb:kT p part loop=true;rotate_left
 ·unfold L4;rw [if_neg hb,show kT p part loop=false by simpa using hb];exact b9 (Ev.some rfl)
 rw [hb];refine b6 ?_;obtain⟨hv,i,k,P,l,rfl,rfl,hP,hl,hi,hkl,hok,hk⟩:=aAx hb;obtain⟨h1,h2⟩:=qN hok;obtain⟨_,h4,h5,_⟩:=iQ hok;have hlp:=h2 l (cS hl);rw [T7 hb hP hl];refine aA (aS hP) (aA (aS hl) (aA (aJI (by omega) hlp) (aA (x:=dsO p i) (aGu hn hp.sm hv _) ?_)));have hlen:=aL4 hv (i:=i);have hsh:=fun d hd=>H0 hv hP (d:=d) hd;have hrv:E2 p i k l=(kM l&&(dsO p i).all fun d=>posL (v7 k d)):=rfl;rw [hrv];have h3:(if kM l=true then(kJ l.lo,kJ l.hi,true) else((0:Int),(0:Int),false)).2.2=kM l:=by cases kM l<;>rfl
 generalize dsO p i=D at hlen hsh;refine Ev.loop (fun x:Bool×Int=> ∃m:Nat,x.2=m∧m≤D.length∧x.1=(kM l&&(D.take m).all fun d=>posL (v7 k d))) (fun x=>D.length-x.2.toNat) ?_ n _ ⟨0,rfl,by omega,by dsimp only;rw [h3,List.take_zero];simp⟩ (by dsimp only;omega);rintro again ⟨ok,z⟩ ⟨m,hz,hm,hpos⟩ hr;dsimp only at hz hpos⊢;subst hz;refine aH (fun hlt=>?_) fun hge=>?_
 ·have hlt:m<D.length:=by omega
  have e1:=cP hlt;obtain⟨g1,g2⟩:=hsh _ (W4 hlt);have e2:=aDv (l:=D[m]) (k:=k) (by omega) 0;have hb:=g2 _ (cS e2);unfold kG at hb;refine Ev.jn (fun z=>z.2=(kM l&&(D.take (m+1)).all fun d=>posL (v7 k d))) (fun j hj=>?_) fun z hz=>?_
  ·refine aA (aS e1) (aA (bW (by simp;omega)) ?_);rw [List.nil_append];refine aA (aS e2) ?_;rw [aN (by omega)];refine aA (fL (by omega) _) ?_;rw [vAE];have hall:(D.take (m+1)).all (fun d=>posL (v7 k d))=((D.take m).all (fun d=>posL (v7 k d))&&posL (v7 k D[m])):=by
    rw [yB,e1,List.all_append];simp
   rw [hall,←vBe,←hpos] at hj;cases ok with
   |true=>exact b9 (aA (x:=posL (v7 k D[m])) (aI7 (d:=v7 k D[m]) (by rw [aEQ];omega) (by omega)) (hj _ (by rw [vAW])))
   |false=>exact b6 (hj _ (by rw [Bool.false_and]))
  rw [aN (by omega)];exact hr _ ⟨m+1,by dsimp only;omega,by omega,hz⟩ (by dsimp only;omega)
 have:m=D.length:=by omega
 subst this;rw [qI] at hpos;rw [←hpos];cases hok2:ok with
 |false=>exact b9 (Ev.some (by rw [if_neg (by simp)];rfl))
 |true=>
  rw [if_pos rfl];have hf:kM l=true:=by
   rw [hok2] at hpos;cases hf:kM l with
   |true=>rfl
   |false=>rw [hf] at hpos;cases hpos
  have h1c:=M2 hlp.1.2;have h2c:=M2 hlp.2.2;unfold kG at h1c h2c;have hcc:wr ((wr ((if kM l=true then(kJ l.lo,kJ l.hi,true) else((0:Int),(0:Int),false)).1+(if kM l=true then(kJ l.lo,kJ l.hi,true) else((0:Int),(0:Int),false)).2.1))-1)=rD l:=by
   rw [if_pos hf];dsimp only;rw [aN (n:=kJ l.lo+kJ l.hi) (by omega),aN (by omega)];rfl
  rw [hcc];refine b6 (aA (gX n _) (aA (aKC n hk) (aA (aPd (by omega) hk (aGy hlp)) (aA (aGR (n:=n) (by omega) (x:=P) (s:=k) (by omega) h1 h2 h4.2 h5 (way:=1) (v:=(k:Int)) (b:=yR k (rD l)) (f:=L5 k (rD l)) (aKD hk (aGy hlp))) ?_))));exact aA (aMK (by omega) hp hi ((aGx hok hkl (rD l)).mono (by omega))) (Ev.some rfl)
theorem aKU{F:Affine→Affine}{τ:List Int→List Int}{m:Nat}(hev: ∀q:List Int,m≤q.length→ ∀y,bX y=true→cJ (F y) (τ q)=cJ y q)(happ: ∀(q:List Int) (v:Int),m≤q.length→τ (q++[v])=τ q++[v]): ∀(ls:List Loop) (p:List Int),(∀l∈ls,F6 l)→m≤p.length→pts (ls.map (jW F)) (τ p)=(pts ls p).map τ
 | [],p,_,_=>rfl
 |l::ls,p,h,hk=>by
  have hl:=h l uN;have ev: ∀{as:List Affine},(∀x∈as,bX x=true)→evs (as.map F) (τ p)=evs as p:=fun ha=>by
   unfold evs;rw [List.map_map];exact sH fun x hx=>hev p hk x (ha x hx)
  have e1:kU (jW F l) (τ p)=kU l p:=by unfold kU jW;rw [ev hl.1.2]
  have e2:qE (jW F l) (τ p)=qE l p:=by unfold qE jW;rw [ev hl.2.2]
  simp only [List.map_cons,pts];rw [e1,e2,vBN];refine U7 fun v _=>?_;rw [←happ p v hk];exact aKU hev happ ls (p++[v]) (fun x hx=>h x (rQ _ hx)) (by simp;omega)
theorem aB9{A B:List Loop}{τ:List Int→List Int}{k:Nat}(h: ∀p:List Int,p.length=k→(pts B p).Perm ((pts A p).map τ)): ∀(os:List Loop) (p:List Int),p.length+os.length=k→(pts (os++B) p).Perm ((pts (os++A) p).map τ)
 | [],p,hk=>h p (by simpa using hk)
 |o::os,p,hk=>by simp only [List.cons_append,pts];rw [vBN];exact M9 fun v _=>aB9 h os (p++[v]) (by simp at hk ⊢; omega)
theorem aCl: ∀(b a:List Int) (k:Nat) (x y:Int),minusL (b.set k x) (a.set k y)=(minusL b a).set k (x-y)
 | [],a,k,x,y=>by simp [minusL]
 |b::bs,[],k,x,y=>by simp [minusL]
 |b::bs,a::as,0,x,y=>rfl
 |b::bs,a::as,k+1,x,y=>by show(b-a)::minusL (bs.set k x) (as.set k y)=(b-a)::(minusL bs as).set k (x-y);rw [aCl bs as k x y]
theorem aEY: ∀(b a:List Int) (k:Nat),k<b.length→k<a.length→(minusL b a).getD k 0=b.getD k 0-a.getD k 0
 | [],a,k,h,_=>by simp at h
 |b::bs,[],k,_,h=>by simp at h
 |b::bs,a::as,0,_,_=>rfl
 |b::bs,a::as,k+1,h1,h2=>aEY bs as k (by simpa using h1) (by simpa using h2)
theorem aAK: ∀(cs p:List Int) (k:Nat) (v:Int),k<cs.length→uX (cs.set k v) p=uX cs p+(v-cs.getD k 0)*p.getD k 0
 | [],p,k,v,h=>by simp at h
 |c::cs,[],k,v,_=>by cases k<;>simp [uX]
 |c::cs,x::p,0,v,_=>by
  simp only [List.set_cons_zero,uX,List.getD_cons_zero];rw [Int.sub_mul];omega
 |c::cs,x::p,k+1,v,h=>by simp only [List.set_cons_succ,uX,List.getD_cons_succ];rw [aAK cs p k v (by simpa using h)];omega
theorem aJH: ∀p:List Int,uX [0,0,0,0] p=0:=fun p=>aIH rfl p
def rC(k:Nat)(c:Int)(q:List Int):List Int:=q.set k (c-q.getD k 0)
theorem aKM(k:Nat)(c:Int)(q:List Int):(rC k c q).length=q.length:=by simp [rC]
theorem rH{l:List Int}{k:Nat}(h:k<l.length)(v:Int):(l.set k v).getD k 0=v:=by rw [K6,vAA h];rfl
theorem aEP{k:Nat}{c:Int}{q:List Int}(hk:k<q.length):rC k c (rC k c q)=q:=by
 have e:c-(c-q.getD k 0)=q.getD k 0:=by omega
 unfold rC;rw [rH hk,List.set_set,e];exact aKA (aDv hk 0)
theorem aIe{k:Nat}(hk:k<4){c:Int}{q:List Int}(hq:k<q.length){y:Affine}(hy:bX y=true):cJ (L5 k c y) (rC k c q)=cJ y q:=by
 have h4:=(jJ hy).1;have eb: ∀p:List Int,cJ (yR k c) p=c-p.getD k 0:=fun p=>by
  unfold cJ yR;dsimp only;rw [aAK _ _ _ _ (by simpa using hk),aJH]
  have:([0,0,0,0]:List Int).getD k 0=0:=by rcases(show k=0∨k=1∨k=2∨k=3 by omega) with rfl|rfl|rfl|rfl<;>rfl
  rw [this];omega
 have e1:cJ (L5 k c y) (rC k c q)=cJ ⟨y.coefs.set k 0,y.const⟩ (rC k c q)+y.coefs.getD k 0*cJ (yR k c) (rC k c q):=by
  unfold L5 aKw aHW cJ;dsimp only;rw [aIF _ _ _ _ (by rw [vAV,h4];simp [yR]),vBV];omega
 rw [e1,eb];unfold cJ rC;dsimp only;rw [rH hq,aAK _ _ _ _ (by omega),aIG _ _ _ _ hq,rH hq,show c-(c-q.getD k 0)=q.getD k 0 by omega,Int.zero_sub,Int.neg_mul,vBW,vBW];omega
theorem aKN{k:Nat}{c:Int}(q:List Int)(v:Int)(h:k+1≤q.length):rC k c (q++[v])=rC k c q++[v]:=by unfold rC;rw [aJy (by omega),List.set_append_left _ _ (by omega)]
theorem aNq{k:Nat}{c:Int}{q:List Int}(h:q.length=k)(v:Int):rC k c (q++[v])=q++[c-v]:=by subst h;unfold rC;rw [aJz,vBQ _ _ (kC _),vBw];rfl
theorem aNm(lo hi:Int):((kE lo hi).map fun v=>lo+hi-1-v).Perm (kE lo hi):=by
 have:(kE lo hi).map (fun v=>lo+hi-1-v)=(kE lo hi).reverse:=by
  unfold kE;rw [List.map_map];apply List.ext_getElem
  ·simp
  intro i h1 h2;simp at h1 h2⊢;omega
 rw [this];exact List.reverse_perm _
theorem aPx{l:Loop}(h:kM l=true)(p:List Int):kU l p=kJ l.lo∧qE l p=kJ l.hi:=by
 unfold kM at h;simp only [Bool.and_eq_true,decide_eq_true_eq] at h;obtain⟨e1,e2,f1,f2⟩:=h;obtain⟨x,hx⟩:=vBm.1 e1;obtain⟨y,hy⟩:=vBm.1 e2;unfold nH at f1 f2;rw [hx] at f1;rw [hy] at f2;have f1:cO x.coefs=0:=by simpa using f1
 have f2:cO y.coefs=0:=by simpa using f2
 unfold kU qE evs kJ;rw [hx,hy];simp [mx,mn,cJ,aIH f1,aIH f2]
theorem aNp{list:List Arr}{P:Part}(hP:cV list P=true){k:Nat}{l:Loop}(hl:P.nest[k]? =some l)(hf:kM l=true)(hq:cV list (aDd k (rD l) P)=true):(dQ (aDd k (rD l) P)).Perm ((dQ P).map (rC k (rD l))):=by
 obtain⟨h1,h2⟩:=qN hP;have hk:=(cY.1 hl).1;rw [wA hq,wA hP];have e:P.nest=P.nest.take k++l::P.nest.drop (k+1):=by rw [←lG hl,vBP]
 have e2:(aDd k (rD l) P).nest=P.nest.take k++l::(P.nest.drop (k+1)).map (jW (L5 k (rD l))):=by
  show P.nest.take (k+1)++_=_;rw [yB,hl,vAK];rfl
 rw [e2]
 conv=>rhs;rw [e]
 have h3: ∀y∈P.nest.drop (k+1),F6 y:=fun y hy=>h2 y (vAJ hy);generalize P.nest.drop (k+1)=ls at h3;refine aB9 (k:=k) (fun p hp=>?_) _ _ (by simp;omega);obtain⟨g1,g2⟩:=aPx hf p;simp only [pts];rw [g1,g2,vBN];have e3:(kE (kJ l.lo) (kJ l.hi)).flatMap (fun v=>(pts ls (p++[v])).map (rC k (rD l)))=((kE (kJ l.lo) (kJ l.hi)).map fun v=>kJ l.lo+kJ l.hi-1-v).flatMap (fun v=>pts (ls.map (jW (L5 k (rD l)))) (p++[v])):=by
  rw [List.flatMap_map];refine U7 fun v _=>?_;rw [←aKU (m:=k+1) (fun q hq y hy=>aIe (by omega) (by omega) hy) (fun q v hq=>aKN q v hq) ls _ h3 (by simp;omega),aNq hp];rfl
 rw [e3];exact((aNm _ _).flatMap_right _).symm
theorem aKL{p:Prog}{i k:Nat}{P:Part}(hk:k<P.nest.length)(h:(dsO p i).all (fun d=>posL (v7 k d))=true)(c:Int):Kept p i P (rC k c) (v7 k) where
 pos:=h
 dist a b ha hb:=by
  unfold v7 rC;rw [aCl,aEY _ _ _ (by omega) (by omega)];congr 1;omega
 len a ha:=by rw [aKM,ha]
 inj a b ha hb e:=by rw [←aEP (c:=c) (show k<a.length by omega),e,aEP (by omega)]
theorem aQx{p q:Prog}{part loop:Int}(h:L4 p part loop=(q,true)):bM p=true∧bM q=true∧ ∃(i k:Nat) (P:Part) (l:Loop),part=i∧loop=k∧p.parts[i]? =some P∧P.nest[k]? =some l∧kT p part loop=true∧kM l=true∧q=⟨p.arrays,p.parts.set i (aDd k (rD l) P)⟩∧Mov p q i (rC k (rD l))∧Kept p i P (rC k (rD l)) (v7 k):=by
 by_cases hb:kT p part loop=true
 ·obtain⟨hv,i,k,P,l,rfl,rfl,hP,hl,hi,hkl,hok,hk⟩:=aAx hb;rw [T7 hb hP hl] at h;by_cases hr:E2 p i k l=true
  ·rw [if_pos hr] at h;obtain⟨rfl,hw⟩:=aPz h;unfold E2 at hr;rw [vBt] at hr;have hokq:=(eN hw).2.2.2.1 _ (cS (vAA hi));exact⟨hv,hw,i,k,P,l,rfl,rfl,hP,hl,hb,hr.1,rfl,aPh hv hP rfl (fun q hq y hy=>aIe hk (by omega) hy) (aNp hok hl hr.1 hokq),aKL hkl hr.2 _⟩
  rw [if_neg hr] at h;cases h
 unfold L4 at h;rw [if_neg hb] at h;cases h
theorem aL7(code:List UInt8):Ev (iH N code) (fun x=>BG 1000 x.1):=by unfold iH;exact aMl code
theorem aL6(code:List UInt8):Ev (iG N code) (fun x=>BG 1000 x.1):=by unfold iG;exact aO (aL7 code) fun x1 hp=>Ev.some hp
end Go.Lift
