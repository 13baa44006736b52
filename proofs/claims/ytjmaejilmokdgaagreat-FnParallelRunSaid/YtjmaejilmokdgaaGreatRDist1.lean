/- Distances: sorted lists of points without doubles. -/
import Derived.Test.YtjmaejilmokdgaaGreatRTran1
import Derived.Test.YtjmaejilmokdgaaGreatRRun1
set_option maxRecDepth 100000
set_option linter.unusedVariables false
namespace Go.Lift
open Go
theorem fY: ∀xs,cmpL xs xs=0
 | []=>rfl
 |x::xs=>by unfold cmpL;rw [if_neg (by omega),if_neg (by omega)];exact fY xs
theorem jD: ∀xs ys,cmpL ys xs= -cmpL xs ys
 | [],[]=>by simp [cmpL]
 | [],_::_=>by simp [cmpL]
 |_::_,[]=>by simp [cmpL]
 |x::xs,y::ys=>by
  unfold cmpL;by_cases h1:x<y
  ·simp [h1,show¬y<x by omega]
  by_cases h2:y<x
  ·simp [h1,h2]
  rw [if_neg h1,if_neg h2,if_neg h2,if_neg h1];exact jD xs ys
theorem tZ: ∀{xs ys},cmpL xs ys=0→xs=ys
 | [],[],_=>rfl
 | [],_::_,h=>by simp [cmpL] at h
 |_::_,[],h=>by simp [cmpL] at h
 |x::xs,y::ys,h=>by
  unfold cmpL at h;by_cases h1:x<y
  ·rw [if_pos h1] at h;omega
  by_cases h2:y<x
  ·rw [if_neg h1,if_pos h2] at h;omega
  rw [if_neg h1,if_neg h2] at h;rw [tZ h,show x=y by omega]
theorem zA: ∀{xs ys zs},cmpL xs ys<0→cmpL ys zs<0→cmpL xs zs<0
 | [],[],_,h,_=>by simp [cmpL] at h
 | [],_::_,[],_,h=>by simp [cmpL] at h
 | [],_::_,_::_,_,_=>by simp [cmpL]
 |_::_,[],_,h,_=>by simp [cmpL] at h
 |_::_,_::_,[],_,h=>by simp [cmpL] at h
 |x::xs,y::ys,z::zs,h1,h2=>by
  unfold cmpL at h1 h2⊢;by_cases a:x<y
  ·by_cases b:y<z
   ·rw [if_pos (by omega)];omega
   by_cases c:z<y
   ·rw [if_neg b,if_pos c] at h2;omega
   rw [if_pos (by omega)];omega
  by_cases b:y<x
  ·rw [if_neg a,if_pos b] at h1;omega
  by_cases c:y<z
  ·rw [if_pos (by omega)];omega
  by_cases d:z<y
  ·rw [if_neg c,if_pos d] at h2;omega
  rw [if_neg (by omega),if_neg (by omega)];rw [if_neg a,if_neg b] at h1;rw [if_neg c,if_neg d] at h2;exact zA h1 h2
abbrev SS(l:List (List Int)):Prop:=l.Pairwise fun a b=>cmpL a b<0
theorem aK2: ∀{l m:List (List Int)},SS l→SS m→(∀x,x∈l↔x∈m)→l=m
 | [],[],_,_,_=>rfl
 | [],y::m,_,_,h=>by have:=(h y).2 (by simp);simp at this
 |x::l,[],_,_,h=>by have:=(h x).1 (by simp);simp at this
 |x::l,y::m,hl,hm,h=>by
  obtain⟨l1,l2⟩:=vBb.1 hl;obtain⟨m1,m2⟩:=vBb.1 hm;have e:x=y:=by
   rcases jY.1 ((h x).1 (by simp)) with h1|h1
   ·exact h1
   rcases jY.1 ((h y).2 (by simp)) with h2|h2
   ·exact h2.symm
   have a:=m1 x h1;have b:=l1 y h2
   have:=zA a b;rw [fY] at this;omega
  subst e;have hx1:x∉l:=fun hx=>by have:=l1 x hx;rw [fY] at this;omega
  have hx2:x∉m:=fun hx=>by have:=m1 x hx;rw [fY] at this;omega
  rw [aK2 l2 m2 (fun z=>⟨fun hz=>by
   rcases jY.1 ((h z).1 (nW _ hz)) with rfl|h3
   ·exact absurd hz hx1
   ·exact h3,fun hz=>by
   rcases jY.1 ((h z).2 (nW _ hz)) with rfl|h3
   ·exact absurd hz hx2
   exact h3⟩)]
def W9:List (List Int)→List Int→List (List Int)
 | [],d=>[d]
 |x::xs,d=>if cmpL d x<0 then d::x::xs else x::W9 xs d
theorem Q3{d z:List Int}: ∀{l:List (List Int)},z∈W9 l d↔z=d∨z∈l
 | []=>by simp [W9]
 |x::xs=>by
  unfold W9;split
  ·simp
  simp only [List.mem_cons,Q3 (l:=xs)];constructor
  ·rintro(h|h|h)
   ·exact .inr (.inl h)
   ·exact .inl h
   exact .inr (.inr h)
  rintro(h|h|h)
  ·exact .inr (.inl h)
  ·exact .inl h
  exact .inr (.inr h)
theorem aFK{d:List Int}: ∀{l:List (List Int)},SS l→d∉l→SS (W9 l d)
 | [],_,_=>by simp [W9]
 |x::xs,hl,hd=>by
  obtain⟨l1,l2⟩:=vBb.1 hl;unfold W9;split
  ·rename_i h;refine vBb.2 ⟨fun z hz=>?_,hl⟩;rcases jY.1 hz with rfl|hz
   ·exact h
   exact zA h (l1 z hz)
  rename_i h;refine vBb.2 ⟨fun z hz=>?_,aFK l2 fun hx=>hd (nW _ hx)⟩;rcases Q3.1 hz with rfl|hz
  ·have h1:=jD z x;have h2:cmpL z x≠0:=fun e=>hd (by rw [tZ e];simp);omega
  exact l1 z hz
def pM(l:List (List Int))(d:List Int):List (List Int):=if d∈l then l else W9 l d
theorem aKO{l:List (List Int)}(h:SS l)(d:List Int):SS (pM l d):=by
 unfold pM;split
 ·exact h
 exact aFK h ‹_›
theorem aI6{l:List (List Int)}{d z:List Int}:z∈pM l d↔z=d∨z∈l:=by
 unfold pM;split
 ·rename_i h;exact⟨.inr,fun hz=>by rcases hz with rfl|hz;exact h;exact hz⟩
 exact Q3
theorem J9: ∀(ds l:List (List Int)),SS l→SS (ds.foldl pM l)∧ ∀z,z∈ds.foldl pM l↔z∈l∨z∈ds
 | [],l,h=>⟨h,fun z=>by simp⟩
 |d::ds,l,h=>by
  obtain⟨h1,h2⟩:=J9 ds (pM l d) (aKO h d);refine⟨h1,fun z=>?_⟩;rw [List.foldl_cons,h2 z,aI6,jY];constructor
  ·rintro((h|h)|h)
   ·exact .inr (.inl h)
   ·exact .inl h
   exact .inr (.inr h)
  rintro(h|h|h)
  ·exact .inl (.inr h)
  ·exact .inl (.inl h)
  exact .inr h
def aN:List (List Int)→List (List Int)
 | []=>[]
 | [x]=>[x]
 |x::y::r=>if x=y then aN (y::r) else x::aN (y::r)
theorem eE{z:List Int}: ∀{l:List (List Int)},z∈aN l↔z∈l
 | []=>by simp [aN]
 | [x]=>by simp [aN]
 |x::y::r=>by
  have ih:=eE (z:=z) (l:=y::r);unfold aN;split
  ·rename_i h;subst h;rw [ih];simp
  rw [jY,ih];simp
theorem lI: ∀{l:List (List Int)},l.Pairwise (fun a b=> ¬cmpL b a<0)→SS (aN l)
 | [],_=>by simp [aN]
 | [x],_=>by simp [aN]
 |x::y::r,h=>by
  obtain⟨h1,h2⟩:=vBb.1 h;obtain⟨h3,_⟩:=vBb.1 h2;unfold aN;split
  ·exact lI h2
  rename_i hne;refine vBb.2 ⟨fun z hz=>?_,lI h2⟩;have hxy:cmpL x y<0:=by
   have a:=h1 y (by simp);have b:=jD x y;have c:cmpL x y≠0:=fun e=>hne (tZ e);omega
  rcases jY.1 (eE.1 hz) with rfl|hz
  ·exact hxy
  have a:=h3 z hz;have b:=jD y z;by_cases e:cmpL y z=0
  ·rw [←tZ e];exact hxy
  exact zA hxy (by omega)
theorem aA3(l:List (List Int)):(i8 l).Pairwise (fun a b=> ¬cmpL b a<0):=by
 have:=List.pairwise_mergeSort (le:=fun x y=> !decide (cmpL y x<0)) (fun a b c h1 h2=>by
  simp only [Bool.not_eq_true',decide_eq_false_iff_not] at*;intro h;have f1:=jD a b;have f2:=jD b c;by_cases e:cmpL b a=0
  ·rw [tZ e] at h2;exact h2 h
  ·exact h2 (zA h (by omega))) (fun a b=>by
  have f1:=jD a b;by_cases h:cmpL b a<0
  ·have: ¬cmpL a b<0:=by omega
   simp [h,this]
  simp [h]) l
 refine this.imp fun h=>?_;simpa using h
theorem aKA(ds:List (List Int)):aN (i8 ds)=ds.foldl pM []:=by obtain⟨h1,h2⟩:=J9 ds [] List.Pairwise.nil;refine aK2 (lI (aA3 ds)) h1 fun z=>?_;rw [eE,h2 z];unfold i8;rw [List.mem_mergeSort];simp
def minusL(b a:List Int):List Int:=List.zipWith (fun x y=>x-y) b a
theorem aHZ{R:Type}{Q:R→Prop}{n:Nat}{a b:List Int}(hl:a.length=b.length)(hb:b.length≤1000)(hn:1000<n)(ha1: ∀x∈a,yN 9999 x)(hb1: ∀x∈b,yN 9999 x){K:List Int→Option R}(hK:Ev (K (minusL b a)) Q):
  Ev (aL (fun again15 ((x12,x13):(List Int)×Int)=>
   bif decide (x13<(b.length:Int)) then(
    Option.bind (ix b x13) fun x16=>
    Option.bind (ix a x13) fun x17=>
    Option.bind (app x12 [wr (x16-x17)]) fun x18=>
    again15 (x18,wr (x13+1))
   ) else(
    K x12
   )) n ([],0)) Q:=by
 refine Ev.loop (fun x:List Int×Int=> ∃i:Nat,x.2=i∧i≤b.length∧x.1=(minusL b a).take i) (fun x=>b.length-x.2.toNat) ?_ n _ ⟨0,rfl,by omega,by simp⟩ (by dsimp only;omega);rintro again ⟨x,k⟩ ⟨i,hk,hi,hx⟩ hr;dsimp only at hk hx⊢;subst hk;have hml:(minusL b a).length=b.length:=by unfold minusL;rw [List.length_zipWith];omega
 refine aH (fun hlt=>?_) fun hge=>?_
 ·have hlt:i<b.length:=by omega
  have e1:=cI hlt;have e2:=cI (show i<a.length by omega);have b1:=hb1 _ (vAU hlt);have b2:=ha1 _ (vAU (show i<a.length by omega));unfold yN at b1 b2;refine aA (aM e1) (aA (aM e2) (aA (bI (by rw [hx,qS];simp;omega)) ?_));rw [aK (n:=b[i]-a[i]) (by omega),aK (by omega)];refine hr _ ⟨i+1,by dsimp only;omega,by omega,?_⟩ (by dsimp only;omega);dsimp only;rw [xC,←hx];congr 1;unfold minusL;rw [List.getElem?_zipWith,e1,e2];rfl
 have:i=b.length:=by omega
 subst this;rw [vBe (by omega)] at hx;rw [hx];exact hK
theorem aCL(d:List Int): ∀l:List (List Int),(W9 l d).length=l.length+1
 | []=>rfl
 |x::xs=>by
  unfold W9;split
  ·rfl
  rw [vCa,aCL d xs];rfl
theorem aI7(l:List (List Int))(d:List Int):(pM l d).length≤l.length+1:=by
 unfold pM;split
 ·omega
 rw [aCL];omega
def dif(I:List Inst)(part:Int)(d:Dep):Option (List Int):=match I[d.fromF.toNat]?,I[d.toF.toNat]? with
 |some a,some b=>if a.part=part∧b.part=part then some (minusL b.point a.point) else none
 |_,_=>none
def sP(p:Prog)(part:Int):List (List Int):=(nP p (insts p.parts) (insts p.parts).length).filterMap (dif (insts p.parts) part)
theorem inst_pt{p:Prog}(hv:bM p=true){x:Inst}(hx:dF p x): ∃P,p.parts[x.part.toNat]? =some P∧0≤x.part∧x.point.length=P.nest.length∧x.point.length≤4∧ ∀y∈x.point,yN 9999 y:=by obtain⟨hl,hd,h4,hpo,hil⟩:=dT hv;obtain⟨i,k,P,s,e1,e2,e3,e4,e5⟩:=hx;obtain⟨q1,q2,q3,q4⟩:=pY (hpo P (cF e3));obtain⟨hf,hp1,hp2,hp3,hp4⟩:=aDB q1;have hs:=cF e4;have hpt:=(q4 s hs _ e5).2;unfold ptV at hpt;simp only [Bool.and_eq_true,decide_eq_true_eq,List.all_eq_true] at hpt;exact⟨P,by rw [e1,sZ];exact e3,by omega,(hp2 _ e5).1,hpt.1,fun y hy=>hpt.2 y hy⟩
theorem aKB{I:List Inst}{part:Int}(h: ∀x∈I,x.point.length≤4){d:Dep}{v:List Int}(hv:dif I part d=some v):v.length≤4:=by
 unfold dif at hv;split at hv
 ·rename_i a b ha hb;split at hv
  ·cases hv;unfold minusL;rw [List.length_zipWith]
   have:=h b (cF hb);omega
  cases hv
 cases hv
theorem R9{α β:Type}{f:α→Option β}{l:List α}{i:Nat}{x:α}(h:l[i]? =some x):(l.take (i+1)).filterMap f=(l.take i).filterMap f++(f x).toList:=by rw [xC,h,List.filterMap_append];cases hx:f x<;>simp [hx]
theorem rM(x:List Int): ∀(y:List Int) (a:List (List Int)),aN ((y::a)++[x])=if(y::a).getLast (by simp)=x then aN (y::a) else aN (y::a)++[x]
 |y,[]=>by
  by_cases h:y=x
  ·subst h;simp [aN]
  simp [aN,h]
 |y,z::a=>by
  have ih:=rM x z a;rw [List.getLast_cons (by simp)];show aN (y::z::(a++[x]))=_;unfold aN;by_cases h:y=z
  ·rw [if_pos h,if_pos h];exact ih
  rw [if_neg h,if_neg h];have ih':aN (z::(a++[x]))=_:=ih;rw [ih'];split<;>simp
theorem mE{s:List (List Int)}{m:Nat}(hm:1≤m)(hl:m<s.length):aN (s.take (m+1))=if s[m-1]=s[m] then aN (s.take m) else aN (s.take m)++[s[m]]:=by
 have e:s.take (m+1)=s.take m++[s[m]]:=by rw [xC,cI hl];rfl
 have hne:s.take m≠[]:=by
  intro h
  have:=congrArg List.length h;rw [qS,vBt (by omega),List.length_nil] at this;omega
 have hlast: ∀h,(s.take m).getLast h=s[m-1]:=fun h=>by
  rw [List.getLast_eq_getElem,List.getElem_take];congr 1;rw [qS];omega
 rw [e];obtain⟨y,a,hya⟩: ∃y a,s.take m=y::a:=by
  cases h:s.take m with
  |nil=>exact absurd h hne
  |cons y a=>exact⟨y,a,rfl⟩
 have hl2:=hlast hne;simp only [hya] at hl2⊢;rw [rM,hl2]
theorem aH8{α:Type}{l:List α}{o m:Nat}{j:Nat}{x:α}(h1:j<m)(h2:l[o+j]? =some x):ixv l o m (j:Int)=some x:=by unfold ixv;rw [if_pos ⟨by omega,by omega⟩,sZ];exact h2
theorem aEF{n:Nat}(hn:20000≤n){s:List (List Int)}(hs:s.length≤15000)(h1: ∀x∈s,x.length≤1000){f:List Int→List Int→Option Bool}(hf: ∀a b,a.length≤1000→f a b=some (decide (a=b))):
  Ev (eP n s f) (fun r=>r.2.take r.1=aN s):=by
 unfold eP;refine aH (fun h=>Ev.some ?_) fun h=>?_
 ·dsimp only;rw [pB]
  match s,h with
  | [],_=>rfl
  | [x],_=>rfl
  |x::y::r,h=>simp at h;omega
 refine Ev.loop (fun x:Int=> ∃k:Nat,x=k∧1≤k∧k≤s.length∧aN (s.take k)=s.take k) (fun x=>s.length-x.toNat) ?_ n _ ⟨1,rfl,by omega,by omega,?_⟩ (by omega);rotate_left
 ·cases s with
  |nil=>rfl
  |cons x s=>rfl
 rintro again z ⟨k,rfl,hk1,hk,hc⟩ hr;refine aH (fun hlt=>?_) fun hge=>Ev.some ?_;rotate_left
 ·have:k=s.length:=by omega
  subst this;dsimp only;rw [pB] at hc⊢;exact hc.symm
 have hlt:k<s.length:=by omega
 have e1:=cI hlt;have e2:=cI (show k-1<s.length by omega);rw [aK (n:=(k:Int)-1) (by omega),show(k:Int)-1=((k-1:Nat):Int) by omega];refine aA (aM e1) (aA (aM e2) (aA (hf _ _ (h1 _ (vAU hlt))) (aH (fun heq=>?_) fun hne=>?_)));rotate_left
 ·rw [aK (by omega)];refine hr _ ⟨k+1,by omega,by omega,by omega,?_⟩ (by omega);rw [mE hk1 hlt,if_neg fun e=>hne e.symm,hc,xC,e1];rfl
 -- the first double
 clear hr;rw [sZ];refine Ev.loop (fun x:(List (List Int)×Int)×Int=> ∃i j:Nat,x.2=j∧x.1.2=i∧1≤j∧k+j≤s.length∧x.1.1.length=s.length∧i+1≤k+j∧x.1.1.take i=aN (s.take (k+j))∧ ∀t,i≤t→x.1.1[t]? =s[t]?) (fun x=>s.length-x.2.toNat) ?_ n _ ⟨k,1,rfl,rfl,by omega,by omega,rfl,by omega,?_,fun _ _=>rfl⟩ (by dsimp only;omega);rotate_left
 ·dsimp only;rw [mE hk1 hlt,if_pos heq.symm,hc]
 rintro again2 ⟨⟨l,iz⟩,jz⟩ ⟨i,j,hj,hi,hj1,hkj,hll,hij,htk,hrest⟩ hr;dsimp only at hj hi hll htk hrest⊢;subst hj;subst hi;refine aH (fun hlt2=>?_) fun hge=>?_
 ·have hlt2:k+j<s.length:=by omega
  have a1:l[k+j]? =some s[k+j]:=by rw [hrest _ (by omega),cI hlt2]
  have a2:l[k+(j-1)]? =some (s[k+j-1]'(by omega)):=by rw [hrest _ (by omega),show k+(j-1)=k+j-1 by omega,cI (by omega)]
  rw [aK (n:=(j:Int)-1) (by omega),show(j:Int)-1=((j-1:Nat):Int) by omega];refine aA (aH8 (by omega) a1) (aA (aH8 (by omega) a2) (aA (hf _ _ (h1 _ (vAU hlt2))) (eU (fun hne=>?_) fun heq2=>?_)))
  ·obtain⟨y4,hy4⟩: ∃y,l[i]? =some y:=⟨_,cI (by omega)⟩
   refine aA (aM hy4) (aA (iL (by omega) _) ?_);rw [sZ,aK (by omega),aK (by omega)];refine hr _ ⟨i+1,j+1,by dsimp only;omega,by dsimp only;omega,by omega,by omega,by dsimp only;rw [vBd];exact hll,by omega,?_,fun t ht=>?_⟩ (by dsimp only;omega)
   ·dsimp only;rw [show k+(j+1)=(k+j)+1 by omega,mE (by omega) hlt2,if_neg fun e=>hne e.symm,←htk,xC,vAA (by omega),List.take_set_of_le (iB _)];rfl
   dsimp only;rw [vAG (by omega)];exact hrest t (by omega)
  rw [aK (by omega)];refine hr _ ⟨i,j+1,by dsimp only;omega,rfl,by omega,by omega,hll,by omega,?_,hrest⟩ (by dsimp only;omega);dsimp only;rw [show k+(j+1)=(k+j)+1 by omega,mE (by omega) hlt2,if_pos heq2.symm];exact htk
 have hkj2:k+j=s.length:=by omega
 rw [hkj2,pB] at htk;rw [decide_eq_true (show(0:Int)≤(i:Int) by omega),decide_eq_true (show(i:Int)<(l.length:Int) by omega)];refine bY (bY (Ev.some ?_));dsimp only;rw [sZ,vBK (by rw [qS];omega),vBe (by rw [qS];omega)];exact htk
theorem aEk{n:Nat}(hn:20000≤n){p:Prog}(hv:bM p=true)(part:Int):fH n (trc p) part=some ((sP p part).foldl pM []):=by
 have hil:=(dT hv).2.2.2.2;unfold fH;refine Ev.eq (aA (aGB (by omega) hv) ?_);rw [show(trc p).list=insts p.parts from rfl];have hok: ∀x∈insts p.parts,dF p x:=fun x hx=>insts_mem hx;have hD:=aC4 (p:=p) hil;have hb:=aMt (p:=p) (l:=insts p.parts);unfold sP;generalize nP p (insts p.parts) (insts p.parts).length=D at*;generalize insts p.parts=I at*;have hpt: ∀x∈I,x.point.length≤4:=fun x hx=>(inst_pt hv (hok x hx)).choose_spec.2.2.2.1;refine Ev.loop (fun x:List (List Int)×Int=> ∃i:Nat,x.2=i∧i≤D.length∧x.1=(D.take i).filterMap (dif I part)) (fun x=>D.length-x.2.toNat) ?_ n _ ⟨0,rfl,by omega,by simp⟩ (by dsimp only;omega);rintro again ⟨x3,k⟩ ⟨i,hk,hi,hx⟩ hr;dsimp only at hk hx⊢;subst hk;have hlen:x3.length≤i:=by
  rw [hx];refine I7 (List.length_filterMap_le _ _) ?_;rw [qS];omega
 refine aH (fun hlt=>?_) fun hge=>?_
 ·have hlt:i<D.length:=by omega
  have e1:=cI hlt;obtain⟨d1,d2,d3⟩:=hb _ (vAU hlt);have ea:=P8 (l:=I) (c:=D[i].fromF) d1 (by omega);have eb:=P8 (l:=I) (c:=D[i].toF) (by omega) (by omega);have ha:=vAU (show D[i].fromF.toNat<I.length by omega);have hbm:=vAU (show D[i].toF.toNat<I.length by omega);have hfa:I[D[i].fromF.toNat]? =some I[D[i].fromF.toNat]:=cI _;have hfb:I[D[i].toF.toNat]? =some I[D[i].toF.toNat]:=cI _;obtain⟨PA,pa1,pa2,pa3,pa4,pa5⟩:=inst_pt hv (hok _ ha);obtain⟨PB,pb1,pb2,pb3,pb4,pb5⟩:=inst_pt hv (hok _ hbm);have hdif:dif I part D[i]=if I[D[i].fromF.toNat].part=part∧I[D[i].toF.toNat].part=part then some (minusL I[D[i].toF.toNat].point I[D[i].fromF.toNat].point) else none:=by
   unfold dif;rw [hfa,hfb]
  refine Ev.jn (fun z=>z.1=(D.take (i+1)).filterMap (dif I part)) (fun j hj=>aA (aM e1) (aA ea (aA eb ?_))) fun z hz=>?_
  ·rw [R9 e1,←hx] at hj;refine Ev.jn (fun z:Bool=>z= !decide (I[D[i].fromF.toNat].part=part∧I[D[i].toF.toNat].part=part)) (fun j2 hj2=>eU (fun h=>hj2 _ ?_) fun h=>hj2 _ ?_) fun z hz=>?_
   ·rw [decide_eq_false fun h2=>h h2.1];rfl
   ·congr 1;exact decide_eq_decide.2 ⟨fun h2=>⟨h,h2⟩,fun h2=>h2.2⟩
   subst hz;refine eU (fun h=>hj _ ?_) fun h=>?_
   ·rw [hdif,if_neg h];simp
   have hPP:PA=PB:=by
    rw [h.1] at pa1;rw [h.2] at pb1;rw [pa1] at pb1;cases pb1;rfl
   subst hPP;refine aHZ (K:=fun x12=>Option.bind (app x3 [x12]) fun x19=>j (x19,D[i].fromF,D[i].toF,D[i].kinds,I[D[i].fromF.toNat].part,I[D[i].fromF.toNat].stmt,I[D[i].fromF.toNat].point,I[D[i].toF.toNat].part,I[D[i].toF.toNat].stmt,I[D[i].toF.toNat].point)) (by omega) (by omega) (by omega) pa5 pb5 ?_;refine aA (bI (by simp;omega)) (hj _ ?_);rw [hdif,if_pos h];rfl
  rw [aK (by omega)];exact hr _ ⟨i+1,by dsimp only;omega,by omega,hz⟩ (by dsimp only;omega)
 have:i=D.length:=by omega
 subst this;rw [pB] at hx;subst hx;have hall: ∀y∈D.filterMap (dif I part),y.length≤4:=fun y hy=>by
  obtain⟨d,_,hd⟩:=List.mem_filterMap.1 hy;exact aKB hpt hd
 have hsl:(i8 (D.filterMap (dif I part))).length≤15000:=by unfold i8;rw [List.length_mergeSort];omega
 refine aA (x:=i8 (D.filterMap (dif I part))) (by unfold m_sortL;rw [if_pos ⟨by omega,fun y hy=>by have:=hall y hy;omega⟩]) (aI (aEF hn hsl (fun y hy=>by
  have:=hall y (by unfold i8 at hy;exact List.mem_mergeSort.1 hy);omega) fun a b ha=>tW (by omega) (by omega)) fun r hr2=>Ev.some ?_)
 rw [hr2];exact aKA _
def lvl(d:List Int):Option Nat:=d.findIdx? fun x=> !decide (x=0)
def aH2(d:List Int):Int:=match lvl d with
 |some i=>(i:Int)
 |none=> -1
theorem aEj{n:Nat}{d:List Int}(hd:d.length≤1000)(hn:1000<n):l9 n d=some (aH2 d):=by
 unfold l9;refine Ev.eq (aA (x:=aH2 d) ?_ (Ev.some rfl));unfold fP;refine Ev.eq (Ev.loop (fun x:Int=> ∃i:Nat,x=i∧i≤d.length∧ ∀j,j<i→d.getD j 0=0) (fun x=>d.length-x.toNat) ?_ n _ ⟨0,rfl,by omega,fun j hj=>absurd hj (vCb _)⟩ (by omega));rintro again z ⟨i,rfl,hi,h0⟩ hr;have hz: ∀j (hj:j<d.length),j<i→d[j]=0:=fun j hj hji=>by
  have:=h0 j hji
  rwa [I6,cI hj] at this
 refine aH (fun hlt=>?_) fun hge=>Ev.some ?_
 ·have hlt:i<d.length:=by omega
  have e1:=cI hlt;refine aA (aM e1) (aA (x:= !decide (d[i]=0)) rfl (eU (fun hne=>Ev.some ?_) fun he=>?_))
  ·have:lvl d=some i:=by
    unfold lvl;rw [vBD];exact⟨hlt,by simp [hne],fun j hj=>by simp [hz j (by omega) hj]⟩
   unfold aH2;rw [this]
  rw [aK (by omega)];refine hr _ ⟨i+1,by omega,by omega,fun j hj=>?_⟩ (by omega);by_cases hji:j=i
  ·subst hji;rw [I6,e1];exact he
  exact h0 j (by omega)
 have:lvl d=none:=by
  unfold lvl;rw [List.findIdx?_eq_none_iff];intro x hx;obtain⟨j,hj⟩:=vAQ.1 hx;obtain⟨hjl,rfl⟩:=cL.1 hj;simp [hz j hjl (by omega)]
 unfold aH2;rw [this]
def aBK(l:List Bool)(d:List Int):List Bool:=match lvl d with
 |some i=>l.set i true
 |none=>l
def X8(m:Nat)(ds:List (List Int)):List Bool:=ds.foldl aBK (List.replicate m false)
theorem T7(l:List Bool)(d:List Int):(aBK l d).length=l.length:=by unfold aBK;split<;>simp
theorem aEH{n:Nat}(hn:20000≤n){p:Prog}(hv:bM p=true){i:Nat}{P:Part}(hP:p.parts[i]? =some P):gS n (trc p) (i:Int)=some (X8 P.nest.length ((sP p i).foldl pM [])):=by
 obtain⟨_,_,_,hpo,hil⟩:=dT hv;have h4:=(aA8 (hpo P (cF hP))).1;unfold gS;refine Ev.eq (aA (aM (show(trc p).program.parts[i]? =some P from hP)) (aA (x:=List.replicate P.nest.length false) (by unfold mk;rw [if_pos ⟨by omega,by omega⟩,sZ]) (aA (aEk hn hv _) ?_)));have hds: ∀d∈(sP p i).foldl pM [],d.length=P.nest.length:=fun d hd=>by
  have h:=(J9 (sP p i) [] List.Pairwise.nil).2 d;rcases h.1 hd with h|h
  ·cases h
  obtain⟨x,_,hx⟩:=List.mem_filterMap.1 h;unfold dif at hx;split at hx
  ·rename_i a b ha hb;split at hx
   ·rename_i hab;cases hx;obtain⟨PA,a1,a2,a3,a4,a5⟩:=inst_pt hv (insts_mem (cF ha));obtain⟨PB,b1,b2,b3,b4,b5⟩:=inst_pt hv (insts_mem (cF hb));rw [hab.1,sZ,hP] at a1;rw [hab.2,sZ,hP] at b1;cases a1;cases b1;unfold minusL;rw [List.length_zipWith];omega
   cases hx
  cases hx
 have hlen:((sP p i).foldl pM []).length≤15000:=by
  have key: ∀(ds l:List (List Int)),(ds.foldl pM l).length≤l.length+ds.length:=fun ds=>by
   induction ds with
   |nil=>intro l;simp
   |cons d ds ih=>
    intro l;rw [List.foldl_cons]
    have:=ih (pM l d)
    have:=aI7 l d;rw [vCa];omega
  have h1:=key (sP p i) [];have h2:(sP p i).length≤15000:=I7 (List.length_filterMap_le _ _) (aC4 hil);simp at h1;omega
 generalize (sP p i).foldl pM []=ds at*;refine Ev.loop (fun x:List Bool×Int=> ∃t:Nat,x.2=t∧t≤ds.length∧x.1=X8 P.nest.length (ds.take t)∧x.1.length=P.nest.length) (fun x=>ds.length-x.2.toNat) ?_ n _ ⟨0,rfl,by omega,by simp [X8],by simp⟩ (by dsimp only;omega);rintro again ⟨l,k⟩ ⟨t,hk,ht,hl,hll⟩ hr;dsimp only at hk hl hll⊢;subst hk;refine aH (fun hlt=>?_) fun hge=>Ev.some ?_
 ·have hlt:t<ds.length:=by omega
  have e1:=cI hlt;have hdl:=hds _ (vAU hlt);have hstep:X8 P.nest.length (ds.take (t+1))=aBK l ds[t]:=by
   rw [hl];unfold X8;rw [xC,e1,List.foldl_append];rfl
  refine Ev.jn (fun z=>z=X8 P.nest.length (ds.take (t+1))) (fun j hj=>aA (aM e1) (aA (aEj (by omega) (by omega)) ?_)) fun z hz=>?_
  ·rw [hstep] at hj;unfold aBK aH2 at*;cases hv2:lvl ds[t] with
   |none=>
    rw [hv2] at hj;exact aH (fun h=>absurd h (by dsimp only;omega)) (fun _=>hj _ rfl)
   |some a=>
    rw [hv2] at hj;have ha:a<l.length:=by
     unfold lvl at hv2;obtain⟨h1,_⟩:=vBD.1 hv2;omega
    refine aH (fun _=>?_) fun h=>absurd (show(0:Int)≤(a:Int) by omega) h;refine aA (aM (cI ha)) (aA (iL (by dsimp only;omega) _) (hj _ ?_));dsimp only;rw [sZ]
  subst hz;rw [aK (by omega)];exact hr _ ⟨t+1,by dsimp only;omega,by omega,rfl,by dsimp only;rw [hstep,T7,hll]⟩ (by dsimp only;omega)
 have:t=ds.length:=by omega
 subst this;rw [hl,pB]
theorem aDa(m:Nat)(ds:List (List Int)):(X8 m ds).length=m:=by
 unfold X8;have key: ∀(ds:List (List Int)) (l:List Bool),(ds.foldl aBK l).length=l.length:=fun ds=>by
  induction ds with
  |nil=>intro l;rfl
  |cons d ds ih=>intro l;rw [List.foldl_cons,ih,T7]
 rw [key];simp
theorem aFD{d:List Int}{k:Nat}:lvl d=some k↔d.getD k 0≠0∧ ∀j,j<k→d.getD j 0=0:=by
 unfold lvl;rw [vBD];constructor
 ·rintro⟨h,h1,h2⟩;refine⟨?_,fun j hj=>?_⟩
  ·rw [I6,cI h];simpa using h1
  have:=h2 j hj;rw [I6,cI (by omega)];simpa using this
 rintro⟨h1,h2⟩;have hk:k<d.length:=by
  apply vBv;intro hle;rw [I6,vBp hle] at h1;exact h1 rfl
 refine⟨hk,?_,fun j hj=>?_⟩
 ·rw [I6,cI hk] at h1;simpa using h1
 have:=h2 j hj;rw [I6,cI (by omega)] at this;simpa using this
theorem aDb{k:Nat}: ∀(ds:List (List Int)) (l:List Bool),k<l.length→(ds.foldl aBK l).getD k false=(l.getD k false||ds.any fun d=>decide (lvl d=some k))
 | [],l,h=>by simp
 |d::ds,l,h=>by
  rw [List.foldl_cons,aDb ds (aBK l d) (by rw [T7];exact h),List.any_cons];unfold aBK;cases hv:lvl d with
  |none=>simp
  |some a=>
   simp only [List.getD_eq_getElem?_getD,List.getElem?_set];by_cases ha:a=k
   ·subst ha;simp [h]
   simp [ha]
theorem aKE{m k:Nat}(h:k<m)(ds:List (List Int)):(X8 m ds).getD k false=ds.any (fun d=>decide (lvl d=some k)):=by unfold X8;rw [aDb ds _ (by simpa using h)];simp [List.getD_eq_getElem?_getD,h]
def aD5(p:Prog)(i k:Nat):Bool:= !((sP p i).foldl pM []).any fun d=>decide (lvl d=some k)
theorem aAp{n:Nat}{p:Prog}(hp:SmP p)(hv:bM p=true)(part loop:Int):cZ n p part loop=some (lO p part loop):=by
 unfold cZ;refine Ev.eq (Ev.jn (fun z=>z=lO p part loop) (fun j hj=>?_) fun z hz=>Ev.some hz);refine aA (aGw n hp.2.1 part) ?_;by_cases hi:0≤part∧part<(p.parts.length:Int)
 ·obtain⟨x,hx,hx2⟩:=iH hi.1 hi.2;rw [decide_eq_true hi];have h4:=(aA8 ((dT hv).2.2.2.1 x (cF hx2))).1;refine bY (aA hx (aA (dH n _ _ _) (hj _ ?_)));unfold lO;rw [hv,hx,aK (by omega)];exact decide_eq_decide.2 (by omega)
 rw [decide_eq_false hi];refine bT (hj _ ?_);unfold lO;rw [hv,aH9 hi];rfl
theorem aKo{n:Nat}(hn:20000≤n){p:Prog}(hp:SmP p)(part loop:Int):jV n p part loop=some (lO p part loop&&aD5 p part.toNat loop.toNat):=by
 unfold jV;refine Ev.eq (aA (Q7 (by omega) hp) ?_);by_cases hv:bM p=true
 ·rw [if_pos hv];refine bY (Ev.jn (fun z=>z=(lO p part loop&&aD5 p part.toNat loop.toNat)) (fun j hj=>bY (aA (aAp hp hv part loop) ?_)) fun z hz=>Ev.some hz);by_cases hc:lO p part loop=true
  ·obtain⟨_,i,k,P,l,rfl,rfl,hP,hl,hi,hkl,hok,hk⟩:=B6 hc;rw [hc] at hj⊢;refine bY (aA (aEH hn hv hP) (aA (aM (cI (show k<_ by rw [aDa];exact hkl))) (hj _ ?_)))
   have:=aKE hkl ((sP p i).foldl pM []);rw [I6,cI (by rw [aDa];exact hkl)] at this;unfold aD5;rw [sZ,sZ,←this];rfl
  have hc':lO p part loop=false:=by simpa using hc
  rw [hc'] at hj⊢;exact bT (hj _ rfl)
 rw [if_neg hv];refine bT (Ev.jn (fun _=>True) (fun j hj=>bT (hj _ trivial)) fun z hz=>Ev.some ?_);unfold lO;rw [show bM p=false by simpa using hv];rfl
def dsO(p:Prog)(i:Nat):List (List Int):=(sP p i).foldl pM []
theorem aMs{p:Prog}{i:Nat}{d:List Int}:d∈dsO p i↔d∈sP p i:=by
 unfold dsO
 have:=(J9 (sP p i) [] .nil).2 d;simpa using this
def posL(d:List Int):Bool:=match lvl d with
 |some k=>decide (0≤d.getD k 0)
 |none=>true
theorem aBr{α:Type}{l:List α}{k:Nat}(h:k<l.length)(z:α):l[k]? =some (l.getD k z):=by rw [I6,cI h];rfl
def ltI(x y:Inst):Prop:=x.part<y.part∨x.part=y.part∧(cmpL x.point y.point<0∨x.point=y.point∧x.stmt<y.stmt)
theorem aCG{x y:Inst}(h:ltI x y): ¬ltI y x:=fun h2=>by
 have hf:=jD x.point y.point;have hs:=fY x.point;rcases h with h|⟨e,h|⟨e2,h⟩⟩<;>rcases h2 with g|⟨_,g|⟨g2,g⟩⟩
 ·omega
 ·omega
 ·omega
 ·omega
 ·omega
 ·rw [g2] at h;omega
 ·omega
 ·rw [←e2] at g;omega
 omega
theorem aFY: ∀p a b:List Int,cmpL (p++a) (p++b)=cmpL a b
 | [],_,_=>rfl
 |x::p,a,b=>by simp only [List.cons_append,cmpL];rw [if_neg (by omega),if_neg (by omega)];exact aFY p a b
theorem O3: ∀(ls:List Loop) (p:List Int) {x:List Int},x∈pts ls p→ ∃t,x=p++t∧t.length=ls.length
 | [],p,x,h=>⟨[],by simpa [pts] using h,rfl⟩
 |l::ls,p,x,h=>by simp only [pts] at h;obtain⟨v,_,h⟩:=vBy.1 h;obtain⟨t,rfl,ht⟩:=O3 ls _ h;exact⟨v::t,by simp,by simp [ht]⟩
theorem aL2(lo hi:Int):(jZ lo hi).Pairwise (fun a b=>a<b):=by unfold jZ;rw [vBX];exact List.pairwise_lt_range.imp fun h=>by omega
theorem aHP: ∀(ls:List Loop) (p:List Int),SS (pts ls p)
 | [],p=>List.pairwise_singleton _ _
 |l::ls,p=>by simp only [pts];refine vBT.2 ⟨fun v _=>aHP ls _,(aL2 _ _).imp fun {v w} h x hx y hy=>?_⟩;obtain⟨s,rfl,_⟩:=O3 ls _ hx;obtain⟨t,rfl,_⟩:=O3 ls _ hy;rw [Y6,Y6,aFY];simp only [List.cons_append,cmpL];rw [if_pos h];omega
theorem insts_ss{p:Prog}(hv:bM p=true):(insts p.parts).Pairwise ltI:=by
 unfold insts;refine vBT.2 ⟨fun y hy=>?_,?_⟩
 ·obtain⟨P,i⟩:=y;have hP:=vBi.1 hy;have hok:=(dT hv).2.2.2.1 P (cF hP);dsimp only;unfold instP;rw [aCy hok];refine vBT.2 ⟨fun q _=>?_,(aHP _ _).imp fun {q r} h x hx y hy=>?_⟩
  ·rw [vBX];exact List.pairwise_lt_range.imp fun h=> .inr ⟨rfl,.inr ⟨rfl,by dsimp only;omega⟩⟩
  obtain⟨_,_,rfl⟩:=D7.1 hx;obtain⟨_,_,rfl⟩:=D7.1 hy;exact .inr ⟨rfl,.inl h⟩
 rw [List.pairwise_iff_getElem];intro i j hi hj hij x hx y hy;rw [List.getElem_zipIdx] at hx hy;unfold instP at hx hy;obtain⟨_,_,hx⟩:=vBy.1 hx;obtain⟨_,_,rfl⟩:=D7.1 hx;obtain⟨_,_,hy⟩:=vBy.1 hy;obtain⟨_,_,rfl⟩:=D7.1 hy;exact .inl (by dsimp only;omega)
def movI(i:Nat)(τ:List Int→List Int)(x:Inst):Inst:=if x.part=(i:Int) then⟨x.part,x.stmt,τ x.point⟩ else x
structure Mov (p q:Prog) (i:Nat) (τ:List Int→List Int):Prop where
 arr:q.arrays=p.arrays
 perm:(insts q.parts).Perm ((insts p.parts).map (movI i τ))
 cells: ∀x∈insts p.parts,rc q (movI i τ x)=rc p x∧wc q (movI i τ x)=wc p x
 run: ∀x∈insts p.parts,∀m,runI q m (movI i τ x)=runI p m x
theorem aAo{p:Prog}{a b:Inst}:tX p a b≠0↔aGN p a b:=by unfold tX aGN;by_cases h1:(wc p a:Int)∈rc p b<;>by_cases h2:(wc p b:Int)∈rc p a<;>by_cases h3:wc p a=wc p b<;>(first|rw [if_pos h1]|rw [if_neg h1])<;>(first|rw [if_pos h2]|rw [if_neg h2])<;>(first|rw [if_pos h3]|rw [if_neg h3])<;>simp [h1,h2,h3]
theorem aIZ{p:Prog}{a b:Inst}(h:aGN p a b):aGN p b a:=by
 rcases h with h|h|h
 ·exact .inr (.inl h)
 ·exact .inl h
 exact .inr (.inr h.symm)
theorem aC3{p:Prog}{i:Nat}{d:List Int}:d∈sP p i↔ ∃j k:Nat,∃a b:Inst,j<k∧(insts p.parts)[j]? =some a∧(insts p.parts)[k]? =some b∧aGN p a b∧a.part=(i:Int)∧b.part=(i:Int)∧d=minusL b.point a.point:=by
 unfold sP;rw [List.mem_filterMap];constructor
 ·rintro⟨e,he,hd⟩;obtain⟨j,k,hjk,hk,hkd,rfl⟩:=P4.1 he;have ha:=cI (show j<(insts p.parts).length by omega);have hb:=cI hk;rw [aBi ha hb] at hkd;unfold dif at hd;dsimp only at hd;rw [sZ,sZ,ha,hb] at hd;dsimp only at hd;split at hd
  ·rename_i hp;cases hd;exact⟨j,k,_,_,hjk,ha,hb,aAo.1 hkd,hp.1,hp.2,rfl⟩
  cases hd
 rintro⟨j,k,a,b,hjk,ha,hb,hc,h1,h2,rfl⟩;refine⟨_,P4.2 ⟨j,k,hjk,(cL.1 hb).1,?_,rfl⟩,?_⟩
 ·rw [aBi ha hb];exact aAo.2 hc
 unfold dif;dsimp only;rw [sZ,sZ,ha,hb];dsimp only;rw [if_pos ⟨h1,h2⟩]
theorem aBF{p:Prog}(hv:bM p=true){i:Nat}{P:Part}(hP:p.parts[i]? =some P){a:Inst}(ha:a∈insts p.parts)(h:a.part=(i:Int)):a.point.length=P.nest.length∧ ∀y∈a.point,yN 9999 y:=by obtain⟨Q,q1,_,q2,_,q4⟩:=inst_pt hv (insts_mem ha);rw [h,sZ,hP] at q1;cases q1;exact⟨q2,q4⟩
structure Kept (p:Prog) (i:Nat) (P:Part) (τ f:List Int→List Int):Prop where
 pos:(dsO p i).all (fun d=>posL (f d))=true
 dist: ∀a b:List Int,a.length=P.nest.length→b.length=P.nest.length→f (minusL b a)=minusL (τ b) (τ a)
 len: ∀a:List Int,a.length=P.nest.length→(τ a).length=P.nest.length
 inj: ∀a b:List Int,a.length=P.nest.length→b.length=P.nest.length→τ a=τ b→a=b
theorem tS: ∀(b a:List Int) (k:Nat),k<b.length→k<a.length→(minusL b a).getD k 0=b.getD k 0-a.getD k 0
 | [],a,k,h,_=>by simp at h
 |b::bs,[],k,_,h=>by simp at h
 |b::bs,a::as,0,_,_=>rfl
 |b::bs,a::as,k+1,h1,h2=>tS bs as k (by simpa using h1) (by simpa using h2)
def eJ(f:Inst→Bool)(l:List Inst)(k:Nat):List Int:=((List.range k).filter fun i=>(l[i]?).any f).map (fun(i:Nat)=>(i:Int))
theorem qB{f:Inst→Bool}{l:List Inst}{k:Nat}{x:Inst}(h:l[k]? =some x):eJ f l (k+1)=eJ f l k++(if f x=true then [(k:Int)] else []):=by
 unfold eJ;rw [vBR,vBC,sY];congr 1;by_cases hf:f x=true
 ·rw [if_pos hf];simp [h,hf]
 rw [if_neg hf];simp [h,hf]
theorem jO{f:Inst→Bool}{l:List Inst}{k:Nat}{c:Int}:c∈eJ f l k↔ ∃(i:Nat) (x:Inst),i<k∧l[i]? =some x∧f x=true∧c=i:=by
 unfold eJ;rw [D7];constructor
 ·rintro⟨i,hi,rfl⟩;rw [List.mem_filter,vBZ] at hi;obtain⟨h1,h2⟩:=hi;cases hx:l[i]? with
  |none=>rw [hx] at h2;cases h2
  |some x=>rw [hx] at h2;exact⟨i,x,h1,hx,h2,rfl⟩
 rintro⟨i,x,h1,h2,h3,rfl⟩;exact⟨i,List.mem_filter.2 ⟨vBZ.2 h1,by rw [h2];exact h3⟩,rfl⟩
theorem yO(f:Inst→Bool)(l:List Inst)(k:Nat):(eJ f l k).Pairwise (fun a b=>a<b):=by unfold eJ;rw [vBX];exact(List.pairwise_lt_range.imp fun h=>by omega).filter _
theorem jR(f:Inst→Bool)(l:List Inst)(k:Nat):(eJ f l k).length≤k:=by
 unfold eJ;rw [lT]
 have:=vBS (fun i=>(l[i]?).any f) (List.range k);rw [List.length_range] at this;exact this
def kC(i:Int)(q:List Int)(x:Inst):Bool:=decide (x.part=i)&&decide (x.point.take q.length=q)
def iC(l:List Inst)(i:Int)(q:List Int):List Int:=eJ (kC i q) l l.length
def wL(l:List Inst)(c:Int):List Int:=((l[c.toNat]?).map (·.point)).getD []
theorem gR{l:List Inst}{i:Nat}{x:Inst}(h:l[i]? =some x):wL l (i:Int)=x.point:=by unfold wL;rw [sZ,h];rfl
def hds(l:List Inst)(g:List Int)(k:Nat):List (List Int):=aN (g.map fun c=>(wL l c).take k)
theorem oH{l:List Inst}{i:Int}{q:List Int}{c:Int}:c∈iC l i q↔ ∃(t:Nat) (x:Inst),l[t]? =some x∧x.part=i∧x.point.take q.length=q∧c=t:=by
 unfold iC;rw [jO];constructor
 ·rintro⟨t,x,h1,h2,h3,rfl⟩;unfold kC at h3;simp only [Bool.and_eq_true,decide_eq_true_eq] at h3;exact⟨t,x,h2,h3.1,h3.2,rfl⟩
 rintro⟨t,x,h2,h3,h4,rfl⟩;refine⟨t,x,(cL.1 h2).1,h2,?_,rfl⟩;unfold kC;simp only [Bool.and_eq_true,decide_eq_true_eq];exact⟨h3,h4⟩
theorem uV{l:List Inst}{i:Int}{q:List Int}{k:Nat}{r:List Int}:r∈hds l (iC l i q) k↔ ∃(t:Nat) (x:Inst),l[t]? =some x∧x.part=i∧x.point.take q.length=q∧r=x.point.take k:=by
 unfold hds;rw [eE,D7];constructor
 ·rintro⟨c,hc,rfl⟩;obtain⟨t,x,h1,h2,h3,rfl⟩:=oH.1 hc;exact⟨t,x,h1,h2,h3,by rw [gR h1]⟩
 rintro⟨t,x,h1,h2,h3,rfl⟩;exact⟨(t:Int),oH.2 ⟨t,x,h1,h2,h3,rfl⟩,by rw [gR h1]⟩
theorem rO(cs:List Int)(n:Nat){m:Nat}(hm:0<m):dO cs n m<m:=by
 unfold dO;split
 ·exact hm
 have:=vBB (cs.getD (n%cs.length) 0) (show(0:Int)<(m:Int) by omega);omega
theorem C3{α:Type}(l:List α)(c:Nat):l.eraseIdx c=l.take c++l.drop (c+1):=List.eraseIdx_eq_take_drop_succ l c
def K6{α:Type}(cs:List Int):Nat→Nat→List α→List α
 |0,_,_=>[]
 |m+1,n,l=>(l[dO cs n l.length]?).toList++K6 cs m (n+1) (l.eraseIdx (dO cs n l.length))
theorem aF0{α β:Type}(f:α→β)(cs:List Int): ∀(m n:Nat) (l:List α),K6 cs m n (l.map f)=(K6 cs m n l).map f
 |0,_,_=>rfl
 |m+1,n,l=>by simp only [K6];rw [lT,sY,←aF0 f cs m (n+1),vF,C3,C3,sY,vBV,List.map_drop];congr 1;cases l[dO cs n l.length]? <;>rfl
theorem t1{α:Type}(cs:List Int): ∀(m n:Nat) (l:List α),l.length=m→(K6 cs m n l).Perm l
 |0,_,l,h=>by rw [vBk.1 h];exact List.Perm.refl _
 |m+1,n,l,h=>by have hc:=rO cs n (show 0<l.length by omega);have e:=cI hc;simp only [K6];rw [e];refine(List.Perm.cons _ (t1 cs m (n+1) _ (by rw [List.length_eraseIdx,if_pos hc];omega))).trans ?_;rw [C3];refine List.perm_middle.symm.trans ?_;rw [←iK e,vBQ]
def sN(cs:List Int)(l:List Inst)(i:Int)(k:Nat):Nat→List (List Int)→List Int
 |_,[]=>[]
 |n,o::os=>(K6 cs (hds l (iC l i o) (k+1)).length n (hds l (iC l i o) (k+1))).flatMap (iC l i)++sN cs l i k (n+(hds l (iC l i o) (k+1)).length) os
def wN(cs:List Int)(l:List Inst)(i:Int)(k:Nat):List Int:=
 eJ (fun x=>decide (x.part<i)) l l.length++(sN cs l i k 0 (hds l (iC l i []) k)++eJ (fun x=>decide (i<x.part)) l l.length)
theorem y0: ∀(k:Nat) (a b:List Int),cmpL (a.take k) (b.take k)<0→cmpL a b<0
 |0,a,b,h=>by rw [List.take_zero,List.take_zero] at h;exact absurd h (by decide)
 |k+1,[],[],h=>h
 |k+1,[],y::b,h=>by show(-1:Int)<0;omega
 |k+1,x::a,[],h=>h
 |k+1,x::a,y::b,h=>by
  rw [List.take_succ_cons,List.take_succ_cons] at h;simp only [cmpL] at h⊢;by_cases h1:x<y
  ·rw [if_pos h1];omega
  rw [if_neg h1] at h⊢;by_cases h2:y<x
  ·rw [if_pos h2] at h;omega
  rw [if_neg h2] at h⊢;exact y0 k a b h
theorem aBl{l:List Inst}(hs:l.Pairwise ltI){s t:Nat}{a b:Inst}(h1:l[s]? =some a)(h2:l[t]? =some b)(h:ltI a b):s<t:=by
 obtain⟨a1,a2⟩:=cL.1 h1;obtain⟨b1,b2⟩:=cL.1 h2;rcases vBU s t with g|g|g
 ·exact g
 ·subst g;rw [h1] at h2;cases h2;exact absurd h (aCG h)
 have:=List.pairwise_iff_getElem.1 hs t s b1 a1 g;rw [a2,b2] at this;exact absurd this (aCG h)
theorem aIg{l:List Inst}(hs:l.Pairwise ltI)(i:Int)(q:List Int)(k:Nat):SS (hds l (iC l i q) k):=by
 unfold hds;refine lI ?_;rw [vBX];refine List.Pairwise.imp_of_mem (R:=fun a b=>a<b) (fun {c d} hc hd hlt h=>?_) (yO _ _ _);obtain⟨s,a,h1,h2,_,rfl⟩:=oH.1 hc;obtain⟨t,b,g1,g2,_,rfl⟩:=oH.1 hd;rw [gR h1,gR g1] at h
 have:=aBl hs g1 h1 (.inr ⟨by omega,.inl (y0 k _ _ h)⟩);omega
def aCP(C:Inst→Inst→Prop)(l:List Inst)(s t:Int):Prop:=s≠t∧(t<s→ ∀a b,l[s.toNat]? =some a→l[t.toNat]? =some b→C a b)
theorem yU{C:Inst→Inst→Prop}{l:List Inst}{s t:Int}(h:s<t):aCP C l s t:=⟨by omega,fun h2=>by omega⟩
theorem aCf{a b:List Int}{k:Nat}(h:a.take k=b.take k){j:Nat}(hj:j<k):a.getD j 0=b.getD j 0:=by have:=congrArg (fun z:List Int=>z[j]?) h;simp only [List.getElem?_take,if_pos hj] at this;rw [I6,I6,this]
theorem aGh{a b:List Int}{k:Nat}(h:a.take k=b.take k)(ha:k<a.length)(hb:k<b.length)(hn:a.take (k+1)≠b.take (k+1)):a.getD k 0≠b.getD k 0:=fun e=>by have e1:=cI ha;have e2:=cI hb;rw [I6,I6,e1,e2] at e;refine hn ?_;rw [xC,xC,e1,e2,h];have e:a[k]=b[k]:=e;rw [e]
theorem aJ3{p:Prog}(hv:bM p=true){i k:Nat}{P:Part}(hP:p.parts[i]? =some P)(hk:k<P.nest.length)(hpar:aD5 p i k=true){s t:Nat}{a b:Inst}(h1:(insts p.parts)[s]? =some a)(h2:(insts p.parts)[t]? =some b)(ha:a.part=(i:Int))(hb:b.part=(i:Int))(he:a.point.take k=b.point.take k)(hn:a.point.take (k+1)≠b.point.take (k+1)):com p a b:=by
 have hla:=(aBF hv hP (cF h1) ha).1;have hlb:=(aBF hv hP (cF h2) hb).1;have hno: ∀d∈sP p i,lvl d≠some k:=fun d hd e=>by
  unfold aD5 at hpar
  have:((sP p i).foldl pM []).any (fun d=>decide (lvl d=some k))=true:=vBu.2 ⟨d,aMs.2 hd,decide_eq_true e⟩;rw [this] at hpar;cases hpar
 refine aNY hv (insts_mem (cF h1)) (insts_mem (cF h2)) fun hc=>?_;have hm:=aGh he (by omega) (by omega) hn;rcases vBU s t with g|g|g
 ·refine hno _ (aC3.2 ⟨s,t,a,b,g,h1,h2,hc,ha,hb,rfl⟩) (aFD.2 ⟨?_,fun j hj=>?_⟩)
  ·rw [tS _ _ _ (by omega) (by omega)];omega
  rw [tS _ _ _ (by omega) (by omega)]
  have:=aCf he hj;omega
 ·subst g;rw [h1] at h2;cases h2;exact hm rfl
 refine hno _ (aC3.2 ⟨t,s,b,a,g,h2,h1,aIZ hc,hb,ha,rfl⟩) (aFD.2 ⟨?_,fun j hj=>?_⟩)
 ·rw [tS _ _ _ (by omega) (by omega)];omega
 rw [tS _ _ _ (by omega) (by omega)]
 have:=aCf he hj;omega
def pA(l:List Inst)(i:Int)(k:Nat):Prop:= ∀(t:Nat) (x:Inst),l[t]? =some x→x.part=i→k<x.point.length
theorem oW{l:List Inst}{i:Int}{k m:Nat}(hL:pA l i k)(hm:m≤k+1){q r:List Int}(h:r∈hds l (iC l i q) m):r.length=m:=by
 obtain⟨t,x,h1,h2,_,rfl⟩:=uV.1 h
 have:=hL t x h1 h2;rw [qS];omega
theorem aFp{l:List Inst}{i:Int}{k:Nat}(hL:pA l i k){o r:List Int}(ho:o.length=k)(hr:r∈hds l (iC l i o) (k+1)):r.take k=o∧r.length=k+1:=by have hl:=oW hL (iB _) hr;obtain⟨t,x,h1,h2,h3,rfl⟩:=uV.1 hr;rw [ho] at h3;exact⟨by rw [List.take_take,vBt (by omega)];exact h3,hl⟩
theorem tT{cs:List Int}{l:List Inst}{i:Int}{k:Nat}(hL:pA l i k): ∀{os:List (List Int)} {n:Nat} {c:Int},(∀o∈os,o.length=k)→(c∈sN cs l i k n os↔ ∃(t:Nat) (x:Inst),l[t]? =some x∧x.part=i∧x.point.take k∈os∧c=t)
 | [],n,c,_=>by simp [sN]
 |o::os,n,c,ho=>by
  have ho1:=ho o qQ;simp only [sN,List.mem_append];rw [tT hL fun q hq=>ho q (nW _ hq),vBy];constructor
  ·rintro(⟨r,hr,hc⟩|⟨t,x,h1,h2,h3,rfl⟩)
   ·obtain⟨e1,e2⟩:=aFp hL ho1 ((t1 cs _ n _ rfl).subset hr);obtain⟨t,x,h1,h2,h3,rfl⟩:=oH.1 hc;refine⟨t,x,h1,h2,?_,rfl⟩;rw [e2] at h3
    have:x.point.take k=o:=by
     have:=congrArg (List.take k) h3;rw [List.take_take,vBt (by omega),e1] at this;exact this
    rw [this];exact qQ
   exact⟨t,x,h1,h2,nW _ h3,rfl⟩
  rintro⟨t,x,h1,h2,h3,rfl⟩;rcases jY.1 h3 with h3|h3
  ·have hlen:=hL t x h1 h2;refine .inl ⟨x.point.take (k+1),(t1 cs _ n _ rfl).symm.subset (uV.2 ⟨t,x,h1,h2,by rw [ho1];exact h3,rfl⟩),oH.2 ⟨t,x,h1,h2,?_,rfl⟩⟩;rw [qS,vBt (by omega)]
  exact .inr ⟨t,x,h1,h2,h3,rfl⟩
theorem aAi{C:Inst→Inst→Prop}{cs:List Int}{l:List Inst}(hs:l.Pairwise ltI){i:Int}{k:Nat}(hL:pA l i k)(hcom: ∀(s t:Nat) (a b:Inst),l[s]? =some a→l[t]? =some b→a.part=i→b.part=i→a.point.take k=b.point.take k→a.point.take (k+1)≠b.point.take (k+1)→C a b):
  ∀{os:List (List Int)} {n:Nat},SS os→(∀o∈os,o.length=k)→(sN cs l i k n os).Pairwise (aCP C l)
 | [],n,_,_=>List.Pairwise.nil
 |o::os,n,hss,ho=>by
  have ho1:=ho o qQ;have ho2:=fun q hq=>ho q (nW o hq);have hss:=vBb.1 hss;have hsub: ∀r∈K6 cs (hds l (iC l i o) (k+1)).length n (hds l (iC l i o) (k+1)),r.take k=o∧r.length=k+1:=fun r hr=>aFp hL ho1 ((t1 cs _ n _ rfl).subset hr);have hin: ∀r c,r.take k=o→r.length=k+1→c∈iC l i r→ ∃(t:Nat) (x:Inst),l[t]? =some x∧x.part=i∧x.point.take (k+1)=r∧x.point.take k=o∧c=t:=fun r c e1 e2 hc=>by
   obtain⟨t,x,h1,h2,h3,rfl⟩:=oH.1 hc;rw [e2] at h3;refine⟨t,x,h1,h2,h3,?_,rfl⟩;rw [←e1,←h3,List.take_take,vBt (by omega)]
  simp only [sN];refine vBm.2 ⟨vBT.2 ⟨fun r _=>(yO _ _ _).imp yU,?_⟩,aAi hs hL hcom hss.2 ho2,fun s hsm t ht=>?_⟩
  ·have hnd:(K6 cs (hds l (iC l i o) (k+1)).length n (hds l (iC l i o) (k+1))).Pairwise (fun a b=>a≠b):=by
    refine((t1 cs _ n _ rfl).pairwise_iff fun h e=>h e.symm).2 ((aIg hs i o (k+1)).imp fun {a b} h e=>?_);rw [e,fY] at h;exact absurd h (by decide)
   refine hnd.imp_of_mem fun {r r'} hr hr' hne c hc d hd=>?_;obtain⟨e1,e2⟩:=hsub r hr;obtain⟨f1,f2⟩:=hsub r' hr';obtain⟨s,a,a1,a2,a3,a4,rfl⟩:=hin r c e1 e2 hc;obtain⟨t,b,b1,b2,b3,b4,rfl⟩:=hin r' d f1 f2 hd;refine⟨fun e=>?_,fun _ a' b' ha' hb'=>?_⟩
   ·have:s=t:=by omega
    subst this;rw [a1] at b1;cases b1;exact hne (by rw [←a3,b3])
   rw [sZ,a1] at ha';rw [sZ,b1] at hb';cases ha';cases hb';exact hcom s t a b a1 b1 a2 b2 (by rw [a4,b4]) (by rw [a3,b3];exact hne)
  obtain⟨r,hr,hsm⟩:=vBy.1 hsm;obtain⟨e1,e2⟩:=hsub r hr;obtain⟨s,a,a1,a2,a3,a4,rfl⟩:=hin r s e1 e2 hsm;obtain⟨t,b,b1,b2,b3,rfl⟩:=(tT hL ho2).1 ht
  have:=aBl hs a1 b1 (.inr ⟨by omega,.inl (y0 k _ _ (by rw [a4];exact hss.1 _ b3))⟩);exact yU (by omega)
theorem aAc{C:Inst→Inst→Prop}{cs:List Int}{l:List Inst}(hs:l.Pairwise ltI){i:Int}{k:Nat}(hL:pA l i k)(hcom: ∀(s t:Nat) (a b:Inst),l[s]? =some a→l[t]? =some b→a.part=i→b.part=i→a.point.take k=b.point.take k→a.point.take (k+1)≠b.point.take (k+1)→C a b):(wN cs l i k).Pairwise (aCP C l):=by
 have hol: ∀o∈hds l (iC l i []) k,o.length=k:=fun o ho=>oW hL (by omega) ho;have key: ∀(s t:Int) (f g:Inst→Prop),(∃(u:Nat) (x:Inst),l[u]? =some x∧f x∧s=u)→(∃(u:Nat) (x:Inst),l[u]? =some x∧g x∧t=u)→(∀x y,f x→g y→x.part<y.part)→aCP C l s t:=fun s t f g ⟨u,x,h1,h2,e1⟩ ⟨v,y,g1,g2,e2⟩ h=>by
  have:=aBl hs h1 g1 (.inl (h x y h2 g2));exact yU (by omega)
 unfold wN;refine vBm.2 ⟨(yO _ _ _).imp yU,vBm.2 ⟨aAi hs hL hcom (aIg hs i [] k) hol,(yO _ _ _).imp yU,fun s hsm t ht=>?_⟩,fun s hsm t ht=>?_⟩
 ·obtain⟨u,x,h1,h2,_,e⟩:=(tT hL hol).1 hsm;obtain⟨v,y,_,g1,g2,e2⟩:=jO.1 ht;exact key s t (fun x=>x.part=i) (fun x=>i<x.part) ⟨u,x,h1,h2,e⟩ ⟨v,y,g1,of_decide_eq_true g2,e2⟩ fun x y h1 h2=>by omega
 obtain⟨u,x,_,h1,h2,e⟩:=jO.1 hsm;have h2:=of_decide_eq_true h2;rcases vO.1 ht with ht|ht
 ·obtain⟨v,y,g1,g2,_,e2⟩:=(tT hL hol).1 ht;exact key s t (fun x=>x.part<i) (fun x=>x.part=i) ⟨u,x,h1,h2,e⟩ ⟨v,y,g1,g2,e2⟩ fun x y h1 h2=>by omega
 obtain⟨v,y,_,g1,g2,e2⟩:=jO.1 ht;exact key s t (fun x=>x.part<i) (fun x=>i<x.part) ⟨u,x,h1,h2,e⟩ ⟨v,y,g1,of_decide_eq_true g2,e2⟩ fun x y h1 h2=>by omega
theorem O5{cs:List Int}{l:List Inst}{i:Int}{k:Nat}(hL:pA l i k){c:Int}:c∈wN cs l i k↔0≤c∧c<(l.length:Int):=by
 have hol: ∀o∈hds l (iC l i []) k,o.length=k:=fun o ho=>oW hL (by omega) ho;unfold wN;rw [vO,vO,tT hL hol,jO,jO];constructor
 ·rintro(⟨u,x,h,_,_,rfl⟩|⟨u,x,h,_,_,rfl⟩|⟨u,x,h,_,_,rfl⟩)
  ·omega
  ·have:=(cL.1 h).1;omega
  omega
 rintro⟨h1,h2⟩;obtain⟨t,rfl⟩: ∃t:Nat,c=t:=⟨c.toNat,by omega⟩
 have ht:t<l.length:=by omega
 have e:=cI ht;generalize l[t]=x at e;rcases Int.lt_trichotomy x.part i with g|g|g
 ·exact .inl ⟨t,x,ht,e,decide_eq_true g,rfl⟩
 ·exact .inr (.inl ⟨t,x,e,g,uV.2 ⟨t,x,e,g,rfl,rfl⟩,rfl⟩)
 exact .inr (.inr ⟨t,x,ht,e,decide_eq_true g,rfl⟩)
theorem aFN: ∀(m a:Nat) {s:List Int},Inc (a:Int) s→(∀c:Int,c∈s↔(a:Int)≤c∧c<(a:Int)+(m:Int))→s.length=m
 |0,a,[],_,_=>rfl
 |0,a,x::s,_,h=>by
  have:=(h x).1 qQ;omega
 |m+1,a,[],_,h=>by
  have:=(h (a:Int)).2 ⟨by omega,by omega⟩;cases this
 |m+1,a,x::s,hi,h=>by
  obtain⟨i1,i2⟩:=hi;have hin: ∀{s:List Int} {b:Int},Inc b s→ ∀c∈s,b≤c:=fun {s}=>by
   induction s with
   |nil=>intro b _ c hc;cases hc
   |cons y s ih=>
    intro b hb c hc;rcases jY.1 hc with rfl|hc
    ·exact hb.1
    have:=ih hb.2 c hc
    have:=hb.1;omega
  have hx:x=(a:Int):=by
   rcases jY.1 ((h (a:Int)).2 ⟨by omega,by omega⟩) with e|e
   ·exact e.symm
   have:=hin i2 _ e;omega
  rw [vCa,aFN m (a+1) (s:=s) (by rw [hx] at i2;exact i2) fun c=>?_];constructor
  ·intro hc;have h1:=(h c).1 (nW _ hc);have h2:=hin i2 c hc;omega
  intro hc;rcases jY.1 ((h c).2 (by omega)) with e|e
  ·omega
  exact e
theorem aCz{C:Inst→Inst→Prop}{cs:List Int}{l:List Inst}{i:Int}{k:Nat}(hg:(wN cs l i k).Pairwise (aCP C l))(hL:pA l i k):sE l.length (wN cs l i k)=true:=by
 have hn:(wN cs l i k).Nodup:=hg.imp fun h=>h.1;unfold sE;rw [aCw hn fun c hc=>?_,W0,decide_eq_true_eq,←uW]
 ·refine aFN l.length 0 (B4 hn fun y hy=>((O5 hL).1 hy).1) fun c=>?_;rw [mU,O5 hL];omega
 obtain⟨h1,h2⟩:=(O5 hL).1 hc;refine⟨h1,by rw [vBc];exact h2,?_⟩;rw [I6,vBs];split<;>rfl
theorem O6{cs:List Int}{l:List Inst}(hs:l.Pairwise ltI){i:Int}{k:Nat}(hL:pA l i k):(wN cs l i k).length=l.length:=by have ho:=aCz (aAc (C:=fun _ _=>True) (cs:=cs) hs hL fun _ _ _ _ _ _ _ _ _ _=>trivial) hL;unfold sE at ho;rw [vBL,decide_eq_true_eq] at ho;exact ho.2
theorem aJ2{p:Prog}(hv:bM p=true){i k:Nat}{P:Part}(hP:p.parts[i]? =some P)(hk:k<P.nest.length)(hpar:aD5 p i k=true)(cs:List Int){m:List Int}(hm:fD p.arrays m):
  aA9 p (wN cs (insts p.parts) (i:Int) k)=true∧cB p m (pick (insts p.parts) (wN cs (insts p.parts) (i:Int) k))=cB p m (insts p.parts):=by
 have hL:pA (insts p.parts) (i:Int) k:=fun t x h1 h2=>by
  rw [(aBF hv hP (cF h1) h2).1];exact hk
 have hg:=aAc (C:=com p) (cs:=cs) (insts_ss hv) hL fun s t a b h1 h2 ha hb he hn=>aJ3 hv hP hk hpar h1 h2 ha hb he hn;have ho:=aCz hg hL;refine⟨?_,aDZ hv (fun x hx=>insts_mem hx) ho (hg.imp fun h=>h.2) hm⟩;unfold aA9;rw [hv,ho];rfl
theorem qH(x:List Int): ∀(L:List (List Int)),aN (L++[x])=if L.getLast? =some x then aN L else aN L++[x]
 | []=>by simp [aN]
 |y::a=>by rw [rM x y a,List.getLast?_eq_some_getLast (by simp)];simp only [Option.some.injEq]
theorem u9: ∀L:List (List Int),(aN L).getLast? =L.getLast?
 | []=>rfl
 | [x]=>rfl
 |x::y::r=>by
  have ih:=u9 (y::r);unfold aN;split
  ·rw [ih,List.getLast?_cons_cons]
  rw [List.getLast?_cons,ih,List.getLast?_cons (l:=y::r)]
theorem qI: ∀L:List (List Int),(aN L).length≤L.length
 | []=>iB _
 | [x]=>iB _
 |x::y::r=>by
  have ih:=qI (y::r);unfold aN;split
  ·simp only [List.length_cons] at ih ⊢; omega
  simp only [List.length_cons] at ih ⊢; omega
theorem aCV{α:Type}{P:α→Bool}{S:List α}{b:α}(h:S.getLast? =some b)(hb:P b=true):(S.filter P).getLast? =some b:=by obtain⟨S',rfl⟩:=List.getLast?_eq_some_iff.1 h;rw [vBC];simp [hb]
def gIn(f h:Int→List Int)(S:List Int)(o:List Int):List (List Int):=(aN ((S.filter fun c=>decide (f c=o)).map h)).map fun r=>S.filter fun c=>decide (h c=r)
def wU(f h:Int→List Int)(S:List Int):List (List (List Int)):=(aN (S.map f)).map (gIn f h S)
theorem kP{P:Int→Bool}{S:List Int}{j:Int}(hj:P j=true):(S++[j]).filter P=S.filter P++[j]:=by rw [vBC];simp [hj]
theorem rH{P:Int→Bool}{S:List Int}{j:Int}(hj: ¬P j=true):(S++[j]).filter P=S.filter P:=by rw [vBC];simp [hj]
theorem aAx{f h:Int→List Int}{S:List Int}{j:Int}{o:List Int}(ho:o≠f j)(hr: ∀c∈S,h c=h j→f c=f j):gIn f h (S++[j]) o=gIn f h S o:=by unfold gIn;rw [rH (P:=fun c=>decide (f c=o)) fun e=>ho (of_decide_eq_true e).symm];refine vBn fun r hr'=>?_;rw [eE,D7] at hr';obtain⟨c,hc,rfl⟩:=hr';obtain⟨c1,c2⟩:=List.mem_filter.1 hc;have c2:=of_decide_eq_true c2;exact rH fun e=>ho (by rw [←c2];exact hr c c1 (of_decide_eq_true e).symm)
theorem aIk{f h:Int→List Int}{S:List Int}{j:Int}(hr: ∀c∈S,h c=h j→f c=f j)(hl:(S.map f).getLast? ≠some (f j))(hf:SS (aN ((S++[j]).map f))):wU f h (S++[j])=wU f h S++[[[j]]]:=by
 unfold wU;rw [sY,vBl,qH,if_neg hl] at hf⊢;have hno:f j∉aN (S.map f):=fun hm=>by
  have:=(vBm.1 hf).2.2 _ hm (f j) (by simp);rw [fY] at this;exact absurd this (by decide)
 have hn: ∀c∈S,f c≠f j:=fun c hc e=>hno (eE.2 (D7.2 ⟨c,hc,e⟩));rw [sY,vBl];congr 1
 ·exact vBn fun o ho=>aAx (fun e=>hno (e▸ho)) hr
 unfold gIn;rw [kP (P:=fun c=>decide (f c=f j)) (decide_eq_true rfl),List.filter_eq_nil_iff.2 fun c hc=>by simpa using hn c hc];have hE:S.filter (fun c=>decide (h c=h j))=[]:=List.filter_eq_nil_iff.2 fun c hc=>by simpa using fun e=>hn c hc (hr c hc e)
 show [[(S++[j]).filter fun c=>decide (h c=h j)]]=_;rw [kP (P:=fun c=>decide (h c=h j)) (decide_eq_true rfl),hE];rfl
theorem aIj{f h:Int→List Int}{S:List Int}{j:Int}(hr: ∀c∈S,h c=h j→f c=f j)(hl:(S.map f).getLast? =some (f j))(hf:SS (aN ((S++[j]).map f))): ∃A,wU f h S=A++[gIn f h S (f j)]∧wU f h (S++[j])=A++[gIn f h (S++[j]) (f j)]:=by
 unfold wU;rw [sY,vBl,qH,if_pos hl] at hf⊢;have he:(aN (S.map f)).getLast? =some (f j):=by rw [u9];exact hl
 obtain⟨H,hH⟩:=List.getLast?_eq_some_iff.1 he;rw [hH] at hf⊢;refine⟨H.map (gIn f h S),by rw [sY];rfl,?_⟩;rw [sY];congr 1;refine vBn fun o ho=>aAx (fun e=>?_) hr
 have:=(vBm.1 hf).2.2 _ ho (f j) (by simp);rw [e,fY] at this;exact absurd this (by decide)
theorem aKr{f h:Int→List Int}{S:List Int}{j:Int}(hr: ∀c∈S,h c=h j→f c=f j)(hl:((S.filter fun c=>decide (f c=f j)).map h).getLast? ≠some (h j))(hh:SS (aN (((S++[j]).filter fun c=>decide (f c=f j)).map h))):gIn f h (S++[j]) (f j)=gIn f h S (f j)++[[j]]:=by
 unfold gIn;rw [kP (P:=fun c=>decide (f c=f j)) (decide_eq_true rfl),sY,vBl,qH,if_neg hl] at hh⊢;have hno:h j∉aN ((S.filter fun c=>decide (f c=f j)).map h):=fun hm=>by
  have:=(vBm.1 hh).2.2 _ hm (h j) (by simp);rw [fY] at this;exact absurd this (by decide)
 have hn: ∀c∈S,h c≠h j:=fun c hc e=>hno (eE.2 (D7.2 ⟨c,List.mem_filter.2 ⟨hc,decide_eq_true (hr c hc e)⟩,e⟩));have hE:S.filter (fun c=>decide (h c=h j))=[]:=List.filter_eq_nil_iff.2 fun c hc=>by simpa using hn c hc
 rw [sY,vBl,kP (P:=fun c=>decide (h c=h j)) (decide_eq_true rfl),hE];congr 1;exact vBn fun r hr'=>rH fun e=>hno (by rw [(of_decide_eq_true e:h j=r)];exact hr')
theorem aKq{f h:Int→List Int}{S:List Int}{j:Int}(hl:((S.filter fun c=>decide (f c=f j)).map h).getLast? =some (h j))(hh:SS (aN (((S++[j]).filter fun c=>decide (f c=f j)).map h))): ∃R L,gIn f h S (f j)=R++[L]∧gIn f h (S++[j]) (f j)=R++[L++[j]]∧L.length≤S.length:=by
 unfold gIn;rw [kP (P:=fun c=>decide (f c=f j)) (decide_eq_true rfl),sY,vBl,qH,if_pos hl] at hh⊢;have he:(aN ((S.filter fun c=>decide (f c=f j)).map h)).getLast? =some (h j):=by rw [u9];exact hl
 obtain⟨H,hH⟩:=List.getLast?_eq_some_iff.1 he;rw [hH] at hh⊢;refine⟨H.map fun r=>S.filter fun c=>decide (h c=r),S.filter fun c=>decide (h c=h j),by rw [sY];rfl,?_,vBS _ _⟩;rw [sY,vBl,kP (P:=fun c=>decide (h c=h j)) (decide_eq_true rfl)];congr 1;refine vBn fun r hr'=>rH fun e=>?_
 have:=(vBm.1 hh).2.2 _ hr' (h j) (by simp);rw [(of_decide_eq_true e:h j=r),fY] at this;exact absurd this (by decide)
theorem aKs(f h:Int→List Int)(S:List Int)(o:List Int):(gIn f h S o).length≤S.length:=by unfold gIn;rw [lT];refine I7 (qI _) ?_;rw [lT];exact vBS _ _
theorem aIl(f h:Int→List Int)(S:List Int):(wU f h S).length≤S.length:=by unfold wU;rw [lT];refine I7 (qI _) ?_;rw [lT];exact iB _
theorem E8{α:Type}(A:List α)(B:α){m:Int}(h:m=(A.length:Int)):ix (A++[B]) m=some B:=by subst h;exact aM (by simp)
theorem n8{α:Type}(A:List α)(B C:α){m:Int}(h:m=(A.length:Int)):fZ (A++[B]) m C=some (A++[C]):=by subst h;rw [iL (by simp;omega),sZ,List.set_append_right _ _ (iB _),Nat.sub_self];rfl
def fK(l:List Inst)(k:Nat)(c:Int):List Int:=(wL l c).take k
def inP(i:Int)(x:Inst):Bool:=decide (x.part=i)
theorem wT{l:List Inst}{i:Int}{k:Nat}(o:List Int)(ho:o.length=k)(m:Nat):(eJ (inP i) l m).filter (fun c=>decide (fK l k c=o))=eJ (kC i o) l m:=by
 unfold eJ;rw [List.filter_map,List.filter_filter];congr 1;refine List.filter_congr fun t ht=>?_;simp only [Function.comp_apply];cases hx:l[t]? with
 |none=>simp
 |some x=>
  unfold fK;rw [gR hx];unfold kC inP;simp only [Option.any_some,ho];rw [Bool.and_comm]
theorem aKm{l:List Inst}{i:Int}(m:Nat):eJ (kC i []) l m=eJ (inP i) l m:=by
 have:kC i []=inP i:=by
  funext x;unfold kC inP;simp
 rw [this]
theorem aKt{l:List Inst}{i:Int}{k:Nat}(hL:pA l i k):wU (fK l k) (fK l (k+1)) (eJ (inP i) l l.length)=(hds l (iC l i []) k).map (fun o=>(hds l (iC l i o) (k+1)).map (iC l i)):=by
 have e0:iC l i []=eJ (inP i) l l.length:=aKm _;unfold wU;have e1:aN ((eJ (inP i) l l.length).map (fK l k))=hds l (iC l i []) k:=by rw [e0];rfl
 rw [e1];refine vBn fun o ho=>?_;have ho':=oW hL (by omega) ho;unfold gIn;have e2:aN (((eJ (inP i) l l.length).filter fun c=>decide (fK l k c=o)).map (fK l (k+1)))=hds l (iC l i o) (k+1):=by rw [wT o ho'];rfl
 rw [e2];exact vBn fun r hr=>wT r (oW hL (iB _) hr) _
theorem aLb{l:List Inst}(hs:l.Pairwise ltI)(g:Inst→Bool){i:Int}(hg: ∀x,g x=true→x.part=i)(m k:Nat):SS (aN ((eJ g l m).map (fK l k))):=by
 refine lI ?_;rw [vBX];refine List.Pairwise.imp_of_mem (R:=fun a b=>a<b) (fun {c d} hc hd hlt h=>?_) (yO _ _ _);obtain⟨s,a,_,h1,h2,rfl⟩:=jO.1 hc;obtain⟨t,b,_,g1,g2,rfl⟩:=jO.1 hd;unfold fK at h;rw [gR h1,gR g1] at h;have e1:=hg _ h2;have e2:=hg _ g2
 have:=aBl hs g1 h1 (.inr ⟨by omega,.inl (y0 k _ _ h)⟩);omega
theorem aMg{n:Nat}(hn:2000≤n){t:Traced}(hT:t.list.length≤1000)(hs:t.list.Pairwise ltI){i:Int}{k:Nat}(hL:pA t.list i k)(hM: ∀x∈t.list,x.point.length≤1000):eQ n t i (k:Int)=some (wU (fK t.list k) (fK t.list (k+1)) (eJ (inP i) t.list t.list.length)):=by
 unfold eQ;generalize t.list=l at*;refine Ev.eq (Ev.loop (fun x:Int×List (List (List Int))×Int=> ∃j:Nat,x.2.2=j∧j≤l.length∧x.2.1=wU (fK l k) (fK l (k+1)) (eJ (inP i) l j)∧x.1=((eJ (inP i) l j).getLast?).getD (-1)) (fun x=>l.length-x.2.2.toNat) ?_ n _ ⟨0,rfl,by omega,rfl,rfl⟩ (by dsimp only;omega));rintro again ⟨bf,out,z⟩ ⟨j,rfl,hj,rfl,rfl⟩ hr;dsimp only;refine aH (fun hlt=>?_) fun hge=>Ev.some (by rw [show j=l.length by omega]);have hlt:j<l.length:=by omega
 have hx:=cI hlt;generalize l[j]=x at hx;have hsn:=qB (f:=inP i) hx;refine aA (aM hx) (eU (fun hne=>?_) fun hp=>?_)
 ·rw [aK (by omega)]
  have: ¬inP i x=true:=fun e=>hne (of_decide_eq_true e);rw [if_neg this,vAY] at hsn;exact hr _ ⟨j+1,by dsimp only;omega,by omega,by rw [hsn],by rw [hsn]⟩ (by dsimp only;omega)
 have hpi:inP i x=true:=decide_eq_true hp;rw [if_pos hpi] at hsn;generalize hS:eJ (inP i) l j=S at*;have hSl:S.length≤1000:=by rw [←hS];have:=jR (inP i) l j;omega
 have hSm: ∀c∈S,∃(t:Nat) (y:Inst),l[t]? =some y∧y.part=i∧c=t:=fun c hc=>by
  rw [←hS] at hc;obtain⟨t,y,_,h1,h2,rfl⟩:=jO.1 hc;exact⟨t,y,h1,of_decide_eq_true h2,rfl⟩
 have hfj: ∀m,fK l m (j:Int)=x.point.take m:=fun m=>by unfold fK;rw [gR hx]
 have hlx:=hL j x hx hp;have hmx:=hM x (cF hx);have hf:SS (aN ((S++[(j:Int)]).map (fK l k))):=by rw [←hsn];exact aLb hs _ (fun y hy=>of_decide_eq_true hy) _ _
 have hh:SS (aN (((S++[(j:Int)]).filter fun c=>decide (fK l k c=fK l k (j:Int))).map (fK l (k+1)))):=by
  rw [←hsn,wT _ (by rw [hfj,qS];omega)];refine aLb hs _ (i:=i) (fun y hy=>?_) _ _;unfold kC at hy;simp only [Bool.and_eq_true,decide_eq_true_eq] at hy;exact hy.1
 have hkk: ∀a b:List Int,a.take (k+1)=b.take (k+1)→a.take k=b.take k:=fun a b e=>by
  have:=congrArg (List.take k) e
  rwa [List.take_take,List.take_take,vBt (by omega)] at this
 have hrr: ∀c∈S,fK l (k+1) c=fK l (k+1) (j:Int)→fK l k c=fK l k (j:Int):=fun c hc e=>hkk _ _ e;have hget: ∀u:List Int,k<u.length→ix u (k:Int)=some (u.getD k 0):=fun u hu=>aM (aBr hu 0);have hh2: ∀y:Inst,k<y.point.length→y.point.take k=x.point.take k→(y.point.getD k 0=x.point.getD k 0↔y.point.take (k+1)=x.point.take (k+1)):=fun y hy e=>by
  rw [xC,xC,aBr hy 0,aBr hlx 0,e];constructor
  ·intro h;rw [h]
  intro h
  have:=List.append_cancel_left h;simpa using this
 have hnext: ∀o2,o2=wU (fK l k) (fK l (k+1)) (S++[(j:Int)])→Ev (again ((j:Int),o2,wr ((j:Int)+1))) (fun r=>r=wU (fK l k) (fK l (k+1)) (eJ (inP i) l l.length)):=fun o2 ho2=>by
  rw [aK (by omega)];exact hr _ ⟨j+1,by dsimp only;omega,by omega,by rw [hsn];exact ho2,by rw [hsn];simp⟩ (by dsimp only;omega)
 have hol:=aIl (fK l k) (fK l (k+1)) S;have hil:=aKs (fK l k) (fK l (k+1)) S (fK l k (j:Int));refine Ev.jn (fun z=>z=decide ((S.map (fK l k)).getLast? =some (fK l k (j:Int)))) (fun j4 hj4=>?_) fun z hz=>?_
 ·cases hb:S.getLast? with
  |none=>exact aH (fun h=>absurd h (by decide)) (fun _=>hj4 _ (by rw [vBY,hb];rfl))
  |some b=>
   obtain⟨u,y,y1,y2,rfl⟩:=hSm b (List.mem_of_getLast? hb);have hly:=hL u y y1 y2;have hmy:=hM y (cF y1);refine aH (fun _=>aA (aM y1) (aA (s6 (by omega) (by omega) (by omega)) (aA (s6 (by omega) (by omega) (by omega)) (aA (tW (by simp;omega) (by simp;omega)) (hj4 _ ?_))))) fun h=>absurd (show(0:Int)≤((u:Nat):Int) by omega) h;have key:(S.map (fK l k)).getLast? =some (fK l k (j:Int))↔y.point.take k=x.point.take k:=by
    rw [vBY,hb,hfj];show some (fK l k (u:Int))=_↔_;unfold fK;rw [gR y1];simp
   rw [vBP,decide_eq_true_eq,decide_eq_true_eq,key];exact Iff.rfl
 subst hz;refine Ev.jn (fun w=>w=(decide ((S.map (fK l k)).getLast? =some (fK l k (j:Int)))&&decide (((S.filter fun c=>decide (fK l k c=fK l k (j:Int))).map (fK l (k+1))).getLast? =some (fK l (k+1) (j:Int))))) (fun j10 hj10=>?_) fun w hw=>?_
 ·refine aH (fun ho=>?_) fun ho=>hj10 _ (by rw [decide_eq_false ho];rfl);rw [decide_eq_true ho,W0] at hj10;cases hb:S.getLast? with
  |none=>rw [vBY,hb] at ho;cases ho
  |some b=>
   obtain⟨u,y,y1,y2,rfl⟩:=hSm b (List.mem_of_getLast? hb);have hly:=hL u y y1 y2;have ho':fK l k (u:Int)=fK l k (j:Int):=by
    rw [vBY,hb] at ho;exact Option.some.inj ho
   refine aA (aM y1) (aA (hget _ hly) (aA (hget _ hlx) (hj10 _ ?_)));have hoy:y.point.take k=x.point.take k:=by
    rw [hfj] at ho';unfold fK at ho';rw [gR y1] at ho';exact ho'
   have key:((S.filter fun c=>decide (fK l k c=fK l k (j:Int))).map (fK l (k+1))).getLast? =some (fK l (k+1) (j:Int))↔y.point.take (k+1)=x.point.take (k+1):=by
    rw [vBY,aCV hb (decide_eq_true ho'),hfj];show some (fK l (k+1) (u:Int))=_↔_;unfold fK;rw [gR y1];simp
   rw [vBP,decide_eq_true_eq,decide_eq_true_eq,key];exact hh2 y hly hoy
 subst hw;by_cases ho:(S.map (fK l k)).getLast? =some (fK l k (j:Int))
 ·rw [decide_eq_true ho,W0];obtain⟨A,a1,a2⟩:=aIj hrr ho hf;rw [a1] at hol⊢;rw [iX,vAJ] at hol;refine Ev.jn (fun o=>o=A++[gIn (fK l k) (fK l (k+1)) S (fK l k (j:Int))]) (fun j15 h15=>bT (h15 _ rfl)) fun o ho1=>?_;subst ho1;have hlen:wr (((A++[gIn (fK l k) (fK l (k+1)) S (fK l k (j:Int))]).length:Int)-1)=(A.length:Int):=by
   rw [iX,vAJ,aK (by omega)];omega
  rw [hlen];refine aA (E8 _ _ rfl) ?_;by_cases hi:((S.filter fun c=>decide (fK l k c=fK l k (j:Int))).map (fK l (k+1))).getLast? =some (fK l (k+1) (j:Int))
  ·rw [decide_eq_true hi];obtain⟨R,L,b1,b2,b3⟩:=aKq hi hh;rw [b2] at a2;rw [b1] at hil⊢;rw [iX,vAJ] at hil;refine Ev.jn (fun o=>o=A++[R++[L]]) (fun j20 h20=>bT (h20 _ rfl)) fun o ho1=>?_;subst ho1;have hlen2:wr (((R++[L]).length:Int)-1)=(R.length:Int):=by
    rw [iX,vAJ,aK (by omega)];omega
   refine aA (E8 _ _ rfl) ?_;rw [hlen2];exact aA (E8 _ _ rfl) (aA (bI (by simp;omega)) (aA (n8 _ _ _ rfl) (aA (n8 _ _ _ rfl) (hnext _ a2.symm))))
  rw [decide_eq_false hi];rw [aKr hrr hi hh] at a2;generalize gIn (fK l k) (fK l (k+1)) S (fK l k (j:Int))=B at*;refine Ev.jn (fun o=>o=A++[B++[[]]]) (fun j20 h20=>bY (aA (bI (by simp;omega)) (aA (n8 _ _ _ rfl) (h20 _ rfl)))) fun o ho1=>?_;subst ho1;have hlen2:wr (((B++[[]]).length:Int)-1)=(B.length:Int):=by
   rw [iX,vAJ,aK (by omega)];omega
  refine aA (E8 _ _ rfl) ?_;rw [hlen2];exact aA (E8 _ _ rfl) (aA (bI (by simp)) (aA (n8 _ _ _ rfl) (aA (n8 _ _ _ rfl) (hnext _ a2.symm))))
 rw [decide_eq_false ho,Bool.false_and];have a2:=aIk hrr ho hf;generalize wU (fK l k) (fK l (k+1)) S=A at*;refine Ev.jn (fun o=>o=A++[[]]) (fun j15 h15=>bY (aA (bI (by simp;omega)) (h15 _ rfl))) fun o ho1=>?_;subst ho1;have hlen:wr (((A++[([]:List (List Int))]).length:Int)-1)=(A.length:Int):=by
  rw [iX,vAJ,aK (by omega)];omega
 rw [hlen];refine aA (E8 _ _ rfl) (Ev.jn (fun o=>o=A++[[[]]]) (fun j20 h20=>bY (aA (bI (by simp)) (aA (n8 _ _ _ rfl) (h20 _ rfl)))) fun o ho1=>?_);subst ho1;exact aA (E8 _ _ rfl) (aA (E8 [] _ rfl) (aA (bI (by simp)) (aA (n8 [] _ _ rfl) (aA (n8 _ _ _ rfl) (hnext _ a2.symm)))))
end Go.Lift
