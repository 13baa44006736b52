/- Distances: sorted lists of points without doubles. -/
import Derived.Test.YtiplelpjhgnmoaaGreatHTran1
set_option maxRecDepth 100000
set_option linter.unusedVariables false
namespace Go.Lift
open Go
theorem vK: ∀xs,cmpL xs xs=0
 | []=>rfl
 |x::xs=>by unfold cmpL;rw [if_neg (by omega),if_neg (by omega)];exact vK xs
theorem mB: ∀xs ys,cmpL ys xs= -cmpL xs ys
 | [],[]=>by simp [cmpL]
 | [],_::_=>by simp [cmpL]
 |_::_,[]=>by simp [cmpL]
 |x::xs,y::ys=>by
  unfold cmpL
  by_cases h1:x<y
  ·simp [h1,show¬y<x by omega]
  ·by_cases h2:y<x
   ·simp [h1,h2]
   ·rw [if_neg h1,if_neg h2,if_neg h2,if_neg h1];exact mB xs ys
theorem uL: ∀{xs ys},cmpL xs ys=0→xs=ys
 | [],[],_=>rfl
 | [],_::_,h=>by simp [cmpL] at h
 |_::_,[],h=>by simp [cmpL] at h
 |x::xs,y::ys,h=>by
  unfold cmpL at h
  by_cases h1:x<y
  ·rw [if_pos h1] at h;omega
  ·by_cases h2:y<x
   ·rw [if_neg h1,if_pos h2] at h;omega
   ·rw [if_neg h1,if_neg h2] at h
    rw [uL h,show x=y by omega]
theorem yY: ∀{xs ys zs},cmpL xs ys<0→cmpL ys zs<0→cmpL xs zs<0
 | [],[],_,h,_=>by simp [cmpL] at h
 | [],_::_,[],_,h=>by simp [cmpL] at h
 | [],_::_,_::_,_,_=>by simp [cmpL]
 |_::_,[],_,h,_=>by simp [cmpL] at h
 |_::_,_::_,[],_,h=>by simp [cmpL] at h
 |x::xs,y::ys,z::zs,h1,h2=>by
  unfold cmpL at h1 h2⊢
  by_cases a:x<y
  ·by_cases b:y<z
   ·rw [if_pos (by omega)];omega
   ·by_cases c:z<y
    ·rw [if_neg b,if_pos c] at h2;omega
    ·rw [if_pos (by omega)];omega
  ·by_cases b:y<x
   ·rw [if_neg a,if_pos b] at h1;omega
   ·by_cases c:y<z
    ·rw [if_pos (by omega)];omega
    ·by_cases d:z<y
     ·rw [if_neg c,if_pos d] at h2;omega
     ·rw [if_neg (by omega),if_neg (by omega)]
      rw [if_neg a,if_neg b] at h1
      rw [if_neg c,if_neg d] at h2
      exact yY h1 h2
abbrev SS(l:List (List Int)):Prop:=l.Pairwise (fun a b=>cmpL a b<0)
theorem aKn: ∀{l m:List (List Int)},SS l→SS m→(∀x,x∈l↔x∈m)→l=m
 | [],[],_,_,_=>rfl
 | [],y::m,_,_,h=>by have:=(h y).2 (by simp);simp at this
 |x::l,[],_,_,h=>by have:=(h x).1 (by simp);simp at this
 |x::l,y::m,hl,hm,h=>by
  obtain⟨l1,l2⟩:=List.pairwise_cons.1 hl
  obtain⟨m1,m2⟩:=List.pairwise_cons.1 hm
  have e:x=y:=by
   rcases List.mem_cons.1 ((h x).1 (by simp)) with h1|h1
   ·exact h1
   ·rcases List.mem_cons.1 ((h y).2 (by simp)) with h2|h2
    ·exact h2.symm
    ·have a:=m1 x h1
     have b:=l1 y h2
     have:=yY a b
     rw [vK] at this;omega
  subst e
  have hx1:x∉l:=fun hx=>by have:=l1 x hx;rw [vK] at this;omega
  have hx2:x∉m:=fun hx=>by have:=m1 x hx;rw [vK] at this;omega
  rw [aKn l2 m2 (fun z=>⟨fun hz=>by
   rcases List.mem_cons.1 ((h z).1 (List.mem_cons_of_mem _ hz)) with rfl|h3
   ·exact absurd hz hx1
   ·exact h3,fun hz=>by
   rcases List.mem_cons.1 ((h z).2 (List.mem_cons_of_mem _ hz)) with rfl|h3
   ·exact absurd hz hx2
   ·exact h3⟩)]
def V5:List (List Int)→List Int→List (List Int)
 | [],d=>[d]
 |x::xs,d=>if cmpL d x<0 then d::x::xs else x::V5 xs d
theorem O3{d z:List Int}: ∀{l:List (List Int)},z∈V5 l d↔z=d∨z∈l
 | []=>by simp [V5]
 |x::xs=>by
  unfold V5
  split
  ·simp
  ·simp only [List.mem_cons,O3 (l:=xs)]
   constructor
   ·rintro(h|h|h)
    ·exact .inr (.inl h)
    ·exact .inl h
    ·exact .inr (.inr h)
   ·rintro(h|h|h)
    ·exact .inr (.inl h)
    ·exact .inl h
    ·exact .inr (.inr h)
theorem aFj{d:List Int}: ∀{l:List (List Int)},SS l→d∉l→SS (V5 l d)
 | [],_,_=>by simp [V5]
 |x::xs,hl,hd=>by
  obtain⟨l1,l2⟩:=List.pairwise_cons.1 hl
  unfold V5
  split
  ·rename_i h
   refine List.pairwise_cons.2 ⟨fun z hz=> ?_,hl⟩
   rcases List.mem_cons.1 hz with rfl|hz
   ·exact h
   ·exact yY h (l1 z hz)
  ·rename_i h
   refine List.pairwise_cons.2 ⟨fun z hz=> ?_,aFj l2 (fun hx=>hd (List.mem_cons_of_mem _ hx))⟩
   rcases O3.1 hz with rfl|hz
   ·have h1:=mB z x
    have h2:cmpL z x≠0:=fun e=>hd (by rw [uL e];simp)
    omega
   ·exact l1 z hz
def nD(l:List (List Int))(d:List Int):List (List Int):=if d∈l then l else V5 l d
theorem aKh{l:List (List Int)}(h:SS l)(d:List Int):SS (nD l d):=by
 unfold nD
 split
 ·exact h
 ·exact aFj h ‹_›
theorem aII{l:List (List Int)}{d z:List Int}:z∈nD l d↔z=d∨z∈l:=by
 unfold nD
 split
 ·rename_i h
  exact⟨.inr,fun hz=>by rcases hz with rfl|hz;exact h;exact hz⟩
 ·exact O3
theorem I1: ∀(ds l:List (List Int)),SS l→SS (ds.foldl nD l)∧ ∀z,z∈ds.foldl nD l↔z∈l∨z∈ds
 | [],l,h=>⟨h,fun z=>by simp⟩
 |d::ds,l,h=>by
  obtain⟨h1,h2⟩:=I1 ds (nD l d) (aKh h d)
  refine⟨h1,fun z=> ?_⟩
  rw [List.foldl_cons,h2 z,aII,List.mem_cons]
  constructor
  ·rintro((h|h)|h)
   ·exact .inr (.inl h)
   ·exact .inl h
   ·exact .inr (.inr h)
  ·rintro(h|h|h)
   ·exact .inl (.inr h)
   ·exact .inl (.inl h)
   ·exact .inr h
def b6:List (List Int)→List (List Int)
 | []=>[]
 | [x]=>[x]
 |x::y::r=>if x=y then b6 (y::r) else x::b6 (y::r)
theorem sH{z:List Int}: ∀{l:List (List Int)},z∈b6 l↔z∈l
 | []=>by simp [b6]
 | [x]=>by simp [b6]
 |x::y::r=>by
  have ih:=sH (z:=z) (l:=y::r)
  unfold b6
  split
  ·rename_i h
   subst h
   rw [ih];simp
  ·rw [List.mem_cons,ih];simp
theorem uK: ∀{l:List (List Int)},l.Pairwise (fun a b=> ¬cmpL b a<0)→SS (b6 l)
 | [],_=>by simp [b6]
 | [x],_=>by simp [b6]
 |x::y::r,h=>by
  obtain⟨h1,h2⟩:=List.pairwise_cons.1 h
  obtain⟨h3,_⟩:=List.pairwise_cons.1 h2
  unfold b6
  split
  ·exact uK h2
  ·rename_i hne
   refine List.pairwise_cons.2 ⟨fun z hz=> ?_,uK h2⟩
   have hxy:cmpL x y<0:=by
    have a:=h1 y (by simp)
    have b:=mB x y
    have c:cmpL x y≠0:=fun e=>hne (uL e)
    omega
   rcases List.mem_cons.1 (sH.1 hz) with rfl|hz
   ·exact hxy
   ·have a:=h3 z hz
    have b:=mB y z
    by_cases e:cmpL y z=0
    ·rw [←uL e];exact hxy
    ·exact yY hxy (by omega)
theorem aAK(l:List (List Int)):(kH l).Pairwise (fun a b=> ¬cmpL b a<0):=by
 have:=List.pairwise_mergeSort (le:=fun x y=> !decide (cmpL y x<0)) (fun a b c h1 h2=>by
  simp only [Bool.not_eq_true',decide_eq_false_iff_not] at*
  intro h
  have f1:=mB a b
  have f2:=mB b c
  by_cases e:cmpL b a=0
  ·rw [uL e] at h2;exact h2 h
  ·exact h2 (yY h (by omega))) (fun a b=>by
  have f1:=mB a b
  by_cases h:cmpL b a<0
  ·have: ¬cmpL a b<0:=by omega
   simp [h,this]
  ·simp [h]) l
 refine this.imp (fun h=> ?_)
 simpa using h
theorem aJ5(ds:List (List Int)):b6 (kH ds)=ds.foldl nD []:=by
 obtain⟨h1,h2⟩:=I1 ds [] List.Pairwise.nil
 refine aKn (uK (aAK ds)) h1 (fun z=> ?_)
 rw [sH,h2 z]
 unfold kH
 rw [List.mem_mergeSort]
 simp
def gC(b a:List Int):List Int:=List.zipWith (fun x y=>x-y) b a
theorem aHy{R:Type}{Q:R→Prop}{n:Nat}{a b:List Int}(hl:a.length=b.length)(hb:b.length≤1000)(hn:1000<n)(ha1: ∀x∈a,pI 9999 x)(hb1: ∀x∈b,pI 9999 x){K:List Int→Option R}(hK:Ev (K (gC b a)) Q):
  Ev (aM (fun again15 ((x12,x13):(List Int)×Int)=>
   bif decide (x13<(b.length:Int)) then(
    Option.bind (ix b x13) fun x16=>
    Option.bind (ix a x13) fun x17=>
    Option.bind (app x12 [wr (x16-x17)]) fun x18=>
    again15 (x18,wr (x13+1))
   ) else(
    K x12
   )) n ([],0)) Q:=by
 refine Ev.loop (fun x:List Int×Int=> ∃i:Nat,x.2=i∧i≤b.length∧x.1=(gC b a).take i) (fun x=>b.length-x.2.toNat) ?_ n _ ⟨0,rfl,by omega,by simp⟩ (by dsimp only;omega)
 rintro again ⟨x,k⟩ ⟨i,hk,hi,hx⟩ hr
 dsimp only at hk hx⊢
 subst hk
 have hml:(gC b a).length=b.length:=by unfold gC;rw [List.length_zipWith];omega
 refine aH (fun hlt=> ?_) (fun hge=> ?_)
 ·have hlt:i<b.length:=by omega
  have e1:=List.getElem?_eq_getElem hlt
  have e2:=List.getElem?_eq_getElem (show i<a.length by omega)
  have b1:=hb1 _ (List.getElem_mem hlt)
  have b2:=ha1 _ (List.getElem_mem (show i<a.length by omega))
  unfold pI at b1 b2
  refine aB (aQ e1) (aB (aQ e2) (aB (bW (by rw [hx,List.length_take];simp;omega)) ?_))
  rw [aP (n:=b[i]-a[i]) (by omega),aP (by omega)]
  refine hr _ ⟨i+1,by dsimp only;omega,by omega,?_⟩ (by dsimp only;omega)
  dsimp only
  rw [List.take_add_one,←hx]
  congr 1
  unfold gC
  rw [List.getElem?_zipWith,e1,e2];rfl
 ·have:i=b.length:=by omega
  subst this
  rw [List.take_of_length_le (by omega)] at hx
  rw [hx]
  exact hK
theorem aCh(d:List Int): ∀l:List (List Int),(V5 l d).length=l.length+1
 | []=>rfl
 |x::xs=>by
  unfold V5
  split
  ·rfl
  ·rw [List.length_cons,aCh d xs];rfl
theorem aC6(l:List (List Int))(d:List Int):(nD l d).length≤l.length+1:=by
 unfold nD
 split
 ·omega
 ·rw [aCh];omega
def dif(I:List Inst)(part:Int)(d:Dep):Option (List Int):=match I[d.fromF.toNat]?,I[d.toF.toNat]? with
 |some a,some b=>if a.part=part∧b.part=part then some (gC b.point a.point) else none
 |_,_=>none
def pD(p:Prog)(part:Int):List (List Int):=(lT p (insts p.parts) (insts p.parts).length).filterMap (dif (insts p.parts) part)
theorem inst_pt{p:Prog}(hv:cL p=true){x:Inst}(hx:mH p x): ∃P,p.parts[x.part.toNat]? =some P∧0≤x.part∧x.point.length=P.nest.length∧x.point.length≤4∧ ∀y∈x.point,pI 9999 y:=by
 obtain⟨hl,hd,h4,hpo,hil⟩:=lA hv
 obtain⟨i,k,P,s,e1,e2,e3,e4,e5⟩:=hx
 obtain⟨q1,q2,q3,q4⟩:=iG (hpo P (List.mem_of_getElem? e3))
 obtain⟨hf,hp1,hp2,hp3,hp4⟩:=aDc q1
 have hs:=List.mem_of_getElem? e4
 have hpt:=(q4 s hs _ e5).2
 unfold ptV at hpt
 simp only [Bool.and_eq_true,decide_eq_true_eq,List.all_eq_true] at hpt
 exact⟨P,by rw [e1,Int.toNat_natCast];exact e3,by omega,(hp2 _ e5).1,hpt.1,fun y hy=>hpt.2 y hy⟩
theorem aFs{I:List Inst}{part:Int}(h: ∀x∈I,x.point.length≤4){d:Dep}{v:List Int}(hv:dif I part d=some v):v.length≤4:=by
 unfold dif at hv
 split at hv
 ·rename_i a b ha hb
  split at hv
  ·cases hv
   unfold gC
   rw [List.length_zipWith]
   have:=h b (List.mem_of_getElem? hb)
   omega
  ·cases hv
 ·cases hv
theorem Q1{α β:Type}{f:α→Option β}{l:List α}{i:Nat}{x:α}(h:l[i]? =some x):(l.take (i+1)).filterMap f=(l.take i).filterMap f++(f x).toList:=by
 rw [List.take_add_one,h,List.filterMap_append]
 cases hx:f x<;>simp [hx]
theorem yX(x:List Int): ∀(y:List Int) (a:List (List Int)),b6 ((y::a)++[x])=if(y::a).getLast (by simp)=x then b6 (y::a) else b6 (y::a)++[x]
 |y,[]=>by
  by_cases h:y=x
  ·subst h;simp [b6]
  ·simp [b6,h]
 |y,z::a=>by
  have ih:=yX x z a
  rw [List.getLast_cons (by simp)]
  show b6 (y::z::(a++[x]))=_
  unfold b6
  by_cases h:y=z
  ·rw [if_pos h,if_pos h];exact ih
  ·rw [if_neg h,if_neg h]
   have ih':b6 (z::(a++[x]))=_:=ih
   rw [ih']
   split<;>simp
theorem nQ{s:List (List Int)}{m:Nat}(hm:1≤m)(hl:m<s.length):b6 (s.take (m+1))=if s[m-1]=s[m] then b6 (s.take m) else b6 (s.take m)++[s[m]]:=by
 have e:s.take (m+1)=s.take m++[s[m]]:=by rw [List.take_add_one,List.getElem?_eq_getElem hl];rfl
 have hne:s.take m≠[]:=by
  intro h
  have:=congrArg List.length h
  rw [List.length_take,Nat.min_eq_left (by omega),List.length_nil] at this
  omega
 have hlast: ∀h,(s.take m).getLast h=s[m-1]:=fun h=>by
  rw [List.getLast_eq_getElem,List.getElem_take]
  congr 1
  rw [List.length_take];omega
 rw [e]
 obtain⟨y,a,hya⟩: ∃y a,s.take m=y::a:=by
  cases h:s.take m with
  |nil=>exact absurd h hne
  |cons y a=>exact⟨y,a,rfl⟩
 have hl2:=hlast hne
 simp only [hya] at hl2⊢
 rw [yX,hl2]
theorem aHF{α:Type}{l:List α}{o m:Nat}{j:Nat}{x:α}(h1:j<m)(h2:l[o+j]? =some x):ixv l o m (j:Int)=some x:=by
 unfold ixv
 rw [if_pos ⟨by omega,by omega⟩,Int.toNat_natCast];exact h2
theorem aEh{n:Nat}(hn:20000≤n){s:List (List Int)}(hs:s.length≤15000)(h1: ∀x∈s,x.length≤1000){f:List Int→List Int→Option Bool}(hf: ∀a b,a.length≤1000→f a b=some (decide (a=b))):
  Ev (d6 n s f) (fun r=>r.2.take r.1=b6 s):=by
 unfold d6
 refine aH (fun h=>Ev.some ?_) (fun h=> ?_)
 ·dsimp only
  rw [List.take_length]
  match s,h with
  | [],_=>rfl
  | [x],_=>rfl
  |x::y::r,h=>simp at h;omega
 refine Ev.loop (fun x:Int=> ∃k:Nat,x=k∧1≤k∧k≤s.length∧b6 (s.take k)=s.take k) (fun x=>s.length-x.toNat) ?_ n _ ⟨1,rfl,by omega,by omega,?_⟩ (by omega)
 rotate_left
 ·cases s with
  |nil=>rfl
  |cons x s=>rfl
 rintro again z ⟨k,rfl,hk1,hk,hc⟩ hr
 refine aH (fun hlt=> ?_) (fun hge=>Ev.some ?_)
 rotate_left
 ·have:k=s.length:=by omega
  subst this
  dsimp only
  rw [List.take_length] at hc⊢
  exact hc.symm
 have hlt:k<s.length:=by omega
 have e1:=List.getElem?_eq_getElem hlt
 have e2:=List.getElem?_eq_getElem (show k-1<s.length by omega)
 rw [aP (n:=(k:Int)-1) (by omega),show(k:Int)-1=((k-1:Nat):Int) by omega]
 refine aB (aQ e1) (aB (aQ e2) (aB (hf _ _ (h1 _ (List.getElem_mem hlt))) (aH (fun heq=> ?_) (fun hne=> ?_))))
 rotate_left
 ·rw [aP (by omega)]
  refine hr _ ⟨k+1,by omega,by omega,by omega,?_⟩ (by omega)
  rw [nQ hk1 hlt,if_neg (fun e=>hne e.symm),hc,List.take_add_one,e1];rfl
 -- the first double
 clear hr
 rw [Int.toNat_natCast]
 refine Ev.loop (fun x:(List (List Int)×Int)×Int=> ∃i j:Nat,x.2=j∧x.1.2=i∧1≤j∧k+j≤s.length∧x.1.1.length=s.length∧i+1≤k+j∧x.1.1.take i=b6 (s.take (k+j))∧ ∀t,i≤t→x.1.1[t]? =s[t]?) (fun x=>s.length-x.2.toNat) ?_ n _ ⟨k,1,rfl,rfl,by omega,by omega,rfl,by omega,?_,fun _ _=>rfl⟩ (by dsimp only;omega)
 rotate_left
 ·dsimp only
  rw [nQ hk1 hlt,if_pos heq.symm,hc]
 rintro again2 ⟨⟨l,iz⟩,jz⟩ ⟨i,j,hj,hi,hj1,hkj,hll,hij,htk,hrest⟩ hr
 dsimp only at hj hi hll htk hrest⊢
 subst hj;subst hi
 refine aH (fun hlt2=> ?_) (fun hge=> ?_)
 ·have hlt2:k+j<s.length:=by omega
  have a1:l[k+j]? =some s[k+j]:=by rw [hrest _ (by omega),List.getElem?_eq_getElem hlt2]
  have a2:l[k+(j-1)]? =some (s[k+j-1]'(by omega)):=by rw [hrest _ (by omega),show k+(j-1)=k+j-1 by omega,List.getElem?_eq_getElem (by omega)]
  rw [aP (n:=(j:Int)-1) (by omega),show(j:Int)-1=((j-1:Nat):Int) by omega]
  refine aB (aHF (by omega) a1) (aB (aHF (by omega) a2) (aB (hf _ _ (h1 _ (List.getElem_mem hlt2))) (dQ (fun hne=> ?_) (fun heq2=> ?_))))
  ·obtain⟨y4,hy4⟩: ∃y,l[i]? =some y:=⟨_,List.getElem?_eq_getElem (by omega)⟩
   refine aB (aQ hy4) (aB (dU (by omega) _) ?_)
   rw [Int.toNat_natCast,aP (by omega),aP (by omega)]
   refine hr _ ⟨i+1,j+1,by dsimp only;omega,by dsimp only;omega,by omega,by omega,by dsimp only;rw [List.length_set];exact hll,by omega,?_,fun t ht=> ?_⟩ (by dsimp only;omega)
   ·dsimp only
    rw [show k+(j+1)=(k+j)+1 by omega,nQ (by omega) hlt2,if_neg (fun e=>hne e.symm),←htk,List.take_add_one,List.getElem?_set_self (by omega),List.take_set_of_le (Nat.le_refl _)];rfl
   ·dsimp only
    rw [List.getElem?_set_ne (by omega)]
    exact hrest t (by omega)
  ·rw [aP (by omega)]
   refine hr _ ⟨i,j+1,by dsimp only;omega,rfl,by omega,by omega,hll,by omega,?_,hrest⟩ (by dsimp only;omega)
   dsimp only
   rw [show k+(j+1)=(k+j)+1 by omega,nQ (by omega) hlt2,if_pos heq2.symm]
   exact htk
 ·have hkj2:k+j=s.length:=by omega
  rw [hkj2,List.take_length] at htk
  rw [decide_eq_true (show(0:Int)≤(i:Int) by omega),decide_eq_true (show(i:Int)<(l.length:Int) by omega)]
  refine bY (bY (Ev.some ?_))
  dsimp only
  rw [Int.toNat_natCast,List.take_append_of_le_length (by rw [List.length_take];omega),List.take_of_length_le (by rw [List.length_take];omega)]
  exact htk
theorem P2{n:Nat}(hn:20000≤n){p:Prog}(hv:cL p=true)(part:Int):dM n (trc p) part=some ((pD p part).foldl nD []):=by
 have hil:=(lA hv).2.2.2.2
 unfold dM
 refine Ev.eq (aB (aGe (by omega) hv) ?_)
 rw [show(trc p).list=insts p.parts from rfl]
 have hok: ∀x∈insts p.parts,mH p x:=fun x hx=>insts_mem hx
 have hD:=R1 (p:=p) hil
 have hb:=aLM (p:=p) (l:=insts p.parts)
 unfold pD
 generalize lT p (insts p.parts) (insts p.parts).length=D at*
 generalize insts p.parts=I at*
 have hpt: ∀x∈I,x.point.length≤4:=fun x hx=>(inst_pt hv (hok x hx)).choose_spec.2.2.2.1
 refine Ev.loop (fun x:List (List Int)×Int=> ∃i:Nat,x.2=i∧i≤D.length∧x.1=(D.take i).filterMap (dif I part)) (fun x=>D.length-x.2.toNat) ?_ n _ ⟨0,rfl,by omega,by simp⟩ (by dsimp only;omega)
 rintro again ⟨x3,k⟩ ⟨i,hk,hi,hx⟩ hr
 dsimp only at hk hx⊢
 subst hk
 have hlen:x3.length≤i:=by
  rw [hx]
  refine Nat.le_trans (List.length_filterMap_le _ _) ?_
  rw [List.length_take];omega
 refine aH (fun hlt=> ?_) (fun hge=> ?_)
 ·have hlt:i<D.length:=by omega
  have e1:=List.getElem?_eq_getElem hlt
  obtain⟨d1,d2,d3⟩:=hb _ (List.getElem_mem hlt)
  have ea:=aKw (l:=I) (c:=D[i].fromF) d1 (by omega)
  have eb:=aKw (l:=I) (c:=D[i].toF) (by omega) (by omega)
  have ha:=List.getElem_mem (show D[i].fromF.toNat<I.length by omega)
  have hbm:=List.getElem_mem (show D[i].toF.toNat<I.length by omega)
  have hfa:I[D[i].fromF.toNat]? =some I[D[i].fromF.toNat]:=List.getElem?_eq_getElem _
  have hfb:I[D[i].toF.toNat]? =some I[D[i].toF.toNat]:=List.getElem?_eq_getElem _
  obtain⟨PA,pa1,pa2,pa3,pa4,pa5⟩:=inst_pt hv (hok _ ha)
  obtain⟨PB,pb1,pb2,pb3,pb4,pb5⟩:=inst_pt hv (hok _ hbm)
  have hdif:dif I part D[i]=if I[D[i].fromF.toNat].part=part∧I[D[i].toF.toNat].part=part then some (gC I[D[i].toF.toNat].point I[D[i].fromF.toNat].point) else none:=by
   unfold dif;rw [hfa,hfb]
  refine Ev.jn (fun z=>z.1=(D.take (i+1)).filterMap (dif I part)) (fun j hj=>aB (aQ e1) (aB ea (aB eb ?_))) (fun z hz=> ?_)
  ·rw [Q1 e1,←hx] at hj
   refine Ev.jn (fun z:Bool=>z= !decide (I[D[i].fromF.toNat].part=part∧I[D[i].toF.toNat].part=part)) (fun j2 hj2=>dQ (fun h=>hj2 _ ?_) (fun h=>hj2 _ ?_)) (fun z hz=> ?_)
   ·rw [decide_eq_false (fun h2=>h h2.1)];rfl
   ·congr 1
    exact decide_eq_decide.2 ⟨fun h2=>⟨h,h2⟩,fun h2=>h2.2⟩
   ·subst hz
    refine dQ (fun h=>hj _ ?_) (fun h=> ?_)
    ·rw [hdif,if_neg h];simp
    ·have hPP:PA=PB:=by
      rw [h.1] at pa1;rw [h.2] at pb1;rw [pa1] at pb1;cases pb1;rfl
     subst hPP
     refine aHy (K:=fun x12=>Option.bind (app x3 [x12]) fun x19=>j (x19,D[i].fromF,D[i].toF,D[i].kinds,I[D[i].fromF.toNat].part,I[D[i].fromF.toNat].stmt,I[D[i].fromF.toNat].point,I[D[i].toF.toNat].part,I[D[i].toF.toNat].stmt,I[D[i].toF.toNat].point)) (by omega) (by omega) (by omega) pa5 pb5 ?_
     refine aB (bW (by simp;omega)) (hj _ ?_)
     rw [hdif,if_pos h];rfl
  ·rw [aP (by omega)]
   exact hr _ ⟨i+1,by dsimp only;omega,by omega,hz⟩ (by dsimp only;omega)
 ·have:i=D.length:=by omega
  subst this
  rw [List.take_length] at hx
  subst hx
  have hall: ∀y∈D.filterMap (dif I part),y.length≤4:=fun y hy=>by
   obtain⟨d,_,hd⟩:=List.mem_filterMap.1 hy
   exact aFs hpt hd
  have hsl:(kH (D.filterMap (dif I part))).length≤15000:=by unfold kH;rw [List.length_mergeSort];omega
  refine aB (x:=kH (D.filterMap (dif I part))) (by unfold m_sortL;rw [if_pos ⟨by omega,fun y hy=>by have:=hall y hy;omega⟩]) (aL (aEh hn hsl (fun y hy=>by
   have:=hall y (by unfold kH at hy;exact List.mem_mergeSort.1 hy)
   omega) (fun a b ha=>N9 (by omega) (by omega))) (fun r hr2=>Ev.some ?_))
  rw [hr2]
  exact aJ5 _
def lvl(d:List Int):Option Nat:=d.findIdx? (fun x=> !decide (x=0))
def aHB(d:List Int):Int:=match lvl d with
 |some i=>(i:Int)
 |none=> -1
theorem aDW{n:Nat}{d:List Int}(hd:d.length≤1000)(hn:1000<n):lK n d=some (aHB d):=by
 unfold lK
 refine Ev.eq (aB (x:=aHB d) ?_ (Ev.some rfl))
 unfold eU
 refine Ev.eq (Ev.loop (fun x:Int=> ∃i:Nat,x=i∧i≤d.length∧ ∀j,j<i→d.getD j 0=0) (fun x=>d.length-x.toNat) ?_ n _ ⟨0,rfl,by omega,fun j hj=>absurd hj (Nat.not_lt_zero _)⟩ (by omega))
 rintro again z ⟨i,rfl,hi,h0⟩ hr
 have hz: ∀j (hj:j<d.length),j<i→d[j]=0:=fun j hj hji=>by
  have:=h0 j hji
  rwa [List.getD_eq_getElem?_getD,List.getElem?_eq_getElem hj] at this
 refine aH (fun hlt=> ?_) (fun hge=>Ev.some ?_)
 ·have hlt:i<d.length:=by omega
  have e1:=List.getElem?_eq_getElem hlt
  refine aB (aQ e1) (aB (x:= !decide (d[i]=0)) rfl (dQ (fun hne=>Ev.some ?_) (fun he=> ?_)))
  ·have:lvl d=some i:=by
    unfold lvl
    rw [List.findIdx?_eq_some_iff_getElem]
    exact⟨hlt,by simp [hne],fun j hj=>by simp [hz j (by omega) hj]⟩
   unfold aHB;rw [this]
  ·rw [aP (by omega)]
   refine hr _ ⟨i+1,by omega,by omega,fun j hj=> ?_⟩ (by omega)
   by_cases hji:j=i
   ·subst hji
    rw [List.getD_eq_getElem?_getD,e1];exact he
   ·exact h0 j (by omega)
 ·have:lvl d=none:=by
   unfold lvl
   rw [List.findIdx?_eq_none_iff]
   intro x hx
   obtain⟨j,hj⟩:=List.mem_iff_getElem?.1 hx
   obtain⟨hjl,rfl⟩:=List.getElem?_eq_some_iff.1 hj
   simp [hz j hjl (by omega)]
  unfold aHB;rw [this]
def aEl(l:List Bool)(d:List Int):List Bool:=match lvl d with
 |some i=>l.set i true
 |none=>l
def G6(m:Nat)(ds:List (List Int)):List Bool:=ds.foldl aEl (List.replicate m false)
theorem S1(l:List Bool)(d:List Int):(aEl l d).length=l.length:=by
 unfold aEl
 split<;>simp
theorem aEk{n:Nat}(hn:20000≤n){p:Prog}(hv:cL p=true){i:Nat}{P:Part}(hP:p.parts[i]? =some P):fV n (trc p) (i:Int)=some (G6 P.nest.length ((pD p i).foldl nD [])):=by
 obtain⟨_,_,_,hpo,hil⟩:=lA hv
 have h4:=(mK (hpo P (List.mem_of_getElem? hP))).1
 unfold fV
 refine Ev.eq (aB (aQ (show(trc p).program.parts[i]? =some P from hP)) (aB (x:=List.replicate P.nest.length false) (by unfold mk;rw [if_pos ⟨by omega,by omega⟩,Int.toNat_natCast]) (aB (P2 hn hv _) ?_)))
 have hds: ∀d∈(pD p i).foldl nD [],d.length=P.nest.length:=fun d hd=>by
  have h:=(I1 (pD p i) [] List.Pairwise.nil).2 d
  rcases h.1 hd with h|h
  ·cases h
  ·obtain⟨x,_,hx⟩:=List.mem_filterMap.1 h
   unfold dif at hx
   split at hx
   ·rename_i a b ha hb
    split at hx
    ·rename_i hab
     cases hx
     obtain⟨PA,a1,a2,a3,a4,a5⟩:=inst_pt hv (insts_mem (List.mem_of_getElem? ha))
     obtain⟨PB,b1,b2,b3,b4,b5⟩:=inst_pt hv (insts_mem (List.mem_of_getElem? hb))
     rw [hab.1,Int.toNat_natCast,hP] at a1
     rw [hab.2,Int.toNat_natCast,hP] at b1
     cases a1;cases b1
     unfold gC
     rw [List.length_zipWith];omega
    ·cases hx
   ·cases hx
 have hlen:((pD p i).foldl nD []).length≤15000:=by
  have key: ∀(ds l:List (List Int)),(ds.foldl nD l).length≤l.length+ds.length:=fun ds=>by
   induction ds with
   |nil=>intro l;simp
   |cons d ds ih=>
    intro l
    rw [List.foldl_cons]
    have:=ih (nD l d)
    have:=aC6 l d
    rw [List.length_cons];omega
  have h1:=key (pD p i) []
  have h2:(pD p i).length≤15000:=Nat.le_trans (List.length_filterMap_le _ _) (R1 hil)
  simp at h1;omega
 generalize (pD p i).foldl nD []=ds at*
 refine Ev.loop (fun x:List Bool×Int=> ∃t:Nat,x.2=t∧t≤ds.length∧x.1=G6 P.nest.length (ds.take t)∧x.1.length=P.nest.length) (fun x=>ds.length-x.2.toNat) ?_ n _ ⟨0,rfl,by omega,by simp [G6],by simp⟩ (by dsimp only;omega)
 rintro again ⟨l,k⟩ ⟨t,hk,ht,hl,hll⟩ hr
 dsimp only at hk hl hll⊢
 subst hk
 refine aH (fun hlt=> ?_) (fun hge=>Ev.some ?_)
 ·have hlt:t<ds.length:=by omega
  have e1:=List.getElem?_eq_getElem hlt
  have hdl:=hds _ (List.getElem_mem hlt)
  have hstep:G6 P.nest.length (ds.take (t+1))=aEl l ds[t]:=by
   rw [hl]
   unfold G6
   rw [List.take_add_one,e1,List.foldl_append];rfl
  refine Ev.jn (fun z=>z=G6 P.nest.length (ds.take (t+1))) (fun j hj=>aB (aQ e1) (aB (aDW (by omega) (by omega)) ?_)) (fun z hz=> ?_)
  ·rw [hstep] at hj
   unfold aEl aHB at*
   cases hv2:lvl ds[t] with
   |none=>
    rw [hv2] at hj
    exact aH (fun h=>absurd h (by dsimp only;omega)) (fun _=>hj _ rfl)
   |some a=>
    rw [hv2] at hj
    have ha:a<l.length:=by
     unfold lvl at hv2
     obtain⟨h1,_⟩:=List.findIdx?_eq_some_iff_getElem.1 hv2
     omega
    refine aH (fun _=> ?_) (fun h=>absurd (show(0:Int)≤(a:Int) by omega) h)
    refine aB (aQ (List.getElem?_eq_getElem ha)) (aB (dU (by dsimp only;omega) _) (hj _ ?_))
    dsimp only
    rw [Int.toNat_natCast]
  ·subst hz
   rw [aP (by omega)]
   exact hr _ ⟨t+1,by dsimp only;omega,by omega,rfl,by dsimp only;rw [hstep,S1,hll]⟩ (by dsimp only;omega)
 ·have:t=ds.length:=by omega
  subst this
  rw [hl,List.take_length]
theorem aCf{n:Nat}{p:Prog}(hp:SmP p){i:Nat}{P:Part}(hP:p.parts[i]? =some P):bU n p (i:Int)=some true:=by
 have hi:=(List.getElem?_eq_some_iff.1 hP).1
 rw [vA n hp.2.1,decide_eq_true (by omega)]
theorem uI{n:Nat}(hn:20000≤n){p:Prog}(hp:SmP p)(hv:cL p=true){i:Nat}{P:Part}(hP:p.parts[i]? =some P):kL n p (i:Int)=some ((pD p i).foldl nD []):=by
 unfold kL
 refine Ev.eq (aB (O6 (by omega) hp) ?_)
 rw [if_pos hv]
 refine bY (Ev.jn (fun z=>z=false) (fun j hj=>bZ (aB (aCf hp hP) (hj _ rfl))) (fun z hz=> ?_))
 rw [hz]
 exact bZ (aB (P2 hn hv _) (Ev.some rfl))
theorem aCm{n:Nat}(hn:20000≤n){p:Prog}(hp:SmP p)(hv:cL p=true){i:Nat}{P:Part}(hP:p.parts[i]? =some P):eY n p (i:Int)=some (I2 ((G6 P.nest.length ((pD p i).foldl nD [])).map (fun b=> !b))):=by
 have h4:=(mK ((lA hv).2.2.2.1 P (List.mem_of_getElem? hP))).1
 unfold eY
 refine Ev.eq (aB (O6 (by omega) hp) ?_)
 rw [if_pos hv]
 refine bY (Ev.jn (fun z=>z=false) (fun j hj=>bZ (aB (aCf hp hP) (hj _ rfl))) (fun z hz=> ?_))
 rw [hz]
 refine bZ (aB (aEk hn hv hP) ?_)
 have hcl:(G6 P.nest.length ((pD p i).foldl nD [])).length=P.nest.length:=by
  unfold G6
  have key: ∀(ds:List (List Int)) (l:List Bool),(ds.foldl aEl l).length=l.length:=fun ds=>by
   induction ds with
   |nil=>intro l;rfl
   |cons d ds ih=>intro l;rw [List.foldl_cons,ih,S1]
  rw [key];simp
 generalize G6 P.nest.length ((pD p i).foldl nD [])=c at*
 refine Ev.loop (fun x:List Bool×Int=> ∃t:Nat,x.2=t∧t≤c.length∧x.1=(c.take t).map (fun b=> !b)++c.drop t) (fun x=>c.length-x.2.toNat) ?_ n _ ⟨0,rfl,by omega,by simp⟩ (by dsimp only;omega)
 rintro again ⟨l,k⟩ ⟨t,hk,ht,hl⟩ hr
 dsimp only at hk hl⊢
 subst hk
 have hll:l.length=c.length:=by rw [hl];simp;omega
 refine aH (fun hlt=> ?_) (fun hge=> ?_)
 ·have hlt:t<c.length:=by omega
  have e1:l[t]? =some c[t]:=by
   rw [hl,List.getElem?_append_right (by rw [List.length_map,List.length_take];omega),List.length_map,List.length_take,Nat.min_eq_left (by omega),Nat.sub_self,List.getElem?_drop,Nat.add_zero,List.getElem?_eq_getElem hlt]
  refine aB (aQ e1) (aB (dU (by omega) _) ?_)
  rw [Int.toNat_natCast,aP (by omega)]
  refine hr _ ⟨t+1,by dsimp only;omega,by omega,?_⟩ (by dsimp only;omega)
  dsimp only
  rw [hl,List.set_append_right _ _ (by rw [List.length_map,List.length_take];omega),List.length_map,List.length_take,Nat.min_eq_left (by omega),Nat.sub_self,List.drop_eq_getElem_cons hlt,List.set_cons_zero,List.take_add_one,List.getElem?_eq_getElem hlt]
  simp only [List.map_append,Option.toList_some,List.map_cons,List.map_nil,List.append_assoc,List.cons_append,List.nil_append]
 ·have:t=c.length:=by omega
  subst this
  rw [List.take_length,List.drop_length,List.append_nil] at hl
  rw [hl]
  exact aB (aCl (by simp;omega) (by simp;omega)) (Ev.some rfl)
theorem aLo{p q:Prog}{l:List Inst}{σ:Inst→Inst}(h: ∀x∈l,rc q (σ x)=rc p x∧wc q (σ x)=wc p x)(i k:Nat):kd q (l.map σ) i k=kd p l i k:=by
 unfold kd
 rw [List.getElem?_map,List.getElem?_map]
 cases hi:l[i]? with
 |none=>rfl
 |some a=>
  cases hk:l[k]? with
  |none=>rfl
  |some b=>
   obtain⟨a1,a2⟩:=h a (List.mem_of_getElem? hi)
   obtain⟨b1,b2⟩:=h b (List.mem_of_getElem? hk)
   show sW q (σ a) (σ b)=sW p a b
   unfold sW
   rw [a1,a2,b1,b2]
theorem aIw{p q:Prog}{l:List Inst}{σ:Inst→Inst}(h: ∀x∈l,rc q (σ x)=rc p x∧wc q (σ x)=wc p x)(n:Nat):lT q (l.map σ) n=lT p l n:=by
 unfold lT mA
 simp only [aLo h,List.length_map]
theorem aIv{p q:Prog}{part:Int}{σ:Inst→Inst}(hi:insts q.parts=(insts p.parts).map σ)(h: ∀x∈insts p.parts,rc q (σ x)=rc p x∧wc q (σ x)=wc p x)(hp: ∀x,(σ x).part=x.part)
  (hm: ∀a∈insts p.parts,∀b∈insts p.parts,a.part=b.part→gC (σ b).point (σ a).point=gC b.point a.point):pD q part=pD p part:=by
 unfold pD
 rw [hi,List.length_map,aIw h]
 have e:dif ((insts p.parts).map σ) part=dif (insts p.parts) part:=by
  funext d
  unfold dif
  rw [List.getElem?_map,List.getElem?_map]
  cases ha:(insts p.parts)[d.fromF.toNat]? with
  |none=>rfl
  |some a=>
   cases hb:(insts p.parts)[d.toF.toNat]? with
   |none=>rfl
   |some b=>
    simp only [Option.map_some]
    rw [hp,hp]
    split
    ·rename_i hab
     rw [hm a (List.mem_of_getElem? ha) b (List.mem_of_getElem? hb) (by omega)]
    ·rfl
 rw [e]
end Go.Lift
