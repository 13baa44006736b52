/- Distances: sorted lists of points without doubles. -/
import Derived.Test.YtiplelpjhgnmoaaGreatUTran1
set_option maxRecDepth 100000
set_option linter.unusedVariables false
namespace Go.Lift
open Go
theorem uS: ∀xs,cmpL xs xs=0
 | []=>rfl
 |x::xs=>by unfold cmpL;rw [if_neg (by omega),if_neg (by omega)];exact uS xs
theorem lO: ∀xs ys,cmpL ys xs= -cmpL xs ys
 | [],[]=>by simp [cmpL]
 | [],_::_=>by simp [cmpL]
 |_::_,[]=>by simp [cmpL]
 |x::xs,y::ys=>by
  unfold cmpL
  by_cases h1:x<y
  ·simp [h1,show¬y<x by omega]
  ·by_cases h2:y<x
   ·simp [h1,h2]
   ·rw [if_neg h1,if_neg h2,if_neg h2,if_neg h1];exact lO xs ys
theorem tO: ∀{xs ys},cmpL xs ys=0→xs=ys
 | [],[],_=>rfl
 | [],_::_,h=>by simp [cmpL] at h
 |_::_,[],h=>by simp [cmpL] at h
 |x::xs,y::ys,h=>by
  unfold cmpL at h
  by_cases h1:x<y
  ·rw [if_pos h1] at h;omega
  ·by_cases h2:y<x
   ·rw [if_neg h1,if_pos h2] at h;omega
   ·rw [if_neg h1,if_neg h2] at h
    rw [tO h,show x=y by omega]
theorem xZ: ∀{xs ys zs},cmpL xs ys<0→cmpL ys zs<0→cmpL xs zs<0
 | [],[],_,h,_=>by simp [cmpL] at h
 | [],_::_,[],_,h=>by simp [cmpL] at h
 | [],_::_,_::_,_,_=>by simp [cmpL]
 |_::_,[],_,h,_=>by simp [cmpL] at h
 |_::_,_::_,[],_,h=>by simp [cmpL] at h
 |x::xs,y::ys,z::zs,h1,h2=>by
  unfold cmpL at h1 h2⊢
  by_cases a:x<y
  ·by_cases b:y<z
   ·rw [if_pos (by omega)];omega
   ·by_cases c:z<y
    ·rw [if_neg b,if_pos c] at h2;omega
    ·rw [if_pos (by omega)];omega
  ·by_cases b:y<x
   ·rw [if_neg a,if_pos b] at h1;omega
   ·by_cases c:y<z
    ·rw [if_pos (by omega)];omega
    ·by_cases d:z<y
     ·rw [if_neg c,if_pos d] at h2;omega
     ·rw [if_neg (by omega),if_neg (by omega)]
      rw [if_neg a,if_neg b] at h1
      rw [if_neg c,if_neg d] at h2
      exact xZ h1 h2
theorem aBP: ∀xs ys,L9 xs ys=decide (cmpL xs ys<0)
 | [],[]=>rfl
 | [],_::_=>rfl
 |_::_,[]=>rfl
 |x::xs,y::ys=>by
  unfold L9 cmpL
  by_cases h:x=y
  ·subst h
   simp only [if_true,Int.lt_irrefl,if_false]
   exact aBP xs ys
  ·by_cases h1:x<y
   ·simp [h,h1]
   ·have:y<x:=by omega
    simp [h,h1,this]
abbrev SS(l:List (List Int)):Prop:=l.Pairwise (fun a b=>cmpL a b<0)
theorem aJL: ∀{l m:List (List Int)},SS l→SS m→(∀x,x∈l↔x∈m)→l=m
 | [],[],_,_,_=>rfl
 | [],y::m,_,_,h=>by have:=(h y).2 (by simp);simp at this
 |x::l,[],_,_,h=>by have:=(h x).1 (by simp);simp at this
 |x::l,y::m,hl,hm,h=>by
  obtain⟨l1,l2⟩:=List.pairwise_cons.1 hl
  obtain⟨m1,m2⟩:=List.pairwise_cons.1 hm
  have e:x=y:=by
   rcases List.mem_cons.1 ((h x).1 (by simp)) with h1|h1
   ·exact h1
   ·rcases List.mem_cons.1 ((h y).2 (by simp)) with h2|h2
    ·exact h2.symm
    ·have a:=m1 x h1
     have b:=l1 y h2
     have:=xZ a b
     rw [uS] at this;omega
  subst e
  have hx1:x∉l:=fun hx=>by have:=l1 x hx;rw [uS] at this;omega
  have hx2:x∉m:=fun hx=>by have:=m1 x hx;rw [uS] at this;omega
  rw [aJL l2 m2 (fun z=>⟨fun hz=>by
   rcases List.mem_cons.1 ((h z).1 (List.mem_cons_of_mem _ hz)) with rfl|h3
   ·exact absurd hz hx1
   ·exact h3,fun hz=>by
   rcases List.mem_cons.1 ((h z).2 (List.mem_cons_of_mem _ hz)) with rfl|h3
   ·exact absurd hz hx2
   ·exact h3⟩)]
def pT:List (List Int)→List Int→List (List Int)
 | [],d=>[d]
 |x::xs,d=>if cmpL d x<0 then d::x::xs else x::pT xs d
theorem M8{d z:List Int}: ∀{l:List (List Int)},z∈pT l d↔z=d∨z∈l
 | []=>by simp [pT]
 |x::xs=>by
  unfold pT
  split
  ·simp
  ·simp only [List.mem_cons,M8 (l:=xs)]
   constructor
   ·rintro(h|h|h)
    ·exact .inr (.inl h)
    ·exact .inl h
    ·exact .inr (.inr h)
   ·rintro(h|h|h)
    ·exact .inr (.inl h)
    ·exact .inl h
    ·exact .inr (.inr h)
theorem aEY{d:List Int}: ∀{l:List (List Int)},SS l→d∉l→SS (pT l d)
 | [],_,_=>by simp [pT]
 |x::xs,hl,hd=>by
  obtain⟨l1,l2⟩:=List.pairwise_cons.1 hl
  unfold pT
  split
  ·rename_i h
   refine List.pairwise_cons.2 ⟨fun z hz=> ?_,hl⟩
   rcases List.mem_cons.1 hz with rfl|hz
   ·exact h
   ·exact xZ h (l1 z hz)
  ·rename_i h
   refine List.pairwise_cons.2 ⟨fun z hz=> ?_,aEY l2 (fun hx=>hd (List.mem_cons_of_mem _ hx))⟩
   rcases M8.1 hz with rfl|hz
   ·have h1:=lO z x
    have h2:cmpL z x≠0:=fun e=>hd (by rw [tO e];simp)
    omega
   ·exact l1 z hz
def fN(l:List (List Int))(d:List Int):List (List Int):=if d∈l then l else pT l d
theorem aJF{l:List (List Int)}(h:SS l)(d:List Int):SS (fN l d):=by
 unfold fN
 split
 ·exact h
 ·exact aEY h ‹_›
theorem aCK{l:List (List Int)}{d z:List Int}:z∈fN l d↔z=d∨z∈l:=by
 unfold fN
 split
 ·rename_i h
  exact⟨.inr,fun hz=>by rcases hz with rfl|hz;exact h;exact hz⟩
 ·exact M8
theorem q5: ∀(ds l:List (List Int)),SS l→SS (ds.foldl fN l)∧ ∀z,z∈ds.foldl fN l↔z∈l∨z∈ds
 | [],l,h=>⟨h,fun z=>by simp⟩
 |d::ds,l,h=>by
  obtain⟨h1,h2⟩:=q5 ds (fN l d) (aJF h d)
  refine⟨h1,fun z=> ?_⟩
  rw [List.foldl_cons,h2 z,aCK,List.mem_cons]
  constructor
  ·rintro((h|h)|h)
   ·exact .inr (.inl h)
   ·exact .inl h
   ·exact .inr (.inr h)
  ·rintro(h|h|h)
   ·exact .inl (.inr h)
   ·exact .inl (.inl h)
   ·exact .inr h
def b6:List (List Int)→List (List Int)
 | []=>[]
 | [x]=>[x]
 |x::y::r=>if x=y then b6 (y::r) else x::b6 (y::r)
theorem rA{z:List Int}: ∀{l:List (List Int)},z∈b6 l↔z∈l
 | []=>by simp [b6]
 | [x]=>by simp [b6]
 |x::y::r=>by
  have ih:=rA (z:=z) (l:=y::r)
  unfold b6
  split
  ·rename_i h
   subst h
   rw [ih];simp
  ·rw [List.mem_cons,ih];simp
theorem tN: ∀{l:List (List Int)},l.Pairwise (fun a b=> ¬cmpL b a<0)→SS (b6 l)
 | [],_=>by simp [b6]
 | [x],_=>by simp [b6]
 |x::y::r,h=>by
  obtain⟨h1,h2⟩:=List.pairwise_cons.1 h
  obtain⟨h3,_⟩:=List.pairwise_cons.1 h2
  unfold b6
  split
  ·exact tN h2
  ·rename_i hne
   refine List.pairwise_cons.2 ⟨fun z hz=> ?_,tN h2⟩
   have hxy:cmpL x y<0:=by
    have a:=h1 y (by simp)
    have b:=lO x y
    have c:cmpL x y≠0:=fun e=>hne (tO e)
    omega
   rcases List.mem_cons.1 (rA.1 hz) with rfl|hz
   ·exact hxy
   ·have a:=h3 z hz
    have b:=lO y z
    by_cases e:cmpL y z=0
    ·rw [←tO e];exact hxy
    ·exact xZ hxy (by omega)
theorem aAn(l:List (List Int)):(jR l).Pairwise (fun a b=> ¬cmpL b a<0):=by
 have:=List.pairwise_mergeSort (le:=fun x y=> !decide (cmpL y x<0)) (fun a b c h1 h2=>by
  simp only [Bool.not_eq_true',decide_eq_false_iff_not] at*
  intro h
  have f1:=lO a b
  have f2:=lO b c
  by_cases e:cmpL b a=0
  ·rw [tO e] at h2;exact h2 h
  ·exact h2 (xZ h (by omega))) (fun a b=>by
  have f1:=lO a b
  by_cases h:cmpL b a<0
  ·have: ¬cmpL a b<0:=by omega
   simp [h,this]
  ·simp [h]) l
 refine this.imp (fun h=> ?_)
 simpa using h
theorem aJt(ds:List (List Int)):b6 (jR ds)=ds.foldl fN []:=by
 obtain⟨h1,h2⟩:=q5 ds [] List.Pairwise.nil
 refine aJL (tN (aAn ds)) h1 (fun z=> ?_)
 rw [rA,h2 z]
 unfold jR
 rw [List.mem_mergeSort]
 simp
def eY(b a:List Int):List Int:=List.zipWith (fun x y=>x-y) b a
theorem aBN{R:Type}{Q:R→Prop}{n:Nat}{a b:List Int}(hl:a.length=b.length)(hb:b.length≤1000)(hn:1000<n)(ha1: ∀x∈a,qX 9999 x)(hb1: ∀x∈b,qX 9999 x){K:List Int→Option R}(hK:Ev (K (eY b a)) Q):
  Ev (aL (fun again15 ((x12,x13):(List Int)×Int)=>
   bif decide (x13<(b.length:Int)) then(
    Option.bind (ix b x13) fun x16=>
    Option.bind (ix a x13) fun x17=>
    Option.bind (app x12 [wr (x16-x17)]) fun x18=>
    again15 (x18,wr (x13+1))
   ) else(
    K x12
   )) n ([],0)) Q:=by
 refine Ev.loop (fun x:List Int×Int=> ∃i:Nat,x.2=i∧i≤b.length∧x.1=(eY b a).take i) (fun x=>b.length-x.2.toNat) ?_ n _ ⟨0,rfl,by omega,by simp⟩ (by dsimp only;omega)
 rintro again ⟨x,k⟩ ⟨i,hk,hi,hx⟩ hr
 dsimp only at hk hx⊢
 subst hk
 have hml:(eY b a).length=b.length:=by unfold eY;rw [List.length_zipWith];omega
 refine aG (fun hlt=> ?_) (fun hge=> ?_)
 ·have hlt:i<b.length:=by omega
  have e1:=List.getElem?_eq_getElem hlt
  have e2:=List.getElem?_eq_getElem (show i<a.length by omega)
  have b1:=hb1 _ (List.getElem_mem hlt)
  have b2:=ha1 _ (List.getElem_mem (show i<a.length by omega))
  unfold qX at b1 b2
  refine aA (aN e1) (aA (aN e2) (aA (bM (by rw [hx,List.length_take];simp;omega)) ?_))
  rw [aK (n:=b[i]-a[i]) (by omega),aK (by omega)]
  refine hr _ ⟨i+1,by dsimp only;omega,by omega,?_⟩ (by dsimp only;omega)
  dsimp only
  rw [List.take_add_one,←hx]
  congr 1
  unfold eY
  rw [List.getElem?_zipWith,e1,e2];rfl
 ·have:i=b.length:=by omega
  subst this
  rw [List.take_of_length_le (by omega)] at hx
  rw [hx]
  exact hK
theorem aC9{n:Nat}{a b:List Int}(hl:a.length=b.length)(hb:b.length≤1000)(hn:1000<n)(ha1: ∀x∈a,qX 9999 x)(hb1: ∀x∈b,qX 9999 x):pE n b a=some (eY b a):=by
 unfold pE
 exact Ev.eq (aBN hl hb hn ha1 hb1 (Ev.some rfl))
theorem aGQ{n:Nat}(hn:20000≤n){l:List (List Int)}{d:List Int}(hl:l.length≤15000)(h1: ∀x∈l,x.length≤1000)(hd:d.length≤1000):wY n l d=some (fN l d):=by
 unfold wY
 refine Ev.eq (Ev.loop (fun x:List (List Int)×Bool×Int=> ∃i:Nat,x.2.2=i∧i≤l.length∧d∉l.take i∧(x.2.1=true→x.1.length≤i+1∧pT l d=x.1++l.drop i)∧(x.2.1=false→x.1.length≤i∧pT l d=x.1++pT (l.drop i) d)) (fun x=>l.length-x.2.2.toNat) ?_ n _ ⟨0,rfl,by omega,by simp,(fun h=>by cases h),(fun _=>⟨by simp,by simp⟩)⟩ (by dsimp only;omega))
 rintro again ⟨x1,x2,k⟩ ⟨i,hk,hi,hni,hT,hF⟩ hr
 dsimp only at hk hT hF⊢
 subst hk
 refine aG (fun hlt=> ?_) (fun hge=> ?_)
 ·have hlt:i<l.length:=by omega
  have e1:=List.getElem?_eq_getElem hlt
  have hx6:l[i].length≤1000:=h1 _ (List.getElem_mem hlt)
  refine aA (aN e1) (aA (aBE (by omega) (by omega)) (aG (fun heq=>Ev.some ?_) (fun hne=> ?_)))
  ·unfold fN
   rw [if_pos (by rw [←heq];exact List.getElem_mem hlt)]
  ·have hdrop:=List.drop_eq_getElem_cons hlt
   have hni':d∉l.take (i+1):=by
    rw [List.take_add_one,e1]
    simp only [List.mem_append,Option.toList_some,List.mem_singleton]
    rintro(h|h)
    ·exact hni h
    ·exact hne h.symm
   refine Ev.jn (fun z:List (List Int)×Bool=>(z.2=true→z.1.length≤i+1∧pT l d=z.1++l.drop i)∧(z.2=false→z.1.length≤i∧pT l d=z.1++l[i]::pT (l.drop (i+1)) d)) (fun j hj=> ?_) (fun z hz=> ?_)
   ·refine Ev.jn (fun z:Bool=>z=(!x2&&L9 d l[i])) (fun j2 hj2=>Ev.cond (fun h=> ?_) (fun h=>hj2 _ ?_)) (fun z hz=> ?_)
    ·have h:x2=false:=by simpa using h
     exact aA (aGP (by omega) hd hx6) (hj2 _ (by rw [h];rfl))
    ·have h:x2=true:=by simpa using h
     rw [h];rfl
    ·subst hz
     cases hx2:x2 with
     |true=>exact bT (hj _ ⟨fun _=>hT hx2,fun h=>by cases h⟩)
     |false=>
      obtain⟨f1,f2⟩:=hF hx2
      rw [hdrop] at f2
      rw [aBP]
      by_cases hc:cmpL d l[i]<0
      ·rw [decide_eq_true hc]
       refine bW (aA (bM (by simp;omega)) (hj _ ⟨fun _=>⟨by simp;omega,?_⟩,fun h=>by cases h⟩))
       rw [f2,hdrop]
       unfold pT
       rw [if_pos hc]
       simp
      ·rw [decide_eq_false hc]
       refine bT (hj _ ⟨(fun h=>by cases h),fun _=>⟨f1,?_⟩⟩)
       rw [f2]
       conv=>lhs;rw [pT]
       rw [if_neg hc]
   ·obtain⟨z1,z2⟩:=z
    obtain⟨g1,g2⟩:=hz
    dsimp only at g1 g2⊢
    have hz1:z1.length≤i+1:=by
     cases z2 with
     |true=>exact(g1 rfl).1
     |false=>have:=(g2 rfl).1;omega
    refine aA (bM (by simp;omega)) ?_
    rw [aK (by omega)]
    refine hr _ ⟨i+1,by dsimp only;omega,by omega,hni',(fun h=> ?_),(fun h=> ?_)⟩ (by dsimp only;omega)
    ·obtain⟨a1,a2⟩:=g1 h
     refine⟨by simp;omega,?_⟩
     rw [a2,hdrop];simp
    ·obtain⟨a1,a2⟩:=g2 h
     refine⟨by simp;omega,?_⟩
     rw [a2];simp
 ·have:i=l.length:=by omega
  subst this
  rw [List.take_length] at hni
  have hadd:fN l d=pT l d:=by unfold fN;rw [if_neg hni]
  rw [hadd]
  refine Ev.jn (fun z=>z=pT l d) (fun j hj=>Ev.cond (fun h=> ?_) (fun h=>hj _ ?_)) (fun z hz=>Ev.some hz)
  ·have h:x2=false:=by simpa using h
   obtain⟨a1,a2⟩:=hF h
   refine aA (bM (by simp;omega)) (hj _ ?_)
   rw [a2,List.drop_length];rfl
  ·have h:x2=true:=by simpa using h
   obtain⟨a1,a2⟩:=hT h
   rw [a2,List.drop_length,List.append_nil]
theorem aBV(d:List Int): ∀l:List (List Int),(pT l d).length=l.length+1
 | []=>rfl
 |x::xs=>by
  unfold pT
  split
  ·rfl
  ·rw [List.length_cons,aBV d xs];rfl
theorem R8(l:List (List Int))(d:List Int):(fN l d).length≤l.length+1:=by
 unfold fN
 split
 ·omega
 ·rw [aBV];omega
def dif(I:List Inst)(part:Int)(d:Dep):Option (List Int):=match I[d.fromF.toNat]?,I[d.toF.toNat]? with
 |some a,some b=>if a.part=part∧b.part=part then some (eY b.point a.point) else none
 |_,_=>none
def jA(p:Prog)(part:Int):List (List Int):=(iB p (insts p.parts) (insts p.parts).length).filterMap (dif (insts p.parts) part)
theorem inst_pt{p:Prog}(hv:bQ p=true){x:Inst}(hx:iO p x): ∃P,p.parts[x.part.toNat]? =some P∧0≤x.part∧x.point.length=P.nest.length∧x.point.length≤4∧ ∀y∈x.point,qX 9999 y:=by
 obtain⟨hl,hd,h4,hpo,hil⟩:=fV hv
 obtain⟨i,k,P,s,e1,e2,e3,e4,e5⟩:=hx
 obtain⟨q1,q2,q3,q4⟩:=iU (hpo P (List.mem_of_getElem? e3))
 obtain⟨hf,hp1,hp2,hp3,hp4⟩:=aCQ q1
 have hs:=List.mem_of_getElem? e4
 have hpt:=(q4 s hs _ e5).2
 unfold ptV at hpt
 simp only [Bool.and_eq_true,decide_eq_true_eq,List.all_eq_true] at hpt
 exact⟨P,by rw [e1,Int.toNat_natCast];exact e3,by omega,(hp2 _ e5).1,hpt.1,fun y hy=>hpt.2 y hy⟩
theorem aE7{I:List Inst}{part:Int}(h: ∀x∈I,x.point.length≤4){d:Dep}{v:List Int}(hv:dif I part d=some v):v.length≤4:=by
 unfold dif at hv
 split at hv
 ·rename_i a b ha hb
  split at hv
  ·cases hv
   unfold eY
   rw [List.length_zipWith]
   have:=h b (List.mem_of_getElem? hb)
   omega
  ·cases hv
 ·cases hv
theorem tM{α β:Type}{f:α→Option β}{l:List α}{i:Nat}{x:α}(h:l[i]? =some x):(l.take (i+1)).filterMap f=(l.take i).filterMap f++(f x).toList:=by
 rw [List.take_add_one,h,List.filterMap_append]
 cases hx:f x<;>simp [hx]
theorem aDa{n:Nat}(hn:20000≤n){p:Prog}(hp:SmP p)(hv:bQ p=true)(part:Int):iQ n p part=some ((jA p part).foldl fN []):=by
 have hil:=(fV hv).2.2.2.2
 unfold iQ
 refine Ev.eq (aA (s9 (by omega) hv) (aA (aFw (by omega) hv) ?_))
 have hok: ∀x∈insts p.parts,iO p x:=fun x hx=>insts_mem hx
 have hD:=xV (p:=p) hil
 have hb:=aH2 (p:=p) (l:=insts p.parts)
 unfold jA
 generalize iB p (insts p.parts) (insts p.parts).length=D at*
 generalize insts p.parts=I at*
 have hpt: ∀x∈I,x.point.length≤4:=fun x hx=>(inst_pt hv (hok x hx)).choose_spec.2.2.2.1
 refine Ev.loop (fun x:List (List Int)×Int=> ∃i:Nat,x.2=i∧i≤D.length∧x.1=((D.take i).filterMap (dif I part)).foldl fN []∧x.1.length≤i∧ ∀y∈x.1,y.length≤4) (fun x=>D.length-x.2.toNat) ?_ n _ ⟨0,rfl,by omega,by simp,by simp,by simp⟩ (by dsimp only;omega)
 rintro again ⟨x3,k⟩ ⟨i,hk,hi,hx,hlen,hall⟩ hr
 dsimp only at hk hx hlen hall⊢
 subst hk
 refine aG (fun hlt=> ?_) (fun hge=>Ev.some ?_)
 ·have hlt:i<D.length:=by omega
  have e1:=List.getElem?_eq_getElem hlt
  obtain⟨d1,d2,d3⟩:=hb _ (List.getElem_mem hlt)
  have ea:=aEV (l:=I) (c:=D[i].fromF) d1 (by omega)
  have eb:=aEV (l:=I) (c:=D[i].toF) (by omega) (by omega)
  have ha:=List.getElem_mem (show D[i].fromF.toNat<I.length by omega)
  have hbm:=List.getElem_mem (show D[i].toF.toNat<I.length by omega)
  have hfa:I[D[i].fromF.toNat]? =some I[D[i].fromF.toNat]:=List.getElem?_eq_getElem _
  have hfb:I[D[i].toF.toNat]? =some I[D[i].toF.toNat]:=List.getElem?_eq_getElem _
  obtain⟨PA,pa1,pa2,pa3,pa4,pa5⟩:=inst_pt hv (hok _ ha)
  obtain⟨PB,pb1,pb2,pb3,pb4,pb5⟩:=inst_pt hv (hok _ hbm)
  refine Ev.jn (fun z=>z.2.2.2.2.2.2=((D.take (i+1)).filterMap (dif I part)).foldl fN []∧z.2.2.2.2.2.2.length≤i+1∧ ∀y∈z.2.2.2.2.2.2,y.length≤4) (fun j hj=>aA (aN e1) (aA ea (aA eb ?_))) (fun z hz=> ?_)
  ·rw [tM e1,List.foldl_append,←hx] at hj
   refine Ev.jn (fun z:Bool=>z=decide (I[D[i].fromF.toNat].part=part∧I[D[i].toF.toNat].part=part)) (fun j2 hj2=>aG (fun h=>hj2 _ ?_) (fun h=>hj2 _ ?_)) (fun z hz=> ?_)
   ·exact decide_eq_decide.2 ⟨fun h2=>⟨h,h2⟩,fun h2=>h2.2⟩
   ·exact(decide_eq_false (fun h2=>h h2.1)).symm
   ·subst hz
    have hdif:dif I part D[i]=if I[D[i].fromF.toNat].part=part∧I[D[i].toF.toNat].part=part then some (eY I[D[i].toF.toNat].point I[D[i].fromF.toNat].point) else none:=by
     unfold dif;rw [hfa,hfb]
    refine aG (fun h=> ?_) (fun h=>hj _ ?_)
    ·have hPP:PA=PB:=by
      rw [h.1] at pa1;rw [h.2] at pb1;rw [pa1] at pb1;cases pb1;rfl
     subst hPP
     refine aA (aC9 (by omega) (by omega) (by omega) pa5 pb5) (aA (aGQ hn (by omega) (fun y hy=>by have:=hall y hy;omega) (by unfold eY;rw [List.length_zipWith];omega)) (hj _ ?_))
     rw [hdif,if_pos h]
     dsimp only [Option.toList,List.foldl]
     refine⟨rfl,?_,fun y hy=> ?_⟩
     ·have:=R8 x3 (eY I[D[i].toF.toNat].point I[D[i].fromF.toNat].point)
      omega
     ·rcases aCK.1 hy with rfl|hy
      ·unfold eY;rw [List.length_zipWith];omega
      ·exact hall y hy
    ·rw [hdif,if_neg h]
     exact⟨rfl,by dsimp only;omega,hall⟩
  ·obtain⟨z1,z2,z3⟩:=hz
   rw [aK (by omega)]
   exact hr _ ⟨i+1,by dsimp only;omega,by omega,z1,z2,z3⟩ (by dsimp only;omega)
 ·have:i=D.length:=by omega
  subst this
  rw [hx,List.take_length]
theorem xY(x:List Int): ∀(y:List Int) (a:List (List Int)),b6 ((y::a)++[x])=if(y::a).getLast (by simp)=x then b6 (y::a) else b6 (y::a)++[x]
 |y,[]=>by
  by_cases h:y=x
  ·subst h;simp [b6]
  ·simp [b6,h]
 |y,z::a=>by
  have ih:=xY x z a
  rw [List.getLast_cons (by simp)]
  show b6 (y::z::(a++[x]))=_
  unfold b6
  by_cases h:y=z
  ·rw [if_pos h,if_pos h];exact ih
  ·rw [if_neg h,if_neg h]
   have ih':b6 (z::(a++[x]))=_:=ih
   rw [ih']
   split<;>simp
theorem mW{s:List (List Int)}{m:Nat}(hm:1≤m)(hl:m<s.length):b6 (s.take (m+1))=if s[m-1]=s[m] then b6 (s.take m) else b6 (s.take m)++[s[m]]:=by
 have e:s.take (m+1)=s.take m++[s[m]]:=by rw [List.take_add_one,List.getElem?_eq_getElem hl];rfl
 have hne:s.take m≠[]:=by
  intro h
  have:=congrArg List.length h
  rw [List.length_take,Nat.min_eq_left (by omega),List.length_nil] at this
  omega
 have hlast: ∀h,(s.take m).getLast h=s[m-1]:=fun h=>by
  rw [List.getLast_eq_getElem,List.getElem_take]
  congr 1
  rw [List.length_take];omega
 rw [e]
 obtain⟨y,a,hya⟩: ∃y a,s.take m=y::a:=by
  cases h:s.take m with
  |nil=>exact absurd h hne
  |cons y a=>exact⟨y,a,rfl⟩
 have hl2:=hlast hne
 simp only [hya] at hl2⊢
 rw [xY,hl2]
theorem aG9{α:Type}{l:List α}{o m:Nat}{j:Nat}{x:α}(h1:j<m)(h2:l[o+j]? =some x):ixv l o m (j:Int)=some x:=by
 unfold ixv
 rw [if_pos ⟨by omega,by omega⟩,Int.toNat_natCast];exact h2
theorem aDW{n:Nat}(hn:20000≤n){s:List (List Int)}(hs:s.length≤15000)(h1: ∀x∈s,x.length≤1000){f:List Int→List Int→Option Bool}(hf: ∀a b,a.length≤1000→f a b=some (decide (a=b))):
  Ev (dV n s f) (fun r=>r.2.take r.1=b6 s):=by
 unfold dV
 refine aG (fun h=>Ev.some ?_) (fun h=> ?_)
 ·dsimp only
  rw [List.take_length]
  match s,h with
  | [],_=>rfl
  | [x],_=>rfl
  |x::y::r,h=>simp at h;omega
 refine Ev.loop (fun x:Int=> ∃k:Nat,x=k∧1≤k∧k≤s.length∧b6 (s.take k)=s.take k) (fun x=>s.length-x.toNat) ?_ n _ ⟨1,rfl,by omega,by omega,?_⟩ (by omega)
 rotate_left
 ·cases s with
  |nil=>rfl
  |cons x s=>rfl
 rintro again z ⟨k,rfl,hk1,hk,hc⟩ hr
 refine aG (fun hlt=> ?_) (fun hge=>Ev.some ?_)
 rotate_left
 ·have:k=s.length:=by omega
  subst this
  dsimp only
  rw [List.take_length] at hc⊢
  exact hc.symm
 have hlt:k<s.length:=by omega
 have e1:=List.getElem?_eq_getElem hlt
 have e2:=List.getElem?_eq_getElem (show k-1<s.length by omega)
 rw [aK (n:=(k:Int)-1) (by omega),show(k:Int)-1=((k-1:Nat):Int) by omega]
 refine aA (aN e1) (aA (aN e2) (aA (hf _ _ (h1 _ (List.getElem_mem hlt))) (aG (fun heq=> ?_) (fun hne=> ?_))))
 rotate_left
 ·rw [aK (by omega)]
  refine hr _ ⟨k+1,by omega,by omega,by omega,?_⟩ (by omega)
  rw [mW hk1 hlt,if_neg (fun e=>hne e.symm),hc,List.take_add_one,e1];rfl
 -- the first double
 clear hr
 rw [Int.toNat_natCast]
 refine Ev.loop (fun x:(List (List Int)×Int)×Int=> ∃i j:Nat,x.2=j∧x.1.2=i∧1≤j∧k+j≤s.length∧x.1.1.length=s.length∧i+1≤k+j∧x.1.1.take i=b6 (s.take (k+j))∧ ∀t,i≤t→x.1.1[t]? =s[t]?) (fun x=>s.length-x.2.toNat) ?_ n _ ⟨k,1,rfl,rfl,by omega,by omega,rfl,by omega,?_,fun _ _=>rfl⟩ (by dsimp only;omega)
 rotate_left
 ·dsimp only
  rw [mW hk1 hlt,if_pos heq.symm,hc]
 rintro again2 ⟨⟨l,iz⟩,jz⟩ ⟨i,j,hj,hi,hj1,hkj,hll,hij,htk,hrest⟩ hr
 dsimp only at hj hi hll htk hrest⊢
 subst hj;subst hi
 refine aG (fun hlt2=> ?_) (fun hge=> ?_)
 ·have hlt2:k+j<s.length:=by omega
  have a1:l[k+j]? =some s[k+j]:=by rw [hrest _ (by omega),List.getElem?_eq_getElem hlt2]
  have a2:l[k+(j-1)]? =some (s[k+j-1]'(by omega)):=by rw [hrest _ (by omega),show k+(j-1)=k+j-1 by omega,List.getElem?_eq_getElem (by omega)]
  rw [aK (n:=(j:Int)-1) (by omega),show(j:Int)-1=((j-1:Nat):Int) by omega]
  refine aA (aG9 (by omega) a1) (aA (aG9 (by omega) a2) (aA (hf _ _ (h1 _ (List.getElem_mem hlt2))) (dP (fun hne=> ?_) (fun heq2=> ?_))))
  ·obtain⟨y4,hy4⟩: ∃y,l[i]? =some y:=⟨_,List.getElem?_eq_getElem (by omega)⟩
   refine aA (aN hy4) (aA (eM (by omega) _) ?_)
   rw [Int.toNat_natCast,aK (by omega),aK (by omega)]
   refine hr _ ⟨i+1,j+1,by dsimp only;omega,by dsimp only;omega,by omega,by omega,by dsimp only;rw [List.length_set];exact hll,by omega,?_,fun t ht=> ?_⟩ (by dsimp only;omega)
   ·dsimp only
    rw [show k+(j+1)=(k+j)+1 by omega,mW (by omega) hlt2,if_neg (fun e=>hne e.symm),←htk,List.take_add_one,List.getElem?_set_self (by omega),List.take_set_of_le (Nat.le_refl _)];rfl
   ·dsimp only
    rw [List.getElem?_set_ne (by omega)]
    exact hrest t (by omega)
  ·rw [aK (by omega)]
   refine hr _ ⟨i,j+1,by dsimp only;omega,rfl,by omega,by omega,hll,by omega,?_,hrest⟩ (by dsimp only;omega)
   dsimp only
   rw [show k+(j+1)=(k+j)+1 by omega,mW (by omega) hlt2,if_pos heq2.symm]
   exact htk
 ·have hkj2:k+j=s.length:=by omega
  rw [hkj2,List.take_length] at htk
  rw [decide_eq_true (show(0:Int)≤(i:Int) by omega),decide_eq_true (show(i:Int)<(l.length:Int) by omega)]
  refine bW (bW (Ev.some ?_))
  dsimp only
  rw [Int.toNat_natCast,List.take_append_of_le_length (by rw [List.length_take];omega),List.take_of_length_le (by rw [List.length_take];omega)]
  exact htk
theorem aDC{n:Nat}(hn:20000≤n){p:Prog}(hv:bQ p=true)(part:Int):eC n (trc p) part=some ((jA p part).foldl fN []):=by
 have hil:=(fV hv).2.2.2.2
 unfold eC
 refine Ev.eq (aA (aFO (by omega) hv) ?_)
 rw [show(trc p).list=insts p.parts from rfl]
 have hok: ∀x∈insts p.parts,iO p x:=fun x hx=>insts_mem hx
 have hD:=xV (p:=p) hil
 have hb:=aH2 (p:=p) (l:=insts p.parts)
 unfold jA
 generalize iB p (insts p.parts) (insts p.parts).length=D at*
 generalize insts p.parts=I at*
 have hpt: ∀x∈I,x.point.length≤4:=fun x hx=>(inst_pt hv (hok x hx)).choose_spec.2.2.2.1
 refine Ev.loop (fun x:List (List Int)×Int=> ∃i:Nat,x.2=i∧i≤D.length∧x.1=(D.take i).filterMap (dif I part)) (fun x=>D.length-x.2.toNat) ?_ n _ ⟨0,rfl,by omega,by simp⟩ (by dsimp only;omega)
 rintro again ⟨x3,k⟩ ⟨i,hk,hi,hx⟩ hr
 dsimp only at hk hx⊢
 subst hk
 have hlen:x3.length≤i:=by
  rw [hx]
  refine Nat.le_trans (List.length_filterMap_le _ _) ?_
  rw [List.length_take];omega
 refine aG (fun hlt=> ?_) (fun hge=> ?_)
 ·have hlt:i<D.length:=by omega
  have e1:=List.getElem?_eq_getElem hlt
  obtain⟨d1,d2,d3⟩:=hb _ (List.getElem_mem hlt)
  have ea:=aEV (l:=I) (c:=D[i].fromF) d1 (by omega)
  have eb:=aEV (l:=I) (c:=D[i].toF) (by omega) (by omega)
  have ha:=List.getElem_mem (show D[i].fromF.toNat<I.length by omega)
  have hbm:=List.getElem_mem (show D[i].toF.toNat<I.length by omega)
  have hfa:I[D[i].fromF.toNat]? =some I[D[i].fromF.toNat]:=List.getElem?_eq_getElem _
  have hfb:I[D[i].toF.toNat]? =some I[D[i].toF.toNat]:=List.getElem?_eq_getElem _
  obtain⟨PA,pa1,pa2,pa3,pa4,pa5⟩:=inst_pt hv (hok _ ha)
  obtain⟨PB,pb1,pb2,pb3,pb4,pb5⟩:=inst_pt hv (hok _ hbm)
  have hdif:dif I part D[i]=if I[D[i].fromF.toNat].part=part∧I[D[i].toF.toNat].part=part then some (eY I[D[i].toF.toNat].point I[D[i].fromF.toNat].point) else none:=by
   unfold dif;rw [hfa,hfb]
  refine Ev.jn (fun z=>z.1=(D.take (i+1)).filterMap (dif I part)) (fun j hj=>aA (aN e1) (aA ea (aA eb ?_))) (fun z hz=> ?_)
  ·rw [tM e1,←hx] at hj
   refine Ev.jn (fun z:Bool=>z= !decide (I[D[i].fromF.toNat].part=part∧I[D[i].toF.toNat].part=part)) (fun j2 hj2=>dP (fun h=>hj2 _ ?_) (fun h=>hj2 _ ?_)) (fun z hz=> ?_)
   ·rw [decide_eq_false (fun h2=>h h2.1)];rfl
   ·congr 1
    exact decide_eq_decide.2 ⟨fun h2=>⟨h,h2⟩,fun h2=>h2.2⟩
   ·subst hz
    refine dP (fun h=>hj _ ?_) (fun h=> ?_)
    ·rw [hdif,if_neg h];simp
    ·have hPP:PA=PB:=by
      rw [h.1] at pa1;rw [h.2] at pb1;rw [pa1] at pb1;cases pb1;rfl
     subst hPP
     refine aBN (K:=fun x12=>Option.bind (app x3 [x12]) fun x19=>j (x19,D[i].fromF,D[i].toF,D[i].kinds,I[D[i].fromF.toNat].part,I[D[i].fromF.toNat].stmt,I[D[i].fromF.toNat].point,I[D[i].toF.toNat].part,I[D[i].toF.toNat].stmt,I[D[i].toF.toNat].point)) (by omega) (by omega) (by omega) pa5 pb5 ?_
     refine aA (bM (by simp;omega)) (hj _ ?_)
     rw [hdif,if_pos h];rfl
  ·rw [aK (by omega)]
   exact hr _ ⟨i+1,by dsimp only;omega,by omega,hz⟩ (by dsimp only;omega)
 ·have:i=D.length:=by omega
  subst this
  rw [List.take_length] at hx
  subst hx
  have hall: ∀y∈D.filterMap (dif I part),y.length≤4:=fun y hy=>by
   obtain⟨d,_,hd⟩:=List.mem_filterMap.1 hy
   exact aE7 hpt hd
  have hsl:(jR (D.filterMap (dif I part))).length≤15000:=by unfold jR;rw [List.length_mergeSort];omega
  refine aA (x:=jR (D.filterMap (dif I part))) (by unfold m_sortL;rw [if_pos ⟨by omega,fun y hy=>by have:=hall y hy;omega⟩]) (aI (aDW hn hsl (fun y hy=>by
   have:=hall y (by unfold jR at hy;exact List.mem_mergeSort.1 hy)
   omega) (fun a b ha=>M3 (by omega) (by omega))) (fun r hr2=>Ev.some ?_))
  rw [hr2]
  exact aJt _
def E7(d:List Int):Option Nat:=d.findIdx? (fun x=> !decide (x=0))
def aAC(d:List Int):Int:=match E7 d with
 |some i=>(i:Int)
 |none=> -1
theorem aDA{n:Nat}{d:List Int}(hd:d.length≤1000)(hn:1000<n):kS n d=some (aAC d):=by
 unfold kS
 refine Ev.eq (aA (x:=aAC d) ?_ (Ev.some rfl))
 unfold eJ
 refine Ev.eq (Ev.loop (fun x:Int=> ∃i:Nat,x=i∧i≤d.length∧ ∀j,j<i→d.getD j 0=0) (fun x=>d.length-x.toNat) ?_ n _ ⟨0,rfl,by omega,fun j hj=>absurd hj (Nat.not_lt_zero _)⟩ (by omega))
 rintro again z ⟨i,rfl,hi,h0⟩ hr
 have hz: ∀j (hj:j<d.length),j<i→d[j]=0:=fun j hj hji=>by
  have:=h0 j hji
  rwa [List.getD_eq_getElem?_getD,List.getElem?_eq_getElem hj] at this
 refine aG (fun hlt=> ?_) (fun hge=>Ev.some ?_)
 ·have hlt:i<d.length:=by omega
  have e1:=List.getElem?_eq_getElem hlt
  refine aA (aN e1) (aA (x:= !decide (d[i]=0)) rfl (dP (fun hne=>Ev.some ?_) (fun he=> ?_)))
  ·have:E7 d=some i:=by
    unfold E7
    rw [List.findIdx?_eq_some_iff_getElem]
    exact⟨hlt,by simp [hne],fun j hj=>by simp [hz j (by omega) hj]⟩
   unfold aAC;rw [this]
  ·rw [aK (by omega)]
   refine hr _ ⟨i+1,by omega,by omega,fun j hj=> ?_⟩ (by omega)
   by_cases hji:j=i
   ·subst hji
    rw [List.getD_eq_getElem?_getD,e1];exact he
   ·exact h0 j (by omega)
 ·have:E7 d=none:=by
   unfold E7
   rw [List.findIdx?_eq_none_iff]
   intro x hx
   obtain⟨j,hj⟩:=List.mem_iff_getElem?.1 hx
   obtain⟨hjl,rfl⟩:=List.getElem?_eq_some_iff.1 hj
   simp [hz j hjl (by omega)]
  unfold aAC;rw [this]
def P5(l:List Bool)(d:List Int):List Bool:=match E7 d with
 |some i=>l.set i true
 |none=>l
def pZ(m:Nat)(ds:List (List Int)):List Bool:=ds.foldl P5 (List.replicate m false)
theorem yC(l:List Bool)(d:List Int):(P5 l d).length=l.length:=by
 unfold P5
 split<;>simp
theorem aDZ{n:Nat}(hn:20000≤n){p:Prog}(hv:bQ p=true){i:Nat}{P:Part}(hP:p.parts[i]? =some P):fG n (trc p) (i:Int)=some (pZ P.nest.length ((jA p i).foldl fN [])):=by
 obtain⟨_,_,_,hpo,hil⟩:=fV hv
 have h4:=(mO (hpo P (List.mem_of_getElem? hP))).1
 unfold fG
 refine Ev.eq (aA (aN (show(trc p).program.parts[i]? =some P from hP)) (aA (x:=List.replicate P.nest.length false) (by unfold mk;rw [if_pos ⟨by omega,by omega⟩,Int.toNat_natCast]) (aA (aDC hn hv _) ?_)))
 have hds: ∀d∈(jA p i).foldl fN [],d.length=P.nest.length:=fun d hd=>by
  have h:=(q5 (jA p i) [] List.Pairwise.nil).2 d
  rcases h.1 hd with h|h
  ·cases h
  ·obtain⟨x,_,hx⟩:=List.mem_filterMap.1 h
   unfold dif at hx
   split at hx
   ·rename_i a b ha hb
    split at hx
    ·rename_i hab
     cases hx
     obtain⟨PA,a1,a2,a3,a4,a5⟩:=inst_pt hv (insts_mem (List.mem_of_getElem? ha))
     obtain⟨PB,b1,b2,b3,b4,b5⟩:=inst_pt hv (insts_mem (List.mem_of_getElem? hb))
     rw [hab.1,Int.toNat_natCast,hP] at a1
     rw [hab.2,Int.toNat_natCast,hP] at b1
     cases a1;cases b1
     unfold eY
     rw [List.length_zipWith];omega
    ·cases hx
   ·cases hx
 have hlen:((jA p i).foldl fN []).length≤15000:=by
  have key: ∀(ds l:List (List Int)),(ds.foldl fN l).length≤l.length+ds.length:=fun ds=>by
   induction ds with
   |nil=>intro l;simp
   |cons d ds ih=>
    intro l
    rw [List.foldl_cons]
    have:=ih (fN l d)
    have:=R8 l d
    rw [List.length_cons];omega
  have h1:=key (jA p i) []
  have h2:(jA p i).length≤15000:=Nat.le_trans (List.length_filterMap_le _ _) (xV hil)
  simp at h1;omega
 generalize (jA p i).foldl fN []=ds at*
 refine Ev.loop (fun x:List Bool×Int=> ∃t:Nat,x.2=t∧t≤ds.length∧x.1=pZ P.nest.length (ds.take t)∧x.1.length=P.nest.length) (fun x=>ds.length-x.2.toNat) ?_ n _ ⟨0,rfl,by omega,by simp [pZ],by simp⟩ (by dsimp only;omega)
 rintro again ⟨l,k⟩ ⟨t,hk,ht,hl,hll⟩ hr
 dsimp only at hk hl hll⊢
 subst hk
 refine aG (fun hlt=> ?_) (fun hge=>Ev.some ?_)
 ·have hlt:t<ds.length:=by omega
  have e1:=List.getElem?_eq_getElem hlt
  have hdl:=hds _ (List.getElem_mem hlt)
  have hstep:pZ P.nest.length (ds.take (t+1))=P5 l ds[t]:=by
   rw [hl]
   unfold pZ
   rw [List.take_add_one,e1,List.foldl_append];rfl
  refine Ev.jn (fun z=>z=pZ P.nest.length (ds.take (t+1))) (fun j hj=>aA (aN e1) (aA (aDA (by omega) (by omega)) ?_)) (fun z hz=> ?_)
  ·rw [hstep] at hj
   unfold P5 aAC at*
   cases hv2:E7 ds[t] with
   |none=>
    rw [hv2] at hj
    exact aG (fun h=>absurd h (by dsimp only;omega)) (fun _=>hj _ rfl)
   |some a=>
    rw [hv2] at hj
    have ha:a<l.length:=by
     unfold E7 at hv2
     obtain⟨h1,_⟩:=List.findIdx?_eq_some_iff_getElem.1 hv2
     omega
    refine aG (fun _=> ?_) (fun h=>absurd (show(0:Int)≤(a:Int) by omega) h)
    refine aA (aN (List.getElem?_eq_getElem ha)) (aA (eM (by dsimp only;omega) _) (hj _ ?_))
    dsimp only
    rw [Int.toNat_natCast]
  ·subst hz
   rw [aK (by omega)]
   exact hr _ ⟨t+1,by dsimp only;omega,by omega,rfl,by dsimp only;rw [hstep,yC,hll]⟩ (by dsimp only;omega)
 ·have:t=ds.length:=by omega
  subst this
  rw [hl,List.take_length]
theorem aKC{p q:Prog}{l:List Inst}{σ:Inst→Inst}(h: ∀x∈l,rc q (σ x)=rc p x∧wc q (σ x)=wc p x)(i k:Nat):kd q (l.map σ) i k=kd p l i k:=by
 unfold kd
 rw [List.getElem?_map,List.getElem?_map]
 cases hi:l[i]? with
 |none=>rfl
 |some a=>
  cases hk:l[k]? with
  |none=>rfl
  |some b=>
   obtain⟨a1,a2⟩:=h a (List.mem_of_getElem? hi)
   obtain⟨b1,b2⟩:=h b (List.mem_of_getElem? hk)
   show pP q (σ a) (σ b)=pP p a b
   unfold pP
   rw [a1,a2,b1,b2]
theorem aH1{p q:Prog}{l:List Inst}{σ:Inst→Inst}(h: ∀x∈l,rc q (σ x)=rc p x∧wc q (σ x)=wc p x)(n:Nat):iB q (l.map σ) n=iB p l n:=by
 unfold iB jO
 simp only [aKC h,List.length_map]
theorem aB4(l:List Bool):(mU l).length≤l.length:=by
 unfold mU
 rw [List.length_map]
 refine Nat.le_trans (List.length_filter_le _ _) ?_
 rw [List.length_range];exact Nat.le_refl _
theorem aB2: ∀(ds l:List (List Int)),(ds.foldl fN l).length≤l.length+ds.length
 | [],l=>by simp
 |d::ds,l=>by
  rw [List.foldl_cons]
  have:=aB2 ds (fN l d)
  have:=R8 l d
  rw [List.length_cons];omega
theorem aK0{p:Prog}(hv:bQ p=true)(part:Int):((jA p part).foldl fN []).length≤15000∧ ∀x∈(jA p part).foldl fN [],x.length≤1000:=by
 have hil:=(fV hv).2.2.2.2
 refine⟨?_,fun x hx=> ?_⟩
 ·have h1:=aB2 (jA p part) []
  have h2:(jA p part).length≤15000:=Nat.le_trans (List.length_filterMap_le _ _) (xV hil)
  simp at h1;omega
 ·rcases((q5 (jA p part) [] List.Pairwise.nil).2 x).1 hx with h|h
  ·cases h
  ·obtain⟨d,_,hd⟩:=List.mem_filterMap.1 h
   have:=aE7 (fun y hy=>(inst_pt hv (insts_mem hy)).choose_spec.2.2.2.1) hd
   omega
theorem tP(m:Nat)(ds:List (List Int)):(pZ m ds).length=m:=by
 unfold pZ
 have key: ∀(ds:List (List Int)) (l:List Bool),(ds.foldl P5 l).length=l.length:=fun ds=>by
  induction ds with
  |nil=>intro l;rfl
  |cons d ds ih=>intro l;rw [List.foldl_cons,ih,yC]
 rw [key];simp
theorem G6{d:List Int}{k:Nat}:E7 d=some k↔d.getD k 0≠0∧ ∀j,j<k→d.getD j 0=0:=by
 unfold E7
 rw [List.findIdx?_eq_some_iff_getElem]
 constructor
 ·rintro⟨h,h1,h2⟩
  refine⟨?_,fun j hj=> ?_⟩
  ·rw [List.getD_eq_getElem?_getD,List.getElem?_eq_getElem h]
   simpa using h1
  ·have:=h2 j hj
   rw [List.getD_eq_getElem?_getD,List.getElem?_eq_getElem (by omega)]
   simpa using this
 ·rintro⟨h1,h2⟩
  have hk:k<d.length:=by
   apply Nat.lt_of_not_le
   intro hle
   rw [List.getD_eq_getElem?_getD,List.getElem?_eq_none hle] at h1
   exact h1 rfl
  refine⟨hk,?_,fun j hj=> ?_⟩
  ·rw [List.getD_eq_getElem?_getD,List.getElem?_eq_getElem hk] at h1
   simpa using h1
  ·have:=h2 j hj
   rw [List.getD_eq_getElem?_getD,List.getElem?_eq_getElem (by omega)] at this
   simpa using this
theorem aCj{k:Nat}: ∀(ds:List (List Int)) (l:List Bool),k<l.length→(ds.foldl P5 l).getD k false=(l.getD k false||ds.any (fun d=>decide (E7 d=some k)))
 | [],l,h=>by simp
 |d::ds,l,h=>by
  rw [List.foldl_cons,aCj ds (P5 l d) (by rw [yC];exact h),List.any_cons]
  unfold P5
  cases hv:E7 d with
  |none=>simp
  |some a=>
   simp only [List.getD_eq_getElem?_getD,List.getElem?_set]
   by_cases ha:a=k
   ·subst ha
    simp [h]
   ·simp [ha]
theorem aFd{m k:Nat}(h:k<m)(ds:List (List Int)):(pZ m ds).getD k false=ds.any (fun d=>decide (E7 d=some k)):=by
 unfold pZ
 rw [aCj ds _ (by simpa using h)]
 simp [List.getD_eq_getElem?_getD,h]
theorem aBO{l:List Bool}{k:Nat}:((k:Int)∈mU l)↔l.getD k false=true:=by
 unfold mU
 simp only [List.mem_map,List.mem_filter,List.mem_range]
 constructor
 ·rintro⟨a,⟨h1,h2⟩,h3⟩
  obtain rfl:a=k:=by omega
  exact h2
 ·intro h
  refine⟨k,⟨?_,h⟩,rfl⟩
  apply Nat.lt_of_not_le
  intro hle
  rw [List.getD_eq_getElem?_getD,List.getElem?_eq_none hle] at h
  cases h
theorem aC8{n:Nat}{d:List Int}(hd:d.length≤1000)(hn:1000<n):kG n d=some (aAC d):=by
 unfold kG
 refine Ev.eq (Ev.loop (fun x:Int=> ∃i:Nat,x=i∧i≤d.length∧ ∀j,j<i→d.getD j 0=0) (fun x=>d.length-x.toNat) ?_ n _ ⟨0,rfl,by omega,fun j hj=>absurd hj (Nat.not_lt_zero _)⟩ (by omega))
 rintro again z ⟨i,rfl,hi,h0⟩ hr
 refine aG (fun hlt=> ?_) (fun hge=>Ev.some ?_)
 ·have hlt:i<d.length:=by omega
  have e1:=List.getElem?_eq_getElem hlt
  have eg:d.getD i 0=d[i]:=by rw [List.getD_eq_getElem?_getD,e1];rfl
  refine aA (aN e1) (dP (fun hne=>Ev.some ?_) (fun he=> ?_))
  ·have:E7 d=some i:=G6.2 ⟨by rw [eg];exact hne,h0⟩
   unfold aAC;rw [this]
  ·rw [aK (by omega)]
   refine hr _ ⟨i+1,by omega,by omega,fun j hj=> ?_⟩ (by omega)
   by_cases hji:j=i
   ·subst hji;rw [eg];exact he
   ·exact h0 j (by omega)
 ·have:E7 d=none:=by
   cases hv:E7 d with
   |none=>rfl
   |some k=>
    obtain⟨h1,_⟩:=G6.1 hv
    by_cases hk:k<d.length
    ·exact absurd (h0 k (by omega)) h1
    ·rw [List.getD_eq_getElem?_getD,List.getElem?_eq_none (by omega)] at h1
     exact absurd rfl h1
  unfold aAC;rw [this]
theorem aH0{p:Prog}(hv:bQ p=true){i:Nat}{P:Part}(hP:p.parts[i]? =some P): ∀d∈(jA p i).foldl fN [],d.length=P.nest.length:=fun d hd=>by
 rcases((q5 (jA p i) [] List.Pairwise.nil).2 d).1 hd with h|h
 ·cases h
 ·obtain⟨x,_,hx⟩:=List.mem_filterMap.1 h
  unfold dif at hx
  split at hx
  ·rename_i a b ha hb
   split at hx
   ·rename_i hab
    cases hx
    obtain⟨PA,a1,a2,a3,a4,a5⟩:=inst_pt hv (insts_mem (List.mem_of_getElem? ha))
    obtain⟨PB,b1,b2,b3,b4,b5⟩:=inst_pt hv (insts_mem (List.mem_of_getElem? hb))
    rw [hab.1,Int.toNat_natCast,hP] at a1
    rw [hab.2,Int.toNat_natCast,hP] at b1
    cases a1;cases b1
    unfold eY
    rw [List.length_zipWith];omega
   ·cases hx
  ·cases hx
def zF(p:Prog)(i k:Nat):Bool:= !((jA p i).foldl fN []).any (fun d=>decide (E7 d=some k))
theorem aFK{n:Nat}{p:Prog}(hp:SmP p)(hv:bQ p=true)(part loop:Int):cP n p part loop=some (eH p part loop):=by
 unfold cP
 refine Ev.eq (Ev.jn (fun z=>z=eH p part loop) (fun j hj=> ?_) (fun z hz=>Ev.some hz))
 refine aA (uK n hp.2.1 part) ?_
 by_cases hi:0≤part∧part<(p.parts.length:Int)
 ·obtain⟨x,hx,hx2⟩:=gW hi.1 hi.2
  rw [decide_eq_true hi]
  have h4:=(mO ((fV hv).2.2.2.1 x (List.mem_of_getElem? hx2))).1
  refine bW (aA hx (aA (dN n _ _ _) (hj _ ?_)))
  unfold eH
  rw [hv,hx,aK (by omega)]
  exact decide_eq_decide.2 (by omega)
 ·rw [decide_eq_false hi]
  refine bT (hj _ ?_)
  unfold eH
  rw [hv,aEU hi];rfl
theorem aAK{n:Nat}(hn:20000≤n){p:Prog}(hp:SmP p)(part loop:Int):eD n p part loop=some (eH p part loop&&zF p part.toNat loop.toNat):=by
 unfold eD
 refine Ev.eq (aA (aDz (by omega) hp) ?_)
 by_cases hv:bQ p=true
 ·rw [if_pos hv]
  refine bW (Ev.jn (fun z=>z=(eH p part loop&&zF p part.toNat loop.toNat)) (fun j hj=>bW (aA (aFK hp hv part loop) ?_)) (fun z hz=>Ev.some hz))
  by_cases hc:eH p part loop=true
  ·obtain⟨_,i,k,P,l,rfl,rfl,hP,hl,hi,hkl,hok,hk⟩:=zU hc
   rw [hc] at hj⊢
   refine bW (aA (aDZ hn hv hP) (aA (aN (List.getElem?_eq_getElem (show k<_ by rw [tP];exact hkl))) (hj _ ?_)))
   have:=aFd hkl ((jA p i).foldl fN [])
   rw [List.getD_eq_getElem?_getD,List.getElem?_eq_getElem (by rw [tP];exact hkl)] at this
   unfold zF
   rw [Int.toNat_natCast,Int.toNat_natCast,←this];rfl
  ·have hc':eH p part loop=false:=by simpa using hc
   rw [hc'] at hj⊢
   exact bT (hj _ rfl)
 ·rw [if_neg hv]
  refine bT (Ev.jn (fun _=>True) (fun j hj=>bT (hj _ trivial)) (fun z hz=>Ev.some ?_))
  unfold eH
  rw [show bQ p=false by simpa using hv];rfl
theorem aEC{n:Nat}(hn:20000≤n){p:Prog}(hp:BG 1000 p)(part loop:Int):fB n p part loop=some (eH p part loop&&zF p part.toNat loop.toNat):=by
 unfold fB
 refine Ev.eq (Ev.jn (fun z=>z=(eH p part loop&&zF p part.toNat loop.toNat)) (fun j hj=>aA (aKP (by omega) hp part loop) ?_) (fun z hz=>Ev.some hz))
 by_cases hc:eH p part loop=true
 ·obtain⟨hv,i,k,P,l,rfl,rfl,hP,hl,hi,hkl,hok,hk⟩:=zU hc
  rw [hc] at hj⊢
  have h4:=(mO hok).1
  obtain⟨b1,b2⟩:=aK0 hv (i:Int)
  have hds:=aH0 hv hP
  have hD:l6 n p (i:Int)=some ((jA p i).foldl fN []):=by
   unfold l6
   refine Ev.eq (aA (kE (by omega) hp.sm) ?_)
   rw [hv]
   exact bT (aA (aDa hn hp.sm hv _) (Ev.some rfl))
  refine bW (aA (x:=mU (pZ 4 ((jA p i).foldl fN []))) ?_ ?_)
  ·unfold jE
   refine Ev.eq (aA (x:=List.replicate 4 false) rfl (aA hD ?_))
   generalize (jA p i).foldl fN []=ds at*
   refine Ev.loop (fun x:List Bool×Int=> ∃t:Nat,x.2=t∧t≤ds.length∧x.1=pZ 4 (ds.take t)∧x.1.length=4) (fun x=>ds.length-x.2.toNat) ?_ n _ ⟨0,rfl,by omega,by simp [pZ],by simp⟩ (by dsimp only;omega)
   rintro again ⟨l,kk⟩ ⟨t,hkk,ht,hl2,hll⟩ hr
   dsimp only at hkk hl2 hll⊢
   subst hkk
   refine aG (fun hlt=> ?_) (fun hge=> ?_)
   ·have hlt:t<ds.length:=by omega
    have e1:=List.getElem?_eq_getElem hlt
    have hdl:=hds _ (List.getElem_mem hlt)
    have hstep:pZ 4 (ds.take (t+1))=P5 l ds[t]:=by
     rw [hl2]
     unfold pZ
     rw [List.take_add_one,e1,List.foldl_append];rfl
    refine Ev.jn (fun z=>z=pZ 4 (ds.take (t+1))) (fun j hj=>aA (aN e1) (aA (aC8 (by omega) (by omega)) ?_)) (fun z hz=> ?_)
    ·rw [hstep] at hj
     unfold P5 aAC at*
     cases hv2:E7 ds[t] with
     |none=>
      rw [hv2] at hj
      exact aG (fun h=>absurd h (by dsimp only;omega)) (fun _=>hj _ rfl)
     |some a=>
      rw [hv2] at hj
      have ha:a<l.length:=by
       unfold E7 at hv2
       obtain⟨h1,_⟩:=List.findIdx?_eq_some_iff_getElem.1 hv2
       omega
      refine aG (fun _=> ?_) (fun h=>absurd (show(0:Int)≤(a:Int) by omega) h)
      refine aA (aN (List.getElem?_eq_getElem ha)) (aA (eM (by dsimp only;omega) _) (hj _ ?_))
      dsimp only
      rw [Int.toNat_natCast]
    ·subst hz
     rw [aK (by omega)]
     exact hr _ ⟨t+1,by dsimp only;omega,by omega,rfl,by dsimp only;rw [hstep,yC,hll]⟩ (by dsimp only;omega)
   ·have:t=ds.length:=by omega
    subst this
    rw [hl2,List.take_length]
    exact aA (aAq (by rw [tP];omega) (by rw [tP];omega)) (Ev.some rfl)
  ·have hfl:=aB4 (pZ 4 ((jA p i).foldl fN []))
   rw [tP] at hfl
   refine aA (J4 (by omega) (by omega) _) (hj _ ?_)
   have key:decide ((k:Int)∈mU (pZ 4 ((jA p i).foldl fN [])))=((jA p i).foldl fN []).any (fun d=>decide (E7 d=some k)):=by
    rw [←aFd (show k<4 by omega)]
    by_cases hm:(k:Int)∈mU (pZ 4 ((jA p i).foldl fN []))
    ·rw [decide_eq_true hm,aBO.1 hm]
    ·rw [decide_eq_false hm]
     cases hg:(pZ 4 ((jA p i).foldl fN [])).getD k false with
     |false=>rfl
     |true=>exact absurd (aBO.2 hg) hm
   rw [key]
   unfold zF
   rw [Int.toNat_natCast,Int.toNat_natCast,Bool.true_and]
 ·have hc':eH p part loop=false:=by simpa using hc
  rw [hc'] at hj⊢
  exact bT (hj _ rfl)
end Go.Lift
