/- A part that is not live is dropped. -/
import Derived.Test.YtdcjmccimcppbaaGreatCTran1
import Derived.Test.YtdcjmccimcppbaaGreatCDrawD
import Derived.Test.YtdcjmccimcppbaaGreatCRun1
set_option maxRecDepth 100000
set_option linter.unusedVariables false
namespace Go.Lift
open Go
theorem aAT{p:Prog}(hv:bI p=true){l:List Inst}(hl: ∀x∈l,dF p x)(m:List Int){F:List Bool}(hF: ∀i,(gI p l).getD i false=true→F.getD i false=true): ∀k,k≤l.length→ ∀c,aJj p l k c→(b7 p m (l.take k)).getD c 0=(b7 p m (pick l (kK F k))).getD c 0
 |0,_,c,_=>rfl
 |k+1,hk,c,hn=>by
  have ih:=aAT hv hl m hF k (by omega)
  obtain⟨x,hg⟩: ∃x,l[k]? =some x:=⟨_,List.getElem?_eq_getElem (show k<l.length by omega)⟩
  have hx:=hl _ (List.mem_of_getElem? hg)
  have hset:=(inst_c hv hx).2.2.2
  have hw:=lQ (p:=p) hg
  have hr:=s5 (p:=p) hg
  have hlen: ∀q:List Inst,(∀y∈q,dF p y)→(b7 p m q).length=m.length:=fun q h=>B7 hv h
  have l1: ∀y∈l.take k,dF p y:=fun y hy=>hl y (List.mem_of_mem_take hy)
  have l2: ∀y∈pick l (kK F k),dF p y:=fun y hy=>hl y (aAO hy)
  have need: ∀e:Nat,P6 p l k≠(e:Int)→aJj p l (k+1) e→aJj p l k e:=fun e hne hn=>by
   rcases hn with ⟨j,h1,h2,h3,h4,h5⟩|h
   ·exact .inl ⟨j,by omega,h2,h3,h4,fun t a b=>by
     by_cases et:t=k
     ·rw [et];exact hne
     ·exact h5 t (by omega) b⟩
   ·exact .inr (fun t a b=>by
     by_cases et:t=k
     ·rw [et];exact hne
     ·exact h t (by omega) b)
  rw [fE hg,oE,hset,uJ]
  cases hf:(gI p l).getD k false with
  |true=>
   rw [if_pos (hF k hf),yI (x:=x) (by rw [Int.toNat_natCast];exact hg),oE,hset,nS,nS,hlen _ l1,hlen _ l2]
   rw [aG1 hv hx (m':=b7 p m (pick l (kK F k))) (fun d hd=>ih _ (.inl ⟨k,Nat.le_refl _,by omega,hf,by
    have:=(inst_c hv hx).2.1 d hd
    rw [hr,Int.toNat_of_nonneg this.1];exact hd,fun t h1 h2=>by omega⟩))]
   by_cases e:wc p x=c∧wc p x<m.length
   ·rw [if_pos e,if_pos e]
   ·rw [if_neg e,if_neg e]
    by_cases e2:wc p x=c
    ·have h1: ∀z:List Int,z.length=m.length→z.getD c 0=0:=fun z hz=>by
      rw [List.getD_eq_getElem?_getD,List.getElem?_eq_none (by omega)];rfl
     rw [h1 _ (hlen _ l1),h1 _ (hlen _ l2)]
    ·exact ih c (need c (by rw [hw];omega) hn)
  |false=>
   have hne:P6 p l k≠(c:Int):=by
    intro e
    have hlive:(gI p l).getD k false=true:=by
     rw [aFF (by omega)]
     rcases hn with ⟨j,h1,h2,h3,h4,h5⟩|h
     ·exact .inr ⟨j,h2,h3,aAU.2 ⟨(c:Int),h4,aDq e (by omega) (fun t a b=>h5 t (by omega) b)⟩⟩
     ·exact .inl ((aEc (by omega)).2 (fun t a b=>by rw [e];exact h t (by omega) b))
    rw [hf] at hlive;cases hlive
   rw [nS,if_neg (by rintro⟨e,_⟩;exact hne (by rw [hw];omega))]
   have hi:=ih c (need c hne hn)
   by_cases hFk:F.getD k false=true
   ·rw [if_pos hFk,yI (x:=x) (by rw [Int.toNat_natCast];exact hg),oE,hset,nS,if_neg (by rintro⟨e,_⟩;exact hne (by rw [hw];omega))]
    exact hi
   ·rw [if_neg hFk,List.append_nil]
    exact hi
theorem aEb{p:Prog}(hv:bI p=true){l:List Inst}(hl: ∀x∈l,dF p x)(m:List Int){F:List Bool}(hlen:F.length=l.length)(hF: ∀i,(gI p l).getD i false=true→F.getD i false=true):b7 p m (pick l (iL F))=b7 p m l:=by
 have h:=aAT hv hl m hF l.length (Nat.le_refl _)
 rw [List.take_length] at h
 have e:kK F l.length=iL F:=by rw [←xC,hlen]
 rw [e] at h
 refine(aFG (by rw [B7 hv hl,B7 hv (fun y hy=>hl y (aAO hy))]) (fun c _=>h c (.inr (fun t a b=>by omega)))).symm
theorem aAP(f:Inst→Bool): ∀(l:List Inst),pick l (iL (l.map f))=l.filter f:=by
 intro l
 have key: ∀k,k≤l.length→pick l (kK (l.map f) k)=(l.take k).filter f:=by
  intro k
  induction k with
  |zero=>intro _;rfl
  |succ k ih=>
   intro hk
   obtain⟨x,hg⟩: ∃x,l[k]? =some x:=⟨_,List.getElem?_eq_getElem (show k<l.length by omega)⟩
   have hm:(l.map f).getD k false=f x:=by rw [List.getD_eq_getElem?_getD,List.getElem?_map,hg];rfl
   rw [uJ,hm,fE hg,List.filter_append]
   cases hf:f x with
   |true=>
    rw [if_pos rfl,yI (x:=x) (by rw [Int.toNat_natCast];exact hg),ih (by omega)]
    simp [hf]
   |false=>
    rw [if_neg (by simp),List.append_nil,ih (by omega)]
    simp [hf]
 have h:=key l.length (Nat.le_refl _)
 rw [List.take_length] at h
 rw [←h,←xC,List.length_map]
def tA(p:Prog)(part:Int):Bool:=(List.range (insts p.parts).length).all (fun i=>match (insts p.parts)[i]? with
 |some x=> !((gI p (insts p.parts)).getD i false&&decide (x.part=part))
 |none=>true)
theorem pY{p:Prog}{part:Int}:tA p part=true↔ ∀(i:Nat) x,(insts p.parts)[i]? =some x→(gI p (insts p.parts)).getD i false=true→x.part≠part:=by
 unfold tA
 rw [List.all_eq_true]
 constructor
 ·intro h i x hx hl e
  have:=h i (List.mem_range.2 (List.getElem?_eq_some_iff.1 hx).1)
  rw [hx] at this
  simp only [hl,e,decide_true,Bool.and_self,Bool.not_true] at this
  cases this
 ·intro h i hi
  cases hx:(insts p.parts)[i]? with
  |none=>rfl
  |some x=>
   dsimp only
   cases hl:(gI p (insts p.parts)).getD i false with
   |false=>rfl
   |true=>rw [decide_eq_false (h i x hx hl)];rfl
theorem yP(p:Prog)(l:List Inst):(gI p l).length=l.length:=iD p l l.length
def aB7(i:Nat)(x:Inst):Inst:=if(i:Int)<x.part then⟨x.part-1,x.stmt,x.point⟩ else x
theorem aCM{p:Prog}{i:Nat}{P:Part}(h:p.parts[i]? =some P): ∃A X Z,insts p.parts=A++(X++Z)∧insts (p.parts.take i++p.parts.drop (i+1))=(A++Z).map (aB7 i)∧(∀x∈A,x.part<(i:Int))∧(∀x∈X,x.part=(i:Int))∧ ∀x∈Z,(i:Int)<x.part:=by
 have hi:=(List.getElem?_eq_some_iff.1 h).1
 have ht:(p.parts.take i).length=i:=by rw [List.length_take];omega
 have e:p.parts=p.parts.take i++P::p.parts.drop (i+1):=by rw [←nV h,List.take_append_drop]
 refine⟨insts (p.parts.take i),instP i P,((insts (p.parts.drop (i+1))).map (l9 1)).map (l9 i),?_,?_,fun x hx=>by have:=insts_lt hx;omega,fun x hx=>instP_part hx,fun x hx=> ?_⟩
 ·conv=>lhs;rw [e]
  rw [insts_app,insts_cons,List.map_append,ht]
  congr 2
  exact instP_rho (fun s q=>by unfold l9;simp)
 ·rw [insts_app,ht,List.map_append]
  congr 1
  ·exact(W4 (fun x hx=>by
    have:=insts_lt hx
    unfold aB7
    rw [if_neg (by omega)])).symm
  ·rw [List.map_map,List.map_map]
   refine List.map_congr_left (fun x hx=> ?_)
   have:=insts_lt hx
   show l9 i x=aB7 i (l9 i (l9 1 x))
   unfold aB7 l9
   dsimp only
   rw [if_pos (by omega)]
   congr 1
   omega
 ·obtain⟨y,hy,rfl⟩:=List.mem_map.1 hx
  obtain⟨z,hz,rfl⟩:=List.mem_map.1 hy
  have:=insts_lt hz
  unfold l9
  dsimp only
  omega
theorem aCL{p:Prog}(hv:bI p=true)(i:Nat):bI ⟨p.arrays,p.parts.take i++p.parts.drop (i+1)⟩=true:=by
 have hsub: ∀x∈p.parts.take i++p.parts.drop (i+1),x∈p.parts:=fun x hx=>by
  rcases List.mem_append.1 hx with h|h
  ·exact List.mem_of_mem_take h
  ·exact List.mem_of_mem_drop h
 have hok:=(eD hv).2.2.2.1
 have h120:=(insts_len' p.parts)
 have hpos: ∀l:List Part,(∀x∈l,x∈p.parts)→0≤(l.map dH).sum:=fun l hl=>by
  induction l with
  |nil=>simp
  |cons a l ih=>
   simp only [List.map_cons,List.sum_cons]
   have:=(pZ (hok a (hl a List.mem_cons_self))).1
   have:=ih (fun x hx=>hl x (List.mem_cons_of_mem _ hx))
   omega
 unfold bI n4 at hv⊢
 simp only [Bool.and_eq_true,decide_eq_true_eq,List.all_eq_true] at hv⊢
 obtain⟨⟨a1,a2,a3⟩,a4⟩:=hv
 refine⟨⟨a1,by simp only [List.length_append,List.length_take,List.length_drop];omega,fun x hx=>a3 x (hsub x hx)⟩,?_⟩
 have e1:(p.parts.map dH).sum=((p.parts.take i).map dH).sum+((p.parts.drop i).map dH).sum:=by
  conv=>lhs;rw [←List.take_append_drop i p.parts]
  rw [List.map_append,List.sum_append]
 have e2:((p.parts.drop (i+1)).map dH).sum≤((p.parts.drop i).map dH).sum:=by
  cases hd:p.parts.drop i with
  |nil=>
   have:p.parts.drop (i+1)=[]:=by rw [←List.drop_drop,hd];rfl
   rw [this];simp
  |cons a l=>
   have:p.parts.drop (i+1)=l:=by rw [←List.drop_drop,hd];rfl
   rw [this]
   simp only [List.map_cons,List.sum_cons]
   have:=(pZ (hok a (List.mem_of_mem_drop (i:=i) (by rw [hd];exact List.mem_cons_self)))).1
   omega
 simp only [List.map_append,List.sum_append]
 omega
theorem Y5{p:Prog}(hv:bI p=true)(i:Nat):BG 1000 ⟨p.arrays,p.parts.take i++p.parts.drop (i+1)⟩:=(aJ6 (aCL hv i)).mono (by omega)
def w9(p:Prog)(part:Int):Prog×Bool:=if(bI p&&(isP p part&&tA p part))=true then(⟨p.arrays,p.parts.take part.toNat++p.parts.drop (part.toNat+1)⟩,true) else noP
theorem aGv(p:Prog)(part:Int):BG 1000 (w9 p part).1:=by
 unfold w9
 split
 ·rename_i h
  simp only [Bool.and_eq_true] at h
  exact Y5 h.1 _
 ·exact aIT
theorem aEo{n:Nat}(hn:7100≤n){p:Prog}(hp:BG 1000 p){part:Int}(hb: -1≤part∧part≤9):nQ n p part=some (w9 p part):=by
 unfold nQ w9
 refine Ev.eq (aA (aCv hn hp.sm) ?_)
 by_cases hv:bI p=true
 ·rw [if_pos hv,hv]
  have hil:=(eD hv).2.2.2.2
  refine bU (Ev.jn (fun z=>z= !isP p part) (fun j hj=>bT (aA (aEh n hp.2.1 part) (hj _ rfl))) (fun z hz=> ?_))
  subst hz
  cases hip:isP p part with
  |false=>exact bU (Ev.some rfl)
  |true=>
   have hpi:0≤part∧part<(p.parts.length:Int):=of_decide_eq_true hip
   refine bT (aA (x:=gI p (insts p.parts)) (aEk hn hv) ?_)
   have hll:=yP p (insts p.parts)
   rw [hll]
   refine Ev.loop (fun z:Int=> ∃i:Nat,z=i∧i≤(insts p.parts).length∧ ∀(j:Nat) x,j<i→(insts p.parts)[j]? =some x→(gI p (insts p.parts)).getD j false=true→x.part≠part) (fun z=>(insts p.parts).length-z.toNat) ?_ n _ ⟨0,rfl,by omega,fun j x h=>by omega⟩ (by omega)
   rintro again z ⟨i,rfl,hi,hno⟩ hr
   refine aG (fun hlt=> ?_) (fun hge=> ?_)
   ·obtain⟨x,hg⟩: ∃x,(insts p.parts)[i]? =some x:=⟨_,List.getElem?_eq_getElem (show i<(insts p.parts).length by omega)⟩
    have hgl:ix (gI p (insts p.parts)) (i:Int)=some ((gI p (insts p.parts)).getD i false):=by
     have hlt2:i<(gI p (insts p.parts)).length:=by omega
     rw [aO (List.getElem?_eq_getElem hlt2),List.getD_eq_getElem?_getD,List.getElem?_eq_getElem hlt2];rfl
    have hlist:ix (trc p).list (i:Int)=some x:=aO hg
    refine aA hgl (Ev.jn (fun z=>z=((gI p (insts p.parts)).getD i false&&decide (x.part=part))) (fun j hj=>Ev.cond (fun h=>aA hlist (hj _ (by rw [h];rfl))) (fun h=>hj _ (by rw [h];rfl))) (fun z hz=> ?_))
    subst hz
    refine Ev.cond (fun h=>Ev.some ?_) (fun h=> ?_)
    ·rw [Bool.and_eq_true,decide_eq_true_eq] at h
     have:tA p part=false:=by
      cases hd:tA p part with
      |false=>rfl
      |true=>exact absurd h.2 (pY.1 hd i x hg h.1)
     rw [this];rfl
    ·rw [aK (by omega)]
     refine hr _ ⟨i+1,by omega,by omega,fun j y hj hy hl=> ?_⟩ (by omega)
     by_cases e:j=i
     ·subst e
      rw [hg] at hy;cases hy
      rw [hl,Bool.true_and] at h
      exact of_decide_eq_false h
     ·exact hno j y (by omega) hy hl
   ·have hdead:tA p part=true:=pY.2 (fun j x hx hl=>hno j x (by have:=(List.getElem?_eq_some_iff.1 hx).1;omega) hx hl)
    rw [hdead]
    refine aA (aIP (by omega) hv) (aA (x:=(gE p.parts part (part+1),rV p.parts part (part+1) (⟨[],[]⟩:Part))) ?_ (Ev.some ?_))
    ·unfold lM
     rw [aK (by omega),decide_eq_true hpi.1,decide_eq_true (show part≤part+1 by omega),decide_eq_true (show part+1≤(p.parts.length:Int) by omega),decide_eq_false (show¬part=part+1 by omega)];rfl
    ·show(⟨p.arrays,(rV p.parts part (part+1) (⟨[],[]⟩:Part)).take (gE p.parts part (part+1))⟩,true)=((⟨p.arrays,p.parts.take part.toNat++p.parts.drop (part.toNat+1)⟩:Prog),true)
     have hm:(p.parts.take part.toNat++p.parts.drop (part+1).toNat).length=gE p.parts part (part+1):=by
      unfold gE
      simp only [List.length_append,List.length_take,List.length_drop];omega
     unfold rV
     rw [List.take_append_of_le_length (by rw [hm];exact Nat.le_refl _),List.take_of_length_le (l:=p.parts.take part.toNat++p.parts.drop (part+1).toNat) (by rw [hm];exact Nat.le_refl _),show(part+1).toNat=part.toNat+1 by omega]
 ·rw [if_neg hv,show bI p=false by simpa using hv]
  refine bT (Ev.jn (fun z=>z=true) (fun j hj=>bU (hj _ rfl)) (fun z hz=> ?_))
  rw [hz]
  exact bU (Ev.some rfl)
theorem aD5{n:Nat}(hn:7100≤n){p:Prog}(hp:BG 1000 p){part:Int}(hb: -1≤part∧part≤9):nJ n p part=some (w9 p part):=by
 unfold nJ w9
 refine Ev.eq (aA (aCj (by omega) hp) (Ev.jn (fun z=>z= !(bI p&&isP p part)) (fun j hj=> ?_) (fun z hz=> ?_)))
 ·refine aA (gH (by omega) hp.sm) (Ev.cond (fun h=>hj _ ?_) (fun h=> ?_))
  ·rw [aIR h];rfl
  ·have hv:=aIS h
   refine aG (fun h1=>hj _ ?_) (fun h1=>hj _ ?_)
   ·rw [hv,show isP p part=false from decide_eq_false (by omega)];rfl
   ·by_cases h2:(p.parts.length:Int)≤part
    ·rw [hv,decide_eq_true h2,show isP p part=false from decide_eq_false (by omega)];rfl
    ·rw [hv,decide_eq_false h2,show isP p part=true from decide_eq_true (by omega)];rfl
 ·subst hz
  by_cases hv:bI p=true
  ·rw [hv]
   have hil:=(eD hv).2.2.2.2
   cases hip:isP p part with
   |false=>exact bU (Ev.some rfl)
   |true=>
    have hpi:0≤part∧part<(p.parts.length:Int):=of_decide_eq_true hip
    refine bT (aA (uU hn hp.sm) (aA (sV (by omega) hv) ?_))
    rw [if_pos hv]
    have hll:=yP p (insts p.parts)
    have hfl:=aA7 (gI p (insts p.parts))
    have hmem: ∀c∈iL (gI p (insts p.parts)),∃(i:Nat) (x:Inst),c=i∧(insts p.parts)[i]? =some x∧(gI p (insts p.parts)).getD i false=true:=fun c hc=>by
     obtain⟨h0,h1⟩:=zI.1 hc
     have hlt:c.toNat<(insts p.parts).length:=by
      by_cases h:c.toNat<(insts p.parts).length
      ·exact h
      ·rw [List.getD_eq_getElem?_getD,List.getElem?_eq_none (by omega)] at h1;cases h1
     exact⟨c.toNat,_,by omega,List.getElem?_eq_getElem hlt,h1⟩
    generalize hL:iL (gI p (insts p.parts))=L at*
    refine Ev.loop (fun z:Int=> ∃i:Nat,z=i∧i≤L.length∧ ∀c∈L.take i,∀x,(insts p.parts)[c.toNat]? =some x→x.part≠part) (fun z=>L.length-z.toNat) ?_ n _ ⟨0,rfl,by omega,fun c hc=>by simp at hc⟩ (by omega)
    rintro again z ⟨i,rfl,hi,hno⟩ hr
    refine aG (fun hlt=> ?_) (fun hge=> ?_)
    ·obtain⟨c,hg⟩: ∃c,L[i]? =some c:=⟨_,List.getElem?_eq_getElem (show i<L.length by omega)⟩
     obtain⟨k,x,rfl,hx,hl⟩:=hmem c (List.mem_of_getElem? hg)
     refine aA (aO hg) (aA (aO hx) (aG (fun h=>Ev.some ?_) (fun h=> ?_)))
     ·have:tA p part=false:=by
       cases hd:tA p part with
       |false=>rfl
       |true=>exact absurd h (pY.1 hd k x hx hl)
      rw [this];rfl
     ·rw [aK (by omega)]
      refine hr _ ⟨i+1,by omega,by omega,fun d hd y hy=> ?_⟩ (by omega)
      rw [fE hg,List.mem_append,List.mem_singleton] at hd
      rcases hd with hd|rfl
      ·exact hno d hd y hy
      ·rw [Int.toNat_natCast,hx] at hy;cases hy;exact h
    ·have hie:i=L.length:=by omega
     rw [hie,List.take_length] at hno
     have hdead:tA p part=true:=pY.2 (fun j x hx hl=>by
      have hj:((j:Nat):Int)∈L:=by rw [←hL];exact zI.2 ⟨by omega,by rw [Int.toNat_natCast];exact hl⟩
      exact hno _ hj x (by rw [Int.toNat_natCast];exact hx))
     rw [hdead]
     obtain⟨i,rfl⟩: ∃i:Nat,part=i:=⟨part.toNat,by omega⟩
     refine aA (x:=(⟨p.arrays,p.parts.take i++p.parts.drop (i+1)⟩,true)) (Ev.eq ?_) (Ev.some rfl)
     have hpl:=hp.2.1
     unfold wD
     refine aA (tB (by omega) hp) (aA (E4 (by omega) (by omega) (by omega)) ?_)
     rw [Int.toNat_natCast,show(0:Int).toNat=0 from rfl,List.drop_zero]
     refine aA (x:=p.parts.take i) (bX (by simp;omega)) (aA (x:=p.parts.take i) (by rw [bX (by simp;omega),List.append_nil]) ?_)
     rw [aK (by omega)]
     refine aA (E4 (by omega) (by omega) (by omega)) ?_
     rw [Int.toNat_natCast,List.take_length,show((i:Int)+1).toNat=i+1 by omega]
     refine aA (x:=p.parts.take i++p.parts.drop (i+1)) (bX (by simp;omega)) (aA (gH (by omega) (Y5 hv i).sm) ?_)
     rw [aCL hv i]
     exact bT (aA (tB (by omega) (Y5 hv i)) (Ev.some rfl))
  ·rw [show bI p=false by simpa using hv]
   exact bU (Ev.some rfl)
theorem aEw{p:Prog}{i:Nat}{P:Part}(h:p.parts[i]? =some P){x:Inst}(hx:dF p x)(hne:x.part≠(i:Int)):o1 ⟨p.arrays,p.parts.take i++p.parts.drop (i+1)⟩ (aB7 i x)=o1 p x∧(aB7 i x).point=x.point:=by
 have hi:=(List.getElem?_eq_some_iff.1 h).1
 have ht:(p.parts.take i).length=i:=by rw [List.length_take];omega
 obtain⟨i',k,P',s,e1,e2,e3,e4,e5⟩:=hx
 unfold aB7
 split
 ·rename_i hlt
  refine⟨?_,rfl⟩
  unfold o1
  dsimp only
  rw [e1,show((i':Int)-1).toNat=i'-1 by omega,Int.toNat_natCast,List.getElem?_append_right (by omega),ht,List.getElem?_drop,show i+1+(i'-1-i)=i' by omega]
 ·refine⟨?_,rfl⟩
  unfold o1
  dsimp only
  rw [e1,Int.toNat_natCast,List.getElem?_append_left (by omega),List.getElem?_take,if_pos (by omega)]
theorem aGu{p:Prog}(hv:bI p=true){i:Nat}{P:Part}(h:p.parts[i]? =some P)(hd:tA p (i:Int)=true)(m:List Int):b7 ⟨p.arrays,p.parts.take i++p.parts.drop (i+1)⟩ m (insts (p.parts.take i++p.parts.drop (i+1)))=b7 p m (insts p.parts):=by
 obtain⟨A,X,Z,e1,e2,m1,m2,m3⟩:=aCM h
 have hok: ∀x∈insts p.parts,dF p x:=fun x hx=>insts_mem hx
 have e3:b7 p m (insts p.parts)=b7 p m (A++Z):=by
  rw [←aEb hv hok m (F:=(insts p.parts).map (fun x=> !decide (x.part=(i:Int)))) (by simp) (fun j hl=> ?_),aAP]
  ·congr 1
   rw [e1,List.filter_append,List.filter_append]
   have f1:A.filter (fun x=> !decide (x.part=(i:Int)))=A:=List.filter_eq_self.2 (fun x hx=>by have:=m1 x hx;rw [decide_eq_false (by omega)];rfl)
   have f2:X.filter (fun x=> !decide (x.part=(i:Int)))=[]:=List.filter_eq_nil_iff.2 (fun x hx=>by rw [decide_eq_true (m2 x hx)];simp)
   have f3:Z.filter (fun x=> !decide (x.part=(i:Int)))=Z:=List.filter_eq_self.2 (fun x hx=>by have:=m3 x hx;rw [decide_eq_false (by omega)];rfl)
   rw [f1,f2,f3];rfl
  ·have hlt:j<(insts p.parts).length:=by
    rw [←yP p (insts p.parts)]
    by_cases hh:j<(gI p (insts p.parts)).length
    ·exact hh
    ·rw [List.getD_eq_getElem?_getD,List.getElem?_eq_none (by omega)] at hl;cases hl
   have hx:=List.getElem?_eq_getElem hlt
   have:=pY.1 hd j _ hx hl
   rw [List.getD_eq_getElem?_getD,List.getElem?_map,hx]
   show(!decide _)=true
   rw [decide_eq_false this];rfl
 rw [e3,e2]
 unfold b7
 rw [List.foldl_map]
 refine J7 (fun x hx m=> ?_)
 have hx':x∈insts p.parts∧x.part≠(i:Int):=by
  rcases List.mem_append.1 hx with h|h
  ·exact⟨by rw [e1];simp [h],by have:=m1 x h;omega⟩
  ·exact⟨by rw [e1];simp [h],by have:=m3 x h;omega⟩
 obtain⟨q1,q2⟩:=aEw h (insts_mem hx'.1) hx'.2
 unfold mM
 rw [q1,q2]
theorem aBe(code:List UInt8):Ev (gR N code) (fun x=>BG 1000 x.1∧ -1≤x.2∧x.2≤9):=by
 have hN:N=100000:=rfl
 unfold gR tQ
 refine aI (aHu code) (fun x1 r1=>aI (P:=fun x=>BG 1000 x.1∧ -1≤x.2.1∧x.2.1≤9) ?_ (fun x2 h2=>Ev.some h2))
 refine aI (aCq r1 (by omega)) (fun x1 ⟨h1,r1⟩=>aI (aHz (by omega) r1 (by omega) h1) (fun x2 ⟨h2,r2⟩=>aI (jM N r2 (by omega) (by simp)) (fun x3 ⟨m3,r3⟩=>Ev.some ⟨h2.mono (show 30≤1000 by omega),?_⟩)))
 simp at m3
 dsimp only
 omega
theorem Y6(code more:List UInt8):mH N code more=some true:=by
 have hN:N=100000:=rfl
 refine Ev.eq ?_
 unfold mH
 refine aI7 (fun hml=>aI (aBe code) (fun x1 hp=> ?_))
 obtain⟨p,part⟩:=x1
 dsimp only at hp⊢
 obtain⟨hp,hb⟩:=hp
 have hR:=aGv p part
 refine aI6 (REST:=fun x4 x5=>_) hR (aEo (by omega) hp hb) (aD5 (by omega) hp hb) (fun h=> ?_)
 have hc:(bI p&&(isP p part&&tA p part))=true:=by
  unfold w9 at h
  split at h
  ·assumption
  ·cases h
 have e:w9 p part=(⟨p.arrays,p.parts.take part.toNat++p.parts.drop (part.toNat+1)⟩,true):=by unfold w9;rw [if_pos hc]
 simp only [Bool.and_eq_true] at hc
 obtain⟨hv,hip,hd⟩:=hc
 have hpi:0≤part∧part<(p.parts.length:Int):=of_decide_eq_true hip
 obtain⟨i,rfl⟩: ∃i:Nat,part=i:=⟨part.toNat,by omega⟩
 rw [e] at hR⊢
 rw [Int.toNat_natCast] at hR⊢
 have hi:i<p.parts.length:=by omega
 have hP:=List.getElem?_eq_getElem hi
 have hpl:=hp.2.1
 refine Ev.jn (fun z=>z=true) (fun j hj=> ?_) (fun z hz=>Ev.some hz)
 refine aA (aGE hp.sm hR.sm hv (aCL hv i) rfl (fun m _=>aGu hv hP hd m) (s:=(more.length:Int)) ⟨by omega,hml⟩) (bU (hj _ ?_))
 rw [aK (by omega)]
 refine decide_eq_true ?_
 simp only [List.length_append,List.length_take,List.length_drop]
 omega
end Go.Lift
