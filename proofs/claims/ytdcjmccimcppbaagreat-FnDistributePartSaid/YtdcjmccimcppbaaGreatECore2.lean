/- Valid statements. -/
import Derived.Test.YtdcjmccimcppbaaGreatECore1
set_option maxRecDepth 100000
set_option linter.unusedVariables false
namespace Go.Lift
open Go
def SmE:Nat→Expr→Prop
 |0,_=>True
 |L+1,e=>e.kids.length≤1000∧SmA e.index∧C8 e.read.subs∧ ∀k∈e.kids,SmE L k
def dQ:Nat→Expr→Int→Bool
 |0,_,_=>false
 |L+1,e,d=>decide (gS e.kind=e.kids.length)&&(fT e d&&e.kids.all (fun k=>dQ L k d))
def sD:Nat→Expr→Int
 |0,_=>1
 |L+1,e=>1+(e.kids.map (sD L)).sum
theorem pU(k:Int):gS k≤2:=by unfold gS;split;omega;split<;>omega
theorem wZ(d:Int): ∀(L n:Nat) (e:Expr),5000+L≤n→L≤1000→SmE L e→s_l3Shape (n+1) e d (L:Int)=some (dQ L e d)
 |0,n,e,_,_,_=>by unfold s_l3Shape;rfl
 |L+1,n,e,hn,hL,he=>by
  obtain⟨e1,e2,e3,e4⟩:=he
  unfold s_l3Shape
  refine Ev.eq ?_
  refine Ev.jn (fun z=>z= !(decide (gS e.kind=e.kids.length)&&fT e d)) (fun j hj=>aG (fun h=>by omega) (fun h=>aA (aBd n _) (gU (fun h=>hj _ ?_) (fun h=>aA (aCx (by omega) e2 e3 d) (hj _ ?_))))) (fun z hz=> ?_)
  ·rw [decide_eq_false h];rfl
  ·rw [decide_eq_true h];rfl
  subst hz
  unfold dQ
  cases hb:(decide (gS e.kind=e.kids.length)&&fT e d) with
  |false=>exact Ev.some (by rw [←Bool.and_assoc,hb];rfl)
  |true=>
   rw [←Bool.and_assoc,hb,Bool.true_and]
   refine b8 ?_
   obtain⟨n,rfl⟩: ∃j,n=j+1:=⟨n-1,by omega⟩
   have ew:wr (((L+1:Nat):Int)-1)=(L:Int):=by rw [aM (by omega)];omega
   rw [ew]
   refine nD (l:=e.kids) (p:=fun _ k=>dQ L k d) (by omega) (by omega) (fun again i x hx hgo hno=> ?_) (fun again hall=> ?_) (fun⟨i,x,hx,hp⟩=> ?_)
   ·have hi:=(List.getElem?_eq_some_iff.1 hx).1
    rw [decide_eq_true (show(i:Int)<(e.kids.length:Int) by omega)]
    refine bZ (aA (aQ hx) (aA (wZ d L n x (by omega) (by omega) (e4 x (List.mem_of_getElem? hx))) ?_))
    cases hs:dQ L x d with
    |true=>show Ev (again _) _;rw [aM (by omega)];exact hgo hs
    |false=>exact Ev.some (hno hs)
   ·rw [decide_eq_false (show¬(e.kids.length:Int)<(e.kids.length:Int) by omega)]
    refine Ev.some ?_
    exact(List.all_eq_true.2 (fun c hc=>by obtain⟨i,hi⟩:=List.getElem?_of_mem hc;exact hall i c hi)).symm
   ·exact(List.all_eq_false.2 ⟨x,List.mem_of_getElem? hx,by rw [hp];simp⟩).symm
theorem uM: ∀(L:Nat) (e:Expr),1≤sD L e
 |0,_=>Int.le_refl _
 |L+1,e=>by
  have:=nO (sD L) e.kids (fun k _=>uM L k)
  simp only [sD];omega
theorem Y7{α:Type}(f:α→Int)(M:Int): ∀(l:List α),(∀x∈l,f x≤M)→(l.map f).sum≤l.length*M
 | [],_=>by simp
 |x::l,h=>by
  have h1:=Y7 f M l (fun y hy=>h y (by simp [hy]))
  have h2:=h x (by simp)
  simp only [List.map_cons,List.sum_cons,List.length_cons,Int.natCast_add,Int.add_mul];omega
theorem jE{L:Nat}{e:Expr}{d:Int}(h:dQ (L+1) e d=true):gS e.kind=e.kids.length∧fT e d=true∧ ∀k∈e.kids,dQ L k d=true:=by
 simp only [dQ,Bool.and_eq_true,decide_eq_true_eq,List.all_eq_true] at h
 exact⟨h.1,h.2.1,h.2.2⟩
theorem aAB: ∀{L:Nat} {e:Expr} {d:Int},dQ L e d=true→sD L e+1≤2^L
 |0,e,d,h=>by cases h
 |L+1,e,d,h=>by
  obtain⟨h1,_,h2⟩:=jE h
  have h3:=Y7 (sD L) ((2:Int)^L-1) e.kids (fun k hk=>by have:=aAB (h2 k hk);omega)
  have h4:=pU e.kind
  have h5:(e.kids.length:Int)*((2:Int)^L-1)≤2*((2:Int)^L-1):=by
   refine Int.mul_le_mul_of_nonneg_right (by omega) ?_
   have:(0:Int)<2^L:=Int.pow_pos (by omega)
   omega
  simp only [sD]
  rw [Int.pow_succ]
  omega
theorem w4{d:Int}: ∀(L n:Nat) (e:Expr),5000+L≤n→L≤5→dQ L e d=true→s_l3Count (n+1) e (L:Int)=some (sD L e)
 |0,n,e,_,_,h=>by cases h
 |L+1,n,e,hn,hL,h=>by
  obtain⟨h1,_,h2⟩:=jE h
  have h4:=pU e.kind
  have hb: ∀k∈e.kids,sD L k≤40:=fun k hk=>by
   have h5:=aAB (h2 k hk)
   have h6:(2:Int)^L≤40:=by
    match L,hL with
    |0,_=>decide
    |1,_=>decide
    |2,_=>decide
    |3,_=>decide
    |4,_=>decide
   omega
  unfold s_l3Count
  refine Ev.eq ?_
  obtain⟨n,rfl⟩: ∃j,n=j+1:=⟨n-1,by omega⟩
  have ew:wr (((L+1:Nat):Int)-1)=(L:Int):=by rw [aM (by omega)];omega
  rw [ew]
  refine Ev.loop (fun x:Int×Int=> ∃i:Nat,x.2=i∧i≤e.kids.length∧x.1=1+((e.kids.take i).map (sD L)).sum) (fun x=>e.kids.length-x.2.toNat) ?_ (n+1) _ ⟨0,rfl,by omega,by simp⟩ (by simp;omega)
  rintro again ⟨x,k⟩ ⟨i,hk,hi,hx⟩ hr
  dsimp only at hk hx⊢
  subst hk
  refine Ev.jn (fun z=>z=decide (i<e.kids.length)) (fun j hj=>aG (fun h=>hj _ ?_) (fun h=>hj _ ?_)) (fun z hz=> ?_)
  ·rw [decide_eq_true (show(0:Int)<((L+1:Nat):Int) by omega),decide_eq_true (by omega)]
  ·rw [decide_eq_false (by omega)]
  subst hz
  refine aG (fun hlt=> ?_) (fun hge=>Ev.some ?_)
  ·have hk2:=List.getElem?_eq_getElem hlt
   have hm:=List.mem_of_getElem? hk2
   refine aA (aQ hk2) (aA (w4 (d:=d) L n _ (by omega) (by omega) (h2 _ hm)) ?_)
   have hs:=Y7 (sD L) 40 (e.kids.take i) (fun y hy=>hb y (List.mem_of_mem_take hy))
   have hs2:=nO (sD L) (e.kids.take i) (fun y _=>uM L y)
   have hb2:=hb _ hm
   have hb3:=uM L e.kids[i]
   have hl:((e.kids.take i).length:Int)≤2:=by simp;omega
   rw [aM (n:=x+sD L e.kids[i]) (by omega),aM (by omega)]
   refine hr _ ⟨i+1,by dsimp only;omega,by omega,?_⟩ (by dsimp only;omega)
   dsimp only
   rw [List.take_add_one,hk2,List.map_append,List.sum_append,hx]
   simp;omega
  ·have:i=e.kids.length:=by omega
   rw [hx,this,List.take_length];rfl
def aBk(e:Expr):Bool:=(decide (e.kind=1)||decide (e.num=0))&&((decide (e.kind=2)||i8 e.index)&&(decide (e.kind=3)||mS e.read))
theorem pB(d:Int): ∀(L n:Nat) (e:Expr) (c:Int),5000+L≤n→L≤5→SmE L e→0≤c→c≤12→
  Ev (i_exprScan (n+1) e d (6-(L:Int)) c) (fun r=>r.1=(dQ L e d&&decide (c+sD L e≤12))∧(r.1=true→r.2=c+sD L e))
 |0,n,e,c,hn,hL,he,h0,h1=>by
  unfold i_exprScan
  refine Ev.jn (fun z=>z=true) (fun j hj=>aG (fun h=>hj _ rfl) (fun h=>hj _ (by decide))) (fun z hz=> ?_)
  subst hz
  exact Ev.some ⟨rfl,fun h=>by cases h⟩
 |L+1,n,e,c,hn,hL,he,h0,h1=>by
  obtain⟨e1,e2,e3,e4⟩:=he
  have hcp:=uM (L+1) e
  unfold i_exprScan
  have ew:wr (c+1)=c+1:=aM (by omega)
  have ed:wr (6-(((L+1:Nat)):Int)+1)=6-(L:Int):=by rw [aM (by omega)];omega
  rw [ew,ed]
  refine Ev.jn (fun z=>z=decide (12<c+1)) (fun j hj=>aG (fun h=>hj _ (decide_eq_true h).symm) (fun h=>hj _ ?_)) (fun z hz=> ?_)
  ·rw [decide_eq_false h,decide_eq_false (by omega)]
  subst hz
  refine aG (fun h=>Ev.some ⟨?_,fun h=>by cases h⟩) (fun hc=> ?_)
  ·rw [decide_eq_false (show¬c+sD (L+1) e≤12 by omega),Bool.and_false]
  refine Ev.jn (fun z=>z= !aBk e) (fun j hj=> ?_) (fun z hz=> ?_)
  ·rw [R2,R3]
   unfold aBk at hj
   simp only [Option.bind]
   by_cases k1:e.kind=1
   ·have k2: ¬e.kind=2:=by omega
    have k3: ¬e.kind=3:=by omega
    rw [decide_eq_true k1,decide_eq_false k2,decide_eq_false k3] at*
    simp only [Bool.not_true,Bool.not_false,cond_true,cond_false,Bool.true_or,Bool.true_and,Bool.false_or] at*
    cases ha:i8 e.index with
    |false=>exact hj _ (by rw [ha];rfl)
    |true=>exact hj _ (by rw [ha];rfl)
   ·rw [decide_eq_false k1] at*
    simp only [Bool.not_false,cond_true,Bool.false_or] at*
    by_cases hnum:e.num=0
    ·rw [decide_eq_true hnum] at*
     simp only [Bool.not_true,cond_false,Bool.true_and] at*
     by_cases k2:e.kind=2
     ·have k3: ¬e.kind=3:=by omega
      rw [decide_eq_true k2,decide_eq_false k3] at*
      simp only [Bool.not_true,Bool.not_false,cond_true,cond_false,Bool.true_or,Bool.true_and,Bool.false_or] at*
      exact hj _ rfl
     ·rw [decide_eq_false k2] at*
      simp only [Bool.not_false,cond_true,Bool.false_or] at*
      cases ha:i8 e.index with
      |false=>exact hj _ (by rw [ha];rfl)
      |true=>
       by_cases k3:e.kind=3
       ·rw [decide_eq_true k3] at*
        exact hj _ (by rw [ha];rfl)
       ·rw [decide_eq_false k3] at*
        exact hj _ (by rw [ha];rfl)
    ·rw [decide_eq_false hnum] at*
     exact hj _ rfl
  ·subst hz
   cases hp:aBk e with
   |false=>
    refine Ev.some ⟨?_,fun h=>by cases h⟩
    have:fT e d=false:=by
     unfold aBk at hp
     unfold fT
     by_cases k2:e.kind=2
     ·have k1: ¬e.kind=1:=by omega
      have k3: ¬e.kind=3:=by omega
      rw [if_pos k2]
      rw [decide_eq_true k2,decide_eq_false k1,decide_eq_false k3] at hp
      revert hp
      cases decide (e.num=0)<;>cases mS e.read<;>simp
     ·rw [if_neg k2]
      by_cases k3:e.kind=3
      ·have k1: ¬e.kind=1:=by omega
       rw [if_pos k3]
       rw [decide_eq_false k2,decide_eq_false k1,decide_eq_true k3] at hp
       revert hp
       cases decide (e.num=0)<;>cases i8 e.index<;>simp
      ·rw [if_neg k3]
       rw [decide_eq_false k2,decide_eq_false k3] at hp
       by_cases k1:e.kind=1
       ·rw [if_pos k1]
        rw [decide_eq_true k1] at hp
        revert hp
        cases i8 e.index<;>cases mS e.read<;>simp
       ·rw [if_neg k1]
        rw [decide_eq_false k1] at hp
        revert hp
        cases decide (e.num=0)<;>cases i8 e.index<;>cases mS e.read<;>simp
    unfold dQ
    rw [this];simp
   |true=>
    refine b8 ?_
    unfold aBk at hp
    simp only [Bool.and_eq_true,Bool.or_eq_true,decide_eq_true_eq] at hp
    obtain⟨p1,p2,p3⟩:=hp
    have leafP: ∀(b:Bool),fT e d=b→gS e.kind=0→ ∀(z:Bool),z=(b&&decide ((e.kids.length:Int)=0))→z=(dQ (L+1) e d&&decide (c+sD (L+1) e≤12))∧(z=true→c+1=c+sD (L+1) e):=by
     intro b hb hk z hz
     unfold dQ
     rw [hb,hk]
     by_cases h:e.kids.length=0
     ·have hnil:e.kids=[]:=List.eq_nil_of_length_eq_zero h
      have hcn:sD (L+1) e=1:=by simp [sD,hnil]
      rw [hcn,decide_eq_true (show c+1≤12 by omega)]
      rw [decide_eq_true (show(e.kids.length:Int)=0 by omega)] at hz
      rw [hz,hnil];simp
     ·rw [decide_eq_false (show¬(e.kids.length:Int)=0 by omega)] at hz
      rw [hz,decide_eq_false (show¬(0:Int)=(e.kids.length:Int) by omega)];simp
    by_cases k1:e.kind=1
    ·have k2: ¬e.kind=2:=by omega
     have k3: ¬e.kind=3:=by omega
     rw [decide_eq_true k1]
     have hown:fT e d=decide (0≤e.num∧e.num≤99):=by
      unfold fT
      rw [if_neg k2,if_neg k3,if_pos k1]
      rcases p2 with h|h
      ·exact absurd h k2
      rcases p3 with h'|h'
      ·exact absurd h' k3
      rw [h,h'];simp
     refine bZ (Ev.jn (fun z=>z=(decide (0≤e.num∧e.num≤99)&&decide ((e.kids.length:Int)=0))) (fun j hj=>aA (eE n _ _ _) ?_) (fun z hz=>Ev.some ?_))
     ·cases hw:decide (0≤e.num∧e.num≤99) with
      |true=>exact hj _ (by rw [hw];rfl)
      |false=>exact hj _ (by rw [hw];rfl)
     ·exact leafP _ hown (by unfold gS;rw [if_pos (Or.inl k1)]) _ hz
    ·rw [decide_eq_false k1]
     refine b8 ?_
     have hnum:e.num=0:=by
      rcases p1 with h|h
      ·exact absurd h k1
      ·exact h
     by_cases k2:e.kind=2
     ·have k3: ¬e.kind=3:=by omega
      rw [decide_eq_true k2]
      have hown:fT e d=bV e.index d:=by
       unfold fT
       rw [if_pos k2,decide_eq_true hnum]
       rcases p3 with h'|h'
       ·exact absurd h' k3
       rw [h'];simp
      refine bZ (Ev.jn (fun z=>z=(bV e.index d&&decide ((e.kids.length:Int)=0))) (fun j hj=>aA (qB (by omega) _ e2) ?_) (fun z hz=>Ev.some ?_))
      ·unfold bV at hj
       cases hw:dK e.index with
       |false=>exact hj _ (by rw [hw];rfl)
       |true=>
        refine aA (K9 (by omega) e2) (aG (fun h=>hj _ ?_) (fun h=>hj _ ?_))
        ·rw [hw,decide_eq_true h];rfl
        ·rw [hw,decide_eq_false h];rfl
      ·exact leafP _ hown (by unfold gS;rw [if_pos (Or.inr (Or.inl k2))]) _ hz
     ·rw [decide_eq_false k2]
      refine b8 ?_
      have hnaff:i8 e.index=true:=by
       rcases p2 with h|h
       ·exact absurd h k2
       ·exact h
      by_cases k3:e.kind=3
      ·rw [decide_eq_true k3]
       have hown:fT e d=iI e.read d:=by
        unfold fT
        rw [if_neg k2,if_pos k3,decide_eq_true hnum,hnaff];simp
       refine bZ (Ev.jn (fun z=>z=(iI e.read d&&decide ((e.kids.length:Int)=0))) (fun j hj=>aA (uW (by omega) e3 d) ?_) (fun z hz=>Ev.some ?_))
       ·cases hw:iI e.read d with
        |false=>exact hj _ (by rw [hw];rfl)
        |true=>exact hj _ (by rw [hw];rfl)
       ·exact leafP _ hown (by unfold gS;rw [if_pos (Or.inr (Or.inr k3))]) _ hz
      ·rw [decide_eq_false k3]
       refine b8 ?_
       have hown:fT e d=true:=by
        unfold fT
        rw [if_neg k2,if_neg k3,if_neg k1,decide_eq_true hnum,hnaff]
        rcases p3 with h'|h'
        ·exact absurd h' k3
        rw [h'];rfl
       have hop:K8 n e.kind=some (decide (4≤e.kind∧e.kind≤6)):=by unfold K8;rw [eE];rfl
       have hkn:(gS e.kind=2↔(4≤e.kind∧e.kind≤6))∧(gS e.kind=2∨gS e.kind= -1):=by
        unfold gS
        rw [if_neg (by omega)]
        split<;>omega
       refine Ev.jn (fun z=>z= !(decide (4≤e.kind∧e.kind≤6)&&decide ((e.kids.length:Int)=2))) (fun j hj=>aA hop ?_) (fun z hz=> ?_)
       ·cases hw:decide (4≤e.kind∧e.kind≤6) with
        |false=>exact hj _ (by rw [hw];rfl)
        |true=>exact hj _ (by rw [hw];rfl)
       subst hz
       by_cases hk:(4≤e.kind∧e.kind≤6)∧(e.kids.length:Int)=2
       ·rw [decide_eq_true hk.1,decide_eq_true hk.2]
        refine b8 ?_
        obtain⟨a,b,hab⟩: ∃a b,e.kids=[a,b]:=by
         have:e.kids.length=2:=by omega
         match hq:e.kids,this with
         | [a,b],_=>exact⟨a,b,rfl⟩
        have hsh:dQ (L+1) e d=(dQ L a d&&dQ L b d):=by
         show(decide (gS e.kind=e.kids.length)&&(fT e d&&e.kids.all (fun k=>dQ L k d)))=_
         rw [hown,hab,decide_eq_true (show gS e.kind=(([a,b]:List Expr).length:Int) by rw [hkn.1.2 hk.1];rfl)]
         simp
        have hcn:sD (L+1) e=1+(sD L a+sD L b):=by simp [sD,hab]
        have ca:=uM L a
        have cb:=uM L b
        rw [hsh,hcn]
        obtain⟨n,rfl⟩: ∃j,n=j+1:=⟨n-1,by omega⟩
        refine Ev.jn (fun z:Int×Bool=>z.2=(dQ L a d&&dQ L b d&&decide (c+(1+(sD L a+sD L b))≤12))∧(z.2=true→z.1=c+(1+(sD L a+sD L b)))) (fun j hj=> ?_) (fun z hz=>Ev.some hz)
        refine aA (x:=a) (by rw [hab];rfl) (aJ (pB d L n a (c+1) (by omega) (by omega) (e4 a (by rw [hab];simp)) (by omega) (by omega)) (fun r ⟨r1,r2⟩=> ?_))
        cases hr:r.1 with
        |false=>
         refine hj _ ⟨?_,fun h=>by cases h⟩
         rw [hr] at r1
         show false=_
         by_cases hsa:dQ L a d=true
         ·rw [hsa,Bool.true_and] at r1
          have:=of_decide_eq_false r1.symm
          rw [decide_eq_false (show¬c+(1+(sD L a+sD L b))≤12 by omega),Bool.and_false]
         ·rw [Bool.eq_false_iff.2 hsa];rfl
        |true=>
         have r2:=r2 hr
         rw [hr] at r1
         have r1:=r1.symm
         rw [Bool.and_eq_true,decide_eq_true_eq] at r1
         refine aA (x:=b) (by rw [hab];rfl) ?_
         rw [r2]
         refine aJ (pB d L n b (c+1+sD L a) (by omega) (by omega) (e4 b (by rw [hab];simp)) (by omega) (by omega)) (fun q ⟨q1,q2⟩=>hj _ ⟨?_,fun h=> ?_⟩)
         ·show q.1=_
          rw [q1,r1.1,Bool.true_and]
          congr 1
          exact decide_eq_decide.2 (by omega)
         ·show q.2=_
          rw [q2 h];omega
       ·have hf:dQ (L+1) e d=false:=by
         unfold dQ
         rw [decide_eq_false (show¬gS e.kind=(e.kids.length:Int) by
          intro h
          rcases hkn.2 with h2|h2
          ·exact hk ⟨hkn.1.1 h2,by omega⟩
          ·omega)]
         rfl
        have:(decide (4≤e.kind∧e.kind≤6)&&decide ((e.kids.length:Int)=2))=false:=by
         by_cases g:4≤e.kind∧e.kind≤6
         ·rw [decide_eq_false (show¬(e.kids.length:Int)=2 from fun h=>hk ⟨g,h⟩),Bool.and_false]
         ·rw [decide_eq_false g];rfl
        rw [this,hf]
        exact Ev.some ⟨rfl,fun h=>by cases h⟩
def gX(s:Stmt)(d:Int):Bool:=decide (0≤d∧d≤4)&&(iI s.write d&&(dQ 5 s.value d&&decide (sD 5 s.value≤12)))
def SmS(s:Stmt):Prop:=C8 s.write.subs∧SmE 5 s.value
theorem L4{n:Nat}(hn:6000≤n){s:Stmt}(h:SmS s)(d:Int):mF n s d=some (gX s d):=by
 obtain⟨n,rfl⟩: ∃j,n=j+1:=⟨n-1,by omega⟩
 refine Ev.eq ?_
 unfold mF
 generalize hT:gX s d=T
 unfold gX at hT
 refine Ev.jn (fun z:Int×Bool=>z.2=T) (fun j hj=>aA (eE _ _ _ _) ?_) (fun z hz=>Ev.some hz)
 cases h1:decide (0≤d∧d≤4) with
 |false=>exact hj (0,false) (by rw [←hT,h1];rfl)
 |true=>
  refine bZ (aA (uW (by omega) h.1 d) ?_)
  cases h2:iI s.write d with
  |false=>exact hj (0,false) (by rw [←hT,h1,h2];rfl)
  |true=>
   refine bZ (aJ (pB d 5 n s.value 0 (by omega) (by omega) h.2 (by omega) (by omega)) (fun r ⟨r1,r2⟩=>hj _ ?_))
   rw [←hT,h1,h2]
   show r.1=_
   rw [r1]
   simp
theorem tE{n:Nat}(hn:6000≤n){s:Stmt}(h:SmS s)(d:Int):hJ n s d=some (gX s d):=by
 obtain⟨n,rfl⟩: ∃j,n=j+1:=⟨n-1,by omega⟩
 refine Ev.eq ?_
 unfold hJ
 generalize hT:gX s d=T
 generalize hB:(decide (0≤d∧d≤4)&&(iI s.write d&&dQ 5 s.value d))=B
 have hTB:T=(B&&decide (sD 5 s.value≤12)):=by rw [←hT,←hB];unfold gX;simp only [Bool.and_assoc]
 refine Ev.jn (fun z=>z= !B) (fun j hj=>aG (fun h=>hj _ ?_) (fun h0=>aG (fun h=>hj _ ?_) (fun h4=>aA (uT (by omega) h.1 d) ?_))) (fun z hz=> ?_)
 ·rw [←hB,decide_eq_false (show¬(0≤d∧d≤4) by omega)];rfl
 ·rw [←hB,decide_eq_false (show¬(0≤d∧d≤4) by omega)];rfl
 ·rw [decide_eq_true (show 0≤d∧d≤4 by omega)] at hB
  cases h2:iI s.write d with
  |false=>exact bZ (hj _ (by rw [←hB,h2];rfl))
  |true=>exact b8 (aA (wZ d 5 n s.value (by omega) (by omega) h.2) (hj _ (by rw [←hB,h2];rfl)))
 ·subst hz
  cases hb:B with
  |false=>exact Ev.some (by rw [hTB,hb];rfl)
  |true=>
   rw [hb] at hB
   simp only [Bool.and_eq_true] at hB
   refine b8 (aA (w4 (d:=d) 5 n s.value (by omega) (by omega) hB.2.2) (Ev.some ?_))
   rw [hTB,hb];rfl
def iW(ds:List Int):Bool:=decide (1≤ds.length∧ds.length≤2)&&ds.all (fun d=>decide (1≤d∧d≤6))
def vF(list:List Arr)(i:Nat)(x:Arr):Bool:=match i with
 |0=>true
 |i+1=>match list[i]? with
  |some y=>Op.bytesLess y.name x.name
  |none=>false
def S6(list:List Arr)(i:Nat)(x:Arr):Bool:=nZ x.name&&(vF list i x&&iW x.dims)
def iH(list:List Arr):Bool:=K7 (S6 list) list&&decide (list.length≤4)
def SmR(list:List Arr):Prop:=list.length≤1000∧ ∀x∈list,x.dims.length≤1000
theorem zX{list:List Arr}{i:Nat}{x y:Arr}(h:list[i]? =some y):vF list (i+1) x=Op.bytesLess y.name x.name:=by
 simp only [vF,h]
theorem aHi(ds:List Int):(ds.any fun d=> !decide (1≤d∧d≤6))= !(ds.all fun d=>decide (1≤d∧d≤6)):=by
 rw [List.all_eq_not_any_not];simp
theorem R4{n:Nat}(hn:6000≤n){list:List Arr}(h:SmR list):n7 n list=some (iH list):=by
 obtain⟨h0,h1⟩:=h
 refine Ev.eq ?_
 unfold n7
 refine nD (l:=list) (p:=S6 list) (by omega) (by omega) (fun again i x hx hgo hno=> ?_) (fun again hall=> ?_) (fun⟨i,x,hx,hp⟩=> ?_)
 ·have hi:=(List.getElem?_eq_some_iff.1 hx).1
  have hm:=h1 x (List.mem_of_getElem? hx)
  rw [decide_eq_true (show(i:Int)<(list.length:Int) by omega)]
  have hd:bO n x.dims (fun q0=>d7 n q0)=some (!(x.dims.all fun d=>decide (1≤d∧d≤6))):=by
   rw [←aHi]
   exact m8 (fun d _=>by unfold d7;rw [eE];rfl) (by omega) (by omega)
  refine bZ (aA (aQ hx) (Ev.jn (fun z=>z= !S6 list i x) (fun j hj=>aA (xM n _) ?_) (fun z hz=> ?_)))
  ·unfold S6 iW at hj
   cases g1:nZ x.name with
   |false=>exact bZ (hj _ (by rw [g1];rfl))
   |true=>
    rw [g1] at hj
    refine b8 ?_
    rw [q6]
    have hlast:vF list i x=true→Ev (Option.bind (some (decide (1≤x.dims.length∧x.dims.length≤2))) fun x6=>bif !x6 then j true else Option.bind (bO n x.dims (fun q0=>d7 n q0)) fun x7=>j x7) (fun r=>r=iH list):=by
     intro hp
     rw [hp] at hj
     show Ev (bif _ then _ else _) _
     cases g2:decide (1≤x.dims.length∧x.dims.length≤2) with
     |false=>exact bZ (hj _ (by rw [g2];rfl))
     |true=>exact b8 (aA hd (hj _ (by rw [g2];rfl)))
    cases i with
    |zero=>exact aG (fun h=>absurd h (by decide)) (fun _=>hlast rfl)
    |succ i=>
     have hy:=List.getElem?_eq_getElem (show i<list.length by omega)
     have e:wr (((i+1:Nat):Int)-1)=(i:Int):=by rw [aM (by omega)];omega
     rw [e]
     refine aG (fun _=>aA (aQ hy) ?_) (fun h=>absurd (show(0:Int)<((i+1:Nat):Int) by omega) h)
     have hpp:=zX (x:=x) hy
     cases g3:Op.bytesLess list[i].name x.name with
     |false=>exact bZ (hj _ (by rw [hpp,g3];rfl))
     |true=>exact b8 (hlast (by rw [hpp,g3]))
  ·subst hz
   cases hb:S6 list i x with
   |true=>show Ev (again _) _;rw [aM (by omega)];exact hgo hb
   |false=>exact Ev.some (hno hb)
 ·rw [decide_eq_false (show¬(list.length:Int)<(list.length:Int) by omega)]
  refine Ev.some ?_
  unfold iH
  rw [oZ hall,Bool.true_and]
  exact decide_eq_decide.2 (by omega)
 ·unfold iH;rw [m5 hx hp];rfl
theorem aGb(s:List UInt8):(!Op.bytesLess s [68]&& !s==[68])= !(Op.bytesLess s [68]||s==[68]):=by
 cases Op.bytesLess s [68]<;>cases (s==[68])<;>rfl
theorem Q7{n:Nat}(hn:6000≤n){list:List Arr}(h:SmR list):nS n list=some (iH list):=by
 obtain⟨h0,h1⟩:=h
 refine Ev.eq ?_
 unfold nS
 refine nD (l:=list) (p:=S6 list) (by omega) (by omega) (fun again i x hx hgo hno=> ?_) (fun again hall=> ?_) (fun⟨i,x,hx,hp⟩=> ?_)
 ·have hi:=(List.getElem?_eq_some_iff.1 hx).1
  have hm:=h1 x (List.mem_of_getElem? hx)
  rw [decide_eq_true (show(i:Int)<(list.length:Int) by omega)]
  refine bZ (aA (aQ hx) (Ev.jn (fun z=>z= !(nZ x.name&&(vF list i x&&decide (1≤x.dims.length∧x.dims.length≤2)))) (fun j hj=> ?_) (fun z hz=> ?_)))
  ·refine gU (fun hl=>hj _ ?_) (fun hl=> ?_)
   ·rw [vJ (by omega)];rfl
   ·obtain⟨b,hb⟩:=aJF (show x.name.length=1 by omega)
    rw [aGb]
    have hless: ∀(y:Arr),Op.bytesLess y.name x.name=Op.bytesLess y.name [b]:=fun y=>by rw [hb]
    have hnm:nZ x.name=decide (65≤b.toNat∧b.toNat≤68):=by rw [hb];rfl
    have l1:Op.bytesLess x.name [65]=decide (b.toNat<65):=by rw [hb];exact K1 b
    have l2:(Op.bytesLess x.name [68]||x.name==[68])=decide (b.toNat≤68):=by rw [hb];exact K0 b
    rw [l1,l2]
    rw [hnm] at hj
    refine aG (fun g1=>hj _ ?_) (fun g1=>gU (fun g2=>hj _ ?_) (fun g2=> ?_))
    ·rw [decide_eq_false (show¬(65≤b.toNat∧b.toNat≤68) by omega)];rfl
    ·rw [decide_eq_false (show¬(65≤b.toNat∧b.toNat≤68) by omega)];rfl
    ·rw [decide_eq_true (show 65≤b.toNat∧b.toNat≤68 by omega)] at hj
     have hlast:vF list i x=true→Ev (bif decide ((x.dims.length:Int)<1) then j true else j (decide ((2:Int)<(x.dims.length:Int)))) (fun r=>r=iH list):=by
      intro hp
      rw [hp] at hj
      refine aG (fun h=>hj _ ?_) (fun h=>hj _ ?_)
      ·rw [decide_eq_false (show¬(1≤x.dims.length∧x.dims.length≤2) by omega)];rfl
      ·by_cases h2:x.dims.length≤2
       ·rw [decide_eq_false (show¬(2:Int)<(x.dims.length:Int) by omega),decide_eq_true (show 1≤x.dims.length∧x.dims.length≤2 by omega)];rfl
       ·rw [decide_eq_true (show(2:Int)<(x.dims.length:Int) by omega),decide_eq_false (show¬(1≤x.dims.length∧x.dims.length≤2) by omega)];rfl
     cases i with
     |zero=>exact aG (fun h=>absurd h (by decide)) (fun _=>hlast rfl)
     |succ i=>
      have hy:=List.getElem?_eq_getElem (show i<list.length by omega)
      have e:wr (((i+1:Nat):Int)-1)=(i:Int):=by rw [aM (by omega)];omega
      rw [e]
      refine aG (fun _=>aA (aQ hy) ?_) (fun h=>absurd (show(0:Int)<((i+1:Nat):Int) by omega) h)
      have hpp:=zX (x:=x) hy
      cases g3:Op.bytesLess list[i].name x.name with
      |false=>exact bZ (hj _ (by rw [hpp,g3];rfl))
      |true=>exact b8 (hlast (by rw [hpp,g3]))
  ·subst hz
   cases hb:(nZ x.name&&(vF list i x&&decide (1≤x.dims.length∧x.dims.length≤2))) with
   |false=>
    refine Ev.some (hno ?_)
    unfold S6 iW
    rw [←Bool.and_assoc,←Bool.and_assoc]
    rw [←Bool.and_assoc] at hb
    rw [hb];rfl
   |true=>
    have hap:S6 list i x=x.dims.all (fun d=>decide (1≤d∧d≤6)):=by
     unfold S6 iW
     rw [←Bool.and_assoc,←Bool.and_assoc]
     rw [←Bool.and_assoc] at hb
     rw [hb];rfl
    refine b8 ?_
    refine Ev.loop (fun y:Int=> ∃k:Nat,y=k∧k≤x.dims.length∧ ∀(t:Nat) d,t<k→x.dims[t]? =some d→decide (1≤d∧d≤6)=true) (fun y=>x.dims.length-y.toNat) ?_ n _ ⟨0,rfl,by omega,fun t d h=>by omega⟩ (by simp;omega)
    rintro again8 y ⟨k,rfl,hk,ha⟩ hr
    refine aG (fun hlt=> ?_) (fun hge=> ?_)
    ·have hd:=List.getElem?_eq_getElem (show k<x.dims.length by omega)
     have ek:wr ((k:Int)+1)=((k+1:Nat):Int):=by rw [aM (by omega)];omega
     refine Ev.jn (fun z=>z= !decide (1≤x.dims[k]∧x.dims[k]≤6)) (fun j hj=>aA (aQ hd) (aG (fun h=>hj _ ?_) (fun h=>hj _ ?_))) (fun z hz=> ?_)
     ·rw [decide_eq_false (by omega)];rfl
     ·by_cases h6:x.dims[k]≤6
      ·rw [decide_eq_false (show¬(6:Int)<x.dims[k] by omega),decide_eq_true (show 1≤x.dims[k]∧x.dims[k]≤6 by omega)];rfl
      ·rw [decide_eq_true (show(6:Int)<x.dims[k] by omega),decide_eq_false (show¬(1≤x.dims[k]∧x.dims[k]≤6) by omega)];rfl
     ·subst hz
      cases hb2:decide (1≤x.dims[k]∧x.dims[k]≤6) with
      |false=>
       refine Ev.some (hno ?_)
       rw [hap]
       exact List.all_eq_false.2 ⟨_,List.mem_of_getElem? hd,by rw [hb2];simp⟩
      |true=>
       rw [ek]
       refine hr _ ⟨k+1,rfl,by omega,fun t d ht hd2=> ?_⟩ (by omega)
       by_cases htk:t=k
       ·subst htk;rw [hd] at hd2;cases hd2;exact hb2
       ·exact ha t d (by omega) hd2
    ·have e:wr ((i:Int)+1)=(i:Int)+1:=aM (by omega)
     rw [e]
     refine hgo ?_
     rw [hap]
     refine List.all_eq_true.2 (fun d hd=> ?_)
     obtain⟨t,ht⟩:=List.getElem?_of_mem hd
     have:=(List.getElem?_eq_some_iff.1 ht).1
     exact ha t d (by omega) ht
 ·rw [decide_eq_false (show¬(list.length:Int)<(list.length:Int) by omega)]
  refine Ev.some ?_
  unfold iH
  rw [oZ hall,Bool.true_and]
  exact decide_eq_decide.2 (by omega)
 ·unfold iH;rw [m5 hx hp];rfl
def G3:List Int→Int
 | []=>1
 |d::ds=>d*G3 ds
theorem aDi{ds:List Int}(h:iW ds=true):(∃a,ds=[a]∧1≤a∧a≤6)∨ ∃a b,ds=[a,b]∧(1≤a∧a≤6)∧1≤b∧b≤6:=by
 simp only [iW,Bool.and_eq_true,decide_eq_true_eq,List.all_eq_true] at h
 obtain⟨⟨h1,h2⟩,h3⟩:=h
 match ds,h1,h2,h3 with
 | [a],_,_,h3=>exact .inl ⟨a,rfl,h3 a (by simp)⟩
 | [a,b],_,_,h3=>exact .inr ⟨a,b,rfl,h3 a (by simp),h3 b (by simp)⟩
theorem aKz{a b:Int}(ha:1≤a∧a≤6)(hb:1≤b∧b≤6):1≤a*b∧a*b≤36:=by
 constructor
 ·have:=Int.mul_le_mul ha.1 hb.1 (by omega) (by omega);omega
 ·have:=Int.mul_le_mul ha.2 hb.2 (by omega) (by omega);omega
theorem G2{ds:List Int}(h:iW ds=true):1≤G3 ds∧G3 ds≤36:=by
 rcases aDi h with ⟨a,rfl,h1⟩|⟨a,b,rfl,h1,h2⟩
 ·simp [G3];omega
 ·have:=aKz h1 h2;simp [G3];omega
theorem sV{n:Nat}(hn:6000≤n){x:Arr}(h:iW x.dims=true):sW n x=some (G3 x.dims):=by
 obtain⟨n,rfl⟩: ∃j,n=j+3:=⟨n-3,by omega⟩
 unfold sW
 rcases aDi h with ⟨a,e,h1⟩|⟨a,b,e,h1,h2⟩
 ·rw [e]
  have e1:wr a=a:=aM (by omega)
  simp [aL,ix,G3,e1,show wr 1=1 from aM (by omega)]
 ·rw [e]
  have:=aKz h1 h2
  have e1:wr a=a:=aM (by omega)
  have e2:wr (a*b)=a*b:=aM (by omega)
  simp [aL,ix,G3,e1,e2,show wr 1=1 from aM (by omega),show wr 2=2 from aM (by omega)]
theorem aET{n:Nat}(hn:6000≤n){x:Arr}(h:iW x.dims=true):kS n x=some (G3 x.dims):=sV hn h
def oL:List Affine→List Int→List Int→Int→Int
 |s::ss,d::ds,p,acc=>if 0≤fY s p∧fY s p<d then oL ss ds p (acc*d+fY s p) else-1
 |_,_,_,acc=>acc
def cI:List Arr→Access→List Int→Int→Int
 | [],_,_,_=> -1
 |x::xs,a,p,base=>if x.name=a.array then(if a.subs.length=x.dims.length then(if oL a.subs x.dims p 0<0 then-1 else base+oL a.subs x.dims p 0) else-1) else cI xs a p (base+G3 x.dims)
def fG(xs:List Arr):Prop:= ∀x∈xs,iW x.dims=true
theorem aKE{ds:List Int}(hd:iW ds=true){ss:List Affine}(hl:ss.length=ds.length)(p:List Int):oL ss ds p 0= -1∨(0≤oL ss ds p 0∧oL ss ds p 0<G3 ds):=by
 rcases aDi hd with ⟨a,rfl,h1⟩|⟨a,b,rfl,h1,h2⟩
 ·match ss,hl with
  | [s],_=>
   simp only [oL,G3,Int.zero_mul,Int.zero_add,Int.mul_one]
   split<;>omega
 ·match ss,hl with
  | [s,t],_=>
   simp only [oL,G3,Int.zero_mul,Int.zero_add,Int.mul_one]
   split
   ·rename_i hs
    split
    ·rename_i ht
     refine .inr ⟨?_,?_⟩
     ·have:=Int.mul_nonneg hs.1 (show 0≤b by omega);omega
     ·have:=Int.mul_le_mul_of_nonneg_right (show fY s p≤a-1 by omega) (show 0≤b by omega)
      rw [Int.sub_mul] at this;omega
    ·exact .inl rfl
   ·exact .inl rfl
def gF(xs:List Arr):Int:=(xs.map (fun x=>G3 x.dims)).sum
theorem E4: ∀{xs:List Arr},fG xs→ ∀(a:Access) (p:List Int) (base:Int),0≤base→cI xs a p base= -1∨(base≤cI xs a p base∧cI xs a p base<base+gF xs)
 | [],_,a,p,base,_=> .inl rfl
 |x::xs,hd,a,p,base,hb=>by
  have hx:=hd x (by simp)
  have hs:=G2 hx
  have hxs:fG xs:=fun y hy=>hd y (by simp [hy])
  have ht:0≤gF xs:=by
   have:=nO (fun x:Arr=>G3 x.dims) xs (fun y hy=>(G2 (hxs y hy)).1)
   unfold gF;omega
  have e:gF (x::xs)=G3 x.dims+gF xs:=by simp [gF]
  rw [e]
  simp only [cI]
  split
  ·split
   ·rename_i hl
    rcases aKE hx hl p with h|h
    ·rw [if_pos (by omega)];exact .inl rfl
    ·rw [if_neg (by omega)];exact .inr ⟨by omega,by omega⟩
   ·exact .inl rfl
  ·rcases E4 hxs a p (base+G3 x.dims) (by omega) with h|h
   ·exact .inl h
   ·exact .inr ⟨by omega,by omega⟩
theorem Q3{a:Access}{d:Int}(h:iI a d=true):1≤a.subs.length∧a.subs.length≤2∧ ∀x∈a.subs,dK x=true:=by
 simp only [iI,Bool.and_eq_true,decide_eq_true_eq,List.all_eq_true] at h
 refine⟨h.2.2.1,h.2.2.2,fun x hx=> ?_⟩
 have:=h.1 x hx
 simp only [bV,Bool.and_eq_true] at this
 exact this.1
theorem qD{α:Type}{l:List α}{i:Nat}{x:α}(h:l[i]? =some x):l.drop i=x::l.drop (i+1):=by
 obtain⟨h1,h2⟩:=List.getElem?_eq_some_iff.1 h
 rw [List.drop_eq_getElem_cons h1,h2]
theorem aCb{a d v:Int}(ha:0≤a∧a≤36)(hd:1≤d∧d≤6)(hv:0≤v∧v<d):0≤a*d∧a*d≤216∧0≤a*d+v:=by
 have h1:=Int.mul_nonneg ha.1 (show 0≤d by omega)
 have h2:=Int.mul_le_mul ha.2 hd.2 (by omega) (by omega)
 omega
theorem aGr{n:Nat}(hn:6000≤n){a:Access}(h1:a.subs.length≤2)(h2: ∀x∈a.subs,dK x=true){ds:List Int}(hd:iW ds=true)(hl:a.subs.length=ds.length){k:Nat}{p:List Int}(hp:oM k p)(base:Int)(hb:0≤base∧base≤1000000):
  aL (fun again8 ((x6,x7):Int×Int)=>bif decide (x7<(a.subs.length:Int)) then(Option.bind (ix a.subs x7) fun x9=>Option.bind (cD n x9 p) fun x10=>Option.bind (ix ds x7) fun x11=>Option.bind (cB n x10 0 (wr (x11-1))) fun x12=>bif !x12 then(some (-1)) else(again8 (wr ((wr (x6*x11))+x10),wr (x7+1)))) else(some (wr (base+x6)))) n (0,0)
   =some (if oL a.subs ds p 0<0 then-1 else base+oL a.subs ds p 0):=by
 have hdm: ∀d∈ds,1≤d∧d≤6:=by
  simp only [iW,Bool.and_eq_true,decide_eq_true_eq,List.all_eq_true] at hd
  exact fun d h=>hd.2 d h
 refine Ev.eq ?_
 refine Ev.loop (fun x:Int×Int=> ∃i:Nat,x.2=i∧i≤a.subs.length∧0≤x.1∧x.1≤36*i∧(i=0→x.1=0)∧(i=1→x.1≤5)∧oL a.subs ds p 0=oL (a.subs.drop i) (ds.drop i) p x.1) (fun x=>a.subs.length-x.2.toNat) ?_ n _ ⟨0,rfl,by omega,by simp,by simp,fun _=>rfl,fun h=>by omega,rfl⟩ (by simp;omega)
 rintro again ⟨x,z⟩ ⟨i,hz,hi,hx0,hx1,hx2,hx3,hx⟩ hr
 dsimp only at hz hx0 hx1 hx2 hx3 hx⊢
 subst hz
 refine aG (fun hlt=> ?_) (fun hge=>Ev.some ?_)
 ·have hs:=List.getElem?_eq_getElem (show i<a.subs.length by omega)
  have hdd:=List.getElem?_eq_getElem (show i<ds.length by omega)
  have hdb:=hdm _ (List.mem_of_getElem? hdd)
  have ew:wr (ds[i]-1)=ds[i]-1:=aM (by omega)
  rw [qD hs,qD hdd] at hx
  simp only [oL] at hx
  refine aA (aQ hs) (aA (aEV (by omega) (h2 _ (List.mem_of_getElem? hs)) hp) (aA (aQ hdd) (aA (eE _ _ _ _) ?_)))
  rw [ew]
  by_cases hc:0≤fY a.subs[i] p∧fY a.subs[i] p<ds[i]
  ·rw [if_pos hc] at hx
   rw [decide_eq_true (show 0≤fY a.subs[i] p∧fY a.subs[i] p≤ds[i]-1 by omega)]
   obtain⟨g1,g2,g3⟩:=aCb (a:=x) (by omega) hdb hc
   refine b8 ?_
   rw [aM (n:=x*ds[i]) (by omega),aM (n:=x*ds[i]+fY a.subs[i] p) (by omega),aM (by omega)]
   have hi01:i=0∨i=1:=by omega
   refine hr _ ⟨i+1,by dsimp only;omega,by omega,by dsimp only;omega,?_,fun h=>by omega,fun h=> ?_,hx⟩ (by dsimp only;omega)
   ·dsimp only
    rcases hi01 with rfl|rfl
    ·rw [hx2 rfl];omega
    ·have:=hx3 rfl
     have:=Int.mul_le_mul this hdb.2 (by omega) (by omega)
     omega
   ·dsimp only
    have:i=0:=by omega
    subst this
    rw [hx2 rfl];omega
  ·rw [if_neg hc] at hx
   rw [decide_eq_false (show¬(0≤fY a.subs[i] p∧fY a.subs[i] p≤ds[i]-1) by omega)]
   refine bZ (Ev.some ?_)
   rw [hx];rfl
 ·have hie:i=a.subs.length:=by omega
  have hdr:oL (a.subs.drop i) (ds.drop i) p x=x:=by
   rw [hie,List.drop_length];unfold oL;rfl
  rw [hdr] at hx
  rw [hx,if_neg (by omega),aM (by omega)]
theorem aFX{n:Nat}(hn:6000≤n){a:Access}(h0:1≤a.subs.length)(h1:a.subs.length≤2)(h2: ∀x∈a.subs,dK x=true){ds:List Int}(hd:iW ds=true){k:Nat}{p:List Int}(hp:oM k p)(base:Int)(hb:0≤base∧base≤1000000):
  aL (fun again8 ((x6,x7):Int×Int)=>bif decide (x7<(a.subs.length:Int)) then(bif !decide ((a.subs.length:Int)=(ds.length:Int)) then(some (-1)) else(Option.bind (ix a.subs x7) fun x9=>Option.bind (gZ n x9 p) fun x10=>jn (fun(x13:Bool)=>bif x13 then(some (-1)) else(Option.bind (ix ds x7) fun x14=>again8 (wr ((wr (x6*x14))+x10),wr (x7+1)))) (fun j11=>bif decide (x10<0) then(j11 true) else(Option.bind (ix ds x7) fun x12=>j11 (decide (x12≤x10)))))) else(some (wr (base+x6)))) n (0,0)
   =some (if a.subs.length=ds.length then(if oL a.subs ds p 0<0 then-1 else base+oL a.subs ds p 0) else-1):=by
 by_cases hl:a.subs.length=ds.length
 ·rw [if_pos hl]
  rw [decide_eq_true (show(a.subs.length:Int)=(ds.length:Int) by omega)]
  have hdm: ∀d∈ds,1≤d∧d≤6:=by
   simp only [iW,Bool.and_eq_true,decide_eq_true_eq,List.all_eq_true] at hd
   exact fun d h=>hd.2 d h
  refine Ev.eq ?_
  refine Ev.loop (fun x:Int×Int=> ∃i:Nat,x.2=i∧i≤a.subs.length∧0≤x.1∧x.1≤36*i∧(i=0→x.1=0)∧(i=1→x.1≤5)∧oL a.subs ds p 0=oL (a.subs.drop i) (ds.drop i) p x.1) (fun x=>a.subs.length-x.2.toNat) ?_ n _ ⟨0,rfl,by omega,by simp,by simp,fun _=>rfl,fun h=>by omega,rfl⟩ (by simp;omega)
  rintro again ⟨x,z⟩ ⟨i,hz,hi,hx0,hx1,hx2,hx3,hx⟩ hr
  dsimp only at hz hx0 hx1 hx2 hx3 hx⊢
  subst hz
  refine aG (fun hlt=> ?_) (fun hge=>Ev.some ?_)
  ·have hs:=List.getElem?_eq_getElem (show i<a.subs.length by omega)
   have hdd:=List.getElem?_eq_getElem (show i<ds.length by omega)
   have hdb:=hdm _ (List.mem_of_getElem? hdd)
   rw [qD hs,qD hdd] at hx
   simp only [oL] at hx
   refine b8 (aA (aQ hs) (aA (aFY (by omega) (h2 _ (List.mem_of_getElem? hs)) hp) (Ev.jn (fun z=>z= !decide (0≤fY a.subs[i] p∧fY a.subs[i] p<ds[i])) (fun j hj=>aG (fun h=>hj _ ?_) (fun h=>aA (aQ hdd) (hj _ ?_))) (fun z hz=> ?_))))
   ·rw [decide_eq_false (by omega)];rfl
   ·by_cases hc:ds[i]≤fY a.subs[i] p
    ·rw [decide_eq_true hc,decide_eq_false (by omega)];rfl
    ·rw [decide_eq_false hc,decide_eq_true (by omega)];rfl
   subst hz
   by_cases hc:0≤fY a.subs[i] p∧fY a.subs[i] p<ds[i]
   ·rw [if_pos hc] at hx
    rw [decide_eq_true hc]
    obtain⟨g1,g2,g3⟩:=aCb (a:=x) (by omega) hdb hc
    refine b8 (aA (aQ hdd) ?_)
    rw [aM (n:=x*ds[i]) (by omega),aM (n:=x*ds[i]+fY a.subs[i] p) (by omega),aM (by omega)]
    have hi01:i=0∨i=1:=by omega
    refine hr _ ⟨i+1,by dsimp only;omega,by omega,by dsimp only;omega,?_,fun h=>by omega,fun h=> ?_,hx⟩ (by dsimp only;omega)
    ·dsimp only
     rcases hi01 with rfl|rfl
     ·rw [hx2 rfl];omega
     ·have:=hx3 rfl
      have:=Int.mul_le_mul this hdb.2 (by omega) (by omega)
      omega
    ·dsimp only
     have:i=0:=by omega
     subst this
     rw [hx2 rfl];omega
   ·rw [if_neg hc] at hx
    rw [decide_eq_false hc]
    refine bZ (Ev.some ?_)
    rw [hx];rfl
  ·have hie:i=a.subs.length:=by omega
   have hdr:oL (a.subs.drop i) (ds.drop i) p x=x:=by
    rw [hie,List.drop_length];unfold oL;rfl
   rw [hdr] at hx
   rw [hx,if_neg (by omega),aM (by omega)]
 ·rw [if_neg hl,decide_eq_false (show¬(a.subs.length:Int)=(ds.length:Int) by omega)]
  obtain⟨n,rfl⟩: ∃j,n=j+1:=⟨n-1,by omega⟩
  simp only [aL]
  rw [decide_eq_true (show(0:Int)<(a.subs.length:Int) by omega)]
  rfl
theorem nK{n:Nat}(hn:6000≤n){p:Prog}(hl:p.arrays.length≤4)(hd:fG p.arrays){a:Access}{d:Int}(ha:iI a d=true){k:Nat}{q:List Int}(hq:oM k q):cM n p a q=some (cI p.arrays a q 0):=by
 obtain⟨a0,a1,a2⟩:=Q3 ha
 refine Ev.eq ?_
 unfold cM
 refine Ev.loop (fun x:Int×Int=> ∃i:Nat,x.2=i∧i≤p.arrays.length∧0≤x.1∧x.1≤36*i∧cI p.arrays a q 0=cI (p.arrays.drop i) a q x.1) (fun x=>p.arrays.length-x.2.toNat) ?_ n _ ⟨0,rfl,by omega,by simp,by simp,rfl⟩ (by simp;omega)
 rintro again ⟨x,z⟩ ⟨i,hz,hi,hx0,hx1,hx⟩ hr
 dsimp only at hz hx0 hx1 hx⊢
 subst hz
 refine aG (fun hlt=> ?_) (fun hge=>Ev.some ?_)
 ·have hy:=List.getElem?_eq_getElem (show i<p.arrays.length by omega)
  have hdy:=hd _ (List.mem_of_getElem? hy)
  have hsz:=G2 hdy
  rw [qD hy] at hx
  simp only [cI] at hx
  refine aA (aQ hy) (gU (fun hne=> ?_) (fun he=> ?_))
  ·rw [if_neg hne] at hx
   refine aA (aET hn hdy) ?_
   rw [aM (n:=x+G3 p.arrays[i].dims) (by omega),aM (by omega)]
   exact hr _ ⟨i+1,by dsimp only;omega,by omega,by dsimp only;omega,by dsimp only;omega,hx⟩ (by dsimp only;omega)
  ·rw [if_pos he] at hx
   refine gU (fun hne=>Ev.some ?_) (fun hle=> ?_)
   ·rw [hx,if_neg (by omega)]
   ·have hle':a.subs.length=p.arrays[i].dims.length:=by omega
    rw [if_pos hle'] at hx
    exact Ev.of (aGr hn a1 a2 hdy hle' hq x (by omega)) hx.symm
 ·have hie:i=p.arrays.length:=by omega
  rw [hx,hie,List.drop_length];rfl
theorem T3{n:Nat}(hn:6000≤n){list:List Arr}(hl:list.length≤4)(hd:fG list){a:Access}{d:Int}(ha:iI a d=true){k:Nat}{q:List Int}(hq:oM k q):pN n list a q=some (cI list a q 0):=by
 obtain⟨a0,a1,a2⟩:=Q3 ha
 refine Ev.eq ?_
 unfold pN
 refine Ev.loop (fun x:Int×Int=> ∃i:Nat,x.2=i∧i≤list.length∧0≤x.1∧x.1≤36*i∧cI list a q 0=cI (list.drop i) a q x.1) (fun x=>list.length-x.2.toNat) ?_ n _ ⟨0,rfl,by omega,by simp,by simp,rfl⟩ (by simp;omega)
 rintro again ⟨x,z⟩ ⟨i,hz,hi,hx0,hx1,hx⟩ hr
 dsimp only at hz hx0 hx1 hx⊢
 subst hz
 refine aG (fun hlt=> ?_) (fun hge=>Ev.some ?_)
 ·have hy:=List.getElem?_eq_getElem (show i<list.length by omega)
  have hdy:=hd _ (List.mem_of_getElem? hy)
  have hsz:=G2 hdy
  rw [qD hy] at hx
  simp only [cI] at hx
  refine aA (aQ hy) (gU (fun hne=> ?_) (fun he=> ?_))
  ·rw [if_neg hne] at hx
   refine aA (sV hn hdy) ?_
   rw [aM (n:=x+G3 list[i].dims) (by omega),aM (by omega)]
   exact hr _ ⟨i+1,by dsimp only;omega,by omega,by dsimp only;omega,by dsimp only;omega,hx⟩ (by dsimp only;omega)
  ·rw [if_pos he] at hx
   exact Ev.of (aFX hn a0 a1 a2 hdy hq x (by omega)) hx.symm
 ·have hie:i=list.length:=by omega
  rw [hx,hie,List.drop_length];rfl
def bY:Nat→Expr→List Access
 |0,_=>[]
 |L+1,e=>(if e.kind=3 then [e.read] else [])++e.kids.flatMap (bY L)
theorem uD{d:Int}: ∀{L:Nat} {e:Expr},dQ L e d=true→ ∀a∈bY L e,iI a d=true
 |0,e,h,a,ha=>by cases h
 |L+1,e,h,a,ha=>by
  obtain⟨h1,h2,h3⟩:=jE h
  simp only [bY,List.mem_append,List.mem_flatMap] at ha
  rcases ha with ha|⟨k,hk,ha⟩
  ·split at ha
   ·rename_i hk3
    simp at ha;subst ha
    unfold fT at h2
    rw [if_neg (by omega),if_pos hk3] at h2
    simp only [Bool.and_eq_true] at h2
    exact h2.2.2
   ·simp at ha
  ·exact uD (h3 k hk) a ha
theorem uC: ∀(L:Nat) (e:Expr),((bY L e).length:Int)≤sD L e
 |0,e=>by simp [bY,sD]
 |L+1,e=>by
  have h: ∀(l:List Expr),((l.flatMap (bY L)).length:Int)≤(l.map (sD L)).sum:=by
   intro l
   induction l with
   |nil=>simp
   |cons k l ih=>
    have:=uC L k
    simp only [List.flatMap_cons,List.length_append,List.map_cons,List.sum_cons];omega
  have:=h e.kids
  simp only [bY,sD,List.length_append]
  split
  ·rw [List.length_singleton];omega
  ·rw [List.length_nil];omega
theorem vO{d:Int}: ∀(L n:Nat) (e:Expr),6000+L≤n→L≤5→dQ L e d=true→i_reads (n+1) e=some (bY L e)
 |0,n,e,_,_,h=>by cases h
 |L+1,n,e,hn,hL,h=>by
  obtain⟨h1,h2,h3⟩:=jE h
  have hk2:=pU e.kind
  unfold i_reads
  refine Ev.eq (aG (fun h3k=>Ev.some ?_) (fun hn3=> ?_))
  ·have:e.kids=[]:=by
    have hz:gS e.kind=0:=by unfold gS;rw [if_pos (Or.inr (Or.inr h3k))]
    exact List.eq_nil_of_length_eq_zero (by omega)
   simp [bY,h3k,this]
  ·obtain⟨n,rfl⟩: ∃j,n=j+1:=⟨n-1,by omega⟩
   have hcb: ∀k∈e.kids,((bY L k).length:Int)≤100:=fun k hk=>by
    have h5:=aAB (h3 k hk)
    have h6:(2:Int)^L≤40:=by
     match L,hL with
     |0,_=>decide
     |1,_=>decide
     |2,_=>decide
     |3,_=>decide
     |4,_=>decide
    have:=uC L k
    omega
   refine Ev.loop (fun x:List Access×Int=> ∃i:Nat,x.2=i∧i≤e.kids.length∧x.1=(e.kids.take i).flatMap (bY L)∧(x.1.length:Int)≤100*i) (fun x=>e.kids.length-x.2.toNat) ?_ (n+1) _ ⟨0,rfl,by omega,by simp,by simp⟩ (by simp;omega)
   rintro again ⟨x,k⟩ ⟨i,hk,hi,hx,hxl⟩ hr
   dsimp only at hk hx hxl⊢
   subst hk
   refine aG (fun hlt=> ?_) (fun hge=>Ev.some ?_)
   ·have hk3:=List.getElem?_eq_getElem (show i<e.kids.length by omega)
    have hm:=List.mem_of_getElem? hk3
    have hb:=hcb _ hm
    refine aA (aQ hk3) (aA (vO (d:=d) L n _ (by omega) (by omega) (h3 _ hm)) (aA (bT (by omega)) ?_))
    rw [aM (by omega)]
    refine hr _ ⟨i+1,by dsimp only;omega,by omega,?_,by dsimp only;rw [List.length_append];omega⟩ (by dsimp only;omega)
    dsimp only
    rw [List.take_add_one,hk3,List.flatMap_append,hx];simp
   ·have:i=e.kids.length:=by omega
    rw [hx,this,List.take_length]
    simp [bY,hn3]
theorem N3(n:Nat){a:Affine}(h:a.coefs.length≤1000):fM n a=some a:=by
 unfold fM
 refine Ev.eq (aG (fun h0=>Ev.some ?_) (fun h0=>aA (eB _ h) (Ev.some rfl)))
 obtain⟨cs,c⟩:=a
 have:cs=[]:=List.eq_nil_of_length_eq_zero (by simpa using h0)
 subst this;rfl
theorem vW{n:Nat}(hn:5000≤n){a:Access}(h:C8 a.subs):eH n a=some a:=by
 obtain⟨h0,h1⟩:=h
 refine Ev.eq ?_
 unfold eH
 refine Ev.loop (fun x:List Affine×Int=> ∃i:Nat,x.2=i∧i≤a.subs.length∧x.1=a.subs.take i) (fun x=>a.subs.length-x.2.toNat) ?_ n _ ⟨0,rfl,by omega,by simp⟩ (by simp;omega)
 rintro again ⟨x,k⟩ ⟨i,hk,hi,hx⟩ hr
 dsimp only at hk hx⊢
 subst hk
 refine aG (fun hlt=> ?_) (fun hge=>Ev.some ?_)
 ·have hs:=List.getElem?_eq_getElem (show i<a.subs.length by omega)
  have hl:x.length=i:=by rw [hx,List.length_take];omega
  refine aA (aQ hs) (aA (N3 n (h1 _ (List.mem_of_getElem? hs))) (aA (bT (by simp;omega)) ?_))
  rw [aM (by omega)]
  refine hr _ ⟨i+1,by dsimp only;omega,by omega,?_⟩ (by dsimp only;omega)
  dsimp only
  rw [List.take_add_one,hs,hx];rfl
 ·have:i=a.subs.length:=by omega
  rw [hx,this,List.take_length]
theorem aIO{l:List Affine}(h1:l.length≤2)(h2: ∀a∈l,dK a=true):C8 l:=⟨by omega,fun a ha=>by have:=(rQ (h2 a ha)).1;unfold SmA;omega⟩
theorem G7{d:Int}: ∀(L n:Nat) (e:Expr) (out:List Access),6000+L≤n→L≤5→dQ L e d=true→(out.length:Int)≤1000+200*(6-(L:Int))→s_l3Reads (n+1) out e=some (out++bY L e)
 |0,n,e,out,_,_,h,_=>by cases h
 |L+1,n,e,out,hn,hL,h,ho=>by
  obtain⟨h1,h2,h3⟩:=jE h
  have hk2:=pU e.kind
  unfold s_l3Reads
  refine Ev.eq (Ev.jn (fun z=>z=out++(if e.kind=3 then [e.read] else [])) (fun j hj=>aG (fun h3k=> ?_) (fun hn3=>hj _ (by rw [if_neg hn3];simp))) (fun z hz=> ?_))
  ·have ha:=uD h e.read (by simp [bY,h3k])
   obtain⟨_,b1,b2⟩:=Q3 ha
   exact aA (vW (by omega) (aIO b1 b2)) (aA (bT (by simp;omega)) (hj _ (by rw [if_pos h3k])))
  ·subst hz
   obtain⟨n,rfl⟩: ∃j,n=j+1:=⟨n-1,by omega⟩
   by_cases h3k:e.kind=3
   ·have hnil:e.kids=[]:=by
     have hz:gS e.kind=0:=by unfold gS;rw [if_pos (Or.inr (Or.inr h3k))]
     exact List.eq_nil_of_length_eq_zero (by omega)
    rw [hnil]
    refine Ev.some ?_
    simp [bY,h3k,hnil]
   ·have hcb: ∀k∈e.kids,((bY L k).length:Int)≤100:=fun k hk=>by
     have h5:=aAB (h3 k hk)
     have h6:(2:Int)^L≤40:=by
      match L,hL with
      |0,_=>decide
      |1,_=>decide
      |2,_=>decide
      |3,_=>decide
      |4,_=>decide
     have:=uC L k
     omega
    rw [if_neg h3k,List.append_nil]
    refine Ev.loop (fun x:List Access×Int=> ∃i:Nat,x.2=i∧i≤e.kids.length∧x.1=out++(e.kids.take i).flatMap (bY L)∧(x.1.length:Int)≤out.length+100*i) (fun x=>e.kids.length-x.2.toNat) ?_ (n+1) _ ⟨0,rfl,by omega,by simp,by simp⟩ (by simp;omega)
    rintro again ⟨x,k⟩ ⟨i,hk,hi,hx,hxl⟩ hr
    dsimp only at hk hx hxl⊢
    subst hk
    refine aG (fun hlt=> ?_) (fun hge=>Ev.some ?_)
    ·have hk3:=List.getElem?_eq_getElem (show i<e.kids.length by omega)
     have hm:=List.mem_of_getElem? hk3
     have hb:=hcb _ hm
     refine aA (aQ hk3) (aA (G7 (d:=d) L n _ x (by omega) (by omega) (h3 _ hm) (by omega)) ?_)
     rw [aM (by omega)]
     refine hr _ ⟨i+1,by dsimp only;omega,by omega,?_,by dsimp only;rw [List.length_append];omega⟩ (by dsimp only;omega)
     dsimp only
     rw [List.take_add_one,hk3,List.flatMap_append,hx];simp
    ·have:i=e.kids.length:=by omega
     rw [hx,this,List.take_length]
     simp [bY,h3k]
theorem aF5{nest:List Loop}(hf:Fit nest): ∀(ls:List Loop) (k:Nat) (p q:List Int),nest.drop k=ls→k≤nest.length→oM k p→q∈pts ls p→oM nest.length q
 | [],k,p,q,hd,hk,hp,hq=>by
  have:=xR hd hk
  simp only [pts,List.mem_singleton] at hq
  subst hq;subst this;exact hp
 |l::ls,k,p,q,hd,hk,hp,hq=>by
  obtain⟨d1,d2,d3⟩:=uK hd
  obtain⟨s1,s2⟩:=hf.2 k l d1
  have hf1:=hf.1
  simp only [pts,List.mem_flatMap] at hq
  obtain⟨v,hv,hq⟩:=hq
  exact aF5 hf ls (k+1) _ q d2 (by omega) (D4 s1 s2 hp (by omega) (aH5.1 hv)) hq
theorem aFi{nest:List Loop}{ps:List (List Int)}(h:NP nest=some ps):Fit nest∧ps.length≤120∧(∀q∈ps,oM nest.length q)∧ps=pts nest []∧wk nest []≤1200:=by
 unfold NP at h
 split at h
 ·rename_i hc
  cases h
  have hf:=aAn hc.1
  exact⟨hf,hc.2.2,fun q hq=>aF5 hf nest 0 [] q rfl (by omega) pt0 hq,rfl,hc.2.1⟩
 ·cases h
def dR(list:List Arr)(s:Stmt)(q:List Int):Bool:=decide (0≤cI list s.write q 0)&&(bY 5 s.value).all (fun a=>decide (0≤cI list a q 0))
theorem o9{s:Stmt}{d:Int}(h:gX s d=true):iI s.write d=true∧dQ 5 s.value d=true∧(∀a∈bY 5 s.value,iI a d=true)∧(bY 5 s.value).length≤12:=by
 simp only [gX,Bool.and_eq_true,decide_eq_true_eq] at h
 obtain⟨_,h1,h2,h3⟩:=h
 have:=uC 5 s.value
 exact⟨h1,h2,uD h2,by omega⟩
theorem aBx{n:Nat}(hn:7000≤n){p:Prog}(hl:p.arrays.length≤4)(hd:fG p.arrays){s:Stmt}{d:Int}(hs:gX s d=true){k:Nat}{q:List Int}(hq:oM k q):fW n p s q=some (dR p.arrays s q):=by
 obtain⟨h1,h2,h3,h4⟩:=o9 hs
 obtain⟨n,rfl⟩: ∃j,n=j+1:=⟨n-1,by omega⟩
 refine Ev.eq ?_
 unfold fW
 generalize hT:dR p.arrays s q=T
 unfold dR at hT
 refine Ev.jn (fun z=>z=T) (fun j hj=>aA (nK (by omega) hl hd h1 hq) (aG (fun h=> ?_) (fun h=>hj _ ?_))) (fun z hz=>Ev.some hz)
 ·have hc:=C2 (n:=n+1) (f:=fun q0=>dO (n+1) q0 p q) (p:=fun a=>decide (cI p.arrays a q 0<0)) (l:=bY 5 s.value)
   (fun a ha=>by unfold dO;rw [nK (by omega) hl hd (h3 a ha) hq];rfl) (by omega) (by omega)
  refine aA (vO (d:=d) 5 n s.value (by omega) (by omega) h2) (aA hc (hj _ ?_))
  rw [←hT,decide_eq_true h,Bool.true_and,List.all_eq_not_any_not]
  congr 1
  apply congrArg (fun f=>List.any (bY 5 s.value) f)
  funext a
  rw [ltd]
 ·rw [←hT,decide_eq_false h];rfl
theorem wY{n:Nat}(hn:7000≤n){list:List Arr}(hl:list.length≤4)(hd:fG list){s:Stmt}{d:Int}(hs:gX s d=true){k:Nat}{q:List Int}(hq:oM k q):
  lG n list s q=some (if dR list s q=true then((bY 5 s.value).map (fun a=>cI list a q 0),cI list s.write q 0,true) else([],0,false)):=by
 obtain⟨h1,h2,h3,h4⟩:=o9 hs
 obtain⟨n,rfl⟩: ∃j,n=j+1:=⟨n-1,by omega⟩
 refine Ev.eq ?_
 unfold lG
 refine aA (G7 (d:=d) 5 n s.value [] (by omega) (by omega) h2 (by simp)) ?_
 rw [List.nil_append]
 generalize hR:bY 5 s.value=R at*
 have hco:dR list s q=(decide (0≤cI list s.write q 0)&&R.all (fun a=>decide (0≤cI list a q 0))):=by unfold dR;rw [hR]
 refine Ev.loop (fun x:List Int×Int=> ∃i:Nat,x.2=i∧i≤R.length∧x.1=(R.take i).map (fun a=>cI list a q 0)∧ ∀(t:Nat) a,t<i→R[t]? =some a→0≤cI list a q 0) (fun x=>R.length-x.2.toNat) ?_ (n+1) _ ⟨0,rfl,by omega,by simp,fun t a h=>by omega⟩ (by dsimp only;omega)
 rintro again ⟨x,z⟩ ⟨i,hz,hi,hx,ha⟩ hr
 dsimp only at hz hx ha⊢
 subst hz
 refine aG (fun hlt=> ?_) (fun hge=> ?_)
 ·have hg:=List.getElem?_eq_getElem (show i<R.length by omega)
  have hm:=List.mem_of_getElem? hg
  refine aA (aQ hg) (aA (T3 (by omega) hl hd (h3 _ hm) hq) (aG (fun hneg=>Ev.some ?_) (fun hpos=> ?_)))
  ·rw [if_neg]
   rw [hco]
   intro h
   rw [Bool.and_eq_true] at h
   have:=List.all_eq_true.1 h.2 _ hm
   rw [decide_eq_true_eq] at this
   omega
  ·have hl2:x.length≤12:=by rw [hx,List.length_map,List.length_take];omega
   refine aA (bT (by simp;omega)) ?_
   rw [aM (by omega)]
   refine hr _ ⟨i+1,by dsimp only;omega,by omega,?_,fun t a ht hta=> ?_⟩ (by dsimp only;omega)
   ·dsimp only
    rw [List.take_add_one,hg,List.map_append,hx];rfl
   ·by_cases hti:t=i
    ·subst hti;rw [hg] at hta;cases hta;omega
    ·exact ha t a (by omega) hta
 ·have hie:i=R.length:=by omega
  have hall:R.all (fun a=>decide (0≤cI list a q 0))=true:=List.all_eq_true.2 (fun a hm=>by
   obtain⟨t,ht⟩:=List.getElem?_of_mem hm
   have:=(List.getElem?_eq_some_iff.1 ht).1
   exact decide_eq_true (ha t a (by omega) ht))
  rw [hco,hall,Bool.and_true]
  refine aA (T3 (by omega) hl hd h1 hq) (aG (fun hneg=>Ev.some ?_) (fun hpos=>Ev.some ?_))
  ·rw [if_neg (by rw [decide_eq_true_eq];omega)]
  ·rw [if_pos (by rw [decide_eq_true_eq];omega),hx,hie,List.take_length]
def ptV(q:List Int):Bool:=decide (q.length≤4)&&q.all (fun x=>decide (-9999≤x∧x≤9999))
theorem aAj{n:Nat}(hn:5000≤n){q:List Int}(h:q.length≤1000):qA n q=some (ptV q):=by
 unfold qA ptV
 have hc:=m8 (n:=n) (f:=fun q0=>jV n q0) (p:=fun x=> !decide (-9999≤x∧x≤9999)) (l:=q) (fun x _=>by unfold jV;rw [eE];rfl) (by omega) (by omega)
 simp only [jn,Option.bind]
 rw [hc]
 have e:(q.any fun x=> !decide (-9999≤x∧x≤9999))= !(q.all fun x=>decide (-9999≤x∧x≤9999)):=by rw [List.all_eq_not_any_not];simp
 rw [e,show decide ((q.length:Int)≤4)=decide (q.length≤4) from decide_eq_decide.2 (by omega)]
 cases decide (q.length≤4)<;>simp
theorem Y9{n:Nat}(hn:5000≤n){q:List Int}(h:q.length≤1000):pP n q=some (ptV q):=by
 refine Ev.eq ?_
 unfold pP
 refine nD (l:=q) (p:=fun _ x=>decide (-9999≤x∧x≤9999)) (by omega) (by omega) (fun again i x hx hgo hno=> ?_) (fun again hall=> ?_) (fun⟨i,x,hx,hp⟩=> ?_)
 ·have hi:=(List.getElem?_eq_some_iff.1 hx).1
  rw [decide_eq_true (show(i:Int)<(q.length:Int) by omega)]
  refine bZ (aA (aQ hx) (aA (sN n x 9999 (by omega)) ?_))
  cases hp:decide (-9999≤x∧x≤9999) with
  |true=>show Ev (again _) _;rw [aM (by omega)];exact hgo hp
  |false=>exact Ev.some (hno hp)
 ·rw [decide_eq_false (show¬(q.length:Int)<(q.length:Int) by omega)]
  refine Ev.some ?_
  unfold ptV
  rw [List.all_eq_true.2 (fun c hc=>by obtain⟨i,hi⟩:=List.getElem?_of_mem hc;exact hall i c hi),Bool.and_true]
  exact decide_eq_decide.2 (by omega)
 ·unfold ptV
  rw [List.all_eq_false.2 ⟨x,List.mem_of_getElem? hx,by rw [hp];simp⟩,Bool.and_false]
theorem aCa{α:Type}(p q:α→Bool): ∀l:List α,(l.all p&&l.all q)=l.all (fun x=>p x&&q x)
 | []=>rfl
 |x::l=>by
  simp only [List.all_cons,←aCa p q l]
  cases p x<;>cases q x<;>cases l.all p<;>cases l.all q<;>rfl
def yL(part:Part):Bool:=decide (1≤part.body.length∧part.body.length≤4)&&part.body.all (fun s=>gX s (part.nest.length:Int))
def cH(part:Part):List (List Int):=(NP part.nest).getD []
def dD(list:List Arr)(part:Part):Bool:=(NP part.nest).isSome&&(yL part&&part.body.all (fun s=>(cH part).all (fun q=>dR list s q&&ptV q)))
def aAN(x:Part):Prop:=SmN x.nest∧x.body.length≤1000∧ ∀s∈x.body,SmS s
def SmP(p:Prog):Prop:=SmR p.arrays∧p.parts.length≤1000∧ ∀x∈p.parts,aAN x
theorem mD{list:List Arr}{x:Part}(h:dD list x=true):NP x.nest=some (cH x)∧(1≤x.body.length∧x.body.length≤4)∧(∀s∈x.body,gX s (x.nest.length:Int)=true)∧ ∀s∈x.body,∀q∈cH x,dR list s q=true∧ptV q=true:=by
 simp only [dD,yL,Bool.and_eq_true,decide_eq_true_eq,List.all_eq_true] at h
 refine⟨?_,h.2.1.1,h.2.1.2,h.2.2⟩
 unfold cH
 cases hn:NP x.nest with
 |none=>rw [hn] at h;simp at h
 |some ps=>rfl
theorem aDJ{list:List Arr}(h:iH list=true):list.length≤4∧fG list:=by
 simp only [iH,Bool.and_eq_true,decide_eq_true_eq] at h
 refine⟨h.2,fun x hx=> ?_⟩
 obtain⟨i,hi⟩:=List.getElem?_of_mem hx
 have:=K6 h.1 hi
 simp only [S6,Bool.and_eq_true] at this
 exact this.2.2
theorem sX{n:Nat}(hn:7000≤n){list:List Arr}(hl:list.length≤4)(hd:fG list){x:Part}(hx:aAN x):
  nP n list x=some (if dD list x=true then(((cH x).length:Int)*(x.body.length:Int),true) else(0,false)):=by
 obtain⟨h1,h2,h3⟩:=hx
 refine Ev.eq ?_
 unfold nP
 generalize hT:(if dD list x=true then(((cH x).length:Int)*(x.body.length:Int),true) else((0:Int),false))=T
 refine aA (B7 (by omega) h1) ?_
 have hbad:dD list x=false→((0:Int),false)=T:=fun h=>by rw [←hT,h];rfl
 refine Ev.jn (fun z=>z= !((NP x.nest).isSome&&decide (1≤x.body.length∧x.body.length≤4))) (fun j hj=> ?_) (fun z hz=> ?_)
 ·cases hN:NP x.nest with
  |none=>exact bZ (hj _ (by rw [hN];rfl))
  |some ps=>
   refine b8 (aG (fun h=>hj _ ?_) (fun h=>hj _ ?_))
   ·rw [hN,decide_eq_false (by omega)];rfl
   ·rw [hN]
    by_cases h4:x.body.length≤4
    ·rw [decide_eq_false (show¬(4:Int)<(x.body.length:Int) by omega),decide_eq_true (by omega)];rfl
    ·rw [decide_eq_true (show(4:Int)<(x.body.length:Int) by omega),decide_eq_false (by omega)];rfl
 subst hz
 cases hN:NP x.nest with
 |none=>exact Ev.some (hbad (by unfold dD;rw [hN];rfl))
 |some ps=>
  obtain⟨hf,hp1,hp2,hp3,hp4⟩:=aFi hN
  have hpp:cH x=ps:=by unfold cH;rw [hN];rfl
  by_cases hb:1≤x.body.length∧x.body.length≤4
  ·rw [decide_eq_true hb]
   refine b8 ?_
   have hok:dD list x=x.body.all (fun s=>gX s (x.nest.length:Int)&&ps.all (fun q=>dR list s q&&ptV q)):=by
    unfold dD yL
    rw [hN,hpp,decide_eq_true hb,Option.isSome_some,Bool.true_and,Bool.true_and]
    exact aCa _ _ _
   refine Ev.loop (fun y:Int=> ∃i:Nat,y=i∧i≤x.body.length∧ ∀(t:Nat) s,t<i→x.body[t]? =some s→(gX s (x.nest.length:Int)&&ps.all (fun q=>dR list s q&&ptV q))=true) (fun y=>x.body.length-y.toNat) ?_ n _ ⟨0,rfl,by omega,fun t s h=>by omega⟩ (by simp;omega)
   rintro again y ⟨i,rfl,hi,ha⟩ hr
   refine aG (fun hlt=> ?_) (fun hge=>Ev.some ?_)
   ·have hg:=List.getElem?_eq_getElem (show i<x.body.length by omega)
    have hm:=List.mem_of_getElem? hg
    refine aA (aQ hg) (aA (tE (by omega) (h3 _ hm) _) ?_)
    cases hsv:gX x.body[i] (x.nest.length:Int) with
    |false=>
     refine bZ (Ev.some (hbad ?_))
     rw [hok];exact List.all_eq_false.2 ⟨_,hm,by rw [hsv];simp⟩
    |true=>
     refine b8 ?_
     show Ev (aL (fun again9 (x8:Int)=>bif decide (x8<(ps.length:Int)) then _ else _) n 0) _
     refine Ev.loop (fun y:Int=> ∃k:Nat,y=k∧k≤ps.length∧ ∀(t:Nat) q,t<k→ps[t]? =some q→(dR list x.body[i] q&&ptV q)=true) (fun y=>ps.length-y.toNat) ?_ n _ ⟨0,rfl,by omega,fun t s h=>by omega⟩ (by simp;omega)
     rintro again9 y ⟨k,rfl,hk,hak⟩ hr9
     refine aG (fun hlt9=> ?_) (fun hge9=> ?_)
     ·have hgk:=List.getElem?_eq_getElem (show k<ps.length by omega)
      have hmk:=List.mem_of_getElem? hgk
      have hq:=hp2 _ hmk
      have hql:ps[k].length≤1000:=by have:=hq.1;have:=hq.2.1;omega
      refine aA (aQ hgk) (aA (wY (by omega) hl hd hsv hq) (Ev.jn (fun z=>z= !(dR list x.body[i] ps[k]&&ptV ps[k])) (fun j hj=> ?_) (fun z hz=> ?_)))
      ·cases hc:dR list x.body[i] ps[k] with
       |false=>
        rw [hc] at hj
        exact bZ (hj _ rfl)
       |true=>
        rw [hc] at hj
        exact b8 (aA (Y9 (by omega) hql) (hj _ rfl))
      ·subst hz
       cases hc:(dR list x.body[i] ps[k]&&ptV ps[k]) with
       |false=>
        refine Ev.some (hbad ?_)
        rw [hok]
        refine List.all_eq_false.2 ⟨_,hm,?_⟩
        rw [hsv,Bool.true_and]
        rw [List.all_eq_false.2 ⟨_,hmk,by rw [hc];simp⟩];simp
       |true=>
        show Ev (again9 _) _
        rw [aM (by omega)]
        refine hr9 _ ⟨k+1,by omega,by omega,fun t q ht htq=> ?_⟩ (by omega)
        by_cases htk:t=k
        ·subst htk;rw [hgk] at htq;cases htq;exact hc
        ·exact hak t q (by omega) htq
     ·rw [aM (by omega)]
      refine hr _ ⟨i+1,by omega,by omega,fun t s ht hts=> ?_⟩ (by omega)
      by_cases hti:t=i
      ·subst hti;rw [hg] at hts;cases hts
       rw [hsv,Bool.true_and]
       refine List.all_eq_true.2 (fun q hq=> ?_)
       obtain⟨t',ht'⟩:=List.getElem?_of_mem hq
       have:=(List.getElem?_eq_some_iff.1 ht').1
       exact hak t' q (by omega) ht'
      ·exact ha t s (by omega) hts
   ·have hall:dD list x=true:=by
     rw [hok]
     refine List.all_eq_true.2 (fun s hs=> ?_)
     obtain⟨t,ht⟩:=List.getElem?_of_mem hs
     have:=(List.getElem?_eq_some_iff.1 ht).1
     exact ha t s (by omega) ht
    rw [←hT,hall,if_pos rfl,hpp]
    show(wr ((ps.length:Int)*(x.body.length:Int)),true)=_
    have hb1:(0:Int)≤(ps.length:Int)*(x.body.length:Int):=Int.mul_nonneg (by omega) (by omega)
    have hb2:(ps.length:Int)*(x.body.length:Int)≤120*4:=Int.mul_le_mul (by omega) (by omega) (by omega) (by omega)
    rw [aM (by omega)]
  ·rw [decide_eq_false hb]
   refine Ev.some (hbad ?_)
   unfold dD yL
   rw [decide_eq_false hb];simp
def gC(x:Part):Int:=((cH x).length:Int)*(x.body.length:Int)
def instP(i:Nat)(x:Part):List Inst:=(cH x).flatMap fun q=>(List.range x.body.length).map fun(k:Nat)=>(⟨(i:Int),(k:Int),q⟩:Inst)
def insts(ps:List Part):List Inst:=ps.zipIdx.flatMap fun y=>instP y.2 y.1
def o8(p:Prog):Bool:=iH p.arrays&&(decide (p.parts.length≤4)&&p.parts.all (dD p.arrays))
def bK(p:Prog):Bool:=o8 p&&decide ((p.parts.map gC).sum≤120)
theorem insts_snoc(l:List Part)(x:Part):insts (l++[x])=insts l++instP l.length x:=by
 unfold insts
 rw [List.zipIdx_append,List.flatMap_append]
 simp
theorem insts_take{l:List Part}{i:Nat}{x:Part}(h:l[i]? =some x):insts (l.take (i+1))=insts (l.take i)++instP i x:=by
 have hi:=(List.getElem?_eq_some_iff.1 h).1
 rw [List.take_add_one,h]
 show insts (l.take i++[x])=_
 rw [insts_snoc,List.length_take,Nat.min_eq_left (Nat.le_of_lt hi)]
theorem xP{α β:Type}(f:α→List β)(m:Nat)(h: ∀x,(f x).length=m): ∀l:List α,(l.flatMap f).length=l.length*m
 | []=>by simp
 |x::l=>by rw [List.flatMap_cons,List.length_append,h,xP f m h l,List.length_cons,Nat.add_mul];omega
theorem instP_len(i:Nat)(x:Part):((instP i x).length:Int)=gC x:=by
 unfold instP gC
 rw [xP _ x.body.length (fun q=>by simp)]
 exact Int.natCast_mul _ _
theorem aA7{l:List Part}{i:Nat}{x:Part}(h:l[i]? =some x):((l.take (i+1)).map gC).sum=((l.take i).map gC).sum+gC x:=by
 rw [List.take_add_one,h];simp
theorem insts_len: ∀(l:List Part) (i:Nat),i≤l.length→((insts (l.take i)).length:Int)=((l.take i).map gC).sum
 |l,0,_=>by simp [insts]
 |l,i+1,h=>by
  have hg:=List.getElem?_eq_getElem (show i<l.length by omega)
  rw [insts_take hg,List.length_append,aA7 hg]
  have:=insts_len l i (by omega)
  have:=instP_len i l[i]
  omega
theorem insts_len'(l:List Part):((insts l).length:Int)=(l.map gC).sum:=by
 have:=insts_len l l.length (Nat.le_refl _)
 rwa [List.take_length] at this
theorem zN{list:List Arr}{x:Part}(h:dD list x=true):0≤gC x∧gC x≤480:=by
 obtain⟨h1,h2,_⟩:=mD h
 obtain⟨_,h3,_⟩:=aFi h1
 unfold gC
 refine⟨Int.mul_nonneg (by omega) (by omega),?_⟩
 have:=Int.mul_le_mul (show((cH x).length:Int)≤120 by omega) (show(x.body.length:Int)≤4 by omega) (by omega) (by omega)
 omega
theorem gQ{n:Nat}(hn:7000≤n){p:Prog}(hp:SmP p):cW n p=some (bK p):=by
 obtain⟨h1,h2,h3⟩:=hp
 refine Ev.eq ?_
 unfold cW
 generalize hT:bK p=T
 unfold bK o8 at hT
 refine Ev.jn (fun z=>z= !(iH p.arrays&&decide (p.parts.length≤4))) (fun j hj=>aA (Q7 (by omega) h1) ?_) (fun z hz=> ?_)
 ·cases ha:iH p.arrays with
  |false=>exact bZ (hj _ (by rw [ha];rfl))
  |true=>
   refine b8 (hj _ ?_)
   rw [ha]
   by_cases h4:p.parts.length≤4
   ·rw [decide_eq_false (show¬(4:Int)<(p.parts.length:Int) by omega),decide_eq_true h4];rfl
   ·rw [decide_eq_true (show(4:Int)<(p.parts.length:Int) by omega),decide_eq_false h4];rfl
 subst hz
 cases hb:(iH p.arrays&&decide (p.parts.length≤4)) with
 |false=>
  refine Ev.some ?_
  rw [←hT,←Bool.and_assoc,hb];rfl
 |true=>
  have hT':T=(p.parts.all (dD p.arrays)&&decide ((p.parts.map gC).sum≤120)):=by rw [←hT,←Bool.and_assoc,hb];rfl
  rw [Bool.and_eq_true,decide_eq_true_eq] at hb
  obtain⟨hl,hd⟩:=aDJ hb.1
  refine b8 ?_
  refine Ev.loop (fun x:Int×Int=> ∃i:Nat,x.2=i∧i≤p.parts.length∧x.1=((p.parts.take i).map gC).sum∧0≤x.1∧x.1≤480*i∧ ∀(t:Nat) y,t<i→p.parts[t]? =some y→dD p.arrays y=true) (fun x=>p.parts.length-x.2.toNat) ?_ n _ ⟨0,rfl,by omega,by simp,by simp,by simp,fun t y h=>by omega⟩ (by dsimp only;omega)
  rintro again ⟨x,z⟩ ⟨i,hz,hi,hx,hx0,hx1,ha⟩ hr
  dsimp only at hz hx hx0 hx1 ha⊢
  subst hz
  refine aG (fun hlt=> ?_) (fun hge=>Ev.some ?_)
  ·have hg:=List.getElem?_eq_getElem (show i<p.parts.length by omega)
   have hm:=List.mem_of_getElem? hg
   refine aA (aQ hg) (aA (sX (by omega) hl hd (h3 _ hm)) ?_)
   cases hpo:dD p.arrays p.parts[i] with
   |false=>
    rw [if_neg (by simp)]
    refine Ev.some ?_
    rw [hT',List.all_eq_false.2 ⟨_,hm,by rw [hpo];simp⟩];rfl
   |true=>
    rw [if_pos rfl]
    have hcb:=zN hpo
    show Ev (again (wr (x+gC p.parts[i]),wr ((i:Int)+1))) _
    rw [aM (n:=x+gC p.parts[i]) (by omega),aM (by omega)]
    refine hr _ ⟨i+1,by dsimp only;omega,by omega,by dsimp only;rw [aA7 hg];omega,by dsimp only;omega,by dsimp only;omega,fun t y ht hty=> ?_⟩ (by dsimp only;omega)
    by_cases hti:t=i
    ·subst hti;rw [hg] at hty;cases hty;exact hpo
    ·exact ha t y (by omega) hty
  ·have hie:i=p.parts.length:=by omega
   have hall:p.parts.all (dD p.arrays)=true:=List.all_eq_true.2 (fun y hy=>by
    obtain⟨t,ht⟩:=List.getElem?_of_mem hy
    have:=(List.getElem?_eq_some_iff.1 ht).1
    exact ha t y (by omega) ht)
   rw [hT',hall,Bool.true_and,hx,hie,List.take_length]
theorem tH{α:Type}(f:Nat→α)(k:Nat):(List.range (k+1)).map f=(List.range k).map f++[f k]:=by
 rw [List.range_succ,List.map_append];rfl
theorem n6{n:Nat}(hn:7000≤n){p:Prog}(hp:SmP p):b7 n p=some (if o8 p=true then(insts p.parts,decide ((insts p.parts).length≤120)) else([],false)):=by
 obtain⟨h1,h2,h3⟩:=hp
 refine Ev.eq ?_
 unfold b7
 generalize hT:(if o8 p=true then(insts p.parts,decide ((insts p.parts).length≤120)) else([],false))=T
 have hbad:o8 p=false→(([]:List Inst),false)=T:=fun h=>by rw [←hT,h];rfl
 refine Ev.jn (fun z=>z= !(iH p.arrays&&decide (p.parts.length≤4))) (fun j hj=>aA (R4 (by omega) h1) ?_) (fun z hz=> ?_)
 ·cases ha:iH p.arrays with
  |false=>exact bZ (hj _ (by rw [ha];rfl))
  |true=>
   refine b8 (hj _ ?_)
   rw [ha]
   by_cases h4:p.parts.length≤4
   ·rw [decide_eq_false (show¬(4:Int)<(p.parts.length:Int) by omega),decide_eq_true h4];rfl
   ·rw [decide_eq_true (show(4:Int)<(p.parts.length:Int) by omega),decide_eq_false h4];rfl
 subst hz
 cases hb:(iH p.arrays&&decide (p.parts.length≤4)) with
 |false=>exact Ev.some (hbad (by unfold o8;rw [←Bool.and_assoc,hb];rfl))
 |true=>
  have hall':o8 p=p.parts.all (dD p.arrays):=by unfold o8;rw [←Bool.and_assoc,hb];rfl
  rw [Bool.and_eq_true,decide_eq_true_eq] at hb
  obtain⟨hl,hd⟩:=aDJ hb.1
  refine b8 ?_
  refine Ev.loop (fun x:List Inst×Int=> ∃i:Nat,x.2=i∧i≤p.parts.length∧x.1=insts (p.parts.take i)∧x.1.length≤480*i∧ ∀(t:Nat) y,t<i→p.parts[t]? =some y→dD p.arrays y=true) (fun x=>p.parts.length-x.2.toNat) ?_ n _ ⟨0,rfl,by omega,by simp [insts],by simp,fun t y h=>by omega⟩ (by dsimp only;omega)
  rintro again ⟨x,z⟩ ⟨i,hz,hi,hx,hxl,ha⟩ hr
  dsimp only at hz hx hxl ha⊢
  subst hz
  refine aG (fun hlt=> ?_) (fun hge=>Ev.some ?_)
  ·have hg:=List.getElem?_eq_getElem (show i<p.parts.length by omega)
   have hm:=List.mem_of_getElem? hg
   obtain⟨s1,s2,s3⟩:=h3 _ hm
   generalize hP:p.parts[i]=P at*
   have hpb:dD p.arrays P=false→o8 p=false:=fun h=>by rw [hall'];exact List.all_eq_false.2 ⟨_,hm,by rw [h];simp⟩
   refine aA (aQ hg) (aA (C1 (by omega) s1) (Ev.jn (fun z=>z= !((NP P.nest).isSome&&yL P)) (fun j hj=> ?_) (fun z hz=> ?_)))
   ·cases hN:NP P.nest with
    |none=>exact bZ (hj _ (by rw [hN];rfl))
    |some ps=>
     refine b8 ?_
     have hw:cB n (P.body.length:Int) 1 4=some (decide (1≤P.body.length∧P.body.length≤4)):=by
      rw [eE];congr 1;exact decide_eq_decide.2 (by omega)
     refine aA hw ?_
     have hc:=R7 (n:=n) (f:=fun q0=>cL n q0 P) (p:=fun s=> !gX s (P.nest.length:Int)) (l:=P.body) (fun s hs=>by unfold cL;rw [L4 (by omega) (s3 s hs)];rfl) (by omega) (by omega)
     have e:(P.body.any fun s=> !gX s (P.nest.length:Int))= !(P.body.all fun s=>gX s (P.nest.length:Int)):=by rw [List.all_eq_not_any_not];simp
     cases hw2:decide (1≤P.body.length∧P.body.length≤4) with
     |false=>exact bZ (hj _ (by unfold yL;rw [hN,hw2];rfl))
     |true=>exact b8 (aA hc (hj _ (by unfold yL;rw [hN,hw2,e];rfl)))
   subst hz
   cases hN:NP P.nest with
   |none=>exact Ev.some (hbad (hpb (by unfold dD;rw [hN];rfl)))
   |some ps=>
    obtain⟨hf,hp1,hp2,hp3,hp4⟩:=aFi hN
    have hpp:cH P=ps:=by unfold cH;rw [hN];rfl
    cases hbv:yL P with
    |false=>exact Ev.some (hbad (hpb (by unfold dD;rw [hbv];simp)))
    |true=>
     have hbv':=hbv
     simp only [yL,Bool.and_eq_true,decide_eq_true_eq,List.all_eq_true] at hbv'
     obtain⟨⟨hb1,hb2⟩,hb3⟩:=hbv'
     have hok:dD p.arrays P=P.body.all (fun s=>ps.all (fun q=>dR p.arrays s q&&ptV q)):=by
      unfold dD;rw [hN,hbv,hpp];rfl
     let row:List Int→List Inst:=fun q=>(List.range P.body.length).map fun(k:Nat)=>(⟨(i:Int),(k:Int),q⟩:Inst)
     have hrl: ∀q,(row q).length=P.body.length:=fun q=>by simp [row]
     have hinst:instP i P=ps.flatMap row:=by unfold instP;rw [hpp]
     refine b8 ?_
     rw [show(aDf (some ps)).1=ps from rfl]
     refine Ev.loop (fun y:List Inst×Int=> ∃k:Nat,y.2=k∧k≤ps.length∧y.1=x++(ps.take k).flatMap row∧ ∀(t:Nat) q,t<k→ps[t]? =some q→ptV q=true∧ ∀s∈P.body,dR p.arrays s q=true) (fun y=>ps.length-y.2.toNat) ?_ n _ ⟨0,rfl,by omega,by simp,fun t q h=>by omega⟩ (by dsimp only;omega)
     rintro again17 ⟨y,z⟩ ⟨k,hz,hk,hy,hak⟩ hr17
     dsimp only at hz hy hak⊢
     subst hz
     refine aG (fun hlt2=> ?_) (fun hge2=> ?_)
     ·have hgk:=List.getElem?_eq_getElem (show k<ps.length by omega)
      have hmk:=List.mem_of_getElem? hgk
      generalize hQ:ps[k]=Q at*
      have hq:=hp2 _ hmk
      have hql:Q.length≤4:=by have:=hq.1;have:=hq.2.1;omega
      refine aA (aQ hgk) (aA (aAj (by omega) (by omega)) ?_)
      have hyl:y.length≤480*4+480:=by
       rw [hy,List.length_append,xP row _ hrl,List.length_take]
       have:min k ps.length*P.body.length≤120*4:=Nat.mul_le_mul (by omega) hb2
       omega
      cases hpv:ptV Q with
      |false=>
       refine bZ (Ev.some (hbad (hpb ?_)))
       rw [hok]
       obtain⟨s0,hs0⟩: ∃s0,s0∈P.body:=List.exists_mem_of_length_pos (by omega)
       refine List.all_eq_false.2 ⟨s0,hs0,?_⟩
       rw [List.all_eq_false.2 ⟨Q,hmk,by rw [hpv];simp⟩];simp
      |true=>
       refine b8 ?_
       refine Ev.loop (fun u:List Inst×Int=> ∃m:Nat,u.2=m∧m≤P.body.length∧u.1=y++(List.range m).map (fun(k:Nat)=>(⟨(i:Int),(k:Int),Q⟩:Inst))∧ ∀(t:Nat) s,t<m→P.body[t]? =some s→dR p.arrays s Q=true) (fun u=>P.body.length-u.2.toNat) ?_ n _ ⟨0,rfl,by omega,by simp,fun t s h=>by omega⟩ (by dsimp only;omega)
       rintro again23 ⟨u,z⟩ ⟨m,hz,hmm,hu,ham⟩ hr23
       dsimp only at hz hu ham⊢
       subst hz
       refine aG (fun hlt3=> ?_) (fun hge3=> ?_)
       ·have hgm:=List.getElem?_eq_getElem (show m<P.body.length by omega)
        have hmem:=List.mem_of_getElem? hgm
        refine aA (aQ hgm) (aA (aBx (by omega) hl hd (hb3 _ hmem) hq) ?_)
        cases hco:dR p.arrays P.body[m] Q with
        |false=>
         refine bZ (Ev.some (hbad (hpb ?_)))
         rw [hok]
         refine List.all_eq_false.2 ⟨_,hmem,?_⟩
         rw [List.all_eq_false.2 ⟨Q,hmk,by rw [hco];simp⟩];simp
        |true=>
         have hcl:m_ownClone Q=some Q:=by unfold m_ownClone;rw [if_pos (by omega)]
         have hul:u.length≤480*4+480+4:=by rw [hu];simp;omega
         refine b8 (aA hcl (aA (bT (by simp;omega)) ?_))
         rw [aM (by omega)]
         refine hr23 _ ⟨m+1,by dsimp only;omega,by omega,?_,fun t s ht hts=> ?_⟩ (by dsimp only;omega)
         ·dsimp only
          rw [hu,tH,List.append_assoc]
         ·by_cases htm:t=m
          ·subst htm;rw [hgm] at hts;cases hts;exact hco
          ·exact ham t s (by omega) hts
       ·have hme:m=P.body.length:=by omega
        rw [aM (by omega)]
        refine hr17 _ ⟨k+1,by dsimp only;omega,by omega,?_,fun t q ht htq=> ?_⟩ (by dsimp only;omega)
        ·dsimp only
         rw [List.take_add_one,hgk,List.flatMap_append,←List.append_assoc,←hy,hu,hme]
         simp [row]
        ·by_cases htk:t=k
         ·subst htk;rw [hgk] at htq;cases htq
          refine⟨hpv,fun s hs=> ?_⟩
          obtain⟨t',ht'⟩:=List.getElem?_of_mem hs
          have:=(List.getElem?_eq_some_iff.1 ht').1
          exact ham t' s (by omega) ht'
         ·exact hak t q (by omega) htq
     ·have hke:k=ps.length:=by omega
      have hpo:dD p.arrays P=true:=by
       rw [hok]
       refine List.all_eq_true.2 (fun s hs=>List.all_eq_true.2 (fun q hq=> ?_))
       obtain⟨t,ht⟩:=List.getElem?_of_mem hq
       have:=(List.getElem?_eq_some_iff.1 ht).1
       obtain⟨g1,g2⟩:=hak t q (by omega) ht
       rw [g1,g2 s hs];rfl
      have hcb:=zN hpo
      have hil:=instP_len i P
      rw [aM (by omega)]
      refine hr _ ⟨i+1,by dsimp only;omega,by omega,?_,?_,fun t y ht hty=> ?_⟩ (by dsimp only;omega)
      ·dsimp only
       rw [insts_take hg,hinst,hy,hke,List.take_length,hx]
      ·dsimp only
       rw [hy,hke,List.take_length,List.length_append,←hinst];omega
      ·by_cases hti:t=i
       ·subst hti;rw [hg] at hty;cases hty;exact hpo
       ·exact ha t y (by omega) hty
  ·have hie:i=p.parts.length:=by omega
   have hall:o8 p=true:=by
    rw [hall']
    exact List.all_eq_true.2 (fun y hy=>by
     obtain⟨t,ht⟩:=List.getElem?_of_mem hy
     have:=(List.getElem?_eq_some_iff.1 ht).1
     exact ha t y (by omega) ht)
   rw [←hT,if_pos hall,hx,hie,List.take_length]
   congr 1
   exact decide_eq_decide.2 (by omega)
theorem fE{n:Nat}(hn:7000≤n){p:Prog}(hp:SmP p):cZ n p=some (bK p):=by
 unfold cZ
 rw [n6 hn hp]
 unfold bK
 cases h:o8 p with
 |false=>rfl
 |true=>
  rw [if_pos rfl]
  show some (decide _)=_
  rw [Bool.true_and]
  congr 1
  have:=insts_len' p.parts
  exact decide_eq_decide.2 (by omega)
theorem sC{n:Nat}(hn:7000≤n){p:Prog}(hp:SmP p):eM n p=some (if bK p=true then insts p.parts else []):=by
 unfold eM
 rw [n6 hn hp]
 unfold bK
 cases h:o8 p with
 |false=>rfl
 |true=>
  rw [if_pos rfl,Bool.true_and]
  have:=insts_len' p.parts
  by_cases hl:(insts p.parts).length≤120
  ·rw [decide_eq_true hl,decide_eq_true (by omega),if_pos rfl];rfl
  ·rw [decide_eq_false hl,decide_eq_false (by omega),if_neg (by simp)];rfl
theorem eP{p:Prog}(h:bK p=true):p.arrays.length≤4∧fG p.arrays∧p.parts.length≤4∧(∀x∈p.parts,dD p.arrays x=true)∧(insts p.parts).length≤120:=by
 simp only [bK,o8,Bool.and_eq_true,decide_eq_true_eq,List.all_eq_true] at h
 obtain⟨⟨h1,h2,h3⟩,h4⟩:=h
 obtain⟨a,b⟩:=aDJ h1
 have:=insts_len' p.parts
 exact⟨a,b,h2,h3,by omega⟩
theorem tD{n:Nat}(hn:7000≤n){p:Prog}(hv:bK p=true):gL n p=some (insts p.parts):=by
 obtain⟨hl,hd,h4,hpo,hil⟩:=eP hv
 refine Ev.eq ?_
 unfold gL
 refine Ev.loop (fun x:List Inst×Int=> ∃i:Nat,x.2=i∧i≤p.parts.length∧x.1=insts (p.parts.take i)∧x.1.length≤480*i) (fun x=>p.parts.length-x.2.toNat) ?_ n _ ⟨0,rfl,by omega,by simp [insts],by simp⟩ (by dsimp only;omega)
 rintro again ⟨x,z⟩ ⟨i,hz,hi,hx,hxl⟩ hr
 dsimp only at hz hx hxl⊢
 subst hz
 refine aG (fun hlt=> ?_) (fun hge=>Ev.some ?_)
 ·have hg:=List.getElem?_eq_getElem (show i<p.parts.length by omega)
  have hm:=List.mem_of_getElem? hg
  have hpP:=hpo _ hm
  generalize hP:p.parts[i]=P at*
  obtain⟨q1,q2,q3,q4⟩:=mD hpP
  obtain⟨hf,hp1,hp2,hp3,hp4⟩:=aFi q1
  generalize hpp:cH P=ps at*
  have hcb:=zN hpP
  have hil':=instP_len i P
  let row:List Int→List Inst:=fun q=>(List.range P.body.length).map fun(k:Nat)=>(⟨(i:Int),(k:Int),q⟩:Inst)
  have hrl: ∀q,(row q).length=P.body.length:=fun q=>by simp [row]
  have hinst:instP i P=ps.flatMap row:=by unfold instP;rw [hpp]
  refine aA (aQ hg) (aJ (sO hf P.nest n 0 [] [] (by have:=hf.1;omega) rfl (by omega) pt0 hp4 (by simp)) (fun r ⟨r1,r2⟩=> ?_))
  have hr1:r=ps:=by rw [r1 (by rw [←hp3];simpa using hp1),hp3];rfl
  subst hr1
  refine Ev.loop (fun y:List Inst×Int=> ∃k:Nat,y.2=k∧k≤r.length∧y.1=x++(r.take k).flatMap row) (fun y=>r.length-y.2.toNat) ?_ n _ ⟨0,rfl,by omega,by simp⟩ (by dsimp only;omega)
  rintro again10 ⟨y,z⟩ ⟨k,hz,hk,hy⟩ hr10
  dsimp only at hz hy⊢
  subst hz
  refine aG (fun hlt2=> ?_) (fun hge2=> ?_)
  ·have hgk:=List.getElem?_eq_getElem (show k<r.length by omega)
   have hmk:=List.mem_of_getElem? hgk
   generalize hQ:r[k]=Q at*
   have hq:=hp2 _ hmk
   have hql:Q.length≤4:=by have:=hq.1;have:=hq.2.1;omega
   have hyl:y.length≤480*4+480:=by
    rw [hy,List.length_append,xP row _ hrl,List.length_take]
    have:min k r.length*P.body.length≤120*4:=Nat.mul_le_mul (by omega) q2.2
    omega
   refine Ev.loop (fun u:List Inst×Int=> ∃m:Nat,u.2=m∧m≤P.body.length∧u.1=y++(List.range m).map (fun(k:Nat)=>(⟨(i:Int),(k:Int),Q⟩:Inst))) (fun u=>P.body.length-u.2.toNat) ?_ n _ ⟨0,rfl,by omega,by simp⟩ (by dsimp only;omega)
   rintro again14 ⟨u,z⟩ ⟨m,hz,hmm,hu⟩ hr14
   dsimp only at hz hu⊢
   subst hz
   refine aG (fun hlt3=> ?_) (fun hge3=> ?_)
   ·have hul:u.length≤480*4+480+4:=by rw [hu];simp;omega
    refine aA (aQ hgk) (aA (eB _ (by omega)) (aA (bT (by simp;omega)) ?_))
    rw [aM (by omega)]
    refine hr14 _ ⟨m+1,by dsimp only;omega,by omega,?_⟩ (by dsimp only;omega)
    dsimp only
    rw [hu,tH,List.append_assoc]
   ·have hme:m=P.body.length:=by omega
    rw [aM (by omega)]
    refine hr10 _ ⟨k+1,by dsimp only;omega,by omega,?_⟩ (by dsimp only;omega)
    dsimp only
    rw [List.take_add_one,hgk,List.flatMap_append,←List.append_assoc,←hy,hu,hme]
    simp [row]
  ·have hke:k=r.length:=by omega
   rw [aM (by omega)]
   refine hr _ ⟨i+1,by dsimp only;omega,by omega,?_,?_⟩ (by dsimp only;omega)
   ·dsimp only
    rw [insts_take hg,hinst,hy,hke,List.take_length,hx]
   ·dsimp only
    rw [hy,hke,List.take_length,List.length_append,←hinst];omega
 ·have hie:i=p.parts.length:=by omega
  rw [hx,hie,List.take_length]
theorem aCv{l:List Arr}{i:Nat}{x:Arr}(h:l[i]? =some x):gF (l.take (i+1))=gF (l.take i)+G3 x.dims:=by
 unfold gF;rw [List.take_add_one,h];simp
theorem aCw{n:Nat}(hn:7000≤n){p:Prog}(hl:p.arrays.length≤4)(hd:fG p.arrays):dY n p=some (gF p.arrays):=by
 refine Ev.eq ?_
 unfold dY
 refine Ev.loop (fun x:Int×Int=> ∃i:Nat,x.2=i∧i≤p.arrays.length∧x.1=gF (p.arrays.take i)∧0≤x.1∧x.1≤36*i) (fun x=>p.arrays.length-x.2.toNat) ?_ n _ ⟨0,rfl,by omega,by simp [gF],by simp,by simp⟩ (by dsimp only;omega)
 rintro again ⟨x,z⟩ ⟨i,hz,hi,hx,hx0,hx1⟩ hr
 dsimp only at hz hx hx0 hx1⊢
 subst hz
 refine aG (fun hlt=> ?_) (fun hge=>Ev.some ?_)
 ·have hg:=List.getElem?_eq_getElem (show i<p.arrays.length by omega)
  have hdm:=hd _ (List.mem_of_getElem? hg)
  have hsz:=G2 hdm
  refine aA (aQ hg) (aA (sV (by omega) hdm) ?_)
  rw [aM (n:=x+G3 p.arrays[i].dims) (by omega),aM (by omega)]
  exact hr _ ⟨i+1,by dsimp only;omega,by omega,by dsimp only;rw [aCv hg];omega,by dsimp only;omega,by dsimp only;omega⟩ (by dsimp only;omega)
 ·have hie:i=p.arrays.length:=by omega
  rw [hx,hie,List.take_length]
theorem L0{n:Nat}(hn:7000≤n){p:Prog}(hl:p.arrays.length≤4)(hd:fG p.arrays):dY n p=some (gF p.arrays):=aCw hn hl hd
def aAe(p:Prog)(m:List Int):Bool:=bK p&&(decide ((m.length:Int)=gF p.arrays)&&m.all (fun x=>decide (0≤x∧x≤999)))
theorem zD{n:Nat}(hn:7000≤n){p:Prog}(hp:SmP p){m:List Int}(hm:m.length≤1000):jD n p m=some (aAe p m):=by
 refine Ev.eq ?_
 unfold jD
 generalize hT:aAe p m=T
 unfold aAe at hT
 refine Ev.jn (fun z=>z=T) (fun j hj=>aA (fE hn hp) ?_) (fun z hz=>Ev.some hz)
 cases hv:bK p with
 |false=>exact b8 (hj _ (by rw [←hT,hv];rfl))
 |true=>
  obtain⟨hl,hd,_⟩:=eP hv
  have hc:=m8 (n:=n) (f:=fun q0=>eV n q0) (p:=fun x=> !decide (0≤x∧x≤999)) (l:=m) (fun x _=>by unfold eV;rw [eE];rfl) (by omega) (by omega)
  have e:(m.any fun x=> !decide (0≤x∧x≤999))= !(m.all fun x=>decide (0≤x∧x≤999)):=by rw [List.all_eq_not_any_not];simp
  refine bZ (aA (L0 hn hl hd) (aG (fun h=>aA hc (hj _ ?_)) (fun h=>hj _ ?_)))
  ·rw [←hT,hv,decide_eq_true h,e];simp
  ·rw [←hT,hv,decide_eq_false h];rfl
theorem G0(x:Int):Int.tmod x 1000=if 0≤x then x%1000 else-((-x)%1000):=by
 split
 ·rename_i h;exact Int.tmod_eq_emod_of_nonneg h
 ·rename_i h
  have h2:0≤ -x:=by omega
  have e1:Int.tmod x 1000= -(Int.tmod (-x) 1000):=by rw [Int.neg_tmod,Int.neg_neg]
  rw [e1,Int.tmod_eq_emod_of_nonneg h2]
theorem o0(n:Nat)(x:Int):mE n x=some (x%1000):=by
 unfold mE
 rw [G0 x]
 congr 1
 split
 ·rw [aM (n:=x%1000+999) (by omega),aM (by omega),G0,if_pos (by omega)];omega
 ·rw [aM (n:= -(-x%1000)+999) (by omega),aM (by omega),G0,if_pos (by omega)];omega
def sA:Nat→List Arr→List Int→Expr→List Int→Int
 |0,_,_,_,_=>0
 |L+1,list,m,e,q=>
  if e.kind=1 then e.num
  else if e.kind=2 then fY e.index q%1000
  else if e.kind=3 then m.getD (cI list e.read q 0).toNat 0
  else match e.kids with
   | [a,b]=>if e.kind=4 then(sA L list m a q+sA L list m b q)%1000 else if e.kind=5 then(sA L list m a q-sA L list m b q)%1000 else(sA L list m a q*sA L list m b q)%1000
   |_=>0
def gT(list:List Arr)(m:List Int):Prop:=(m.length:Int)=gF list∧ ∀x∈m,0≤x∧x≤999
theorem aJQ{list:List Arr}{m:List Int}(h:gT list m)(i:Nat):0≤m.getD i 0∧m.getD i 0≤999:=by
 rw [List.getD_eq_getElem?_getD]
 cases hi:m[i]? with
 |none=>simp
 |some x=>exact h.2 x (List.mem_of_getElem? hi)
theorem aCu{list:List Arr}{m:List Int}(hm:gT list m){d:Int}{q:List Int}: ∀{L:Nat} {e:Expr},dQ L e d=true→0≤sA L list m e q∧sA L list m e q≤999
 |0,e,h=>by cases h
 |L+1,e,h=>by
  obtain⟨h1,h2,h3⟩:=jE h
  simp only [sA]
  split
  ·rename_i k1
   unfold fT at h2
   rw [if_neg (by omega),if_neg (by omega),if_pos k1] at h2
   simp only [Bool.and_eq_true,decide_eq_true_eq] at h2
   omega
  ·split
   ·omega
   ·split
    ·exact aJQ hm _
    ·split
     ·split
      ·omega
      ·split<;>omega
     ·omega
theorem aFv{a b:Int}(ha:0≤a∧a≤999)(hb:0≤b∧b≤999):0≤a*b∧a*b≤999000:=by
 constructor
 ·exact Int.mul_nonneg ha.1 hb.1
 ·have:=Int.mul_le_mul ha.2 hb.2 (by omega) (by omega);omega
theorem aGi{L:Nat}{e:Expr}{d:Int}(h:dQ (L+1) e d=true)(k1: ¬e.kind=1)(k2: ¬e.kind=2)(k3: ¬e.kind=3):(e.kind=4∨e.kind=5∨e.kind=6)∧ ∃a b,e.kids=[a,b]:=by
 obtain⟨h1,_,_⟩:=jE h
 unfold gS at h1
 rw [if_neg (by omega)] at h1
 split at h1
 ·rename_i hk
  refine⟨hk,?_⟩
  have:e.kids.length=2:=by omega
  match hq:e.kids,this with
  | [a,b],_=>exact⟨a,b,rfl⟩
 ·omega
theorem vN{p:Prog}(hl:p.arrays.length≤4)(hd:fG p.arrays){m:List Int}(hm:gT p.arrays m){d:Int}{k:Nat}{q:List Int}(hq:oM k q): ∀(L n:Nat) (e:Expr),7000+L≤n→dQ L e d=true→(∀a∈bY L e,0≤cI p.arrays a q 0)→
  i_Program_value (n+1) p m e q=some (sA L p.arrays m e q)
 |0,n,e,_,h,_=>by cases h
 |L+1,n,e,hn,h,hr=>by
  obtain⟨h1,h2,h3⟩:=jE h
  unfold i_Program_value
  refine Ev.eq ?_
  simp only [sA]
  refine aG (fun k1=>Ev.some (by rw [if_pos k1])) (fun k1=> ?_)
  rw [if_neg k1]
  refine aG (fun k2=> ?_) (fun k2=> ?_)
  ·rw [if_pos k2]
   unfold fT at h2
   rw [if_pos k2] at h2
   simp only [Bool.and_eq_true,bV] at h2
   have ha:=h2.2.2.1
   exact aA (aEV (by omega) ha hq) (aA (o0 _ _) (Ev.some rfl))
  rw [if_neg k2]
  refine aG (fun k3=> ?_) (fun k3=> ?_)
  ·rw [if_pos k3]
   have hmem:e.read∈bY (L+1) e:=by simp [bY,k3]
   have ha:=uD h _ hmem
   have hc0:=hr _ hmem
   rcases E4 hd e.read q 0 (Int.le_refl 0) with hc|hc
   ·omega
   ·have hlt:(cI p.arrays e.read q 0).toNat<m.length:=by have:=hm.1;omega
    have hg:=List.getElem?_eq_getElem hlt
    have hix:ix m (cI p.arrays e.read q 0)=some m[(cI p.arrays e.read q 0).toNat]:=by
     unfold ix;rw [if_pos hc0,hg]
    refine aA (nK (by omega) hl hd ha hq) (aA hix (Ev.some ?_))
    rw [List.getD_eq_getElem?_getD,hg];rfl
  rw [if_neg k3]
  obtain⟨hk,a,b,hab⟩:=aGi h k1 k2 k3
  obtain⟨n,rfl⟩: ∃j,n=j+1:=⟨n-1,by omega⟩
  have hsa:=h3 a (by rw [hab];simp)
  have hsb:=h3 b (by rw [hab];simp)
  have va:=vN hl hd hm hq L n a (by omega) hsa (fun x hx=>hr x (by simp only [bY,List.mem_append,List.mem_flatMap];exact .inr ⟨a,by rw [hab];simp,hx⟩))
  have vb:=vN hl hd hm hq L n b (by omega) hsb (fun x hx=>hr x (by simp only [bY,List.mem_append,List.mem_flatMap];exact .inr ⟨b,by rw [hab];simp,hx⟩))
  have ba:=aCu hm (q:=q) hsa
  have bb:=aCu hm (q:=q) hsb
  have bm:=aFv ba bb
  rw [hab]
  refine aA (x:=a) rfl (aA va (aA (x:=b) rfl (aA vb ?_)))
  dsimp only
  refine aG (fun k4=> ?_) (fun k4=> ?_)
  ·rw [if_pos k4,aM (by omega)];exact aA (o0 _ _) (Ev.some rfl)
  rw [if_neg k4]
  refine aG (fun k5=> ?_) (fun k5=> ?_)
  ·rw [if_pos k5,aM (by omega)];exact aA (o0 _ _) (Ev.some rfl)
  rw [if_neg k5,aM (by omega)];exact aA (o0 _ _) (Ev.some rfl)
def cN(p:Prog)(x:Inst):Prop:= ∃(i k:Nat) (P:Part) (s:Stmt),x.part=i∧x.stmt=k∧p.parts[i]? =some P∧P.body[k]? =some s∧x.point∈cH P
def kC(p:Prog)(x:Inst):Option Stmt:=(p.parts[x.part.toNat]?).bind fun P=>P.body[x.stmt.toNat]?
def lL(p:Prog)(m:List Int)(x:Inst):List Int:=match kC p x with
 |some s=>m.set (cI p.arrays s.write x.point 0).toNat (sA 5 p.arrays m s.value x.point)
 |none=>m
theorem inst_d{p:Prog}(hv:bK p=true){x:Inst}(hx:cN p x): ∃(i k:Nat) (P:Part) (s:Stmt) (d:Int),x.part=i∧x.stmt=k∧p.parts[i]? =some P∧P.body[k]? =some s∧kC p x=some s∧gX s d=true∧oM P.nest.length x.point∧dR p.arrays s x.point=true:=by
 obtain⟨hl,hd,h4,hpo,hil⟩:=eP hv
 obtain⟨i,k,P,s,e1,e2,e3,e4,e5⟩:=hx
 obtain⟨q1,q2,q3,q4⟩:=mD (hpo P (List.mem_of_getElem? e3))
 obtain⟨hf,hp1,hp2,hp3,hp4⟩:=aFi q1
 have hs:=List.mem_of_getElem? e4
 exact⟨i,k,P,s,_,e1,e2,e3,e4,by unfold kC;rw [e1,e2,Int.toNat_natCast,e3];exact(by rw [Int.toNat_natCast];exact e4),q3 s hs,hp2 _ e5,(q4 s hs _ e5).1⟩
theorem E3{list:List Arr}{s:Stmt}{q:List Int}(h:dR list s q=true):0≤cI list s.write q 0∧ ∀a∈bY 5 s.value,0≤cI list a q 0:=by
 simp only [dR,Bool.and_eq_true,decide_eq_true_eq,List.all_eq_true] at h
 exact h
theorem aFu{p:Prog}(hd:fG p.arrays){m:List Int}(hm:gT p.arrays m){a:Access}{q:List Int}(h:0≤cI p.arrays a q 0):(cI p.arrays a q 0).toNat<m.length:=by
 rcases E4 hd a q 0 (Int.le_refl 0) with hc|hc
 ·omega
 ·have:=hm.1;omega
theorem aBa{α:Type}{l:List α}{c:Int}(h0:0≤c)(h:c.toNat<l.length)(x:α):jK l c x=some (l.set c.toNat x):=by
 unfold jK;rw [if_pos ⟨h0,by omega⟩]
theorem aIW{α:Type}{l:List α}{c:Int}(h0:0≤c)(h:c.toNat<l.length):ix l c=some l[c.toNat]:=by
 unfold ix;rw [if_pos h0,List.getElem?_eq_getElem h]
theorem D3{p:Prog}(hv:bK p=true){m:List Int}(hm:gT p.arrays m){x:Inst}(hx:cN p x):gT p.arrays (lL p m x):=by
 obtain⟨i,k,P,s,d,e1,e2,e3,e4,e5,e6,e7,e8⟩:=inst_d hv hx
 unfold lL
 rw [e5]
 refine⟨by rw [List.length_set];exact hm.1,fun v hv'=> ?_⟩
 rcases List.mem_or_eq_of_mem_set hv' with h|h
 ·exact hm.2 v h
 ·rw [h];exact aCu hm (o9 e6).2.1
theorem aIt{n:Nat}(hn:7100≤n){p:Prog}(hv:bK p=true){m:List Int}(hm:gT p.arrays m){x:Inst}(hx:cN p x):kO n p m x=some (lL p m x):=by
 obtain⟨hl,hd,h4,hpo,hil⟩:=eP hv
 obtain⟨i,k,P,s,d,e1,e2,e3,e4,e5,e6,e7,e8⟩:=inst_d hv hx
 obtain⟨c1,c2⟩:=E3 e8
 obtain⟨s1,s2,s3,s4⟩:=o9 e6
 obtain⟨n,rfl⟩: ∃j,n=j+1:=⟨n-1,by omega⟩
 have hlt:=aFu hd hm c1
 have hst:dU (n+1) p x=some s:=by
  unfold dU
  rw [e1,e2,aQ e3]
  show Option.bind (ix P.body (k:Int)) _=_
  rw [aQ e4];rfl
 refine Ev.eq ?_
 unfold kO
 refine aA hst (aA (nK (by omega) hl hd s1 e7) (aA (vN hl hd hm e7 5 n s.value (by omega) s2 c2) (aA (aIW c1 hlt) (aA (aBa c1 hlt _) (Ev.some ?_)))))
 unfold lL
 rw [e5]
theorem insts_mem{ps:List Part}{x:Inst}(h:x∈insts ps): ∃(i k:Nat) (P:Part) (s:Stmt),x.part=i∧x.stmt=k∧ps[i]? =some P∧P.body[k]? =some s∧x.point∈cH P:=by
 unfold insts at h
 rw [List.mem_flatMap] at h
 obtain⟨⟨P,i⟩,h1,h2⟩:=h
 unfold instP at h2
 rw [List.mem_flatMap] at h2
 obtain⟨q,h3,h4⟩:=h2
 rw [List.mem_map] at h4
 obtain⟨k,h5,rfl⟩:=h4
 have hk:=List.mem_range.1 h5
 exact⟨i,k,P,P.body[k],rfl,rfl,List.mem_zipIdx_iff_getElem?.1 h1,List.getElem?_eq_getElem hk,h3⟩
def cA(p:Prog)(m:List Int)(l:List Inst):List Int:=l.foldl (lL p) m
theorem nH{p:Prog}(hv:bK p=true): ∀{l:List Inst} {m:List Int},(∀x∈l,cN p x)→gT p.arrays m→gT p.arrays (cA p m l)
 | [],_,_,h=>h
 |x::l,m,hl,h=>nH hv (l:=l) (fun y hy=>hl y (by simp [hy])) (D3 hv h (hl x (by simp)))
theorem aBg(p:Prog)(m:List Int)(l:List Inst)(x:Inst):cA p m (l++[x])=lL p (cA p m l) x:=by
 unfold cA;rw [List.foldl_append];rfl
theorem aKA{p:Prog}{m:List Int}(h:aAe p m=true):bK p=true∧gT p.arrays m:=by
 simp only [aAe,Bool.and_eq_true,decide_eq_true_eq,List.all_eq_true] at h
 exact⟨h.1,h.2.1,h.2.2⟩
theorem aFZ{n:Nat}(hn:7100≤n){p:Prog}(hv:bK p=true){m:List Int}(hm:gT p.arrays m){l:List Inst}(hl:l.length≤5000)(hx: ∀x∈l,cN p x){f:List Int→Inst→Option (List Int)}(hf: ∀m x,gT p.arrays m→cN p x→f m x=some (lL p m x)):
  aL (fun again7 ((x4,x5):(List Int)×Int)=>bif decide (x5<(l.length:Int)) then(Option.bind (ix l x5) fun x8=>Option.bind (f x4 x8) fun x9=>Option.bind (t1 x4 x9) fun x10=>again7 (x9,wr (x5+1))) else(some (x4,true))) n (m,0)=some (cA p m l,true):=by
 refine Ev.eq ?_
 refine Ev.loop (fun x:List Int×Int=> ∃i:Nat,x.2=i∧i≤l.length∧x.1=cA p m (l.take i)) (fun x=>l.length-x.2.toNat) ?_ n _ ⟨0,rfl,by omega,rfl⟩ (by dsimp only;omega)
 rintro again ⟨x,z⟩ ⟨i,hz,hi,hx1⟩ hr
 dsimp only at hz hx1⊢
 subst hz
 have hok:gT p.arrays x:=by rw [hx1];exact nH hv (fun y hy=>hx y (List.mem_of_mem_take hy)) hm
 refine aG (fun hlt=> ?_) (fun hge=>Ev.some ?_)
 ·have hg:=List.getElem?_eq_getElem (show i<l.length by omega)
  have hxo:=hx _ (List.mem_of_getElem? hg)
  have hok2:=D3 hv hok hxo
  have hsl:t1 x (lL p x l[i])=some ():=by
   unfold t1;rw [if_pos]
   have:=hok.1;have:=hok2.1;omega
  refine aA (aQ hg) (aA (hf x _ hok hxo) (aA hsl ?_))
  rw [aM (by omega)]
  refine hr _ ⟨i+1,by dsimp only;omega,by omega,?_⟩ (by dsimp only;omega)
  dsimp only
  rw [List.take_add_one,hg]
  show _=cA p m (l.take i++[l[i]])
  rw [aBg,←hx1]
 ·have hie:i=l.length:=by omega
  rw [hx1,hie,List.take_length]
def aH3(p:Prog)(m:List Int):List Int×Bool:=if aAe p m=true then(cA p m (insts p.parts),true) else([],false)
theorem rV{n:Nat}(hn:7100≤n){p:Prog}(hp:SmP p){m:List Int}(hm:m.length≤1000):fC n p m=some (aH3 p m):=by
 refine Ev.eq ?_
 unfold fC
 refine aA (zD (by omega) hp hm) ?_
 unfold aH3
 cases hv:aAe p m with
 |false=>exact Ev.some rfl
 |true=>
  obtain⟨h1,h2⟩:=aKA hv
  have hil:=(eP h1).2.2.2.2
  have hc:m_ownClone m=some m:=by unfold m_ownClone;rw [if_pos (by omega)]
  refine b8 (aA hc (aA (sC (by omega) hp) ?_))
  rw [if_pos h1,if_pos rfl]
  exact Ev.of (aFZ hn h1 h2 (by omega) (fun x hx=>insts_mem hx) (fun m x hm hx=>aIt hn h1 hm hx)) rfl
end Go.Lift
