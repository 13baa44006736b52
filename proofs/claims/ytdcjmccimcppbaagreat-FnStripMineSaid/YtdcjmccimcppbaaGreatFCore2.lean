/- Valid statements. -/
import Derived.Test.YtdcjmccimcppbaaGreatFCore1
set_option maxRecDepth 100000
set_option linter.unusedVariables false
namespace Go.Lift
open Go
def SmE:Nat→Expr→Prop
 |0,_=>True
 |L+1,e=>e.kids.length≤1000∧SmA e.index∧H7 e.read.subs∧ ∀k∈e.kids,SmE L k
def dB:Nat→Expr→Int→Bool
 |0,_,_=>false
 |L+1,e,d=>decide (iI e.kind=e.kids.length)&&(gC e d&&e.kids.all (fun k=>dB L k d))
def tO:Nat→Expr→Int
 |0,_=>1
 |L+1,e=>1+(e.kids.map (tO L)).sum
theorem mZ(k:Int):iI k≤2:=by unfold iI;split;omega;split<;>omega
theorem xY(d:Int): ∀(L n:Nat) (e:Expr),5000+L≤n→L≤1000→SmE L e→s_l3Shape (n+1) e d (L:Int)=some (dB L e d)
 |0,n,e,_,_,_=>by unfold s_l3Shape;rfl
 |L+1,n,e,hn,hL,he=>by
  obtain⟨e1,e2,e3,e4⟩:=he
  unfold s_l3Shape
  refine Ev.eq ?_
  refine Ev.jn (fun z=>z= !(decide (iI e.kind=e.kids.length)&&gC e d)) (fun j hj=>aH (fun h=>by omega) (fun h=>aB (aBY n _) (eA (fun h=>hj _ ?_) (fun h=>aB (aDi (by omega) e2 e3 d) (hj _ ?_))))) (fun z hz=> ?_)
  ·rw [decide_eq_false h];rfl
  ·rw [decide_eq_true h];rfl
  subst hz
  unfold dB
  cases hb:(decide (iI e.kind=e.kids.length)&&gC e d) with
  |false=>exact Ev.some (by rw [←Bool.and_assoc,hb];rfl)
  |true=>
   rw [←Bool.and_assoc,hb,Bool.true_and]
   refine bV ?_
   obtain⟨n,rfl⟩: ∃j,n=j+1:=⟨n-1,by omega⟩
   have ew:wr (((L+1:Nat):Int)-1)=(L:Int):=by rw [aM (by omega)];omega
   rw [ew]
   refine n6 (l:=e.kids) (p:=fun _ k=>dB L k d) (by omega) (by omega) (fun again i x hx hgo hno=> ?_) (fun again hall=> ?_) (fun⟨i,x,hx,hp⟩=> ?_)
   ·have hi:=(List.getElem?_eq_some_iff.1 hx).1
    rw [decide_eq_true (show(i:Int)<(e.kids.length:Int) by omega)]
    refine bU (aB (aR hx) (aB (xY d L n x (by omega) (by omega) (e4 x (List.mem_of_getElem? hx))) ?_))
    cases hs:dB L x d with
    |true=>show Ev (again _) _;rw [aM (by omega)];exact hgo hs
    |false=>exact Ev.some (hno hs)
   ·rw [decide_eq_false (show¬(e.kids.length:Int)<(e.kids.length:Int) by omega)]
    refine Ev.some ?_
    exact(List.all_eq_true.2 (fun c hc=>by obtain⟨i,hi⟩:=List.getElem?_of_mem hc;exact hall i c hi)).symm
   ·exact(List.all_eq_false.2 ⟨x,List.mem_of_getElem? hx,by rw [hp];simp⟩).symm
theorem vZ: ∀(L:Nat) (e:Expr),1≤tO L e
 |0,_=>Int.le_refl _
 |L+1,e=>by
  have:=oZ (tO L) e.kids (fun k _=>vZ L k)
  simp only [tO];omega
theorem aAL{α:Type}(f:α→Int)(M:Int): ∀(l:List α),(∀x∈l,f x≤M)→(l.map f).sum≤l.length*M
 | [],_=>by simp
 |x::l,h=>by
  have h1:=aAL f M l (fun y hy=>h y (by simp [hy]))
  have h2:=h x (by simp)
  simp only [List.map_cons,List.sum_cons,List.length_cons,Int.natCast_add,Int.add_mul];omega
theorem gI{L:Nat}{e:Expr}{d:Int}(h:dB (L+1) e d=true):iI e.kind=e.kids.length∧gC e d=true∧ ∀k∈e.kids,dB L k d=true:=by
 simp only [dB,Bool.and_eq_true,decide_eq_true_eq,List.all_eq_true] at h
 exact⟨h.1,h.2.1,h.2.2⟩
theorem aBi: ∀{L:Nat} {e:Expr} {d:Int},dB L e d=true→tO L e+1≤2^L
 |0,e,d,h=>by cases h
 |L+1,e,d,h=>by
  obtain⟨h1,_,h2⟩:=gI h
  have h3:=aAL (tO L) ((2:Int)^L-1) e.kids (fun k hk=>by have:=aBi (h2 k hk);omega)
  have h4:=mZ e.kind
  have h5:(e.kids.length:Int)*((2:Int)^L-1)≤2*((2:Int)^L-1):=by
   refine Int.mul_le_mul_of_nonneg_right (by omega) ?_
   have:(0:Int)<2^L:=Int.pow_pos (by omega)
   omega
  simp only [tO]
  rw [Int.pow_succ]
  omega
theorem yA{d:Int}: ∀(L n:Nat) (e:Expr),5000+L≤n→L≤5→dB L e d=true→s_l3Count (n+1) e (L:Int)=some (tO L e)
 |0,n,e,_,_,h=>by cases h
 |L+1,n,e,hn,hL,h=>by
  obtain⟨h1,_,h2⟩:=gI h
  have h4:=mZ e.kind
  have hb: ∀k∈e.kids,tO L k≤40:=fun k hk=>by
   have h5:=aBi (h2 k hk)
   have h6:(2:Int)^L≤40:=by
    match L,hL with
    |0,_=>decide
    |1,_=>decide
    |2,_=>decide
    |3,_=>decide
    |4,_=>decide
   omega
  unfold s_l3Count
  refine Ev.eq ?_
  obtain⟨n,rfl⟩: ∃j,n=j+1:=⟨n-1,by omega⟩
  have ew:wr (((L+1:Nat):Int)-1)=(L:Int):=by rw [aM (by omega)];omega
  rw [ew]
  refine Ev.loop (fun x:Int×Int=> ∃i:Nat,x.2=i∧i≤e.kids.length∧x.1=1+((e.kids.take i).map (tO L)).sum) (fun x=>e.kids.length-x.2.toNat) ?_ (n+1) _ ⟨0,rfl,by omega,by simp⟩ (by simp;omega)
  rintro again ⟨x,k⟩ ⟨i,hk,hi,hx⟩ hr
  dsimp only at hk hx⊢
  subst hk
  refine Ev.jn (fun z=>z=decide (i<e.kids.length)) (fun j hj=>aH (fun h=>hj _ ?_) (fun h=>hj _ ?_)) (fun z hz=> ?_)
  ·rw [decide_eq_true (show(0:Int)<((L+1:Nat):Int) by omega),decide_eq_true (by omega)]
  ·rw [decide_eq_false (by omega)]
  subst hz
  refine aH (fun hlt=> ?_) (fun hge=>Ev.some ?_)
  ·have hk2:=List.getElem?_eq_getElem hlt
   have hm:=List.mem_of_getElem? hk2
   refine aB (aR hk2) (aB (yA (d:=d) L n _ (by omega) (by omega) (h2 _ hm)) ?_)
   have hs:=aAL (tO L) 40 (e.kids.take i) (fun y hy=>hb y (List.mem_of_mem_take hy))
   have hs2:=oZ (tO L) (e.kids.take i) (fun y _=>vZ L y)
   have hb2:=hb _ hm
   have hb3:=vZ L e.kids[i]
   have hl:((e.kids.take i).length:Int)≤2:=by simp;omega
   rw [aM (n:=x+tO L e.kids[i]) (by omega),aM (by omega)]
   refine hr _ ⟨i+1,by dsimp only;omega,by omega,?_⟩ (by dsimp only;omega)
   dsimp only
   rw [List.take_add_one,hk2,List.map_append,List.sum_append,hx]
   simp;omega
  ·have:i=e.kids.length:=by omega
   rw [hx,this,List.take_length];rfl
def aB5(e:Expr):Bool:=(decide (e.kind=1)||decide (e.num=0))&&((decide (e.kind=2)||jT e.index)&&(decide (e.kind=3)||nL e.read))
theorem qF(d:Int): ∀(L n:Nat) (e:Expr) (c:Int),5000+L≤n→L≤5→SmE L e→0≤c→c≤12→
  Ev (i_exprScan (n+1) e d (6-(L:Int)) c) (fun r=>r.1=(dB L e d&&decide (c+tO L e≤12))∧(r.1=true→r.2=c+tO L e))
 |0,n,e,c,hn,hL,he,h0,h1=>by
  unfold i_exprScan
  refine Ev.jn (fun z=>z=true) (fun j hj=>aH (fun h=>hj _ rfl) (fun h=>hj _ (by decide))) (fun z hz=> ?_)
  subst hz
  exact Ev.some ⟨rfl,fun h=>by cases h⟩
 |L+1,n,e,c,hn,hL,he,h0,h1=>by
  obtain⟨e1,e2,e3,e4⟩:=he
  have hcp:=vZ (L+1) e
  unfold i_exprScan
  have ew:wr (c+1)=c+1:=aM (by omega)
  have ed:wr (6-(((L+1:Nat)):Int)+1)=6-(L:Int):=by rw [aM (by omega)];omega
  rw [ew,ed]
  refine Ev.jn (fun z=>z=decide (12<c+1)) (fun j hj=>aH (fun h=>hj _ (decide_eq_true h).symm) (fun h=>hj _ ?_)) (fun z hz=> ?_)
  ·rw [decide_eq_false h,decide_eq_false (by omega)]
  subst hz
  refine aH (fun h=>Ev.some ⟨?_,fun h=>by cases h⟩) (fun hc=> ?_)
  ·rw [decide_eq_false (show¬c+tO (L+1) e≤12 by omega),Bool.and_false]
  refine Ev.jn (fun z=>z= !aB5 e) (fun j hj=> ?_) (fun z hz=> ?_)
  ·rw [W6,W7]
   unfold aB5 at hj
   simp only [Option.bind]
   by_cases k1:e.kind=1
   ·have k2: ¬e.kind=2:=by omega
    have k3: ¬e.kind=3:=by omega
    rw [decide_eq_true k1,decide_eq_false k2,decide_eq_false k3] at*
    simp only [Bool.not_true,Bool.not_false,cond_true,cond_false,Bool.true_or,Bool.true_and,Bool.false_or] at*
    cases ha:jT e.index with
    |false=>exact hj _ (by rw [ha];rfl)
    |true=>exact hj _ (by rw [ha];rfl)
   ·rw [decide_eq_false k1] at*
    simp only [Bool.not_false,cond_true,Bool.false_or] at*
    by_cases hnum:e.num=0
    ·rw [decide_eq_true hnum] at*
     simp only [Bool.not_true,cond_false,Bool.true_and] at*
     by_cases k2:e.kind=2
     ·have k3: ¬e.kind=3:=by omega
      rw [decide_eq_true k2,decide_eq_false k3] at*
      simp only [Bool.not_true,Bool.not_false,cond_true,cond_false,Bool.true_or,Bool.true_and,Bool.false_or] at*
      exact hj _ rfl
     ·rw [decide_eq_false k2] at*
      simp only [Bool.not_false,cond_true,Bool.false_or] at*
      cases ha:jT e.index with
      |false=>exact hj _ (by rw [ha];rfl)
      |true=>
       by_cases k3:e.kind=3
       ·rw [decide_eq_true k3] at*
        exact hj _ (by rw [ha];rfl)
       ·rw [decide_eq_false k3] at*
        exact hj _ (by rw [ha];rfl)
    ·rw [decide_eq_false hnum] at*
     exact hj _ rfl
  ·subst hz
   cases hp:aB5 e with
   |false=>
    refine Ev.some ⟨?_,fun h=>by cases h⟩
    have:gC e d=false:=by
     unfold aB5 at hp
     unfold gC
     by_cases k2:e.kind=2
     ·have k1: ¬e.kind=1:=by omega
      have k3: ¬e.kind=3:=by omega
      rw [if_pos k2]
      rw [decide_eq_true k2,decide_eq_false k1,decide_eq_false k3] at hp
      revert hp
      cases decide (e.num=0)<;>cases nL e.read<;>simp
     ·rw [if_neg k2]
      by_cases k3:e.kind=3
      ·have k1: ¬e.kind=1:=by omega
       rw [if_pos k3]
       rw [decide_eq_false k2,decide_eq_false k1,decide_eq_true k3] at hp
       revert hp
       cases decide (e.num=0)<;>cases jT e.index<;>simp
      ·rw [if_neg k3]
       rw [decide_eq_false k2,decide_eq_false k3] at hp
       by_cases k1:e.kind=1
       ·rw [if_pos k1]
        rw [decide_eq_true k1] at hp
        revert hp
        cases jT e.index<;>cases nL e.read<;>simp
       ·rw [if_neg k1]
        rw [decide_eq_false k1] at hp
        revert hp
        cases decide (e.num=0)<;>cases jT e.index<;>cases nL e.read<;>simp
    unfold dB
    rw [this];simp
   |true=>
    refine bV ?_
    unfold aB5 at hp
    simp only [Bool.and_eq_true,Bool.or_eq_true,decide_eq_true_eq] at hp
    obtain⟨p1,p2,p3⟩:=hp
    have leafP: ∀(b:Bool),gC e d=b→iI e.kind=0→ ∀(z:Bool),z=(b&&decide ((e.kids.length:Int)=0))→z=(dB (L+1) e d&&decide (c+tO (L+1) e≤12))∧(z=true→c+1=c+tO (L+1) e):=by
     intro b hb hk z hz
     unfold dB
     rw [hb,hk]
     by_cases h:e.kids.length=0
     ·have hnil:e.kids=[]:=List.eq_nil_of_length_eq_zero h
      have hcn:tO (L+1) e=1:=by simp [tO,hnil]
      rw [hcn,decide_eq_true (show c+1≤12 by omega)]
      rw [decide_eq_true (show(e.kids.length:Int)=0 by omega)] at hz
      rw [hz,hnil];simp
     ·rw [decide_eq_false (show¬(e.kids.length:Int)=0 by omega)] at hz
      rw [hz,decide_eq_false (show¬(0:Int)=(e.kids.length:Int) by omega)];simp
    by_cases k1:e.kind=1
    ·have k2: ¬e.kind=2:=by omega
     have k3: ¬e.kind=3:=by omega
     rw [decide_eq_true k1]
     have hown:gC e d=decide (0≤e.num∧e.num≤99):=by
      unfold gC
      rw [if_neg k2,if_neg k3,if_pos k1]
      rcases p2 with h|h
      ·exact absurd h k2
      rcases p3 with h'|h'
      ·exact absurd h' k3
      rw [h,h'];simp
     refine bU (Ev.jn (fun z=>z=(decide (0≤e.num∧e.num≤99)&&decide ((e.kids.length:Int)=0))) (fun j hj=>aB (dE n _ _ _) ?_) (fun z hz=>Ev.some ?_))
     ·cases hw:decide (0≤e.num∧e.num≤99) with
      |true=>exact hj _ (by rw [hw];rfl)
      |false=>exact hj _ (by rw [hw];rfl)
     ·exact leafP _ hown (by unfold iI;rw [if_pos (Or.inl k1)]) _ hz
    ·rw [decide_eq_false k1]
     refine bV ?_
     have hnum:e.num=0:=by
      rcases p1 with h|h
      ·exact absurd h k1
      ·exact h
     by_cases k2:e.kind=2
     ·have k3: ¬e.kind=3:=by omega
      rw [decide_eq_true k2]
      have hown:gC e d=bZ e.index d:=by
       unfold gC
       rw [if_pos k2,decide_eq_true hnum]
       rcases p3 with h'|h'
       ·exact absurd h' k3
       rw [h'];simp
      refine bU (Ev.jn (fun z=>z=(bZ e.index d&&decide ((e.kids.length:Int)=0))) (fun j hj=>aB (rB (by omega) _ e2) ?_) (fun z hz=>Ev.some ?_))
      ·unfold bZ at hj
       cases hw:bX e.index with
       |false=>exact hj _ (by rw [hw];rfl)
       |true=>
        refine aB (w7 (by omega) e2) (aH (fun h=>hj _ ?_) (fun h=>hj _ ?_))
        ·rw [hw,decide_eq_true h];rfl
        ·rw [hw,decide_eq_false h];rfl
      ·exact leafP _ hown (by unfold iI;rw [if_pos (Or.inr (Or.inl k2))]) _ hz
     ·rw [decide_eq_false k2]
      refine bV ?_
      have hnaff:jT e.index=true:=by
       rcases p2 with h|h
       ·exact absurd h k2
       ·exact h
      by_cases k3:e.kind=3
      ·rw [decide_eq_true k3]
       have hown:gC e d=gY e.read d:=by
        unfold gC
        rw [if_neg k2,if_pos k3,decide_eq_true hnum,hnaff];simp
       refine bU (Ev.jn (fun z=>z=(gY e.read d&&decide ((e.kids.length:Int)=0))) (fun j hj=>aB (wG (by omega) e3 d) ?_) (fun z hz=>Ev.some ?_))
       ·cases hw:gY e.read d with
        |false=>exact hj _ (by rw [hw];rfl)
        |true=>exact hj _ (by rw [hw];rfl)
       ·exact leafP _ hown (by unfold iI;rw [if_pos (Or.inr (Or.inr k3))]) _ hz
      ·rw [decide_eq_false k3]
       refine bV ?_
       have hown:gC e d=true:=by
        unfold gC
        rw [if_neg k2,if_neg k3,if_neg k1,decide_eq_true hnum,hnaff]
        rcases p3 with h'|h'
        ·exact absurd h' k3
        rw [h'];rfl
       have hop:P3 n e.kind=some (decide (4≤e.kind∧e.kind≤6)):=by unfold P3;rw [dE];rfl
       have hkn:(iI e.kind=2↔(4≤e.kind∧e.kind≤6))∧(iI e.kind=2∨iI e.kind= -1):=by
        unfold iI
        rw [if_neg (by omega)]
        split<;>omega
       refine Ev.jn (fun z=>z= !(decide (4≤e.kind∧e.kind≤6)&&decide ((e.kids.length:Int)=2))) (fun j hj=>aB hop ?_) (fun z hz=> ?_)
       ·cases hw:decide (4≤e.kind∧e.kind≤6) with
        |false=>exact hj _ (by rw [hw];rfl)
        |true=>exact hj _ (by rw [hw];rfl)
       subst hz
       by_cases hk:(4≤e.kind∧e.kind≤6)∧(e.kids.length:Int)=2
       ·rw [decide_eq_true hk.1,decide_eq_true hk.2]
        refine bV ?_
        obtain⟨a,b,hab⟩: ∃a b,e.kids=[a,b]:=by
         have:e.kids.length=2:=by omega
         match hq:e.kids,this with
         | [a,b],_=>exact⟨a,b,rfl⟩
        have hsh:dB (L+1) e d=(dB L a d&&dB L b d):=by
         show(decide (iI e.kind=e.kids.length)&&(gC e d&&e.kids.all (fun k=>dB L k d)))=_
         rw [hown,hab,decide_eq_true (show iI e.kind=(([a,b]:List Expr).length:Int) by rw [hkn.1.2 hk.1];rfl)]
         simp
        have hcn:tO (L+1) e=1+(tO L a+tO L b):=by simp [tO,hab]
        have ca:=vZ L a
        have cb:=vZ L b
        rw [hsh,hcn]
        obtain⟨n,rfl⟩: ∃j,n=j+1:=⟨n-1,by omega⟩
        refine Ev.jn (fun z:Int×Bool=>z.2=(dB L a d&&dB L b d&&decide (c+(1+(tO L a+tO L b))≤12))∧(z.2=true→z.1=c+(1+(tO L a+tO L b)))) (fun j hj=> ?_) (fun z hz=>Ev.some hz)
        refine aB (x:=a) (by rw [hab];rfl) (aL (qF d L n a (c+1) (by omega) (by omega) (e4 a (by rw [hab];simp)) (by omega) (by omega)) (fun r ⟨r1,r2⟩=> ?_))
        cases hr:r.1 with
        |false=>
         refine hj _ ⟨?_,fun h=>by cases h⟩
         rw [hr] at r1
         show false=_
         by_cases hsa:dB L a d=true
         ·rw [hsa,Bool.true_and] at r1
          have:=of_decide_eq_false r1.symm
          rw [decide_eq_false (show¬c+(1+(tO L a+tO L b))≤12 by omega),Bool.and_false]
         ·rw [Bool.eq_false_iff.2 hsa];rfl
        |true=>
         have r2:=r2 hr
         rw [hr] at r1
         have r1:=r1.symm
         rw [Bool.and_eq_true,decide_eq_true_eq] at r1
         refine aB (x:=b) (by rw [hab];rfl) ?_
         rw [r2]
         refine aL (qF d L n b (c+1+tO L a) (by omega) (by omega) (e4 b (by rw [hab];simp)) (by omega) (by omega)) (fun q ⟨q1,q2⟩=>hj _ ⟨?_,fun h=> ?_⟩)
         ·show q.1=_
          rw [q1,r1.1,Bool.true_and]
          congr 1
          exact decide_eq_decide.2 (by omega)
         ·show q.2=_
          rw [q2 h];omega
       ·have hf:dB (L+1) e d=false:=by
         unfold dB
         rw [decide_eq_false (show¬iI e.kind=(e.kids.length:Int) by
          intro h
          rcases hkn.2 with h2|h2
          ·exact hk ⟨hkn.1.1 h2,by omega⟩
          ·omega)]
         rfl
        have:(decide (4≤e.kind∧e.kind≤6)&&decide ((e.kids.length:Int)=2))=false:=by
         by_cases g:4≤e.kind∧e.kind≤6
         ·rw [decide_eq_false (show¬(e.kids.length:Int)=2 from fun h=>hk ⟨g,h⟩),Bool.and_false]
         ·rw [decide_eq_false g];rfl
        rw [this,hf]
        exact Ev.some ⟨rfl,fun h=>by cases h⟩
def fW(s:Stmt)(d:Int):Bool:=decide (0≤d∧d≤4)&&(gY s.write d&&(dB 5 s.value d&&decide (tO 5 s.value≤12)))
def SmS(s:Stmt):Prop:=H7 s.write.subs∧SmE 5 s.value
theorem P6{n:Nat}(hn:6000≤n){s:Stmt}(h:SmS s)(d:Int):m8 n s d=some (fW s d):=by
 obtain⟨n,rfl⟩: ∃j,n=j+1:=⟨n-1,by omega⟩
 refine Ev.eq ?_
 unfold m8
 generalize hT:fW s d=T
 unfold fW at hT
 refine Ev.jn (fun z:Int×Bool=>z.2=T) (fun j hj=>aB (dE _ _ _ _) ?_) (fun z hz=>Ev.some hz)
 cases h1:decide (0≤d∧d≤4) with
 |false=>exact hj (0,false) (by rw [←hT,h1];rfl)
 |true=>
  refine bU (aB (wG (by omega) h.1 d) ?_)
  cases h2:gY s.write d with
  |false=>exact hj (0,false) (by rw [←hT,h1,h2];rfl)
  |true=>
   refine bU (aL (qF d 5 n s.value 0 (by omega) (by omega) h.2 (by omega) (by omega)) (fun r ⟨r1,r2⟩=>hj _ ?_))
   rw [←hT,h1,h2]
   show r.1=_
   rw [r1]
   simp
theorem uH{n:Nat}(hn:6000≤n){s:Stmt}(h:SmS s)(d:Int):iO n s d=some (fW s d):=by
 obtain⟨n,rfl⟩: ∃j,n=j+1:=⟨n-1,by omega⟩
 refine Ev.eq ?_
 unfold iO
 generalize hT:fW s d=T
 generalize hB:(decide (0≤d∧d≤4)&&(gY s.write d&&dB 5 s.value d))=B
 have hTB:T=(B&&decide (tO 5 s.value≤12)):=by rw [←hT,←hB];unfold fW;simp only [Bool.and_assoc]
 refine Ev.jn (fun z=>z= !B) (fun j hj=>aH (fun h=>hj _ ?_) (fun h0=>aH (fun h=>hj _ ?_) (fun h4=>aB (wD (by omega) h.1 d) ?_))) (fun z hz=> ?_)
 ·rw [←hB,decide_eq_false (show¬(0≤d∧d≤4) by omega)];rfl
 ·rw [←hB,decide_eq_false (show¬(0≤d∧d≤4) by omega)];rfl
 ·rw [decide_eq_true (show 0≤d∧d≤4 by omega)] at hB
  cases h2:gY s.write d with
  |false=>exact bU (hj _ (by rw [←hB,h2];rfl))
  |true=>exact bV (aB (xY d 5 n s.value (by omega) (by omega) h.2) (hj _ (by rw [←hB,h2];rfl)))
 ·subst hz
  cases hb:B with
  |false=>exact Ev.some (by rw [hTB,hb];rfl)
  |true=>
   rw [hb] at hB
   simp only [Bool.and_eq_true] at hB
   refine bV (aB (yA (d:=d) 5 n s.value (by omega) (by omega) hB.2.2) (Ev.some ?_))
   rw [hTB,hb];rfl
def jM(ds:List Int):Bool:=decide (1≤ds.length∧ds.length≤2)&&ds.all (fun d=>decide (1≤d∧d≤6))
def wT(list:List Arr)(i:Nat)(x:Arr):Bool:=match i with
 |0=>true
 |i+1=>match list[i]? with
  |some y=>Op.bytesLess y.name x.name
  |none=>false
def Y0(list:List Arr)(i:Nat)(x:Arr):Bool:=pC x.name&&(wT list i x&&jM x.dims)
def iY(list:List Arr):Bool:=P2 (Y0 list) list&&decide (list.length≤4)
def SmR(list:List Arr):Prop:=list.length≤1000∧ ∀x∈list,x.dims.length≤1000
theorem E0{list:List Arr}{i:Nat}{x y:Arr}(h:list[i]? =some y):wT list (i+1) x=Op.bytesLess y.name x.name:=by
 simp only [wT,h]
theorem aH8(ds:List Int):(ds.any fun d=> !decide (1≤d∧d≤6))= !(ds.all fun d=>decide (1≤d∧d≤6)):=by
 rw [List.all_eq_not_any_not];simp
theorem W8{n:Nat}(hn:6000≤n){list:List Arr}(h:SmR list):pG n list=some (iY list):=by
 obtain⟨h0,h1⟩:=h
 refine Ev.eq ?_
 unfold pG
 refine n6 (l:=list) (p:=Y0 list) (by omega) (by omega) (fun again i x hx hgo hno=> ?_) (fun again hall=> ?_) (fun⟨i,x,hx,hp⟩=> ?_)
 ·have hi:=(List.getElem?_eq_some_iff.1 hx).1
  have hm:=h1 x (List.mem_of_getElem? hx)
  rw [decide_eq_true (show(i:Int)<(list.length:Int) by omega)]
  have hd:bP n x.dims (fun q0=>eJ n q0)=some (!(x.dims.all fun d=>decide (1≤d∧d≤6))):=by
   rw [←aH8]
   exact nW (fun d _=>by unfold eJ;rw [dE];rfl) (by omega) (by omega)
  refine bU (aB (aR hx) (Ev.jn (fun z=>z= !Y0 list i x) (fun j hj=>aB (yS n _) ?_) (fun z hz=> ?_)))
  ·unfold Y0 jM at hj
   cases g1:pC x.name with
   |false=>exact bU (hj _ (by rw [g1];rfl))
   |true=>
    rw [g1] at hj
    refine bV ?_
    rw [sN]
    have hlast:wT list i x=true→Ev (Option.bind (some (decide (1≤x.dims.length∧x.dims.length≤2))) fun x6=>bif !x6 then j true else Option.bind (bP n x.dims (fun q0=>eJ n q0)) fun x7=>j x7) (fun r=>r=iY list):=by
     intro hp
     rw [hp] at hj
     show Ev (bif _ then _ else _) _
     cases g2:decide (1≤x.dims.length∧x.dims.length≤2) with
     |false=>exact bU (hj _ (by rw [g2];rfl))
     |true=>exact bV (aB hd (hj _ (by rw [g2];rfl)))
    cases i with
    |zero=>exact aH (fun h=>absurd h (by decide)) (fun _=>hlast rfl)
    |succ i=>
     have hy:=List.getElem?_eq_getElem (show i<list.length by omega)
     have e:wr (((i+1:Nat):Int)-1)=(i:Int):=by rw [aM (by omega)];omega
     rw [e]
     refine aH (fun _=>aB (aR hy) ?_) (fun h=>absurd (show(0:Int)<((i+1:Nat):Int) by omega) h)
     have hpp:=E0 (x:=x) hy
     cases g3:Op.bytesLess list[i].name x.name with
     |false=>exact bU (hj _ (by rw [hpp,g3];rfl))
     |true=>exact bV (hlast (by rw [hpp,g3]))
  ·subst hz
   cases hb:Y0 list i x with
   |true=>show Ev (again _) _;rw [aM (by omega)];exact hgo hb
   |false=>exact Ev.some (hno hb)
 ·rw [decide_eq_false (show¬(list.length:Int)<(list.length:Int) by omega)]
  refine Ev.some ?_
  unfold iY
  rw [pV hall,Bool.true_and]
  exact decide_eq_decide.2 (by omega)
 ·unfold iY;rw [nS hx hp];rfl
theorem aGT(s:List UInt8):(!Op.bytesLess s [68]&& !s==[68])= !(Op.bytesLess s [68]||s==[68]):=by
 cases Op.bytesLess s [68]<;>cases (s==[68])<;>rfl
theorem V6{n:Nat}(hn:6000≤n){list:List Arr}(h:SmR list):o5 n list=some (iY list):=by
 obtain⟨h0,h1⟩:=h
 refine Ev.eq ?_
 unfold o5
 refine n6 (l:=list) (p:=Y0 list) (by omega) (by omega) (fun again i x hx hgo hno=> ?_) (fun again hall=> ?_) (fun⟨i,x,hx,hp⟩=> ?_)
 ·have hi:=(List.getElem?_eq_some_iff.1 hx).1
  have hm:=h1 x (List.mem_of_getElem? hx)
  rw [decide_eq_true (show(i:Int)<(list.length:Int) by omega)]
  refine bU (aB (aR hx) (Ev.jn (fun z=>z= !(pC x.name&&(wT list i x&&decide (1≤x.dims.length∧x.dims.length≤2)))) (fun j hj=> ?_) (fun z hz=> ?_)))
  ·refine eA (fun hl=>hj _ ?_) (fun hl=> ?_)
   ·rw [wZ (by omega)];rfl
   ·obtain⟨b,hb⟩:=aKt (show x.name.length=1 by omega)
    rw [aGT]
    have hless: ∀(y:Arr),Op.bytesLess y.name x.name=Op.bytesLess y.name [b]:=fun y=>by rw [hb]
    have hnm:pC x.name=decide (65≤b.toNat∧b.toNat≤68):=by rw [hb];rfl
    have l1:Op.bytesLess x.name [65]=decide (b.toNat<65):=by rw [hb];exact O5 b
    have l2:(Op.bytesLess x.name [68]||x.name==[68])=decide (b.toNat≤68):=by rw [hb];exact O4 b
    rw [l1,l2]
    rw [hnm] at hj
    refine aH (fun g1=>hj _ ?_) (fun g1=>eA (fun g2=>hj _ ?_) (fun g2=> ?_))
    ·rw [decide_eq_false (show¬(65≤b.toNat∧b.toNat≤68) by omega)];rfl
    ·rw [decide_eq_false (show¬(65≤b.toNat∧b.toNat≤68) by omega)];rfl
    ·rw [decide_eq_true (show 65≤b.toNat∧b.toNat≤68 by omega)] at hj
     have hlast:wT list i x=true→Ev (bif decide ((x.dims.length:Int)<1) then j true else j (decide ((2:Int)<(x.dims.length:Int)))) (fun r=>r=iY list):=by
      intro hp
      rw [hp] at hj
      refine aH (fun h=>hj _ ?_) (fun h=>hj _ ?_)
      ·rw [decide_eq_false (show¬(1≤x.dims.length∧x.dims.length≤2) by omega)];rfl
      ·by_cases h2:x.dims.length≤2
       ·rw [decide_eq_false (show¬(2:Int)<(x.dims.length:Int) by omega),decide_eq_true (show 1≤x.dims.length∧x.dims.length≤2 by omega)];rfl
       ·rw [decide_eq_true (show(2:Int)<(x.dims.length:Int) by omega),decide_eq_false (show¬(1≤x.dims.length∧x.dims.length≤2) by omega)];rfl
     cases i with
     |zero=>exact aH (fun h=>absurd h (by decide)) (fun _=>hlast rfl)
     |succ i=>
      have hy:=List.getElem?_eq_getElem (show i<list.length by omega)
      have e:wr (((i+1:Nat):Int)-1)=(i:Int):=by rw [aM (by omega)];omega
      rw [e]
      refine aH (fun _=>aB (aR hy) ?_) (fun h=>absurd (show(0:Int)<((i+1:Nat):Int) by omega) h)
      have hpp:=E0 (x:=x) hy
      cases g3:Op.bytesLess list[i].name x.name with
      |false=>exact bU (hj _ (by rw [hpp,g3];rfl))
      |true=>exact bV (hlast (by rw [hpp,g3]))
  ·subst hz
   cases hb:(pC x.name&&(wT list i x&&decide (1≤x.dims.length∧x.dims.length≤2))) with
   |false=>
    refine Ev.some (hno ?_)
    unfold Y0 jM
    rw [←Bool.and_assoc,←Bool.and_assoc]
    rw [←Bool.and_assoc] at hb
    rw [hb];rfl
   |true=>
    have hap:Y0 list i x=x.dims.all (fun d=>decide (1≤d∧d≤6)):=by
     unfold Y0 jM
     rw [←Bool.and_assoc,←Bool.and_assoc]
     rw [←Bool.and_assoc] at hb
     rw [hb];rfl
    refine bV ?_
    refine Ev.loop (fun y:Int=> ∃k:Nat,y=k∧k≤x.dims.length∧ ∀(t:Nat) d,t<k→x.dims[t]? =some d→decide (1≤d∧d≤6)=true) (fun y=>x.dims.length-y.toNat) ?_ n _ ⟨0,rfl,by omega,fun t d h=>by omega⟩ (by simp;omega)
    rintro again8 y ⟨k,rfl,hk,ha⟩ hr
    refine aH (fun hlt=> ?_) (fun hge=> ?_)
    ·have hd:=List.getElem?_eq_getElem (show k<x.dims.length by omega)
     have ek:wr ((k:Int)+1)=((k+1:Nat):Int):=by rw [aM (by omega)];omega
     refine Ev.jn (fun z=>z= !decide (1≤x.dims[k]∧x.dims[k]≤6)) (fun j hj=>aB (aR hd) (aH (fun h=>hj _ ?_) (fun h=>hj _ ?_))) (fun z hz=> ?_)
     ·rw [decide_eq_false (by omega)];rfl
     ·by_cases h6:x.dims[k]≤6
      ·rw [decide_eq_false (show¬(6:Int)<x.dims[k] by omega),decide_eq_true (show 1≤x.dims[k]∧x.dims[k]≤6 by omega)];rfl
      ·rw [decide_eq_true (show(6:Int)<x.dims[k] by omega),decide_eq_false (show¬(1≤x.dims[k]∧x.dims[k]≤6) by omega)];rfl
     ·subst hz
      cases hb2:decide (1≤x.dims[k]∧x.dims[k]≤6) with
      |false=>
       refine Ev.some (hno ?_)
       rw [hap]
       exact List.all_eq_false.2 ⟨_,List.mem_of_getElem? hd,by rw [hb2];simp⟩
      |true=>
       rw [ek]
       refine hr _ ⟨k+1,rfl,by omega,fun t d ht hd2=> ?_⟩ (by omega)
       by_cases htk:t=k
       ·subst htk;rw [hd] at hd2;cases hd2;exact hb2
       ·exact ha t d (by omega) hd2
    ·have e:wr ((i:Int)+1)=(i:Int)+1:=aM (by omega)
     rw [e]
     refine hgo ?_
     rw [hap]
     refine List.all_eq_true.2 (fun d hd=> ?_)
     obtain⟨t,ht⟩:=List.getElem?_of_mem hd
     have:=(List.getElem?_eq_some_iff.1 ht).1
     exact ha t d (by omega) ht
 ·rw [decide_eq_false (show¬(list.length:Int)<(list.length:Int) by omega)]
  refine Ev.some ?_
  unfold iY
  rw [pV hall,Bool.true_and]
  exact decide_eq_decide.2 (by omega)
 ·unfold iY;rw [nS hx hp];rfl
def K7:List Int→Int
 | []=>1
 |d::ds=>d*K7 ds
theorem aD4{ds:List Int}(h:jM ds=true):(∃a,ds=[a]∧1≤a∧a≤6)∨ ∃a b,ds=[a,b]∧(1≤a∧a≤6)∧1≤b∧b≤6:=by
 simp only [jM,Bool.and_eq_true,decide_eq_true_eq,List.all_eq_true] at h
 obtain⟨⟨h1,h2⟩,h3⟩:=h
 match ds,h1,h2,h3 with
 | [a],_,_,h3=>exact .inl ⟨a,rfl,h3 a (by simp)⟩
 | [a,b],_,_,h3=>exact .inr ⟨a,b,rfl,h3 a (by simp),h3 b (by simp)⟩
theorem aLt{a b:Int}(ha:1≤a∧a≤6)(hb:1≤b∧b≤6):1≤a*b∧a*b≤36:=by
 constructor
 ·have:=Int.mul_le_mul ha.1 hb.1 (by omega) (by omega);omega
 ·have:=Int.mul_le_mul ha.2 hb.2 (by omega) (by omega);omega
theorem K6{ds:List Int}(h:jM ds=true):1≤K7 ds∧K7 ds≤36:=by
 rcases aD4 h with ⟨a,rfl,h1⟩|⟨a,b,rfl,h1,h2⟩
 ·simp [K7];omega
 ·have:=aLt h1 h2;simp [K7];omega
theorem t1{n:Nat}(hn:6000≤n){x:Arr}(h:jM x.dims=true):t2 n x=some (K7 x.dims):=by
 obtain⟨n,rfl⟩: ∃j,n=j+3:=⟨n-3,by omega⟩
 unfold t2
 rcases aD4 h with ⟨a,e,h1⟩|⟨a,b,e,h1,h2⟩
 ·rw [e]
  have e1:wr a=a:=aM (by omega)
  simp [aN,ix,K7,e1,show wr 1=1 from aM (by omega)]
 ·rw [e]
  have:=aLt h1 h2
  have e1:wr a=a:=aM (by omega)
  have e2:wr (a*b)=a*b:=aM (by omega)
  simp [aN,ix,K7,e1,e2,show wr 1=1 from aM (by omega),show wr 2=2 from aM (by omega)]
theorem aFK{n:Nat}(hn:6000≤n){x:Arr}(h:jM x.dims=true):lR n x=some (K7 x.dims):=t1 hn h
def mA:List Affine→List Int→List Int→Int→Int
 |s::ss,d::ds,p,acc=>if 0≤cT s p∧cT s p<d then mA ss ds p (acc*d+cT s p) else-1
 |_,_,_,acc=>acc
def cK:List Arr→Access→List Int→Int→Int
 | [],_,_,_=> -1
 |x::xs,a,p,base=>if x.name=a.array then(if a.subs.length=x.dims.length then(if mA a.subs x.dims p 0<0 then-1 else base+mA a.subs x.dims p 0) else-1) else cK xs a p (base+K7 x.dims)
def fP(xs:List Arr):Prop:= ∀x∈xs,jM x.dims=true
theorem aLB{ds:List Int}(hd:jM ds=true){ss:List Affine}(hl:ss.length=ds.length)(p:List Int):mA ss ds p 0= -1∨(0≤mA ss ds p 0∧mA ss ds p 0<K7 ds):=by
 rcases aD4 hd with ⟨a,rfl,h1⟩|⟨a,b,rfl,h1,h2⟩
 ·match ss,hl with
  | [s],_=>
   simp only [mA,K7,Int.zero_mul,Int.zero_add,Int.mul_one]
   split<;>omega
 ·match ss,hl with
  | [s,t],_=>
   simp only [mA,K7,Int.zero_mul,Int.zero_add,Int.mul_one]
   split
   ·rename_i hs
    split
    ·rename_i ht
     refine .inr ⟨?_,?_⟩
     ·have:=Int.mul_nonneg hs.1 (show 0≤b by omega);omega
     ·have:=Int.mul_le_mul_of_nonneg_right (show cT s p≤a-1 by omega) (show 0≤b by omega)
      rw [Int.sub_mul] at this;omega
    ·exact .inl rfl
   ·exact .inl rfl
def gR(xs:List Arr):Int:=(xs.map (fun x=>K7 x.dims)).sum
theorem I9: ∀{xs:List Arr},fP xs→ ∀(a:Access) (p:List Int) (base:Int),0≤base→cK xs a p base= -1∨(base≤cK xs a p base∧cK xs a p base<base+gR xs)
 | [],_,a,p,base,_=> .inl rfl
 |x::xs,hd,a,p,base,hb=>by
  have hx:=hd x (by simp)
  have hs:=K6 hx
  have hxs:fP xs:=fun y hy=>hd y (by simp [hy])
  have ht:0≤gR xs:=by
   have:=oZ (fun x:Arr=>K7 x.dims) xs (fun y hy=>(K6 (hxs y hy)).1)
   unfold gR;omega
  have e:gR (x::xs)=K7 x.dims+gR xs:=by simp [gR]
  rw [e]
  simp only [cK]
  split
  ·split
   ·rename_i hl
    rcases aLB hx hl p with h|h
    ·rw [if_pos (by omega)];exact .inl rfl
    ·rw [if_neg (by omega)];exact .inr ⟨by omega,by omega⟩
   ·exact .inl rfl
  ·rcases I9 hxs a p (base+K7 x.dims) (by omega) with h|h
   ·exact .inl h
   ·exact .inr ⟨by omega,by omega⟩
theorem tL{a:Access}{d:Int}(h:gY a d=true):1≤a.subs.length∧a.subs.length≤2∧ ∀x∈a.subs,bX x=true:=by
 simp only [gY,Bool.and_eq_true,decide_eq_true_eq,List.all_eq_true] at h
 refine⟨h.2.2.1,h.2.2.2,fun x hx=> ?_⟩
 have:=h.1 x hx
 simp only [bZ,Bool.and_eq_true] at this
 exact this.1
theorem gF{α:Type}{l:List α}{i:Nat}{x:α}(h:l[i]? =some x):l.drop i=x::l.drop (i+1):=by
 obtain⟨h1,h2⟩:=List.getElem?_eq_some_iff.1 h
 rw [List.drop_eq_getElem_cons h1,h2]
theorem aCY{a d v:Int}(ha:0≤a∧a≤36)(hd:1≤d∧d≤6)(hv:0≤v∧v<d):0≤a*d∧a*d≤216∧0≤a*d+v:=by
 have h1:=Int.mul_nonneg ha.1 (show 0≤d by omega)
 have h2:=Int.mul_le_mul ha.2 hd.2 (by omega) (by omega)
 omega
theorem aHc{n:Nat}(hn:6000≤n){a:Access}(h1:a.subs.length≤2)(h2: ∀x∈a.subs,bX x=true){ds:List Int}(hd:jM ds=true)(hl:a.subs.length=ds.length){k:Nat}{p:List Int}(hp:n7 k p)(base:Int)(hb:0≤base∧base≤1000000):
  aN (fun again8 ((x6,x7):Int×Int)=>bif decide (x7<(a.subs.length:Int)) then(Option.bind (ix a.subs x7) fun x9=>Option.bind (cH n x9 p) fun x10=>Option.bind (ix ds x7) fun x11=>Option.bind (b7 n x10 0 (wr (x11-1))) fun x12=>bif !x12 then(some (-1)) else(again8 (wr ((wr (x6*x11))+x10),wr (x7+1)))) else(some (wr (base+x6)))) n (0,0)
   =some (if mA a.subs ds p 0<0 then-1 else base+mA a.subs ds p 0):=by
 have hdm: ∀d∈ds,1≤d∧d≤6:=by
  simp only [jM,Bool.and_eq_true,decide_eq_true_eq,List.all_eq_true] at hd
  exact fun d h=>hd.2 d h
 refine Ev.eq ?_
 refine Ev.loop (fun x:Int×Int=> ∃i:Nat,x.2=i∧i≤a.subs.length∧0≤x.1∧x.1≤36*i∧(i=0→x.1=0)∧(i=1→x.1≤5)∧mA a.subs ds p 0=mA (a.subs.drop i) (ds.drop i) p x.1) (fun x=>a.subs.length-x.2.toNat) ?_ n _ ⟨0,rfl,by omega,by simp,by simp,fun _=>rfl,fun h=>by omega,rfl⟩ (by simp;omega)
 rintro again ⟨x,z⟩ ⟨i,hz,hi,hx0,hx1,hx2,hx3,hx⟩ hr
 dsimp only at hz hx0 hx1 hx2 hx3 hx⊢
 subst hz
 refine aH (fun hlt=> ?_) (fun hge=>Ev.some ?_)
 ·have hs:=List.getElem?_eq_getElem (show i<a.subs.length by omega)
  have hdd:=List.getElem?_eq_getElem (show i<ds.length by omega)
  have hdb:=hdm _ (List.mem_of_getElem? hdd)
  have ew:wr (ds[i]-1)=ds[i]-1:=aM (by omega)
  rw [gF hs,gF hdd] at hx
  simp only [mA] at hx
  refine aB (aR hs) (aB (aFM (by omega) (h2 _ (List.mem_of_getElem? hs)) hp) (aB (aR hdd) (aB (dE _ _ _ _) ?_)))
  rw [ew]
  by_cases hc:0≤cT a.subs[i] p∧cT a.subs[i] p<ds[i]
  ·rw [if_pos hc] at hx
   rw [decide_eq_true (show 0≤cT a.subs[i] p∧cT a.subs[i] p≤ds[i]-1 by omega)]
   obtain⟨g1,g2,g3⟩:=aCY (a:=x) (by omega) hdb hc
   refine bV ?_
   rw [aM (n:=x*ds[i]) (by omega),aM (n:=x*ds[i]+cT a.subs[i] p) (by omega),aM (by omega)]
   have hi01:i=0∨i=1:=by omega
   refine hr _ ⟨i+1,by dsimp only;omega,by omega,by dsimp only;omega,?_,fun h=>by omega,fun h=> ?_,hx⟩ (by dsimp only;omega)
   ·dsimp only
    rcases hi01 with rfl|rfl
    ·rw [hx2 rfl];omega
    ·have:=hx3 rfl
     have:=Int.mul_le_mul this hdb.2 (by omega) (by omega)
     omega
   ·dsimp only
    have:i=0:=by omega
    subst this
    rw [hx2 rfl];omega
  ·rw [if_neg hc] at hx
   rw [decide_eq_false (show¬(0≤cT a.subs[i] p∧cT a.subs[i] p≤ds[i]-1) by omega)]
   refine bU (Ev.some ?_)
   rw [hx];rfl
 ·have hie:i=a.subs.length:=by omega
  have hdr:mA (a.subs.drop i) (ds.drop i) p x=x:=by
   rw [hie,List.drop_length];unfold mA;rfl
  rw [hdr] at hx
  rw [hx,if_neg (by omega),aM (by omega)]
theorem aGF{n:Nat}(hn:6000≤n){a:Access}(h0:1≤a.subs.length)(h1:a.subs.length≤2)(h2: ∀x∈a.subs,bX x=true){ds:List Int}(hd:jM ds=true){k:Nat}{p:List Int}(hp:n7 k p)(base:Int)(hb:0≤base∧base≤1000000):
  aN (fun again8 ((x6,x7):Int×Int)=>bif decide (x7<(a.subs.length:Int)) then(bif !decide ((a.subs.length:Int)=(ds.length:Int)) then(some (-1)) else(Option.bind (ix a.subs x7) fun x9=>Option.bind (iN n x9 p) fun x10=>jn (fun(x13:Bool)=>bif x13 then(some (-1)) else(Option.bind (ix ds x7) fun x14=>again8 (wr ((wr (x6*x14))+x10),wr (x7+1)))) (fun j11=>bif decide (x10<0) then(j11 true) else(Option.bind (ix ds x7) fun x12=>j11 (decide (x12≤x10)))))) else(some (wr (base+x6)))) n (0,0)
   =some (if a.subs.length=ds.length then(if mA a.subs ds p 0<0 then-1 else base+mA a.subs ds p 0) else-1):=by
 by_cases hl:a.subs.length=ds.length
 ·rw [if_pos hl]
  rw [decide_eq_true (show(a.subs.length:Int)=(ds.length:Int) by omega)]
  have hdm: ∀d∈ds,1≤d∧d≤6:=by
   simp only [jM,Bool.and_eq_true,decide_eq_true_eq,List.all_eq_true] at hd
   exact fun d h=>hd.2 d h
  refine Ev.eq ?_
  refine Ev.loop (fun x:Int×Int=> ∃i:Nat,x.2=i∧i≤a.subs.length∧0≤x.1∧x.1≤36*i∧(i=0→x.1=0)∧(i=1→x.1≤5)∧mA a.subs ds p 0=mA (a.subs.drop i) (ds.drop i) p x.1) (fun x=>a.subs.length-x.2.toNat) ?_ n _ ⟨0,rfl,by omega,by simp,by simp,fun _=>rfl,fun h=>by omega,rfl⟩ (by simp;omega)
  rintro again ⟨x,z⟩ ⟨i,hz,hi,hx0,hx1,hx2,hx3,hx⟩ hr
  dsimp only at hz hx0 hx1 hx2 hx3 hx⊢
  subst hz
  refine aH (fun hlt=> ?_) (fun hge=>Ev.some ?_)
  ·have hs:=List.getElem?_eq_getElem (show i<a.subs.length by omega)
   have hdd:=List.getElem?_eq_getElem (show i<ds.length by omega)
   have hdb:=hdm _ (List.mem_of_getElem? hdd)
   rw [gF hs,gF hdd] at hx
   simp only [mA] at hx
   refine bV (aB (aR hs) (aB (aGG (by omega) (h2 _ (List.mem_of_getElem? hs)) hp) (Ev.jn (fun z=>z= !decide (0≤cT a.subs[i] p∧cT a.subs[i] p<ds[i])) (fun j hj=>aH (fun h=>hj _ ?_) (fun h=>aB (aR hdd) (hj _ ?_))) (fun z hz=> ?_))))
   ·rw [decide_eq_false (by omega)];rfl
   ·by_cases hc:ds[i]≤cT a.subs[i] p
    ·rw [decide_eq_true hc,decide_eq_false (by omega)];rfl
    ·rw [decide_eq_false hc,decide_eq_true (by omega)];rfl
   subst hz
   by_cases hc:0≤cT a.subs[i] p∧cT a.subs[i] p<ds[i]
   ·rw [if_pos hc] at hx
    rw [decide_eq_true hc]
    obtain⟨g1,g2,g3⟩:=aCY (a:=x) (by omega) hdb hc
    refine bV (aB (aR hdd) ?_)
    rw [aM (n:=x*ds[i]) (by omega),aM (n:=x*ds[i]+cT a.subs[i] p) (by omega),aM (by omega)]
    have hi01:i=0∨i=1:=by omega
    refine hr _ ⟨i+1,by dsimp only;omega,by omega,by dsimp only;omega,?_,fun h=>by omega,fun h=> ?_,hx⟩ (by dsimp only;omega)
    ·dsimp only
     rcases hi01 with rfl|rfl
     ·rw [hx2 rfl];omega
     ·have:=hx3 rfl
      have:=Int.mul_le_mul this hdb.2 (by omega) (by omega)
      omega
    ·dsimp only
     have:i=0:=by omega
     subst this
     rw [hx2 rfl];omega
   ·rw [if_neg hc] at hx
    rw [decide_eq_false hc]
    refine bU (Ev.some ?_)
    rw [hx];rfl
  ·have hie:i=a.subs.length:=by omega
   have hdr:mA (a.subs.drop i) (ds.drop i) p x=x:=by
    rw [hie,List.drop_length];unfold mA;rfl
   rw [hdr] at hx
   rw [hx,if_neg (by omega),aM (by omega)]
 ·rw [if_neg hl,decide_eq_false (show¬(a.subs.length:Int)=(ds.length:Int) by omega)]
  obtain⟨n,rfl⟩: ∃j,n=j+1:=⟨n-1,by omega⟩
  simp only [aN]
  rw [decide_eq_true (show(0:Int)<(a.subs.length:Int) by omega)]
  rfl
theorem oJ{n:Nat}(hn:6000≤n){p:Prog}(hl:p.arrays.length≤4)(hd:fP p.arrays){a:Access}{d:Int}(ha:gY a d=true){k:Nat}{q:List Int}(hq:n7 k q):cR n p a q=some (cK p.arrays a q 0):=by
 obtain⟨a0,a1,a2⟩:=tL ha
 refine Ev.eq ?_
 unfold cR
 refine Ev.loop (fun x:Int×Int=> ∃i:Nat,x.2=i∧i≤p.arrays.length∧0≤x.1∧x.1≤36*i∧cK p.arrays a q 0=cK (p.arrays.drop i) a q x.1) (fun x=>p.arrays.length-x.2.toNat) ?_ n _ ⟨0,rfl,by omega,by simp,by simp,rfl⟩ (by simp;omega)
 rintro again ⟨x,z⟩ ⟨i,hz,hi,hx0,hx1,hx⟩ hr
 dsimp only at hz hx0 hx1 hx⊢
 subst hz
 refine aH (fun hlt=> ?_) (fun hge=>Ev.some ?_)
 ·have hy:=List.getElem?_eq_getElem (show i<p.arrays.length by omega)
  have hdy:=hd _ (List.mem_of_getElem? hy)
  have hsz:=K6 hdy
  rw [gF hy] at hx
  simp only [cK] at hx
  refine aB (aR hy) (eA (fun hne=> ?_) (fun he=> ?_))
  ·rw [if_neg hne] at hx
   refine aB (aFK hn hdy) ?_
   rw [aM (n:=x+K7 p.arrays[i].dims) (by omega),aM (by omega)]
   exact hr _ ⟨i+1,by dsimp only;omega,by omega,by dsimp only;omega,by dsimp only;omega,hx⟩ (by dsimp only;omega)
  ·rw [if_pos he] at hx
   refine eA (fun hne=>Ev.some ?_) (fun hle=> ?_)
   ·rw [hx,if_neg (by omega)]
   ·have hle':a.subs.length=p.arrays[i].dims.length:=by omega
    rw [if_pos hle'] at hx
    exact Ev.of (aHc hn a1 a2 hdy hle' hq x (by omega)) hx.symm
 ·have hie:i=p.arrays.length:=by omega
  rw [hx,hie,List.drop_length];rfl
theorem Y4{n:Nat}(hn:6000≤n){list:List Arr}(hl:list.length≤4)(hd:fP list){a:Access}{d:Int}(ha:gY a d=true){k:Nat}{q:List Int}(hq:n7 k q):qU n list a q=some (cK list a q 0):=by
 obtain⟨a0,a1,a2⟩:=tL ha
 refine Ev.eq ?_
 unfold qU
 refine Ev.loop (fun x:Int×Int=> ∃i:Nat,x.2=i∧i≤list.length∧0≤x.1∧x.1≤36*i∧cK list a q 0=cK (list.drop i) a q x.1) (fun x=>list.length-x.2.toNat) ?_ n _ ⟨0,rfl,by omega,by simp,by simp,rfl⟩ (by simp;omega)
 rintro again ⟨x,z⟩ ⟨i,hz,hi,hx0,hx1,hx⟩ hr
 dsimp only at hz hx0 hx1 hx⊢
 subst hz
 refine aH (fun hlt=> ?_) (fun hge=>Ev.some ?_)
 ·have hy:=List.getElem?_eq_getElem (show i<list.length by omega)
  have hdy:=hd _ (List.mem_of_getElem? hy)
  have hsz:=K6 hdy
  rw [gF hy] at hx
  simp only [cK] at hx
  refine aB (aR hy) (eA (fun hne=> ?_) (fun he=> ?_))
  ·rw [if_neg hne] at hx
   refine aB (t1 hn hdy) ?_
   rw [aM (n:=x+K7 list[i].dims) (by omega),aM (by omega)]
   exact hr _ ⟨i+1,by dsimp only;omega,by omega,by dsimp only;omega,by dsimp only;omega,hx⟩ (by dsimp only;omega)
  ·rw [if_pos he] at hx
   exact Ev.of (aGF hn a0 a1 a2 hdy hq x (by omega)) hx.symm
 ·have hie:i=list.length:=by omega
  rw [hx,hie,List.drop_length];rfl
def b6:Nat→Expr→List Access
 |0,_=>[]
 |L+1,e=>(if e.kind=3 then [e.read] else [])++e.kids.flatMap (b6 L)
theorem vQ{d:Int}: ∀{L:Nat} {e:Expr},dB L e d=true→ ∀a∈b6 L e,gY a d=true
 |0,e,h,a,ha=>by cases h
 |L+1,e,h,a,ha=>by
  obtain⟨h1,h2,h3⟩:=gI h
  simp only [b6,List.mem_append,List.mem_flatMap] at ha
  rcases ha with ha|⟨k,hk,ha⟩
  ·split at ha
   ·rename_i hk3
    simp at ha;subst ha
    unfold gC at h2
    rw [if_neg (by omega),if_pos hk3] at h2
    simp only [Bool.and_eq_true] at h2
    exact h2.2.2
   ·simp at ha
  ·exact vQ (h3 k hk) a ha
theorem vP: ∀(L:Nat) (e:Expr),((b6 L e).length:Int)≤tO L e
 |0,e=>by simp [b6,tO]
 |L+1,e=>by
  have h: ∀(l:List Expr),((l.flatMap (b6 L)).length:Int)≤(l.map (tO L)).sum:=by
   intro l
   induction l with
   |nil=>simp
   |cons k l ih=>
    have:=vP L k
    simp only [List.flatMap_cons,List.length_append,List.map_cons,List.sum_cons];omega
  have:=h e.kids
  simp only [b6,tO,List.length_append]
  split
  ·rw [List.length_singleton];omega
  ·rw [List.length_nil];omega
theorem w6{d:Int}: ∀(L n:Nat) (e:Expr),6000+L≤n→L≤5→dB L e d=true→i_reads (n+1) e=some (b6 L e)
 |0,n,e,_,_,h=>by cases h
 |L+1,n,e,hn,hL,h=>by
  obtain⟨h1,h2,h3⟩:=gI h
  have hk2:=mZ e.kind
  unfold i_reads
  refine Ev.eq (aH (fun h3k=>Ev.some ?_) (fun hn3=> ?_))
  ·have:e.kids=[]:=by
    have hz:iI e.kind=0:=by unfold iI;rw [if_pos (Or.inr (Or.inr h3k))]
    exact List.eq_nil_of_length_eq_zero (by omega)
   simp [b6,h3k,this]
  ·obtain⟨n,rfl⟩: ∃j,n=j+1:=⟨n-1,by omega⟩
   have hcb: ∀k∈e.kids,((b6 L k).length:Int)≤100:=fun k hk=>by
    have h5:=aBi (h3 k hk)
    have h6:(2:Int)^L≤40:=by
     match L,hL with
     |0,_=>decide
     |1,_=>decide
     |2,_=>decide
     |3,_=>decide
     |4,_=>decide
    have:=vP L k
    omega
   refine Ev.loop (fun x:List Access×Int=> ∃i:Nat,x.2=i∧i≤e.kids.length∧x.1=(e.kids.take i).flatMap (b6 L)∧(x.1.length:Int)≤100*i) (fun x=>e.kids.length-x.2.toNat) ?_ (n+1) _ ⟨0,rfl,by omega,by simp,by simp⟩ (by simp;omega)
   rintro again ⟨x,k⟩ ⟨i,hk,hi,hx,hxl⟩ hr
   dsimp only at hk hx hxl⊢
   subst hk
   refine aH (fun hlt=> ?_) (fun hge=>Ev.some ?_)
   ·have hk3:=List.getElem?_eq_getElem (show i<e.kids.length by omega)
    have hm:=List.mem_of_getElem? hk3
    have hb:=hcb _ hm
    refine aB (aR hk3) (aB (w6 (d:=d) L n _ (by omega) (by omega) (h3 _ hm)) (aB (cA (by omega)) ?_))
    rw [aM (by omega)]
    refine hr _ ⟨i+1,by dsimp only;omega,by omega,?_,by dsimp only;rw [List.length_append];omega⟩ (by dsimp only;omega)
    dsimp only
    rw [List.take_add_one,hk3,List.flatMap_append,hx];simp
   ·have:i=e.kids.length:=by omega
    rw [hx,this,List.take_length]
    simp [b6,hn3]
theorem R7(n:Nat){a:Affine}(h:a.coefs.length≤1000):eS n a=some a:=by
 unfold eS
 refine Ev.eq (aH (fun h0=>Ev.some ?_) (fun h0=>aB (fS _ h) (Ev.some rfl)))
 obtain⟨cs,c⟩:=a
 have:cs=[]:=List.eq_nil_of_length_eq_zero (by simpa using h0)
 subst this;rfl
theorem w9{n:Nat}(hn:5000≤n){a:Access}(h:H7 a.subs):eU n a=some a:=by
 obtain⟨h0,h1⟩:=h
 refine Ev.eq ?_
 unfold eU
 refine Ev.loop (fun x:List Affine×Int=> ∃i:Nat,x.2=i∧i≤a.subs.length∧x.1=a.subs.take i) (fun x=>a.subs.length-x.2.toNat) ?_ n _ ⟨0,rfl,by omega,by simp⟩ (by simp;omega)
 rintro again ⟨x,k⟩ ⟨i,hk,hi,hx⟩ hr
 dsimp only at hk hx⊢
 subst hk
 refine aH (fun hlt=> ?_) (fun hge=>Ev.some ?_)
 ·have hs:=List.getElem?_eq_getElem (show i<a.subs.length by omega)
  have hl:x.length=i:=by rw [hx,List.length_take];omega
  refine aB (aR hs) (aB (R7 n (h1 _ (List.mem_of_getElem? hs))) (aB (cA (by simp;omega)) ?_))
  rw [aM (by omega)]
  refine hr _ ⟨i+1,by dsimp only;omega,by omega,?_⟩ (by dsimp only;omega)
  dsimp only
  rw [List.take_add_one,hs,hx];rfl
 ·have:i=a.subs.length:=by omega
  rw [hx,this,List.take_length]
theorem aJD{l:List Affine}(h1:l.length≤2)(h2: ∀a∈l,bX a=true):H7 l:=⟨by omega,fun a ha=>by have:=(gO (h2 a ha)).1;unfold SmA;omega⟩
theorem L4{d:Int}: ∀(L n:Nat) (e:Expr) (out:List Access),6000+L≤n→L≤5→dB L e d=true→(out.length:Int)≤1000+200*(6-(L:Int))→s_l3Reads (n+1) out e=some (out++b6 L e)
 |0,n,e,out,_,_,h,_=>by cases h
 |L+1,n,e,out,hn,hL,h,ho=>by
  obtain⟨h1,h2,h3⟩:=gI h
  have hk2:=mZ e.kind
  unfold s_l3Reads
  refine Ev.eq (Ev.jn (fun z=>z=out++(if e.kind=3 then [e.read] else [])) (fun j hj=>aH (fun h3k=> ?_) (fun hn3=>hj _ (by rw [if_neg hn3];simp))) (fun z hz=> ?_))
  ·have ha:=vQ h e.read (by simp [b6,h3k])
   obtain⟨_,b1,b2⟩:=tL ha
   exact aB (w9 (by omega) (aJD b1 b2)) (aB (cA (by simp;omega)) (hj _ (by rw [if_pos h3k])))
  ·subst hz
   obtain⟨n,rfl⟩: ∃j,n=j+1:=⟨n-1,by omega⟩
   by_cases h3k:e.kind=3
   ·have hnil:e.kids=[]:=by
     have hz:iI e.kind=0:=by unfold iI;rw [if_pos (Or.inr (Or.inr h3k))]
     exact List.eq_nil_of_length_eq_zero (by omega)
    rw [hnil]
    refine Ev.some ?_
    simp [b6,h3k,hnil]
   ·have hcb: ∀k∈e.kids,((b6 L k).length:Int)≤100:=fun k hk=>by
     have h5:=aBi (h3 k hk)
     have h6:(2:Int)^L≤40:=by
      match L,hL with
      |0,_=>decide
      |1,_=>decide
      |2,_=>decide
      |3,_=>decide
      |4,_=>decide
     have:=vP L k
     omega
    rw [if_neg h3k,List.append_nil]
    refine Ev.loop (fun x:List Access×Int=> ∃i:Nat,x.2=i∧i≤e.kids.length∧x.1=out++(e.kids.take i).flatMap (b6 L)∧(x.1.length:Int)≤out.length+100*i) (fun x=>e.kids.length-x.2.toNat) ?_ (n+1) _ ⟨0,rfl,by omega,by simp,by simp⟩ (by simp;omega)
    rintro again ⟨x,k⟩ ⟨i,hk,hi,hx,hxl⟩ hr
    dsimp only at hk hx hxl⊢
    subst hk
    refine aH (fun hlt=> ?_) (fun hge=>Ev.some ?_)
    ·have hk3:=List.getElem?_eq_getElem (show i<e.kids.length by omega)
     have hm:=List.mem_of_getElem? hk3
     have hb:=hcb _ hm
     refine aB (aR hk3) (aB (L4 (d:=d) L n _ x (by omega) (by omega) (h3 _ hm) (by omega)) ?_)
     rw [aM (by omega)]
     refine hr _ ⟨i+1,by dsimp only;omega,by omega,?_,by dsimp only;rw [List.length_append];omega⟩ (by dsimp only;omega)
     dsimp only
     rw [List.take_add_one,hk3,List.flatMap_append,hx];simp
    ·have:i=e.kids.length:=by omega
     rw [hx,this,List.take_length]
     simp [b6,h3k]
theorem aGO{nest:List Loop}(hf:Fit nest): ∀(ls:List Loop) (k:Nat) (p q:List Int),nest.drop k=ls→k≤nest.length→n7 k p→q∈pts ls p→n7 nest.length q
 | [],k,p,q,hd,hk,hp,hq=>by
  have:=yW hd hk
  simp only [pts,List.mem_singleton] at hq
  subst hq;subst this;exact hp
 |l::ls,k,p,q,hd,hk,hp,hq=>by
  obtain⟨d1,d2,d3⟩:=vW hd
  obtain⟨s1,s2⟩:=hf.2 k l d1
  have hf1:=hf.1
  simp only [pts,List.mem_flatMap] at hq
  obtain⟨v,hv,hq⟩:=hq
  exact aGO hf ls (k+1) _ q d2 (by omega) (yE s1 s2 hp (by omega) (I1.1 hv)) hq
theorem aBD{nest:List Loop}{ps:List (List Int)}(h:NP nest=some ps):Fit nest∧ps.length≤120∧(∀q∈ps,n7 nest.length q)∧ps=pts nest []∧wk nest []≤1200:=by
 unfold NP at h
 split at h
 ·rename_i hc
  cases h
  have hf:=Q4 hc.1
  exact⟨hf,hc.2.2,fun q hq=>aGO hf nest 0 [] q rfl (by omega) pt0 hq,rfl,hc.2.1⟩
 ·cases h
def dS(list:List Arr)(s:Stmt)(q:List Int):Bool:=decide (0≤cK list s.write q 0)&&(b6 5 s.value).all (fun a=>decide (0≤cK list a q 0))
theorem kH{s:Stmt}{d:Int}(h:fW s d=true):gY s.write d=true∧dB 5 s.value d=true∧(∀a∈b6 5 s.value,gY a d=true)∧(b6 5 s.value).length≤12:=by
 simp only [fW,Bool.and_eq_true,decide_eq_true_eq] at h
 obtain⟨_,h1,h2,h3⟩:=h
 have:=vP 5 s.value
 exact⟨h1,h2,vQ h2,by omega⟩
theorem aCg{n:Nat}(hn:7000≤n){p:Prog}(hl:p.arrays.length≤4)(hd:fP p.arrays){s:Stmt}{d:Int}(hs:fW s d=true){k:Nat}{q:List Int}(hq:n7 k q):gE n p s q=some (dS p.arrays s q):=by
 obtain⟨h1,h2,h3,h4⟩:=kH hs
 obtain⟨n,rfl⟩: ∃j,n=j+1:=⟨n-1,by omega⟩
 refine Ev.eq ?_
 unfold gE
 generalize hT:dS p.arrays s q=T
 unfold dS at hT
 refine Ev.jn (fun z=>z=T) (fun j hj=>aB (oJ (by omega) hl hd h1 hq) (aH (fun h=> ?_) (fun h=>hj _ ?_))) (fun z hz=>Ev.some hz)
 ·have hc:=G9 (n:=n+1) (f:=fun q0=>dO (n+1) q0 p q) (p:=fun a=>decide (cK p.arrays a q 0<0)) (l:=b6 5 s.value)
   (fun a ha=>by unfold dO;rw [oJ (by omega) hl hd (h3 a ha) hq];rfl) (by omega) (by omega)
  refine aB (w6 (d:=d) 5 n s.value (by omega) (by omega) h2) (aB hc (hj _ ?_))
  rw [←hT,decide_eq_true h,Bool.true_and,List.all_eq_not_any_not]
  congr 1
  apply congrArg (fun f=>List.any (b6 5 s.value) f)
  funext a
  rw [ltd]
 ·rw [←hT,decide_eq_false h];rfl
theorem aAN{n:Nat}(hn:7000≤n){list:List Arr}(hl:list.length≤4)(hd:fP list){s:Stmt}{d:Int}(hs:fW s d=true){k:Nat}{q:List Int}(hq:n7 k q):
  qT n list s q=some (if dS list s q=true then((b6 5 s.value).map (fun a=>cK list a q 0),cK list s.write q 0,true) else([],0,false)):=by
 obtain⟨h1,h2,h3,h4⟩:=kH hs
 obtain⟨n,rfl⟩: ∃j,n=j+1:=⟨n-1,by omega⟩
 refine Ev.eq ?_
 unfold qT
 refine aB (L4 (d:=d) 5 n s.value [] (by omega) (by omega) h2 (by simp)) ?_
 rw [List.nil_append]
 generalize hR:b6 5 s.value=R at*
 have hco:dS list s q=(decide (0≤cK list s.write q 0)&&R.all (fun a=>decide (0≤cK list a q 0))):=by unfold dS;rw [hR]
 refine Ev.loop (fun x:List Int×Int=> ∃i:Nat,x.2=i∧i≤R.length∧x.1=(R.take i).map (fun a=>cK list a q 0)∧ ∀(t:Nat) a,t<i→R[t]? =some a→0≤cK list a q 0) (fun x=>R.length-x.2.toNat) ?_ (n+1) _ ⟨0,rfl,by omega,by simp,fun t a h=>by omega⟩ (by dsimp only;omega)
 rintro again ⟨x,z⟩ ⟨i,hz,hi,hx,ha⟩ hr
 dsimp only at hz hx ha⊢
 subst hz
 refine aH (fun hlt=> ?_) (fun hge=> ?_)
 ·have hg:=List.getElem?_eq_getElem (show i<R.length by omega)
  have hm:=List.mem_of_getElem? hg
  refine aB (aR hg) (aB (Y4 (by omega) hl hd (h3 _ hm) hq) (aH (fun hneg=>Ev.some ?_) (fun hpos=> ?_)))
  ·rw [if_neg]
   rw [hco]
   intro h
   rw [Bool.and_eq_true] at h
   have:=List.all_eq_true.1 h.2 _ hm
   rw [decide_eq_true_eq] at this
   omega
  ·have hl2:x.length≤12:=by rw [hx,List.length_map,List.length_take];omega
   refine aB (cA (by simp;omega)) ?_
   rw [aM (by omega)]
   refine hr _ ⟨i+1,by dsimp only;omega,by omega,?_,fun t a ht hta=> ?_⟩ (by dsimp only;omega)
   ·dsimp only
    rw [List.take_add_one,hg,List.map_append,hx];rfl
   ·by_cases hti:t=i
    ·subst hti;rw [hg] at hta;cases hta;omega
    ·exact ha t a (by omega) hta
 ·have hie:i=R.length:=by omega
  have hall:R.all (fun a=>decide (0≤cK list a q 0))=true:=List.all_eq_true.2 (fun a hm=>by
   obtain⟨t,ht⟩:=List.getElem?_of_mem hm
   have:=(List.getElem?_eq_some_iff.1 ht).1
   exact decide_eq_true (ha t a (by omega) ht))
  rw [hco,hall,Bool.and_true]
  refine aB (Y4 (by omega) hl hd h1 hq) (aH (fun hneg=>Ev.some ?_) (fun hpos=>Ev.some ?_))
  ·rw [if_neg (by rw [decide_eq_true_eq];omega)]
  ·rw [if_pos (by rw [decide_eq_true_eq];omega),hx,hie,List.take_length]
def ptV(q:List Int):Bool:=decide (q.length≤4)&&q.all (fun x=>decide (-9999≤x∧x≤9999))
theorem yR{n:Nat}(hn:5000≤n){q:List Int}(h:q.length≤1000):oG n q=some (ptV q):=by
 unfold oG ptV
 have hc:=nW (n:=n) (f:=fun q0=>kT n q0) (p:=fun x=> !decide (-9999≤x∧x≤9999)) (l:=q) (fun x _=>by unfold kT;rw [dE];rfl) (by omega) (by omega)
 simp only [jn,Option.bind]
 rw [hc]
 have e:(q.any fun x=> !decide (-9999≤x∧x≤9999))= !(q.all fun x=>decide (-9999≤x∧x≤9999)):=by rw [List.all_eq_not_any_not];simp
 rw [e,show decide ((q.length:Int)≤4)=decide (q.length≤4) from decide_eq_decide.2 (by omega)]
 cases decide (q.length≤4)<;>simp
theorem aAP{n:Nat}(hn:5000≤n){q:List Int}(h:q.length≤1000):qW n q=some (ptV q):=by
 refine Ev.eq ?_
 unfold qW
 refine n6 (l:=q) (p:=fun _ x=>decide (-9999≤x∧x≤9999)) (by omega) (by omega) (fun again i x hx hgo hno=> ?_) (fun again hall=> ?_) (fun⟨i,x,hx,hp⟩=> ?_)
 ·have hi:=(List.getElem?_eq_some_iff.1 hx).1
  rw [decide_eq_true (show(i:Int)<(q.length:Int) by omega)]
  refine bU (aB (aR hx) (aB (tW n x 9999 (by omega)) ?_))
  cases hp:decide (-9999≤x∧x≤9999) with
  |true=>show Ev (again _) _;rw [aM (by omega)];exact hgo hp
  |false=>exact Ev.some (hno hp)
 ·rw [decide_eq_false (show¬(q.length:Int)<(q.length:Int) by omega)]
  refine Ev.some ?_
  unfold ptV
  rw [List.all_eq_true.2 (fun c hc=>by obtain⟨i,hi⟩:=List.getElem?_of_mem hc;exact hall i c hi),Bool.and_true]
  exact decide_eq_decide.2 (by omega)
 ·unfold ptV
  rw [List.all_eq_false.2 ⟨x,List.mem_of_getElem? hx,by rw [hp];simp⟩,Bool.and_false]
theorem aCX{α:Type}(p q:α→Bool): ∀l:List α,(l.all p&&l.all q)=l.all (fun x=>p x&&q x)
 | []=>rfl
 |x::l=>by
  simp only [List.all_cons,←aCX p q l]
  cases p x<;>cases q x<;>cases l.all p<;>cases l.all q<;>rfl
def zM(part:Part):Bool:=decide (1≤part.body.length∧part.body.length≤4)&&part.body.all (fun s=>fW s (part.nest.length:Int))
def d8(part:Part):List (List Int):=(NP part.nest).getD []
def cI(list:List Arr)(part:Part):Bool:=(NP part.nest).isSome&&(zM part&&part.body.all (fun s=>(d8 part).all (fun q=>dS list s q&&ptV q)))
def aBw(x:Part):Prop:=SmN x.nest∧x.body.length≤1000∧ ∀s∈x.body,SmS s
def SmP(p:Prog):Prop:=SmR p.arrays∧p.parts.length≤1000∧ ∀x∈p.parts,aBw x
theorem iP{list:List Arr}{x:Part}(h:cI list x=true):NP x.nest=some (d8 x)∧(1≤x.body.length∧x.body.length≤4)∧(∀s∈x.body,fW s (x.nest.length:Int)=true)∧ ∀s∈x.body,∀q∈d8 x,dS list s q=true∧ptV q=true:=by
 simp only [cI,zM,Bool.and_eq_true,decide_eq_true_eq,List.all_eq_true] at h
 refine⟨?_,h.2.1.1,h.2.1.2,h.2.2⟩
 unfold d8
 cases hn:NP x.nest with
 |none=>rw [hn] at h;simp at h
 |some ps=>rfl
theorem aEy{list:List Arr}(h:iY list=true):list.length≤4∧fP list:=by
 simp only [iY,Bool.and_eq_true,decide_eq_true_eq] at h
 refine⟨h.2,fun x hx=> ?_⟩
 obtain⟨i,hi⟩:=List.getElem?_of_mem hx
 have:=P1 h.1 hi
 simp only [Y0,Bool.and_eq_true] at this
 exact this.2.2
theorem t6{n:Nat}(hn:7000≤n){list:List Arr}(hl:list.length≤4)(hd:fP list){x:Part}(hx:aBw x):
  o1 n list x=some (if cI list x=true then(((d8 x).length:Int)*(x.body.length:Int),true) else(0,false)):=by
 obtain⟨h1,h2,h3⟩:=hx
 refine Ev.eq ?_
 unfold o1
 generalize hT:(if cI list x=true then(((d8 x).length:Int)*(x.body.length:Int),true) else((0:Int),false))=T
 refine aB (G4 (by omega) h1) ?_
 have hbad:cI list x=false→((0:Int),false)=T:=fun h=>by rw [←hT,h];rfl
 refine Ev.jn (fun z=>z= !((NP x.nest).isSome&&decide (1≤x.body.length∧x.body.length≤4))) (fun j hj=> ?_) (fun z hz=> ?_)
 ·cases hN:NP x.nest with
  |none=>exact bU (hj _ (by rw [hN];rfl))
  |some ps=>
   refine bV (aH (fun h=>hj _ ?_) (fun h=>hj _ ?_))
   ·rw [hN,decide_eq_false (by omega)];rfl
   ·rw [hN]
    by_cases h4:x.body.length≤4
    ·rw [decide_eq_false (show¬(4:Int)<(x.body.length:Int) by omega),decide_eq_true (by omega)];rfl
    ·rw [decide_eq_true (show(4:Int)<(x.body.length:Int) by omega),decide_eq_false (by omega)];rfl
 subst hz
 cases hN:NP x.nest with
 |none=>exact Ev.some (hbad (by unfold cI;rw [hN];rfl))
 |some ps=>
  obtain⟨hf,hp1,hp2,hp3,hp4⟩:=aBD hN
  have hpp:d8 x=ps:=by unfold d8;rw [hN];rfl
  by_cases hb:1≤x.body.length∧x.body.length≤4
  ·rw [decide_eq_true hb]
   refine bV ?_
   have hok:cI list x=x.body.all (fun s=>fW s (x.nest.length:Int)&&ps.all (fun q=>dS list s q&&ptV q)):=by
    unfold cI zM
    rw [hN,hpp,decide_eq_true hb,Option.isSome_some,Bool.true_and,Bool.true_and]
    exact aCX _ _ _
   refine Ev.loop (fun y:Int=> ∃i:Nat,y=i∧i≤x.body.length∧ ∀(t:Nat) s,t<i→x.body[t]? =some s→(fW s (x.nest.length:Int)&&ps.all (fun q=>dS list s q&&ptV q))=true) (fun y=>x.body.length-y.toNat) ?_ n _ ⟨0,rfl,by omega,fun t s h=>by omega⟩ (by simp;omega)
   rintro again y ⟨i,rfl,hi,ha⟩ hr
   refine aH (fun hlt=> ?_) (fun hge=>Ev.some ?_)
   ·have hg:=List.getElem?_eq_getElem (show i<x.body.length by omega)
    have hm:=List.mem_of_getElem? hg
    refine aB (aR hg) (aB (uH (by omega) (h3 _ hm) _) ?_)
    cases hsv:fW x.body[i] (x.nest.length:Int) with
    |false=>
     refine bU (Ev.some (hbad ?_))
     rw [hok];exact List.all_eq_false.2 ⟨_,hm,by rw [hsv];simp⟩
    |true=>
     refine bV ?_
     show Ev (aN (fun again9 (x8:Int)=>bif decide (x8<(ps.length:Int)) then _ else _) n 0) _
     refine Ev.loop (fun y:Int=> ∃k:Nat,y=k∧k≤ps.length∧ ∀(t:Nat) q,t<k→ps[t]? =some q→(dS list x.body[i] q&&ptV q)=true) (fun y=>ps.length-y.toNat) ?_ n _ ⟨0,rfl,by omega,fun t s h=>by omega⟩ (by simp;omega)
     rintro again9 y ⟨k,rfl,hk,hak⟩ hr9
     refine aH (fun hlt9=> ?_) (fun hge9=> ?_)
     ·have hgk:=List.getElem?_eq_getElem (show k<ps.length by omega)
      have hmk:=List.mem_of_getElem? hgk
      have hq:=hp2 _ hmk
      have hql:ps[k].length≤1000:=by have:=hq.1;have:=hq.2.1;omega
      refine aB (aR hgk) (aB (aAN (by omega) hl hd hsv hq) (Ev.jn (fun z=>z= !(dS list x.body[i] ps[k]&&ptV ps[k])) (fun j hj=> ?_) (fun z hz=> ?_)))
      ·cases hc:dS list x.body[i] ps[k] with
       |false=>
        rw [hc] at hj
        exact bU (hj _ rfl)
       |true=>
        rw [hc] at hj
        exact bV (aB (aAP (by omega) hql) (hj _ rfl))
      ·subst hz
       cases hc:(dS list x.body[i] ps[k]&&ptV ps[k]) with
       |false=>
        refine Ev.some (hbad ?_)
        rw [hok]
        refine List.all_eq_false.2 ⟨_,hm,?_⟩
        rw [hsv,Bool.true_and]
        rw [List.all_eq_false.2 ⟨_,hmk,by rw [hc];simp⟩];simp
       |true=>
        show Ev (again9 _) _
        rw [aM (by omega)]
        refine hr9 _ ⟨k+1,by omega,by omega,fun t q ht htq=> ?_⟩ (by omega)
        by_cases htk:t=k
        ·subst htk;rw [hgk] at htq;cases htq;exact hc
        ·exact hak t q (by omega) htq
     ·rw [aM (by omega)]
      refine hr _ ⟨i+1,by omega,by omega,fun t s ht hts=> ?_⟩ (by omega)
      by_cases hti:t=i
      ·subst hti;rw [hg] at hts;cases hts
       rw [hsv,Bool.true_and]
       refine List.all_eq_true.2 (fun q hq=> ?_)
       obtain⟨t',ht'⟩:=List.getElem?_of_mem hq
       have:=(List.getElem?_eq_some_iff.1 ht').1
       exact hak t' q (by omega) ht'
      ·exact ha t s (by omega) hts
   ·have hall:cI list x=true:=by
     rw [hok]
     refine List.all_eq_true.2 (fun s hs=> ?_)
     obtain⟨t,ht⟩:=List.getElem?_of_mem hs
     have:=(List.getElem?_eq_some_iff.1 ht).1
     exact ha t s (by omega) ht
    rw [←hT,hall,if_pos rfl,hpp]
    show(wr ((ps.length:Int)*(x.body.length:Int)),true)=_
    have hb1:(0:Int)≤(ps.length:Int)*(x.body.length:Int):=Int.mul_nonneg (by omega) (by omega)
    have hb2:(ps.length:Int)*(x.body.length:Int)≤120*4:=Int.mul_le_mul (by omega) (by omega) (by omega) (by omega)
    rw [aM (by omega)]
  ·rw [decide_eq_false hb]
   refine Ev.some (hbad ?_)
   unfold cI zM
   rw [decide_eq_false hb];simp
def gN(x:Part):Int:=((d8 x).length:Int)*(x.body.length:Int)
def instP(i:Nat)(x:Part):List Inst:=(d8 x).flatMap fun q=>(List.range x.body.length).map fun(k:Nat)=>(⟨(i:Int),(k:Int),q⟩:Inst)
def insts(ps:List Part):List Inst:=ps.zipIdx.flatMap fun y=>instP y.2 y.1
def rQ(p:Prog):Bool:=iY p.arrays&&(decide (p.parts.length≤4)&&p.parts.all (cI p.arrays))
def cD(p:Prog):Bool:=rQ p&&decide ((p.parts.map gN).sum≤120)
theorem insts_snoc(l:List Part)(x:Part):insts (l++[x])=insts l++instP l.length x:=by
 unfold insts
 rw [List.zipIdx_append,List.flatMap_append]
 simp
theorem insts_take{l:List Part}{i:Nat}{x:Part}(h:l[i]? =some x):insts (l.take (i+1))=insts (l.take i)++instP i x:=by
 have hi:=(List.getElem?_eq_some_iff.1 h).1
 rw [List.take_add_one,h]
 show insts (l.take i++[x])=_
 rw [insts_snoc,List.length_take,Nat.min_eq_left (Nat.le_of_lt hi)]
theorem Q0{α β:Type}(f:α→List β)(m:Nat)(h: ∀x,(f x).length=m): ∀l:List α,(l.flatMap f).length=l.length*m
 | []=>by simp
 |x::l=>by rw [List.flatMap_cons,List.length_append,h,Q0 f m h l,List.length_cons,Nat.add_mul];omega
theorem instP_len(i:Nat)(x:Part):((instP i x).length:Int)=gN x:=by
 unfold instP gN
 rw [Q0 _ x.body.length (fun q=>by simp)]
 exact Int.natCast_mul _ _
theorem aBR{l:List Part}{i:Nat}{x:Part}(h:l[i]? =some x):((l.take (i+1)).map gN).sum=((l.take i).map gN).sum+gN x:=by
 rw [List.take_add_one,h];simp
theorem insts_len: ∀(l:List Part) (i:Nat),i≤l.length→((insts (l.take i)).length:Int)=((l.take i).map gN).sum
 |l,0,_=>by simp [insts]
 |l,i+1,h=>by
  have hg:=List.getElem?_eq_getElem (show i<l.length by omega)
  rw [insts_take hg,List.length_append,aBR hg]
  have:=insts_len l i (by omega)
  have:=instP_len i l[i]
  omega
theorem insts_len'(l:List Part):((insts l).length:Int)=(l.map gN).sum:=by
 have:=insts_len l l.length (Nat.le_refl _)
 rwa [List.take_length] at this
theorem aAu{list:List Arr}{x:Part}(h:cI list x=true):0≤gN x∧gN x≤480:=by
 obtain⟨h1,h2,_⟩:=iP h
 obtain⟨_,h3,_⟩:=aBD h1
 unfold gN
 refine⟨Int.mul_nonneg (by omega) (by omega),?_⟩
 have:=Int.mul_le_mul (show((d8 x).length:Int)≤120 by omega) (show(x.body.length:Int)≤4 by omega) (by omega) (by omega)
 omega
theorem lF{n:Nat}(hn:7000≤n){p:Prog}(hp:SmP p):dV n p=some (cD p):=by
 obtain⟨h1,h2,h3⟩:=hp
 refine Ev.eq ?_
 unfold dV
 generalize hT:cD p=T
 unfold cD rQ at hT
 refine Ev.jn (fun z=>z= !(iY p.arrays&&decide (p.parts.length≤4))) (fun j hj=>aB (V6 (by omega) h1) ?_) (fun z hz=> ?_)
 ·cases ha:iY p.arrays with
  |false=>exact bU (hj _ (by rw [ha];rfl))
  |true=>
   refine bV (hj _ ?_)
   rw [ha]
   by_cases h4:p.parts.length≤4
   ·rw [decide_eq_false (show¬(4:Int)<(p.parts.length:Int) by omega),decide_eq_true h4];rfl
   ·rw [decide_eq_true (show(4:Int)<(p.parts.length:Int) by omega),decide_eq_false h4];rfl
 subst hz
 cases hb:(iY p.arrays&&decide (p.parts.length≤4)) with
 |false=>
  refine Ev.some ?_
  rw [←hT,←Bool.and_assoc,hb];rfl
 |true=>
  have hT':T=(p.parts.all (cI p.arrays)&&decide ((p.parts.map gN).sum≤120)):=by rw [←hT,←Bool.and_assoc,hb];rfl
  rw [Bool.and_eq_true,decide_eq_true_eq] at hb
  obtain⟨hl,hd⟩:=aEy hb.1
  refine bV ?_
  refine Ev.loop (fun x:Int×Int=> ∃i:Nat,x.2=i∧i≤p.parts.length∧x.1=((p.parts.take i).map gN).sum∧0≤x.1∧x.1≤480*i∧ ∀(t:Nat) y,t<i→p.parts[t]? =some y→cI p.arrays y=true) (fun x=>p.parts.length-x.2.toNat) ?_ n _ ⟨0,rfl,by omega,by simp,by simp,by simp,fun t y h=>by omega⟩ (by dsimp only;omega)
  rintro again ⟨x,z⟩ ⟨i,hz,hi,hx,hx0,hx1,ha⟩ hr
  dsimp only at hz hx hx0 hx1 ha⊢
  subst hz
  refine aH (fun hlt=> ?_) (fun hge=>Ev.some ?_)
  ·have hg:=List.getElem?_eq_getElem (show i<p.parts.length by omega)
   have hm:=List.mem_of_getElem? hg
   refine aB (aR hg) (aB (t6 (by omega) hl hd (h3 _ hm)) ?_)
   cases hpo:cI p.arrays p.parts[i] with
   |false=>
    rw [if_neg (by simp)]
    refine Ev.some ?_
    rw [hT',List.all_eq_false.2 ⟨_,hm,by rw [hpo];simp⟩];rfl
   |true=>
    rw [if_pos rfl]
    have hcb:=aAu hpo
    show Ev (again (wr (x+gN p.parts[i]),wr ((i:Int)+1))) _
    rw [aM (n:=x+gN p.parts[i]) (by omega),aM (by omega)]
    refine hr _ ⟨i+1,by dsimp only;omega,by omega,by dsimp only;rw [aBR hg];omega,by dsimp only;omega,by dsimp only;omega,fun t y ht hty=> ?_⟩ (by dsimp only;omega)
    by_cases hti:t=i
    ·subst hti;rw [hg] at hty;cases hty;exact hpo
    ·exact ha t y (by omega) hty
  ·have hie:i=p.parts.length:=by omega
   have hall:p.parts.all (cI p.arrays)=true:=List.all_eq_true.2 (fun y hy=>by
    obtain⟨t,ht⟩:=List.getElem?_of_mem hy
    have:=(List.getElem?_eq_some_iff.1 ht).1
    exact ha t y (by omega) ht)
   rw [hT',hall,Bool.true_and,hx,hie,List.take_length]
theorem M7{α:Type}(f:Nat→α)(k:Nat):(List.range (k+1)).map f=(List.range k).map f++[f k]:=by
 rw [List.range_succ,List.map_append];rfl
theorem uP{n:Nat}(hn:7000≤n){p:Prog}(hp:SmP p):dF n p=some (if rQ p=true then(insts p.parts,decide ((insts p.parts).length≤120)) else([],false)):=by
 obtain⟨h1,h2,h3⟩:=hp
 refine Ev.eq ?_
 unfold dF
 generalize hT:(if rQ p=true then(insts p.parts,decide ((insts p.parts).length≤120)) else([],false))=T
 have hbad:rQ p=false→(([]:List Inst),false)=T:=fun h=>by rw [←hT,h];rfl
 refine Ev.jn (fun z=>z= !(iY p.arrays&&decide (p.parts.length≤4))) (fun j hj=>aB (W8 (by omega) h1) ?_) (fun z hz=> ?_)
 ·cases ha:iY p.arrays with
  |false=>exact bU (hj _ (by rw [ha];rfl))
  |true=>
   refine bV (hj _ ?_)
   rw [ha]
   by_cases h4:p.parts.length≤4
   ·rw [decide_eq_false (show¬(4:Int)<(p.parts.length:Int) by omega),decide_eq_true h4];rfl
   ·rw [decide_eq_true (show(4:Int)<(p.parts.length:Int) by omega),decide_eq_false h4];rfl
 subst hz
 cases hb:(iY p.arrays&&decide (p.parts.length≤4)) with
 |false=>exact Ev.some (hbad (by unfold rQ;rw [←Bool.and_assoc,hb];rfl))
 |true=>
  have hall':rQ p=p.parts.all (cI p.arrays):=by unfold rQ;rw [←Bool.and_assoc,hb];rfl
  rw [Bool.and_eq_true,decide_eq_true_eq] at hb
  obtain⟨hl,hd⟩:=aEy hb.1
  refine bV ?_
  refine Ev.loop (fun x:List Inst×Int=> ∃i:Nat,x.2=i∧i≤p.parts.length∧x.1=insts (p.parts.take i)∧x.1.length≤480*i∧ ∀(t:Nat) y,t<i→p.parts[t]? =some y→cI p.arrays y=true) (fun x=>p.parts.length-x.2.toNat) ?_ n _ ⟨0,rfl,by omega,by simp [insts],by simp,fun t y h=>by omega⟩ (by dsimp only;omega)
  rintro again ⟨x,z⟩ ⟨i,hz,hi,hx,hxl,ha⟩ hr
  dsimp only at hz hx hxl ha⊢
  subst hz
  refine aH (fun hlt=> ?_) (fun hge=>Ev.some ?_)
  ·have hg:=List.getElem?_eq_getElem (show i<p.parts.length by omega)
   have hm:=List.mem_of_getElem? hg
   obtain⟨s1,s2,s3⟩:=h3 _ hm
   generalize hP:p.parts[i]=P at*
   have hpb:cI p.arrays P=false→rQ p=false:=fun h=>by rw [hall'];exact List.all_eq_false.2 ⟨_,hm,by rw [h];simp⟩
   refine aB (aR hg) (aB (G8 (by omega) s1) (Ev.jn (fun z=>z= !((NP P.nest).isSome&&zM P)) (fun j hj=> ?_) (fun z hz=> ?_)))
   ·cases hN:NP P.nest with
    |none=>exact bU (hj _ (by rw [hN];rfl))
    |some ps=>
     refine bV ?_
     have hw:b7 n (P.body.length:Int) 1 4=some (decide (1≤P.body.length∧P.body.length≤4)):=by
      rw [dE];congr 1;exact decide_eq_decide.2 (by omega)
     refine aB hw ?_
     have hc:=X2 (n:=n) (f:=fun q0=>cP n q0 P) (p:=fun s=> !fW s (P.nest.length:Int)) (l:=P.body) (fun s hs=>by unfold cP;rw [P6 (by omega) (s3 s hs)];rfl) (by omega) (by omega)
     have e:(P.body.any fun s=> !fW s (P.nest.length:Int))= !(P.body.all fun s=>fW s (P.nest.length:Int)):=by rw [List.all_eq_not_any_not];simp
     cases hw2:decide (1≤P.body.length∧P.body.length≤4) with
     |false=>exact bU (hj _ (by unfold zM;rw [hN,hw2];rfl))
     |true=>exact bV (aB hc (hj _ (by unfold zM;rw [hN,hw2,e];rfl)))
   subst hz
   cases hN:NP P.nest with
   |none=>exact Ev.some (hbad (hpb (by unfold cI;rw [hN];rfl)))
   |some ps=>
    obtain⟨hf,hp1,hp2,hp3,hp4⟩:=aBD hN
    have hpp:d8 P=ps:=by unfold d8;rw [hN];rfl
    cases hbv:zM P with
    |false=>exact Ev.some (hbad (hpb (by unfold cI;rw [hbv];simp)))
    |true=>
     have hbv':=hbv
     simp only [zM,Bool.and_eq_true,decide_eq_true_eq,List.all_eq_true] at hbv'
     obtain⟨⟨hb1,hb2⟩,hb3⟩:=hbv'
     have hok:cI p.arrays P=P.body.all (fun s=>ps.all (fun q=>dS p.arrays s q&&ptV q)):=by
      unfold cI;rw [hN,hbv,hpp];rfl
     let row:List Int→List Inst:=fun q=>(List.range P.body.length).map fun(k:Nat)=>(⟨(i:Int),(k:Int),q⟩:Inst)
     have hrl: ∀q,(row q).length=P.body.length:=fun q=>by simp [row]
     have hinst:instP i P=ps.flatMap row:=by unfold instP;rw [hpp]
     refine bV ?_
     rw [show(aD2 (some ps)).1=ps from rfl]
     refine Ev.loop (fun y:List Inst×Int=> ∃k:Nat,y.2=k∧k≤ps.length∧y.1=x++(ps.take k).flatMap row∧ ∀(t:Nat) q,t<k→ps[t]? =some q→ptV q=true∧ ∀s∈P.body,dS p.arrays s q=true) (fun y=>ps.length-y.2.toNat) ?_ n _ ⟨0,rfl,by omega,by simp,fun t q h=>by omega⟩ (by dsimp only;omega)
     rintro again17 ⟨y,z⟩ ⟨k,hz,hk,hy,hak⟩ hr17
     dsimp only at hz hy hak⊢
     subst hz
     refine aH (fun hlt2=> ?_) (fun hge2=> ?_)
     ·have hgk:=List.getElem?_eq_getElem (show k<ps.length by omega)
      have hmk:=List.mem_of_getElem? hgk
      generalize hQ:ps[k]=Q at*
      have hq:=hp2 _ hmk
      have hql:Q.length≤4:=by have:=hq.1;have:=hq.2.1;omega
      refine aB (aR hgk) (aB (yR (by omega) (by omega)) ?_)
      have hyl:y.length≤480*4+480:=by
       rw [hy,List.length_append,Q0 row _ hrl,List.length_take]
       have:min k ps.length*P.body.length≤120*4:=Nat.mul_le_mul (by omega) hb2
       omega
      cases hpv:ptV Q with
      |false=>
       refine bU (Ev.some (hbad (hpb ?_)))
       rw [hok]
       obtain⟨s0,hs0⟩: ∃s0,s0∈P.body:=List.exists_mem_of_length_pos (by omega)
       refine List.all_eq_false.2 ⟨s0,hs0,?_⟩
       rw [List.all_eq_false.2 ⟨Q,hmk,by rw [hpv];simp⟩];simp
      |true=>
       refine bV ?_
       refine Ev.loop (fun u:List Inst×Int=> ∃m:Nat,u.2=m∧m≤P.body.length∧u.1=y++(List.range m).map (fun(k:Nat)=>(⟨(i:Int),(k:Int),Q⟩:Inst))∧ ∀(t:Nat) s,t<m→P.body[t]? =some s→dS p.arrays s Q=true) (fun u=>P.body.length-u.2.toNat) ?_ n _ ⟨0,rfl,by omega,by simp,fun t s h=>by omega⟩ (by dsimp only;omega)
       rintro again23 ⟨u,z⟩ ⟨m,hz,hmm,hu,ham⟩ hr23
       dsimp only at hz hu ham⊢
       subst hz
       refine aH (fun hlt3=> ?_) (fun hge3=> ?_)
       ·have hgm:=List.getElem?_eq_getElem (show m<P.body.length by omega)
        have hmem:=List.mem_of_getElem? hgm
        refine aB (aR hgm) (aB (aCg (by omega) hl hd (hb3 _ hmem) hq) ?_)
        cases hco:dS p.arrays P.body[m] Q with
        |false=>
         refine bU (Ev.some (hbad (hpb ?_)))
         rw [hok]
         refine List.all_eq_false.2 ⟨_,hmem,?_⟩
         rw [List.all_eq_false.2 ⟨Q,hmk,by rw [hco];simp⟩];simp
        |true=>
         have hcl:m_ownClone Q=some Q:=by unfold m_ownClone;rw [if_pos (by omega)]
         have hul:u.length≤480*4+480+4:=by rw [hu];simp;omega
         refine bV (aB hcl (aB (cA (by simp;omega)) ?_))
         rw [aM (by omega)]
         refine hr23 _ ⟨m+1,by dsimp only;omega,by omega,?_,fun t s ht hts=> ?_⟩ (by dsimp only;omega)
         ·dsimp only
          rw [hu,M7,List.append_assoc]
         ·by_cases htm:t=m
          ·subst htm;rw [hgm] at hts;cases hts;exact hco
          ·exact ham t s (by omega) hts
       ·have hme:m=P.body.length:=by omega
        rw [aM (by omega)]
        refine hr17 _ ⟨k+1,by dsimp only;omega,by omega,?_,fun t q ht htq=> ?_⟩ (by dsimp only;omega)
        ·dsimp only
         rw [List.take_add_one,hgk,List.flatMap_append,←List.append_assoc,←hy,hu,hme]
         simp [row]
        ·by_cases htk:t=k
         ·subst htk;rw [hgk] at htq;cases htq
          refine⟨hpv,fun s hs=> ?_⟩
          obtain⟨t',ht'⟩:=List.getElem?_of_mem hs
          have:=(List.getElem?_eq_some_iff.1 ht').1
          exact ham t' s (by omega) ht'
         ·exact hak t q (by omega) htq
     ·have hke:k=ps.length:=by omega
      have hpo:cI p.arrays P=true:=by
       rw [hok]
       refine List.all_eq_true.2 (fun s hs=>List.all_eq_true.2 (fun q hq=> ?_))
       obtain⟨t,ht⟩:=List.getElem?_of_mem hq
       have:=(List.getElem?_eq_some_iff.1 ht).1
       obtain⟨g1,g2⟩:=hak t q (by omega) ht
       rw [g1,g2 s hs];rfl
      have hcb:=aAu hpo
      have hil:=instP_len i P
      rw [aM (by omega)]
      refine hr _ ⟨i+1,by dsimp only;omega,by omega,?_,?_,fun t y ht hty=> ?_⟩ (by dsimp only;omega)
      ·dsimp only
       rw [insts_take hg,hinst,hy,hke,List.take_length,hx]
      ·dsimp only
       rw [hy,hke,List.take_length,List.length_append,←hinst];omega
      ·by_cases hti:t=i
       ·subst hti;rw [hg] at hty;cases hty;exact hpo
       ·exact ha t y (by omega) hty
  ·have hie:i=p.parts.length:=by omega
   have hall:rQ p=true:=by
    rw [hall']
    exact List.all_eq_true.2 (fun y hy=>by
     obtain⟨t,ht⟩:=List.getElem?_of_mem hy
     have:=(List.getElem?_eq_some_iff.1 ht).1
     exact ha t y (by omega) ht)
   rw [←hT,if_pos hall,hx,hie,List.take_length]
   congr 1
   exact decide_eq_decide.2 (by omega)
theorem d9{n:Nat}(hn:7000≤n){p:Prog}(hp:SmP p):dC n p=some (cD p):=by
 unfold dC
 rw [uP hn hp]
 unfold cD
 cases h:rQ p with
 |false=>rfl
 |true=>
  rw [if_pos rfl]
  show some (decide _)=_
  rw [Bool.true_and]
  congr 1
  have:=insts_len' p.parts
  exact decide_eq_decide.2 (by omega)
theorem iC{n:Nat}(hn:7000≤n){p:Prog}(hp:SmP p):cY n p=some (if cD p=true then insts p.parts else []):=by
 unfold cY
 rw [uP hn hp]
 unfold cD
 cases h:rQ p with
 |false=>rfl
 |true=>
  rw [if_pos rfl,Bool.true_and]
  have:=insts_len' p.parts
  by_cases hl:(insts p.parts).length≤120
  ·rw [decide_eq_true hl,decide_eq_true (by omega),if_pos rfl];rfl
  ·rw [decide_eq_false hl,decide_eq_false (by omega),if_neg (by simp)];rfl
theorem kN{p:Prog}(h:cD p=true):p.arrays.length≤4∧fP p.arrays∧p.parts.length≤4∧(∀x∈p.parts,cI p.arrays x=true)∧(insts p.parts).length≤120:=by
 simp only [cD,rQ,Bool.and_eq_true,decide_eq_true_eq,List.all_eq_true] at h
 obtain⟨⟨h1,h2,h3⟩,h4⟩:=h
 obtain⟨a,b⟩:=aEy h1
 have:=insts_len' p.parts
 exact⟨a,b,h2,h3,by omega⟩
theorem aDg{l:List Arr}{i:Nat}{x:Arr}(h:l[i]? =some x):gR (l.take (i+1))=gR (l.take i)+K7 x.dims:=by
 unfold gR;rw [List.take_add_one,h];simp
theorem aDh{n:Nat}(hn:7000≤n){p:Prog}(hl:p.arrays.length≤4)(hd:fP p.arrays):eD n p=some (gR p.arrays):=by
 refine Ev.eq ?_
 unfold eD
 refine Ev.loop (fun x:Int×Int=> ∃i:Nat,x.2=i∧i≤p.arrays.length∧x.1=gR (p.arrays.take i)∧0≤x.1∧x.1≤36*i) (fun x=>p.arrays.length-x.2.toNat) ?_ n _ ⟨0,rfl,by omega,by simp [gR],by simp,by simp⟩ (by dsimp only;omega)
 rintro again ⟨x,z⟩ ⟨i,hz,hi,hx,hx0,hx1⟩ hr
 dsimp only at hz hx hx0 hx1⊢
 subst hz
 refine aH (fun hlt=> ?_) (fun hge=>Ev.some ?_)
 ·have hg:=List.getElem?_eq_getElem (show i<p.arrays.length by omega)
  have hdm:=hd _ (List.mem_of_getElem? hg)
  have hsz:=K6 hdm
  refine aB (aR hg) (aB (t1 (by omega) hdm) ?_)
  rw [aM (n:=x+K7 p.arrays[i].dims) (by omega),aM (by omega)]
  exact hr _ ⟨i+1,by dsimp only;omega,by omega,by dsimp only;rw [aDg hg];omega,by dsimp only;omega,by dsimp only;omega⟩ (by dsimp only;omega)
 ·have hie:i=p.arrays.length:=by omega
  rw [hx,hie,List.take_length]
theorem P4{n:Nat}(hn:7000≤n){p:Prog}(hl:p.arrays.length≤4)(hd:fP p.arrays):eD n p=some (gR p.arrays):=aDh hn hl hd
def aAY(p:Prog)(m:List Int):Bool:=cD p&&(decide ((m.length:Int)=gR p.arrays)&&m.all (fun x=>decide (0≤x∧x≤999)))
theorem B7{n:Nat}(hn:7000≤n){p:Prog}(hp:SmP p){m:List Int}(hm:m.length≤1000):jW n p m=some (aAY p m):=by
 refine Ev.eq ?_
 unfold jW
 generalize hT:aAY p m=T
 unfold aAY at hT
 refine Ev.jn (fun z=>z=T) (fun j hj=>aB (d9 hn hp) ?_) (fun z hz=>Ev.some hz)
 cases hv:cD p with
 |false=>exact bV (hj _ (by rw [←hT,hv];rfl))
 |true=>
  obtain⟨hl,hd,_⟩:=kN hv
  have hc:=nW (n:=n) (f:=fun q0=>fD n q0) (p:=fun x=> !decide (0≤x∧x≤999)) (l:=m) (fun x _=>by unfold fD;rw [dE];rfl) (by omega) (by omega)
  have e:(m.any fun x=> !decide (0≤x∧x≤999))= !(m.all fun x=>decide (0≤x∧x≤999)):=by rw [List.all_eq_not_any_not];simp
  refine bU (aB (P4 hn hl hd) (aH (fun h=>aB hc (hj _ ?_)) (fun h=>hj _ ?_)))
  ·rw [←hT,hv,decide_eq_true h,e];simp
  ·rw [←hT,hv,decide_eq_false h];rfl
theorem K3(x:Int):Int.tmod x 1000=if 0≤x then x%1000 else-((-x)%1000):=by
 split
 ·rename_i h;exact Int.tmod_eq_emod_of_nonneg h
 ·rename_i h
  have h2:0≤ -x:=by omega
  have e1:Int.tmod x 1000= -(Int.tmod (-x) 1000):=by rw [Int.neg_tmod,Int.neg_neg]
  rw [e1,Int.tmod_eq_emod_of_nonneg h2]
theorem pW(n:Nat)(x:Int):m4 n x=some (x%1000):=by
 unfold m4
 rw [K3 x]
 congr 1
 split
 ·rw [aM (n:=x%1000+999) (by omega),aM (by omega),K3,if_pos (by omega)];omega
 ·rw [aM (n:= -(-x%1000)+999) (by omega),aM (by omega),K3,if_pos (by omega)];omega
def tM:Nat→List Arr→List Int→Expr→List Int→Int
 |0,_,_,_,_=>0
 |L+1,list,m,e,q=>
  if e.kind=1 then e.num
  else if e.kind=2 then cT e.index q%1000
  else if e.kind=3 then m.getD (cK list e.read q 0).toNat 0
  else match e.kids with
   | [a,b]=>if e.kind=4 then(tM L list m a q+tM L list m b q)%1000 else if e.kind=5 then(tM L list m a q-tM L list m b q)%1000 else(tM L list m a q*tM L list m b q)%1000
   |_=>0
def jK(list:List Arr)(m:List Int):Prop:=(m.length:Int)=gR list∧ ∀x∈m,0≤x∧x≤999
theorem aKF{list:List Arr}{m:List Int}(h:jK list m)(i:Nat):0≤m.getD i 0∧m.getD i 0≤999:=by
 rw [List.getD_eq_getElem?_getD]
 cases hi:m[i]? with
 |none=>simp
 |some x=>exact h.2 x (List.mem_of_getElem? hi)
theorem aDf{list:List Arr}{m:List Int}(hm:jK list m){d:Int}{q:List Int}: ∀{L:Nat} {e:Expr},dB L e d=true→0≤tM L list m e q∧tM L list m e q≤999
 |0,e,h=>by cases h
 |L+1,e,h=>by
  obtain⟨h1,h2,h3⟩:=gI h
  simp only [tM]
  split
  ·rename_i k1
   unfold gC at h2
   rw [if_neg (by omega),if_neg (by omega),if_pos k1] at h2
   simp only [Bool.and_eq_true,decide_eq_true_eq] at h2
   omega
  ·split
   ·omega
   ·split
    ·exact aKF hm _
    ·split
     ·split
      ·omega
      ·split<;>omega
     ·omega
theorem aGi{a b:Int}(ha:0≤a∧a≤999)(hb:0≤b∧b≤999):0≤a*b∧a*b≤999000:=by
 constructor
 ·exact Int.mul_nonneg ha.1 hb.1
 ·have:=Int.mul_le_mul ha.2 hb.2 (by omega) (by omega);omega
theorem aG1{L:Nat}{e:Expr}{d:Int}(h:dB (L+1) e d=true)(k1: ¬e.kind=1)(k2: ¬e.kind=2)(k3: ¬e.kind=3):(e.kind=4∨e.kind=5∨e.kind=6)∧ ∃a b,e.kids=[a,b]:=by
 obtain⟨h1,_,_⟩:=gI h
 unfold iI at h1
 rw [if_neg (by omega)] at h1
 split at h1
 ·rename_i hk
  refine⟨hk,?_⟩
  have:e.kids.length=2:=by omega
  match hq:e.kids,this with
  | [a,b],_=>exact⟨a,b,rfl⟩
 ·omega
theorem w5{p:Prog}(hl:p.arrays.length≤4)(hd:fP p.arrays){m:List Int}(hm:jK p.arrays m){d:Int}{k:Nat}{q:List Int}(hq:n7 k q): ∀(L n:Nat) (e:Expr),7000+L≤n→dB L e d=true→(∀a∈b6 L e,0≤cK p.arrays a q 0)→
  i_Program_value (n+1) p m e q=some (tM L p.arrays m e q)
 |0,n,e,_,h,_=>by cases h
 |L+1,n,e,hn,h,hr=>by
  obtain⟨h1,h2,h3⟩:=gI h
  unfold i_Program_value
  refine Ev.eq ?_
  simp only [tM]
  refine aH (fun k1=>Ev.some (by rw [if_pos k1])) (fun k1=> ?_)
  rw [if_neg k1]
  refine aH (fun k2=> ?_) (fun k2=> ?_)
  ·rw [if_pos k2]
   unfold gC at h2
   rw [if_pos k2] at h2
   simp only [Bool.and_eq_true,bZ] at h2
   have ha:=h2.2.2.1
   exact aB (aFM (by omega) ha hq) (aB (pW _ _) (Ev.some rfl))
  rw [if_neg k2]
  refine aH (fun k3=> ?_) (fun k3=> ?_)
  ·rw [if_pos k3]
   have hmem:e.read∈b6 (L+1) e:=by simp [b6,k3]
   have ha:=vQ h _ hmem
   have hc0:=hr _ hmem
   rcases I9 hd e.read q 0 (Int.le_refl 0) with hc|hc
   ·omega
   ·have hlt:(cK p.arrays e.read q 0).toNat<m.length:=by have:=hm.1;omega
    have hg:=List.getElem?_eq_getElem hlt
    have hix:ix m (cK p.arrays e.read q 0)=some m[(cK p.arrays e.read q 0).toNat]:=by
     unfold ix;rw [if_pos hc0,hg]
    refine aB (oJ (by omega) hl hd ha hq) (aB hix (Ev.some ?_))
    rw [List.getD_eq_getElem?_getD,hg];rfl
  rw [if_neg k3]
  obtain⟨hk,a,b,hab⟩:=aG1 h k1 k2 k3
  obtain⟨n,rfl⟩: ∃j,n=j+1:=⟨n-1,by omega⟩
  have hsa:=h3 a (by rw [hab];simp)
  have hsb:=h3 b (by rw [hab];simp)
  have va:=w5 hl hd hm hq L n a (by omega) hsa (fun x hx=>hr x (by simp only [b6,List.mem_append,List.mem_flatMap];exact .inr ⟨a,by rw [hab];simp,hx⟩))
  have vb:=w5 hl hd hm hq L n b (by omega) hsb (fun x hx=>hr x (by simp only [b6,List.mem_append,List.mem_flatMap];exact .inr ⟨b,by rw [hab];simp,hx⟩))
  have ba:=aDf hm (q:=q) hsa
  have bb:=aDf hm (q:=q) hsb
  have bm:=aGi ba bb
  rw [hab]
  refine aB (x:=a) rfl (aB va (aB (x:=b) rfl (aB vb ?_)))
  dsimp only
  refine aH (fun k4=> ?_) (fun k4=> ?_)
  ·rw [if_pos k4,aM (by omega)];exact aB (pW _ _) (Ev.some rfl)
  rw [if_neg k4]
  refine aH (fun k5=> ?_) (fun k5=> ?_)
  ·rw [if_pos k5,aM (by omega)];exact aB (pW _ _) (Ev.some rfl)
  rw [if_neg k5,aM (by omega)];exact aB (pW _ _) (Ev.some rfl)
def iE(p:Prog)(x:Inst):Prop:= ∃(i k:Nat) (P:Part) (s:Stmt),x.part=i∧x.stmt=k∧p.parts[i]? =some P∧P.body[k]? =some s∧x.point∈d8 P
def qD(p:Prog)(x:Inst):Option Stmt:=(p.parts[x.part.toNat]?).bind fun P=>P.body[x.stmt.toNat]?
def pB(p:Prog)(m:List Int)(x:Inst):List Int:=match qD p x with
 |some s=>m.set (cK p.arrays s.write x.point 0).toNat (tM 5 p.arrays m s.value x.point)
 |none=>m
theorem inst_d{p:Prog}(hv:cD p=true){x:Inst}(hx:iE p x): ∃(i k:Nat) (P:Part) (s:Stmt) (d:Int),x.part=i∧x.stmt=k∧p.parts[i]? =some P∧P.body[k]? =some s∧qD p x=some s∧fW s d=true∧n7 P.nest.length x.point∧dS p.arrays s x.point=true:=by
 obtain⟨hl,hd,h4,hpo,hil⟩:=kN hv
 obtain⟨i,k,P,s,e1,e2,e3,e4,e5⟩:=hx
 obtain⟨q1,q2,q3,q4⟩:=iP (hpo P (List.mem_of_getElem? e3))
 obtain⟨hf,hp1,hp2,hp3,hp4⟩:=aBD q1
 have hs:=List.mem_of_getElem? e4
 exact⟨i,k,P,s,_,e1,e2,e3,e4,by unfold qD;rw [e1,e2,Int.toNat_natCast,e3];exact(by rw [Int.toNat_natCast];exact e4),q3 s hs,hp2 _ e5,(q4 s hs _ e5).1⟩
theorem aBj{list:List Arr}{s:Stmt}{q:List Int}(h:dS list s q=true):0≤cK list s.write q 0∧ ∀a∈b6 5 s.value,0≤cK list a q 0:=by
 simp only [dS,Bool.and_eq_true,decide_eq_true_eq,List.all_eq_true] at h
 exact h
theorem aGh{p:Prog}(hd:fP p.arrays){m:List Int}(hm:jK p.arrays m){a:Access}{q:List Int}(h:0≤cK p.arrays a q 0):(cK p.arrays a q 0).toNat<m.length:=by
 rcases I9 hd a q 0 (Int.le_refl 0) with hc|hc
 ·omega
 ·have:=hm.1;omega
theorem aBU{α:Type}{l:List α}{c:Int}(h0:0≤c)(h:c.toNat<l.length)(x:α):dR l c x=some (l.set c.toNat x):=by
 unfold dR;rw [if_pos ⟨h0,by omega⟩]
theorem aJL{α:Type}{l:List α}{c:Int}(h0:0≤c)(h:c.toNat<l.length):ix l c=some l[c.toNat]:=by
 unfold ix;rw [if_pos h0,List.getElem?_eq_getElem h]
theorem I0{p:Prog}(hv:cD p=true){m:List Int}(hm:jK p.arrays m){x:Inst}(hx:iE p x):jK p.arrays (pB p m x):=by
 obtain⟨i,k,P,s,d,e1,e2,e3,e4,e5,e6,e7,e8⟩:=inst_d hv hx
 unfold pB
 rw [e5]
 refine⟨by rw [List.length_set];exact hm.1,fun v hv'=> ?_⟩
 rcases List.mem_or_eq_of_mem_set hv' with h|h
 ·exact hm.2 v h
 ·rw [h];exact aDf hm (kH e6).2.1
theorem aJi{n:Nat}(hn:7100≤n){p:Prog}(hv:cD p=true){m:List Int}(hm:jK p.arrays m){x:Inst}(hx:iE p x):lM n p m x=some (pB p m x):=by
 obtain⟨hl,hd,h4,hpo,hil⟩:=kN hv
 obtain⟨i,k,P,s,d,e1,e2,e3,e4,e5,e6,e7,e8⟩:=inst_d hv hx
 obtain⟨c1,c2⟩:=aBj e8
 obtain⟨s1,s2,s3,s4⟩:=kH e6
 obtain⟨n,rfl⟩: ∃j,n=j+1:=⟨n-1,by omega⟩
 have hlt:=aGh hd hm c1
 have hst:dX (n+1) p x=some s:=by
  unfold dX
  rw [e1,e2,aR e3]
  show Option.bind (ix P.body (k:Int)) _=_
  rw [aR e4];rfl
 refine Ev.eq ?_
 unfold lM
 refine aB hst (aB (oJ (by omega) hl hd s1 e7) (aB (w5 hl hd hm e7 5 n s.value (by omega) s2 c2) (aB (aJL c1 hlt) (aB (aBU c1 hlt _) (Ev.some ?_)))))
 unfold pB
 rw [e5]
theorem insts_mem{ps:List Part}{x:Inst}(h:x∈insts ps): ∃(i k:Nat) (P:Part) (s:Stmt),x.part=i∧x.stmt=k∧ps[i]? =some P∧P.body[k]? =some s∧x.point∈d8 P:=by
 unfold insts at h
 rw [List.mem_flatMap] at h
 obtain⟨⟨P,i⟩,h1,h2⟩:=h
 unfold instP at h2
 rw [List.mem_flatMap] at h2
 obtain⟨q,h3,h4⟩:=h2
 rw [List.mem_map] at h4
 obtain⟨k,h5,rfl⟩:=h4
 have hk:=List.mem_range.1 h5
 exact⟨i,k,P,P.body[k],rfl,rfl,List.mem_zipIdx_iff_getElem?.1 h1,List.getElem?_eq_getElem hk,h3⟩
def dW(p:Prog)(m:List Int)(l:List Inst):List Int:=l.foldl (pB p) m
theorem A2{p:Prog}(hv:cD p=true): ∀{l:List Inst} {m:List Int},(∀x∈l,iE p x)→jK p.arrays m→jK p.arrays (dW p m l)
 | [],_,_,h=>h
 |x::l,m,hl,h=>A2 hv (l:=l) (fun y hy=>hl y (by simp [hy])) (I0 hv h (hl x (by simp)))
theorem aB1(p:Prog)(m:List Int)(l:List Inst)(x:Inst):dW p m (l++[x])=pB p (dW p m l) x:=by
 unfold dW;rw [List.foldl_append];rfl
theorem aLu{p:Prog}{m:List Int}(h:aAY p m=true):cD p=true∧jK p.arrays m:=by
 simp only [aAY,Bool.and_eq_true,decide_eq_true_eq,List.all_eq_true] at h
 exact⟨h.1,h.2.1,h.2.2⟩
theorem aGH{n:Nat}(hn:7100≤n){p:Prog}(hv:cD p=true){m:List Int}(hm:jK p.arrays m){l:List Inst}(hl:l.length≤5000)(hx: ∀x∈l,iE p x){f:List Int→Inst→Option (List Int)}(hf: ∀m x,jK p.arrays m→iE p x→f m x=some (pB p m x)):
  aN (fun again7 ((x4,x5):(List Int)×Int)=>bif decide (x5<(l.length:Int)) then(Option.bind (ix l x5) fun x8=>Option.bind (f x4 x8) fun x9=>Option.bind (fX x4 x9) fun x10=>again7 (x9,wr (x5+1))) else(some (x4,true))) n (m,0)=some (dW p m l,true):=by
 refine Ev.eq ?_
 refine Ev.loop (fun x:List Int×Int=> ∃i:Nat,x.2=i∧i≤l.length∧x.1=dW p m (l.take i)) (fun x=>l.length-x.2.toNat) ?_ n _ ⟨0,rfl,by omega,rfl⟩ (by dsimp only;omega)
 rintro again ⟨x,z⟩ ⟨i,hz,hi,hx1⟩ hr
 dsimp only at hz hx1⊢
 subst hz
 have hok:jK p.arrays x:=by rw [hx1];exact A2 hv (fun y hy=>hx y (List.mem_of_mem_take hy)) hm
 refine aH (fun hlt=> ?_) (fun hge=>Ev.some ?_)
 ·have hg:=List.getElem?_eq_getElem (show i<l.length by omega)
  have hxo:=hx _ (List.mem_of_getElem? hg)
  have hok2:=I0 hv hok hxo
  have hsl:fX x (pB p x l[i])=some ():=by
   unfold fX;rw [if_pos]
   have:=hok.1;have:=hok2.1;omega
  refine aB (aR hg) (aB (hf x _ hok hxo) (aB hsl ?_))
  rw [aM (by omega)]
  refine hr _ ⟨i+1,by dsimp only;omega,by omega,?_⟩ (by dsimp only;omega)
  dsimp only
  rw [List.take_add_one,hg]
  show _=dW p m (l.take i++[l[i]])
  rw [aB1,←hx1]
 ·have hie:i=l.length:=by omega
  rw [hx1,hie,List.take_length]
def aIU(p:Prog)(m:List Int):List Int×Bool:=if aAY p m=true then(dW p m (insts p.parts),true) else([],false)
theorem tJ{n:Nat}(hn:7100≤n){p:Prog}(hp:SmP p){m:List Int}(hm:m.length≤1000):fN n p m=some (aIU p m):=by
 refine Ev.eq ?_
 unfold fN
 refine aB (B7 (by omega) hp hm) ?_
 unfold aIU
 cases hv:aAY p m with
 |false=>exact Ev.some rfl
 |true=>
  obtain⟨h1,h2⟩:=aLu hv
  have hil:=(kN h1).2.2.2.2
  have hc:m_ownClone m=some m:=by unfold m_ownClone;rw [if_pos (by omega)]
  refine bV (aB hc (aB (iC (by omega) hp) ?_))
  rw [if_pos h1,if_pos rfl]
  exact Ev.of (aGH hn h1 h2 (by omega) (fun x hx=>insts_mem hx) (fun m x hm hx=>aJi hn h1 hm hx)) rfl
end Go.Lift
