/- Valid statements. -/
import Derived.Test.YtiplelpjhgnmoaaGreatUCore1
set_option maxRecDepth 100000
set_option linter.unusedVariables false
namespace Go.Lift
open Go
def SmE:Nat→Expr→Prop
 |0,_=>True
 |L+1,e=>e.kids.length≤1000∧SmA e.index∧G0 e.read.subs∧ ∀k∈e.kids,SmE L k
def dE:Nat→Expr→Int→Bool
 |0,_,_=>false
 |L+1,e,d=>decide (gU e.kind=e.kids.length)&&(fP e d&&e.kids.all (fun k=>dE L k d))
def rW:Nat→Expr→Int
 |0,_=>1
 |L+1,e=>1+(e.kids.map (rW L)).sum
theorem nS(k:Int):gU k≤2:=by unfold gU;split;omega;split<;>omega
theorem w3(d:Int): ∀(L n:Nat) (e:Expr),5000+L≤n→L≤1000→SmE L e→s_l3Shape (n+1) e d (L:Int)=some (dE L e d)
 |0,n,e,_,_,_=>by unfold s_l3Shape;rfl
 |L+1,n,e,hn,hL,he=>by
  obtain⟨e1,e2,e3,e4⟩:=he
  unfold s_l3Shape
  refine Ev.eq ?_
  refine Ev.jn (fun z=>z= !(decide (gU e.kind=e.kids.length)&&fP e d)) (fun j hj=>aG (fun h=>by omega) (fun h=>aA (aBD n _) (dP (fun h=>hj _ ?_) (fun h=>aA (aC6 (by omega) e2 e3 d) (hj _ ?_))))) (fun z hz=> ?_)
  ·rw [decide_eq_false h];rfl
  ·rw [decide_eq_true h];rfl
  subst hz
  unfold dE
  cases hb:(decide (gU e.kind=e.kids.length)&&fP e d) with
  |false=>exact Ev.some (by rw [←Bool.and_assoc,hb];rfl)
  |true=>
   rw [←Bool.and_assoc,hb,Bool.true_and]
   refine bT ?_
   obtain⟨n,rfl⟩: ∃j,n=j+1:=⟨n-1,by omega⟩
   have ew:wr (((L+1:Nat):Int)-1)=(L:Int):=by rw [aK (by omega)];omega
   rw [ew]
   refine m5 (l:=e.kids) (p:=fun _ k=>dE L k d) (by omega) (by omega) (fun again i x hx hgo hno=> ?_) (fun again hall=> ?_) (fun⟨i,x,hx,hp⟩=> ?_)
   ·have hi:=(List.getElem?_eq_some_iff.1 hx).1
    rw [decide_eq_true (show(i:Int)<(e.kids.length:Int) by omega)]
    refine bW (aA (aN hx) (aA (w3 d L n x (by omega) (by omega) (e4 x (List.mem_of_getElem? hx))) ?_))
    cases hs:dE L x d with
    |true=>show Ev (again _) _;rw [aK (by omega)];exact hgo hs
    |false=>exact Ev.some (hno hs)
   ·rw [decide_eq_false (show¬(e.kids.length:Int)<(e.kids.length:Int) by omega)]
    refine Ev.some ?_
    exact(List.all_eq_true.2 (fun c hc=>by obtain⟨i,hi⟩:=List.getElem?_of_mem hc;exact hall i c hi)).symm
   ·exact(List.all_eq_false.2 ⟨x,List.mem_of_getElem? hx,by rw [hp];simp⟩).symm
theorem uR: ∀(L:Nat) (e:Expr),1≤rW L e
 |0,_=>Int.le_refl _
 |L+1,e=>by
  have:=oP (rW L) e.kids (fun k _=>uR L k)
  simp only [rW];omega
theorem aC4{α:Type}(f:α→Int)(M:Int): ∀(l:List α),(∀x∈l,f x≤M)→(l.map f).sum≤l.length*M
 | [],_=>by simp
 |x::l,h=>by
  have h1:=aC4 f M l (fun y hy=>h y (by simp [hy]))
  have h2:=h x (by simp)
  simp only [List.map_cons,List.sum_cons,List.length_cons,Int.natCast_add,Int.add_mul];omega
theorem jB{L:Nat}{e:Expr}{d:Int}(h:dE (L+1) e d=true):gU e.kind=e.kids.length∧fP e d=true∧ ∀k∈e.kids,dE L k d=true:=by
 simp only [dE,Bool.and_eq_true,decide_eq_true_eq,List.all_eq_true] at h
 exact⟨h.1,h.2.1,h.2.2⟩
theorem aA0: ∀{L:Nat} {e:Expr} {d:Int},dE L e d=true→rW L e+1≤2^L
 |0,e,d,h=>by cases h
 |L+1,e,d,h=>by
  obtain⟨h1,_,h2⟩:=jB h
  have h3:=aC4 (rW L) ((2:Int)^L-1) e.kids (fun k hk=>by have:=aA0 (h2 k hk);omega)
  have h4:=nS e.kind
  have h5:(e.kids.length:Int)*((2:Int)^L-1)≤2*((2:Int)^L-1):=by
   refine Int.mul_le_mul_of_nonneg_right (by omega) ?_
   have:(0:Int)<2^L:=Int.pow_pos (by omega)
   omega
  simp only [rW]
  rw [Int.pow_succ]
  omega
theorem w5{d:Int}: ∀(L n:Nat) (e:Expr),5000+L≤n→L≤5→dE L e d=true→s_l3Count (n+1) e (L:Int)=some (rW L e)
 |0,n,e,_,_,h=>by cases h
 |L+1,n,e,hn,hL,h=>by
  obtain⟨h1,_,h2⟩:=jB h
  have h4:=nS e.kind
  have hb: ∀k∈e.kids,rW L k≤40:=fun k hk=>by
   have h5:=aA0 (h2 k hk)
   have h6:(2:Int)^L≤40:=by
    match L,hL with
    |0,_=>decide
    |1,_=>decide
    |2,_=>decide
    |3,_=>decide
    |4,_=>decide
   omega
  unfold s_l3Count
  refine Ev.eq ?_
  obtain⟨n,rfl⟩: ∃j,n=j+1:=⟨n-1,by omega⟩
  have ew:wr (((L+1:Nat):Int)-1)=(L:Int):=by rw [aK (by omega)];omega
  rw [ew]
  refine Ev.loop (fun x:Int×Int=> ∃i:Nat,x.2=i∧i≤e.kids.length∧x.1=1+((e.kids.take i).map (rW L)).sum) (fun x=>e.kids.length-x.2.toNat) ?_ (n+1) _ ⟨0,rfl,by omega,by simp⟩ (by simp;omega)
  rintro again ⟨x,k⟩ ⟨i,hk,hi,hx⟩ hr
  dsimp only at hk hx⊢
  subst hk
  refine Ev.jn (fun z=>z=decide (i<e.kids.length)) (fun j hj=>aG (fun h=>hj _ ?_) (fun h=>hj _ ?_)) (fun z hz=> ?_)
  ·rw [decide_eq_true (show(0:Int)<((L+1:Nat):Int) by omega),decide_eq_true (by omega)]
  ·rw [decide_eq_false (by omega)]
  subst hz
  refine aG (fun hlt=> ?_) (fun hge=>Ev.some ?_)
  ·have hk2:=List.getElem?_eq_getElem hlt
   have hm:=List.mem_of_getElem? hk2
   refine aA (aN hk2) (aA (w5 (d:=d) L n _ (by omega) (by omega) (h2 _ hm)) ?_)
   have hs:=aC4 (rW L) 40 (e.kids.take i) (fun y hy=>hb y (List.mem_of_mem_take hy))
   have hs2:=oP (rW L) (e.kids.take i) (fun y _=>uR L y)
   have hb2:=hb _ hm
   have hb3:=uR L e.kids[i]
   have hl:((e.kids.take i).length:Int)≤2:=by simp;omega
   rw [aK (n:=x+rW L e.kids[i]) (by omega),aK (by omega)]
   refine hr _ ⟨i+1,by dsimp only;omega,by omega,?_⟩ (by dsimp only;omega)
   dsimp only
   rw [List.take_add_one,hk2,List.map_append,List.sum_append,hx]
   simp;omega
  ·have:i=e.kids.length:=by omega
   rw [hx,this,List.take_length];rfl
def aBJ(e:Expr):Bool:=(decide (e.kind=1)||decide (e.num=0))&&((decide (e.kind=2)||iV e.index)&&(decide (e.kind=3)||mI e.read))
theorem o5(d:Int): ∀(L n:Nat) (e:Expr) (c:Int),5000+L≤n→L≤5→SmE L e→0≤c→c≤12→
  Ev (i_exprScan (n+1) e d (6-(L:Int)) c) (fun r=>r.1=(dE L e d&&decide (c+rW L e≤12))∧(r.1=true→r.2=c+rW L e))
 |0,n,e,c,hn,hL,he,h0,h1=>by
  unfold i_exprScan
  refine Ev.jn (fun z=>z=true) (fun j hj=>aG (fun h=>hj _ rfl) (fun h=>hj _ (by decide))) (fun z hz=> ?_)
  subst hz
  exact Ev.some ⟨rfl,fun h=>by cases h⟩
 |L+1,n,e,c,hn,hL,he,h0,h1=>by
  obtain⟨e1,e2,e3,e4⟩:=he
  have hcp:=uR (L+1) e
  unfold i_exprScan
  have ew:wr (c+1)=c+1:=aK (by omega)
  have ed:wr (6-(((L+1:Nat)):Int)+1)=6-(L:Int):=by rw [aK (by omega)];omega
  rw [ew,ed]
  refine Ev.jn (fun z=>z=decide (12<c+1)) (fun j hj=>aG (fun h=>hj _ (decide_eq_true h).symm) (fun h=>hj _ ?_)) (fun z hz=> ?_)
  ·rw [decide_eq_false h,decide_eq_false (by omega)]
  subst hz
  refine aG (fun h=>Ev.some ⟨?_,fun h=>by cases h⟩) (fun hc=> ?_)
  ·rw [decide_eq_false (show¬c+rW (L+1) e≤12 by omega),Bool.and_false]
  refine Ev.jn (fun z=>z= !aBJ e) (fun j hj=> ?_) (fun z hz=> ?_)
  ·rw [T3,T4]
   unfold aBJ at hj
   simp only [Option.bind]
   by_cases k1:e.kind=1
   ·have k2: ¬e.kind=2:=by omega
    have k3: ¬e.kind=3:=by omega
    rw [decide_eq_true k1,decide_eq_false k2,decide_eq_false k3] at*
    simp only [Bool.not_true,Bool.not_false,cond_true,cond_false,Bool.true_or,Bool.true_and,Bool.false_or] at*
    cases ha:iV e.index with
    |false=>exact hj _ (by rw [ha];rfl)
    |true=>exact hj _ (by rw [ha];rfl)
   ·rw [decide_eq_false k1] at*
    simp only [Bool.not_false,cond_true,Bool.false_or] at*
    by_cases hnum:e.num=0
    ·rw [decide_eq_true hnum] at*
     simp only [Bool.not_true,cond_false,Bool.true_and] at*
     by_cases k2:e.kind=2
     ·have k3: ¬e.kind=3:=by omega
      rw [decide_eq_true k2,decide_eq_false k3] at*
      simp only [Bool.not_true,Bool.not_false,cond_true,cond_false,Bool.true_or,Bool.true_and,Bool.false_or] at*
      exact hj _ rfl
     ·rw [decide_eq_false k2] at*
      simp only [Bool.not_false,cond_true,Bool.false_or] at*
      cases ha:iV e.index with
      |false=>exact hj _ (by rw [ha];rfl)
      |true=>
       by_cases k3:e.kind=3
       ·rw [decide_eq_true k3] at*
        exact hj _ (by rw [ha];rfl)
       ·rw [decide_eq_false k3] at*
        exact hj _ (by rw [ha];rfl)
    ·rw [decide_eq_false hnum] at*
     exact hj _ rfl
  ·subst hz
   cases hp:aBJ e with
   |false=>
    refine Ev.some ⟨?_,fun h=>by cases h⟩
    have:fP e d=false:=by
     unfold aBJ at hp
     unfold fP
     by_cases k2:e.kind=2
     ·have k1: ¬e.kind=1:=by omega
      have k3: ¬e.kind=3:=by omega
      rw [if_pos k2]
      rw [decide_eq_true k2,decide_eq_false k1,decide_eq_false k3] at hp
      revert hp
      cases decide (e.num=0)<;>cases mI e.read<;>simp
     ·rw [if_neg k2]
      by_cases k3:e.kind=3
      ·have k1: ¬e.kind=1:=by omega
       rw [if_pos k3]
       rw [decide_eq_false k2,decide_eq_false k1,decide_eq_true k3] at hp
       revert hp
       cases decide (e.num=0)<;>cases iV e.index<;>simp
      ·rw [if_neg k3]
       rw [decide_eq_false k2,decide_eq_false k3] at hp
       by_cases k1:e.kind=1
       ·rw [if_pos k1]
        rw [decide_eq_true k1] at hp
        revert hp
        cases iV e.index<;>cases mI e.read<;>simp
       ·rw [if_neg k1]
        rw [decide_eq_false k1] at hp
        revert hp
        cases decide (e.num=0)<;>cases iV e.index<;>cases mI e.read<;>simp
    unfold dE
    rw [this];simp
   |true=>
    refine bT ?_
    unfold aBJ at hp
    simp only [Bool.and_eq_true,Bool.or_eq_true,decide_eq_true_eq] at hp
    obtain⟨p1,p2,p3⟩:=hp
    have leafP: ∀(b:Bool),fP e d=b→gU e.kind=0→ ∀(z:Bool),z=(b&&decide ((e.kids.length:Int)=0))→z=(dE (L+1) e d&&decide (c+rW (L+1) e≤12))∧(z=true→c+1=c+rW (L+1) e):=by
     intro b hb hk z hz
     unfold dE
     rw [hb,hk]
     by_cases h:e.kids.length=0
     ·have hnil:e.kids=[]:=List.eq_nil_of_length_eq_zero h
      have hcn:rW (L+1) e=1:=by simp [rW,hnil]
      rw [hcn,decide_eq_true (show c+1≤12 by omega)]
      rw [decide_eq_true (show(e.kids.length:Int)=0 by omega)] at hz
      rw [hz,hnil];simp
     ·rw [decide_eq_false (show¬(e.kids.length:Int)=0 by omega)] at hz
      rw [hz,decide_eq_false (show¬(0:Int)=(e.kids.length:Int) by omega)];simp
    by_cases k1:e.kind=1
    ·have k2: ¬e.kind=2:=by omega
     have k3: ¬e.kind=3:=by omega
     rw [decide_eq_true k1]
     have hown:fP e d=decide (0≤e.num∧e.num≤99):=by
      unfold fP
      rw [if_neg k2,if_neg k3,if_pos k1]
      rcases p2 with h|h
      ·exact absurd h k2
      rcases p3 with h'|h'
      ·exact absurd h' k3
      rw [h,h'];simp
     refine bW (Ev.jn (fun z=>z=(decide (0≤e.num∧e.num≤99)&&decide ((e.kids.length:Int)=0))) (fun j hj=>aA (dN n _ _ _) ?_) (fun z hz=>Ev.some ?_))
     ·cases hw:decide (0≤e.num∧e.num≤99) with
      |true=>exact hj _ (by rw [hw];rfl)
      |false=>exact hj _ (by rw [hw];rfl)
     ·exact leafP _ hown (by unfold gU;rw [if_pos (Or.inl k1)]) _ hz
    ·rw [decide_eq_false k1]
     refine bT ?_
     have hnum:e.num=0:=by
      rcases p1 with h|h
      ·exact absurd h k1
      ·exact h
     by_cases k2:e.kind=2
     ·have k3: ¬e.kind=3:=by omega
      rw [decide_eq_true k2]
      have hown:fP e d=bV e.index d:=by
       unfold fP
       rw [if_pos k2,decide_eq_true hnum]
       rcases p3 with h'|h'
       ·exact absurd h' k3
       rw [h'];simp
      refine bW (Ev.jn (fun z=>z=(bV e.index d&&decide ((e.kids.length:Int)=0))) (fun j hj=>aA (pW (by omega) _ e2) ?_) (fun z hz=>Ev.some ?_))
      ·unfold bV at hj
       cases hw:b7 e.index with
       |false=>exact hj _ (by rw [hw];rfl)
       |true=>
        refine aA (vZ (by omega) e2) (aG (fun h=>hj _ ?_) (fun h=>hj _ ?_))
        ·rw [hw,decide_eq_true h];rfl
        ·rw [hw,decide_eq_false h];rfl
      ·exact leafP _ hown (by unfold gU;rw [if_pos (Or.inr (Or.inl k2))]) _ hz
     ·rw [decide_eq_false k2]
      refine bT ?_
      have hnaff:iV e.index=true:=by
       rcases p2 with h|h
       ·exact absurd h k2
       ·exact h
      by_cases k3:e.kind=3
      ·rw [decide_eq_true k3]
       have hown:fP e d=gM e.read d:=by
        unfold fP
        rw [if_neg k2,if_pos k3,decide_eq_true hnum,hnaff];simp
       refine bW (Ev.jn (fun z=>z=(gM e.read d&&decide ((e.kids.length:Int)=0))) (fun j hj=>aA (vC (by omega) e3 d) ?_) (fun z hz=>Ev.some ?_))
       ·cases hw:gM e.read d with
        |false=>exact hj _ (by rw [hw];rfl)
        |true=>exact hj _ (by rw [hw];rfl)
       ·exact leafP _ hown (by unfold gU;rw [if_pos (Or.inr (Or.inr k3))]) _ hz
      ·rw [decide_eq_false k3]
       refine bT ?_
       have hown:fP e d=true:=by
        unfold fP
        rw [if_neg k2,if_neg k3,if_neg k1,decide_eq_true hnum,hnaff]
        rcases p3 with h'|h'
        ·exact absurd h' k3
        rw [h'];rfl
       have hop:N2 n e.kind=some (decide (4≤e.kind∧e.kind≤6)):=by unfold N2;rw [dN];rfl
       have hkn:(gU e.kind=2↔(4≤e.kind∧e.kind≤6))∧(gU e.kind=2∨gU e.kind= -1):=by
        unfold gU
        rw [if_neg (by omega)]
        split<;>omega
       refine Ev.jn (fun z=>z= !(decide (4≤e.kind∧e.kind≤6)&&decide ((e.kids.length:Int)=2))) (fun j hj=>aA hop ?_) (fun z hz=> ?_)
       ·cases hw:decide (4≤e.kind∧e.kind≤6) with
        |false=>exact hj _ (by rw [hw];rfl)
        |true=>exact hj _ (by rw [hw];rfl)
       subst hz
       by_cases hk:(4≤e.kind∧e.kind≤6)∧(e.kids.length:Int)=2
       ·rw [decide_eq_true hk.1,decide_eq_true hk.2]
        refine bT ?_
        obtain⟨a,b,hab⟩: ∃a b,e.kids=[a,b]:=by
         have:e.kids.length=2:=by omega
         match hq:e.kids,this with
         | [a,b],_=>exact⟨a,b,rfl⟩
        have hsh:dE (L+1) e d=(dE L a d&&dE L b d):=by
         show(decide (gU e.kind=e.kids.length)&&(fP e d&&e.kids.all (fun k=>dE L k d)))=_
         rw [hown,hab,decide_eq_true (show gU e.kind=(([a,b]:List Expr).length:Int) by rw [hkn.1.2 hk.1];rfl)]
         simp
        have hcn:rW (L+1) e=1+(rW L a+rW L b):=by simp [rW,hab]
        have ca:=uR L a
        have cb:=uR L b
        rw [hsh,hcn]
        obtain⟨n,rfl⟩: ∃j,n=j+1:=⟨n-1,by omega⟩
        refine Ev.jn (fun z:Int×Bool=>z.2=(dE L a d&&dE L b d&&decide (c+(1+(rW L a+rW L b))≤12))∧(z.2=true→z.1=c+(1+(rW L a+rW L b)))) (fun j hj=> ?_) (fun z hz=>Ev.some hz)
        refine aA (x:=a) (by rw [hab];rfl) (aI (o5 d L n a (c+1) (by omega) (by omega) (e4 a (by rw [hab];simp)) (by omega) (by omega)) (fun r ⟨r1,r2⟩=> ?_))
        cases hr:r.1 with
        |false=>
         refine hj _ ⟨?_,fun h=>by cases h⟩
         rw [hr] at r1
         show false=_
         by_cases hsa:dE L a d=true
         ·rw [hsa,Bool.true_and] at r1
          have:=of_decide_eq_false r1.symm
          rw [decide_eq_false (show¬c+(1+(rW L a+rW L b))≤12 by omega),Bool.and_false]
         ·rw [Bool.eq_false_iff.2 hsa];rfl
        |true=>
         have r2:=r2 hr
         rw [hr] at r1
         have r1:=r1.symm
         rw [Bool.and_eq_true,decide_eq_true_eq] at r1
         refine aA (x:=b) (by rw [hab];rfl) ?_
         rw [r2]
         refine aI (o5 d L n b (c+1+rW L a) (by omega) (by omega) (e4 b (by rw [hab];simp)) (by omega) (by omega)) (fun q ⟨q1,q2⟩=>hj _ ⟨?_,fun h=> ?_⟩)
         ·show q.1=_
          rw [q1,r1.1,Bool.true_and]
          congr 1
          exact decide_eq_decide.2 (by omega)
         ·show q.2=_
          rw [q2 h];omega
       ·have hf:dE (L+1) e d=false:=by
         unfold dE
         rw [decide_eq_false (show¬gU e.kind=(e.kids.length:Int) by
          intro h
          rcases hkn.2 with h2|h2
          ·exact hk ⟨hkn.1.1 h2,by omega⟩
          ·omega)]
         rfl
        have:(decide (4≤e.kind∧e.kind≤6)&&decide ((e.kids.length:Int)=2))=false:=by
         by_cases g:4≤e.kind∧e.kind≤6
         ·rw [decide_eq_false (show¬(e.kids.length:Int)=2 from fun h=>hk ⟨g,h⟩),Bool.and_false]
         ·rw [decide_eq_false g];rfl
        rw [this,hf]
        exact Ev.some ⟨rfl,fun h=>by cases h⟩
def fO(s:Stmt)(d:Int):Bool:=decide (0≤d∧d≤4)&&(gM s.write d&&(dE 5 s.value d&&decide (rW 5 s.value≤12)))
def SmS(s:Stmt):Prop:=G0 s.write.subs∧SmE 5 s.value
theorem N4{n:Nat}(hn:6000≤n){s:Stmt}(h:SmS s)(d:Int):l9 n s d=some (fO s d):=by
 obtain⟨n,rfl⟩: ∃j,n=j+1:=⟨n-1,by omega⟩
 refine Ev.eq ?_
 unfold l9
 generalize hT:fO s d=T
 unfold fO at hT
 refine Ev.jn (fun z:Int×Bool=>z.2=T) (fun j hj=>aA (dN _ _ _ _) ?_) (fun z hz=>Ev.some hz)
 cases h1:decide (0≤d∧d≤4) with
 |false=>exact hj (0,false) (by rw [←hT,h1];rfl)
 |true=>
  refine bW (aA (vC (by omega) h.1 d) ?_)
  cases h2:gM s.write d with
  |false=>exact hj (0,false) (by rw [←hT,h1,h2];rfl)
  |true=>
   refine bW (aI (o5 d 5 n s.value 0 (by omega) (by omega) h.2 (by omega) (by omega)) (fun r ⟨r1,r2⟩=>hj _ ?_))
   rw [←hT,h1,h2]
   show r.1=_
   rw [r1]
   simp
theorem tC{n:Nat}(hn:6000≤n){s:Stmt}(h:SmS s)(d:Int):gR n s d=some (fO s d):=by
 obtain⟨n,rfl⟩: ∃j,n=j+1:=⟨n-1,by omega⟩
 refine Ev.eq ?_
 unfold gR
 generalize hT:fO s d=T
 generalize hB:(decide (0≤d∧d≤4)&&(gM s.write d&&dE 5 s.value d))=B
 have hTB:T=(B&&decide (rW 5 s.value≤12)):=by rw [←hT,←hB];unfold fO;simp only [Bool.and_assoc]
 refine Ev.jn (fun z=>z= !B) (fun j hj=>aG (fun h=>hj _ ?_) (fun h0=>aG (fun h=>hj _ ?_) (fun h4=>aA (u6 (by omega) h.1 d) ?_))) (fun z hz=> ?_)
 ·rw [←hB,decide_eq_false (show¬(0≤d∧d≤4) by omega)];rfl
 ·rw [←hB,decide_eq_false (show¬(0≤d∧d≤4) by omega)];rfl
 ·rw [decide_eq_true (show 0≤d∧d≤4 by omega)] at hB
  cases h2:gM s.write d with
  |false=>exact bW (hj _ (by rw [←hB,h2];rfl))
  |true=>exact bT (aA (w3 d 5 n s.value (by omega) (by omega) h.2) (hj _ (by rw [←hB,h2];rfl)))
 ·subst hz
  cases hb:B with
  |false=>exact Ev.some (by rw [hTB,hb];rfl)
  |true=>
   rw [hb] at hB
   simp only [Bool.and_eq_true] at hB
   refine bT (aA (w5 (d:=d) 5 n s.value (by omega) (by omega) hB.2.2) (Ev.some ?_))
   rw [hTB,hb];rfl
def iN(ds:List Int):Bool:=decide (1≤ds.length∧ds.length≤2)&&ds.all (fun d=>decide (1≤d∧d≤6))
def vT(list:List Arr)(i:Nat)(x:Arr):Bool:=match i with
 |0=>true
 |i+1=>match list[i]? with
  |some y=>Op.bytesLess y.name x.name
  |none=>false
def V3(list:List Arr)(i:Nat)(x:Arr):Bool:=nQ x.name&&(vT list i x&&iN x.dims)
def iE(list:List Arr):Bool:=N1 (V3 list) list&&decide (list.length≤4)
def SmR(list:List Arr):Prop:=list.length≤1000∧ ∀x∈list,x.dims.length≤1000
theorem C4{list:List Arr}{i:Nat}{x y:Arr}(h:list[i]? =some y):vT list (i+1) x=Op.bytesLess y.name x.name:=by
 simp only [vT,h]
theorem aId(ds:List Int):(ds.any fun d=> !decide (1≤d∧d≤6))= !(ds.all fun d=>decide (1≤d∧d≤6)):=by
 rw [List.all_eq_not_any_not];simp
theorem T5{n:Nat}(hn:6000≤n){list:List Arr}(h:SmR list):nV n list=some (iE list):=by
 obtain⟨h0,h1⟩:=h
 refine Ev.eq ?_
 unfold nV
 refine m5 (l:=list) (p:=V3 list) (by omega) (by omega) (fun again i x hx hgo hno=> ?_) (fun again hall=> ?_) (fun⟨i,x,hx,hp⟩=> ?_)
 ·have hi:=(List.getElem?_eq_some_iff.1 hx).1
  have hm:=h1 x (List.mem_of_getElem? hx)
  rw [decide_eq_true (show(i:Int)<(list.length:Int) by omega)]
  have hd:bP n x.dims (fun q0=>dX n q0)=some (!(x.dims.all fun d=>decide (1≤d∧d≤6))):=by
   rw [←aId]
   exact q9 (fun d _=>by unfold dX;rw [dN];rfl) (by omega) (by omega)
  refine bW (aA (aN hx) (Ev.jn (fun z=>z= !V3 list i x) (fun j hj=>aA (xP n _) ?_) (fun z hz=> ?_)))
  ·unfold V3 iN at hj
   cases g1:nQ x.name with
   |false=>exact bW (hj _ (by rw [g1];rfl))
   |true=>
    rw [g1] at hj
    refine bT ?_
    rw [qY]
    have hlast:vT list i x=true→Ev (Option.bind (some (decide (1≤x.dims.length∧x.dims.length≤2))) fun x6=>bif !x6 then j true else Option.bind (bP n x.dims (fun q0=>dX n q0)) fun x7=>j x7) (fun r=>r=iE list):=by
     intro hp
     rw [hp] at hj
     show Ev (bif _ then _ else _) _
     cases g2:decide (1≤x.dims.length∧x.dims.length≤2) with
     |false=>exact bW (hj _ (by rw [g2];rfl))
     |true=>exact bT (aA hd (hj _ (by rw [g2];rfl)))
    cases i with
    |zero=>exact aG (fun h=>absurd h (by decide)) (fun _=>hlast rfl)
    |succ i=>
     have hy:=List.getElem?_eq_getElem (show i<list.length by omega)
     have e:wr (((i+1:Nat):Int)-1)=(i:Int):=by rw [aK (by omega)];omega
     rw [e]
     refine aG (fun _=>aA (aN hy) ?_) (fun h=>absurd (show(0:Int)<((i+1:Nat):Int) by omega) h)
     have hpp:=C4 (x:=x) hy
     cases g3:Op.bytesLess list[i].name x.name with
     |false=>exact bW (hj _ (by rw [hpp,g3];rfl))
     |true=>exact bT (hlast (by rw [hpp,g3]))
  ·subst hz
   cases hb:V3 list i x with
   |true=>show Ev (again _) _;rw [aK (by omega)];exact hgo hb
   |false=>exact Ev.some (hno hb)
 ·rw [decide_eq_false (show¬(list.length:Int)<(list.length:Int) by omega)]
  refine Ev.some ?_
  unfold iE
  rw [oH hall,Bool.true_and]
  exact decide_eq_decide.2 (by omega)
 ·unfold iE;rw [mR hx hp];rfl
theorem aG0(s:List UInt8):(!Op.bytesLess s [68]&& !s==[68])= !(Op.bytesLess s [68]||s==[68]):=by
 cases Op.bytesLess s [68]<;>cases (s==[68])<;>rfl
theorem S5{n:Nat}(hn:6000≤n){list:List Arr}(h:SmR list):nK n list=some (iE list):=by
 obtain⟨h0,h1⟩:=h
 refine Ev.eq ?_
 unfold nK
 refine m5 (l:=list) (p:=V3 list) (by omega) (by omega) (fun again i x hx hgo hno=> ?_) (fun again hall=> ?_) (fun⟨i,x,hx,hp⟩=> ?_)
 ·have hi:=(List.getElem?_eq_some_iff.1 hx).1
  have hm:=h1 x (List.mem_of_getElem? hx)
  rw [decide_eq_true (show(i:Int)<(list.length:Int) by omega)]
  refine bW (aA (aN hx) (Ev.jn (fun z=>z= !(nQ x.name&&(vT list i x&&decide (1≤x.dims.length∧x.dims.length≤2)))) (fun j hj=> ?_) (fun z hz=> ?_)))
  ·refine dP (fun hl=>hj _ ?_) (fun hl=> ?_)
   ·rw [vV (by omega)];rfl
   ·obtain⟨b,hb⟩:=aKA (show x.name.length=1 by omega)
    rw [aG0]
    have hless: ∀(y:Arr),Op.bytesLess y.name x.name=Op.bytesLess y.name [b]:=fun y=>by rw [hb]
    have hnm:nQ x.name=decide (65≤b.toNat∧b.toNat≤68):=by rw [hb];rfl
    have l1:Op.bytesLess x.name [65]=decide (b.toNat<65):=by rw [hb];exact M1 b
    have l2:(Op.bytesLess x.name [68]||x.name==[68])=decide (b.toNat≤68):=by rw [hb];exact M0 b
    rw [l1,l2]
    rw [hnm] at hj
    refine aG (fun g1=>hj _ ?_) (fun g1=>dP (fun g2=>hj _ ?_) (fun g2=> ?_))
    ·rw [decide_eq_false (show¬(65≤b.toNat∧b.toNat≤68) by omega)];rfl
    ·rw [decide_eq_false (show¬(65≤b.toNat∧b.toNat≤68) by omega)];rfl
    ·rw [decide_eq_true (show 65≤b.toNat∧b.toNat≤68 by omega)] at hj
     have hlast:vT list i x=true→Ev (bif decide ((x.dims.length:Int)<1) then j true else j (decide ((2:Int)<(x.dims.length:Int)))) (fun r=>r=iE list):=by
      intro hp
      rw [hp] at hj
      refine aG (fun h=>hj _ ?_) (fun h=>hj _ ?_)
      ·rw [decide_eq_false (show¬(1≤x.dims.length∧x.dims.length≤2) by omega)];rfl
      ·by_cases h2:x.dims.length≤2
       ·rw [decide_eq_false (show¬(2:Int)<(x.dims.length:Int) by omega),decide_eq_true (show 1≤x.dims.length∧x.dims.length≤2 by omega)];rfl
       ·rw [decide_eq_true (show(2:Int)<(x.dims.length:Int) by omega),decide_eq_false (show¬(1≤x.dims.length∧x.dims.length≤2) by omega)];rfl
     cases i with
     |zero=>exact aG (fun h=>absurd h (by decide)) (fun _=>hlast rfl)
     |succ i=>
      have hy:=List.getElem?_eq_getElem (show i<list.length by omega)
      have e:wr (((i+1:Nat):Int)-1)=(i:Int):=by rw [aK (by omega)];omega
      rw [e]
      refine aG (fun _=>aA (aN hy) ?_) (fun h=>absurd (show(0:Int)<((i+1:Nat):Int) by omega) h)
      have hpp:=C4 (x:=x) hy
      cases g3:Op.bytesLess list[i].name x.name with
      |false=>exact bW (hj _ (by rw [hpp,g3];rfl))
      |true=>exact bT (hlast (by rw [hpp,g3]))
  ·subst hz
   cases hb:(nQ x.name&&(vT list i x&&decide (1≤x.dims.length∧x.dims.length≤2))) with
   |false=>
    refine Ev.some (hno ?_)
    unfold V3 iN
    rw [←Bool.and_assoc,←Bool.and_assoc]
    rw [←Bool.and_assoc] at hb
    rw [hb];rfl
   |true=>
    have hap:V3 list i x=x.dims.all (fun d=>decide (1≤d∧d≤6)):=by
     unfold V3 iN
     rw [←Bool.and_assoc,←Bool.and_assoc]
     rw [←Bool.and_assoc] at hb
     rw [hb];rfl
    refine bT ?_
    refine Ev.loop (fun y:Int=> ∃k:Nat,y=k∧k≤x.dims.length∧ ∀(t:Nat) d,t<k→x.dims[t]? =some d→decide (1≤d∧d≤6)=true) (fun y=>x.dims.length-y.toNat) ?_ n _ ⟨0,rfl,by omega,fun t d h=>by omega⟩ (by simp;omega)
    rintro again8 y ⟨k,rfl,hk,ha⟩ hr
    refine aG (fun hlt=> ?_) (fun hge=> ?_)
    ·have hd:=List.getElem?_eq_getElem (show k<x.dims.length by omega)
     have ek:wr ((k:Int)+1)=((k+1:Nat):Int):=by rw [aK (by omega)];omega
     refine Ev.jn (fun z=>z= !decide (1≤x.dims[k]∧x.dims[k]≤6)) (fun j hj=>aA (aN hd) (aG (fun h=>hj _ ?_) (fun h=>hj _ ?_))) (fun z hz=> ?_)
     ·rw [decide_eq_false (by omega)];rfl
     ·by_cases h6:x.dims[k]≤6
      ·rw [decide_eq_false (show¬(6:Int)<x.dims[k] by omega),decide_eq_true (show 1≤x.dims[k]∧x.dims[k]≤6 by omega)];rfl
      ·rw [decide_eq_true (show(6:Int)<x.dims[k] by omega),decide_eq_false (show¬(1≤x.dims[k]∧x.dims[k]≤6) by omega)];rfl
     ·subst hz
      cases hb2:decide (1≤x.dims[k]∧x.dims[k]≤6) with
      |false=>
       refine Ev.some (hno ?_)
       rw [hap]
       exact List.all_eq_false.2 ⟨_,List.mem_of_getElem? hd,by rw [hb2];simp⟩
      |true=>
       rw [ek]
       refine hr _ ⟨k+1,rfl,by omega,fun t d ht hd2=> ?_⟩ (by omega)
       by_cases htk:t=k
       ·subst htk;rw [hd] at hd2;cases hd2;exact hb2
       ·exact ha t d (by omega) hd2
    ·have e:wr ((i:Int)+1)=(i:Int)+1:=aK (by omega)
     rw [e]
     refine hgo ?_
     rw [hap]
     refine List.all_eq_true.2 (fun d hd=> ?_)
     obtain⟨t,ht⟩:=List.getElem?_of_mem hd
     have:=(List.getElem?_eq_some_iff.1 ht).1
     exact ha t d (by omega) ht
 ·rw [decide_eq_false (show¬(list.length:Int)<(list.length:Int) by omega)]
  refine Ev.some ?_
  unfold iE
  rw [oH hall,Bool.true_and]
  exact decide_eq_decide.2 (by omega)
 ·unfold iE;rw [mR hx hp];rfl
def szL:List Int→Int
 | []=>1
 |d::ds=>d*szL ds
theorem aDV{ds:List Int}(h:iN ds=true):(∃a,ds=[a]∧1≤a∧a≤6)∨ ∃a b,ds=[a,b]∧(1≤a∧a≤6)∧1≤b∧b≤6:=by
 simp only [iN,Bool.and_eq_true,decide_eq_true_eq,List.all_eq_true] at h
 obtain⟨⟨h1,h2⟩,h3⟩:=h
 match ds,h1,h2,h3 with
 | [a],_,_,h3=>exact .inl ⟨a,rfl,h3 a (by simp)⟩
 | [a,b],_,_,h3=>exact .inr ⟨a,b,rfl,h3 a (by simp),h3 b (by simp)⟩
theorem aLG{a b:Int}(ha:1≤a∧a≤6)(hb:1≤b∧b≤6):1≤a*b∧a*b≤36:=by
 constructor
 ·have:=Int.mul_le_mul ha.1 hb.1 (by omega) (by omega);omega
 ·have:=Int.mul_le_mul ha.2 hb.2 (by omega) (by omega);omega
theorem aEz{ds:List Int}(h:iN ds=true):1≤szL ds∧szL ds≤36:=by
 rcases aDV h with ⟨a,rfl,h1⟩|⟨a,b,rfl,h1,h2⟩
 ·simp [szL];omega
 ·have:=aLG h1 h2;simp [szL];omega
theorem C0{n:Nat}(hn:6000≤n){x:Arr}(h:iN x.dims=true):sN n x=some (szL x.dims):=by
 obtain⟨n,rfl⟩: ∃j,n=j+3:=⟨n-3,by omega⟩
 unfold sN
 rcases aDV h with ⟨a,e,h1⟩|⟨a,b,e,h1,h2⟩
 ·rw [e]
  have e1:wr a=a:=aK (by omega)
  simp [aL,ix,szL,e1,show wr 1=1 from aK (by omega)]
 ·rw [e]
  have:=aLG h1 h2
  have e1:wr a=a:=aK (by omega)
  have e2:wr (a*b)=a*b:=aK (by omega)
  simp [aL,ix,szL,e1,e2,show wr 1=1 from aK (by omega),show wr 2=2 from aK (by omega)]
theorem aFM{n:Nat}(hn:6000≤n){x:Arr}(h:iN x.dims=true):mT n x=some (szL x.dims):=C0 hn h
def lJ:List Affine→List Int→List Int→Int→Int
 |s::ss,d::ds,p,acc=>if 0≤cJ s p∧cJ s p<d then lJ ss ds p (acc*d+cJ s p) else-1
 |_,_,_,acc=>acc
def cQ:List Arr→Access→List Int→Int→Int
 | [],_,_,_=> -1
 |x::xs,a,p,base=>if x.name=a.array then(if a.subs.length=x.dims.length then(if lJ a.subs x.dims p 0<0 then-1 else base+lJ a.subs x.dims p 0) else-1) else cQ xs a p (base+szL x.dims)
def jH(xs:List Arr):Prop:= ∀x∈xs,iN x.dims=true
theorem aLM{ds:List Int}(hd:iN ds=true){ss:List Affine}(hl:ss.length=ds.length)(p:List Int):lJ ss ds p 0= -1∨(0≤lJ ss ds p 0∧lJ ss ds p 0<szL ds):=by
 rcases aDV hd with ⟨a,rfl,h1⟩|⟨a,b,rfl,h1,h2⟩
 ·match ss,hl with
  | [s],_=>
   simp only [lJ,szL,Int.zero_mul,Int.zero_add,Int.mul_one]
   split<;>omega
 ·match ss,hl with
  | [s,t],_=>
   simp only [lJ,szL,Int.zero_mul,Int.zero_add,Int.mul_one]
   split
   ·rename_i hs
    split
    ·rename_i ht
     refine .inr ⟨?_,?_⟩
     ·have:=Int.mul_nonneg hs.1 (show 0≤b by omega);omega
     ·have:=Int.mul_le_mul_of_nonneg_right (show cJ s p≤a-1 by omega) (show 0≤b by omega)
      rw [Int.sub_mul] at this;omega
    ·exact .inl rfl
   ·exact .inl rfl
def u4(xs:List Arr):Int:=(xs.map (fun x=>szL x.dims)).sum
theorem aFc: ∀{xs:List Arr},jH xs→ ∀(a:Access) (p:List Int) (base:Int),0≤base→cQ xs a p base= -1∨(base≤cQ xs a p base∧cQ xs a p base<base+u4 xs)
 | [],_,a,p,base,_=> .inl rfl
 |x::xs,hd,a,p,base,hb=>by
  have hx:=hd x (by simp)
  have hs:=aEz hx
  have hxs:jH xs:=fun y hy=>hd y (by simp [hy])
  have ht:0≤u4 xs:=by
   have:=oP (fun x:Arr=>szL x.dims) xs (fun y hy=>(aEz (hxs y hy)).1)
   unfold u4;omega
  have e:u4 (x::xs)=szL x.dims+u4 xs:=by simp [u4]
  rw [e]
  simp only [cQ]
  split
  ·split
   ·rename_i hl
    rcases aLM hx hl p with h|h
    ·rw [if_pos (by omega)];exact .inl rfl
    ·rw [if_neg (by omega)];exact .inr ⟨by omega,by omega⟩
   ·exact .inl rfl
  ·rcases aFc hxs a p (base+szL x.dims) (by omega) with h|h
   ·exact .inl h
   ·exact .inr ⟨by omega,by omega⟩
theorem t2{a:Access}{d:Int}(h:gM a d=true):1≤a.subs.length∧a.subs.length≤2∧ ∀x∈a.subs,b7 x=true:=by
 simp only [gM,Bool.and_eq_true,decide_eq_true_eq,List.all_eq_true] at h
 refine⟨h.2.2.1,h.2.2.2,fun x hx=> ?_⟩
 have:=h.1 x hx
 simp only [bV,Bool.and_eq_true] at this
 exact this.1
theorem iA{α:Type}{l:List α}{i:Nat}{x:α}(h:l[i]? =some x):l.drop i=x::l.drop (i+1):=by
 obtain⟨h1,h2⟩:=List.getElem?_eq_some_iff.1 h
 rw [List.drop_eq_getElem_cons h1,h2]
theorem aCL{a d v:Int}(ha:0≤a∧a≤36)(hd:1≤d∧d≤6)(hv:0≤v∧v<d):0≤a*d∧a*d≤216∧0≤a*d+v:=by
 have h1:=Int.mul_nonneg ha.1 (show 0≤d by omega)
 have h2:=Int.mul_le_mul ha.2 hd.2 (by omega) (by omega)
 omega
theorem aHg{n:Nat}(hn:6000≤n){a:Access}(h1:a.subs.length≤2)(h2: ∀x∈a.subs,b7 x=true){ds:List Int}(hd:iN ds=true)(hl:a.subs.length=ds.length){k:Nat}{p:List Int}(hp:o9 k p)(base:Int)(hb:0≤base∧base≤1000000):
  aL (fun again8 ((x6,x7):Int×Int)=>bif decide (x7<(a.subs.length:Int)) then(Option.bind (ix a.subs x7) fun x9=>Option.bind (cI n x9 p) fun x10=>Option.bind (ix ds x7) fun x11=>Option.bind (cB n x10 0 (wr (x11-1))) fun x12=>bif !x12 then(some (-1)) else(again8 (wr ((wr (x6*x11))+x10),wr (x7+1)))) else(some (wr (base+x6)))) n (0,0)
   =some (if lJ a.subs ds p 0<0 then-1 else base+lJ a.subs ds p 0):=by
 have hdm: ∀d∈ds,1≤d∧d≤6:=by
  simp only [iN,Bool.and_eq_true,decide_eq_true_eq,List.all_eq_true] at hd
  exact fun d h=>hd.2 d h
 refine Ev.eq ?_
 refine Ev.loop (fun x:Int×Int=> ∃i:Nat,x.2=i∧i≤a.subs.length∧0≤x.1∧x.1≤36*i∧(i=0→x.1=0)∧(i=1→x.1≤5)∧lJ a.subs ds p 0=lJ (a.subs.drop i) (ds.drop i) p x.1) (fun x=>a.subs.length-x.2.toNat) ?_ n _ ⟨0,rfl,by omega,by simp,by simp,fun _=>rfl,fun h=>by omega,rfl⟩ (by simp;omega)
 rintro again ⟨x,z⟩ ⟨i,hz,hi,hx0,hx1,hx2,hx3,hx⟩ hr
 dsimp only at hz hx0 hx1 hx2 hx3 hx⊢
 subst hz
 refine aG (fun hlt=> ?_) (fun hge=>Ev.some ?_)
 ·have hs:=List.getElem?_eq_getElem (show i<a.subs.length by omega)
  have hdd:=List.getElem?_eq_getElem (show i<ds.length by omega)
  have hdb:=hdm _ (List.mem_of_getElem? hdd)
  have ew:wr (ds[i]-1)=ds[i]-1:=aK (by omega)
  rw [iA hs,iA hdd] at hx
  simp only [lJ] at hx
  refine aA (aN hs) (aA (aHh (by omega) (h2 _ (List.mem_of_getElem? hs)) hp) (aA (aN hdd) (aA (dN _ _ _ _) ?_)))
  rw [ew]
  by_cases hc:0≤cJ a.subs[i] p∧cJ a.subs[i] p<ds[i]
  ·rw [if_pos hc] at hx
   rw [decide_eq_true (show 0≤cJ a.subs[i] p∧cJ a.subs[i] p≤ds[i]-1 by omega)]
   obtain⟨g1,g2,g3⟩:=aCL (a:=x) (by omega) hdb hc
   refine bT ?_
   rw [aK (n:=x*ds[i]) (by omega),aK (n:=x*ds[i]+cJ a.subs[i] p) (by omega),aK (by omega)]
   have hi01:i=0∨i=1:=by omega
   refine hr _ ⟨i+1,by dsimp only;omega,by omega,by dsimp only;omega,?_,fun h=>by omega,fun h=> ?_,hx⟩ (by dsimp only;omega)
   ·dsimp only
    rcases hi01 with rfl|rfl
    ·rw [hx2 rfl];omega
    ·have:=hx3 rfl
     have:=Int.mul_le_mul this hdb.2 (by omega) (by omega)
     omega
   ·dsimp only
    have:i=0:=by omega
    subst this
    rw [hx2 rfl];omega
  ·rw [if_neg hc] at hx
   rw [decide_eq_false (show¬(0≤cJ a.subs[i] p∧cJ a.subs[i] p≤ds[i]-1) by omega)]
   refine bW (Ev.some ?_)
   rw [hx];rfl
 ·have hie:i=a.subs.length:=by omega
  have hdr:lJ (a.subs.drop i) (ds.drop i) p x=x:=by
   rw [hie,List.drop_length];unfold lJ;rfl
  rw [hdr] at hx
  rw [hx,if_neg (by omega),aK (by omega)]
theorem aGN{n:Nat}(hn:6000≤n){a:Access}(h0:1≤a.subs.length)(h1:a.subs.length≤2)(h2: ∀x∈a.subs,b7 x=true){ds:List Int}(hd:iN ds=true){k:Nat}{p:List Int}(hp:o9 k p)(base:Int)(hb:0≤base∧base≤1000000):
  aL (fun again8 ((x6,x7):Int×Int)=>bif decide (x7<(a.subs.length:Int)) then(bif !decide ((a.subs.length:Int)=(ds.length:Int)) then(some (-1)) else(Option.bind (ix a.subs x7) fun x9=>Option.bind (gQ n x9 p) fun x10=>jn (fun(x13:Bool)=>bif x13 then(some (-1)) else(Option.bind (ix ds x7) fun x14=>again8 (wr ((wr (x6*x14))+x10),wr (x7+1)))) (fun j11=>bif decide (x10<0) then(j11 true) else(Option.bind (ix ds x7) fun x12=>j11 (decide (x12≤x10)))))) else(some (wr (base+x6)))) n (0,0)
   =some (if a.subs.length=ds.length then(if lJ a.subs ds p 0<0 then-1 else base+lJ a.subs ds p 0) else-1):=by
 by_cases hl:a.subs.length=ds.length
 ·rw [if_pos hl]
  rw [decide_eq_true (show(a.subs.length:Int)=(ds.length:Int) by omega)]
  have hdm: ∀d∈ds,1≤d∧d≤6:=by
   simp only [iN,Bool.and_eq_true,decide_eq_true_eq,List.all_eq_true] at hd
   exact fun d h=>hd.2 d h
  refine Ev.eq ?_
  refine Ev.loop (fun x:Int×Int=> ∃i:Nat,x.2=i∧i≤a.subs.length∧0≤x.1∧x.1≤36*i∧(i=0→x.1=0)∧(i=1→x.1≤5)∧lJ a.subs ds p 0=lJ (a.subs.drop i) (ds.drop i) p x.1) (fun x=>a.subs.length-x.2.toNat) ?_ n _ ⟨0,rfl,by omega,by simp,by simp,fun _=>rfl,fun h=>by omega,rfl⟩ (by simp;omega)
  rintro again ⟨x,z⟩ ⟨i,hz,hi,hx0,hx1,hx2,hx3,hx⟩ hr
  dsimp only at hz hx0 hx1 hx2 hx3 hx⊢
  subst hz
  refine aG (fun hlt=> ?_) (fun hge=>Ev.some ?_)
  ·have hs:=List.getElem?_eq_getElem (show i<a.subs.length by omega)
   have hdd:=List.getElem?_eq_getElem (show i<ds.length by omega)
   have hdb:=hdm _ (List.mem_of_getElem? hdd)
   rw [iA hs,iA hdd] at hx
   simp only [lJ] at hx
   refine bT (aA (aN hs) (aA (aGO (by omega) (h2 _ (List.mem_of_getElem? hs)) hp) (Ev.jn (fun z=>z= !decide (0≤cJ a.subs[i] p∧cJ a.subs[i] p<ds[i])) (fun j hj=>aG (fun h=>hj _ ?_) (fun h=>aA (aN hdd) (hj _ ?_))) (fun z hz=> ?_))))
   ·rw [decide_eq_false (by omega)];rfl
   ·by_cases hc:ds[i]≤cJ a.subs[i] p
    ·rw [decide_eq_true hc,decide_eq_false (by omega)];rfl
    ·rw [decide_eq_false hc,decide_eq_true (by omega)];rfl
   subst hz
   by_cases hc:0≤cJ a.subs[i] p∧cJ a.subs[i] p<ds[i]
   ·rw [if_pos hc] at hx
    rw [decide_eq_true hc]
    obtain⟨g1,g2,g3⟩:=aCL (a:=x) (by omega) hdb hc
    refine bT (aA (aN hdd) ?_)
    rw [aK (n:=x*ds[i]) (by omega),aK (n:=x*ds[i]+cJ a.subs[i] p) (by omega),aK (by omega)]
    have hi01:i=0∨i=1:=by omega
    refine hr _ ⟨i+1,by dsimp only;omega,by omega,by dsimp only;omega,?_,fun h=>by omega,fun h=> ?_,hx⟩ (by dsimp only;omega)
    ·dsimp only
     rcases hi01 with rfl|rfl
     ·rw [hx2 rfl];omega
     ·have:=hx3 rfl
      have:=Int.mul_le_mul this hdb.2 (by omega) (by omega)
      omega
    ·dsimp only
     have:i=0:=by omega
     subst this
     rw [hx2 rfl];omega
   ·rw [if_neg hc] at hx
    rw [decide_eq_false hc]
    refine bW (Ev.some ?_)
    rw [hx];rfl
  ·have hie:i=a.subs.length:=by omega
   have hdr:lJ (a.subs.drop i) (ds.drop i) p x=x:=by
    rw [hie,List.drop_length];unfold lJ;rfl
   rw [hdr] at hx
   rw [hx,if_neg (by omega),aK (by omega)]
 ·rw [if_neg hl,decide_eq_false (show¬(a.subs.length:Int)=(ds.length:Int) by omega)]
  obtain⟨n,rfl⟩: ∃j,n=j+1:=⟨n-1,by omega⟩
  simp only [aL]
  rw [decide_eq_true (show(0:Int)<(a.subs.length:Int) by omega)]
  rfl
theorem uM{n:Nat}(hn:6000≤n){p:Prog}(hl:p.arrays.length≤4)(hd:jH p.arrays){a:Access}{d:Int}(ha:gM a d=true){k:Nat}{q:List Int}(hq:o9 k q):dJ n p a q=some (cQ p.arrays a q 0):=by
 obtain⟨a0,a1,a2⟩:=t2 ha
 refine Ev.eq ?_
 unfold dJ
 refine Ev.loop (fun x:Int×Int=> ∃i:Nat,x.2=i∧i≤p.arrays.length∧0≤x.1∧x.1≤36*i∧cQ p.arrays a q 0=cQ (p.arrays.drop i) a q x.1) (fun x=>p.arrays.length-x.2.toNat) ?_ n _ ⟨0,rfl,by omega,by simp,by simp,rfl⟩ (by simp;omega)
 rintro again ⟨x,z⟩ ⟨i,hz,hi,hx0,hx1,hx⟩ hr
 dsimp only at hz hx0 hx1 hx⊢
 subst hz
 refine aG (fun hlt=> ?_) (fun hge=>Ev.some ?_)
 ·have hy:=List.getElem?_eq_getElem (show i<p.arrays.length by omega)
  have hdy:=hd _ (List.mem_of_getElem? hy)
  have hsz:=aEz hdy
  rw [iA hy] at hx
  simp only [cQ] at hx
  refine aA (aN hy) (dP (fun hne=> ?_) (fun he=> ?_))
  ·rw [if_neg hne] at hx
   refine aA (aFM hn hdy) ?_
   rw [aK (n:=x+szL p.arrays[i].dims) (by omega),aK (by omega)]
   exact hr _ ⟨i+1,by dsimp only;omega,by omega,by dsimp only;omega,by dsimp only;omega,hx⟩ (by dsimp only;omega)
  ·rw [if_pos he] at hx
   refine dP (fun hne=>Ev.some ?_) (fun hle=> ?_)
   ·rw [hx,if_neg (by omega)]
   ·have hle':a.subs.length=p.arrays[i].dims.length:=by omega
    rw [if_pos hle'] at hx
    exact Ev.of (aHg hn a1 a2 hdy hle' hq x (by omega)) hx.symm
 ·have hie:i=p.arrays.length:=by omega
  rw [hx,hie,List.drop_length];rfl
theorem V8{n:Nat}(hn:6000≤n){list:List Arr}(hl:list.length≤4)(hd:jH list){a:Access}{d:Int}(ha:gM a d=true){k:Nat}{q:List Int}(hq:o9 k q):pH n list a q=some (cQ list a q 0):=by
 obtain⟨a0,a1,a2⟩:=t2 ha
 refine Ev.eq ?_
 unfold pH
 refine Ev.loop (fun x:Int×Int=> ∃i:Nat,x.2=i∧i≤list.length∧0≤x.1∧x.1≤36*i∧cQ list a q 0=cQ (list.drop i) a q x.1) (fun x=>list.length-x.2.toNat) ?_ n _ ⟨0,rfl,by omega,by simp,by simp,rfl⟩ (by simp;omega)
 rintro again ⟨x,z⟩ ⟨i,hz,hi,hx0,hx1,hx⟩ hr
 dsimp only at hz hx0 hx1 hx⊢
 subst hz
 refine aG (fun hlt=> ?_) (fun hge=>Ev.some ?_)
 ·have hy:=List.getElem?_eq_getElem (show i<list.length by omega)
  have hdy:=hd _ (List.mem_of_getElem? hy)
  have hsz:=aEz hdy
  rw [iA hy] at hx
  simp only [cQ] at hx
  refine aA (aN hy) (dP (fun hne=> ?_) (fun he=> ?_))
  ·rw [if_neg hne] at hx
   refine aA (C0 hn hdy) ?_
   rw [aK (n:=x+szL list[i].dims) (by omega),aK (by omega)]
   exact hr _ ⟨i+1,by dsimp only;omega,by omega,by dsimp only;omega,by dsimp only;omega,hx⟩ (by dsimp only;omega)
  ·rw [if_pos he] at hx
   exact Ev.of (aGN hn a0 a1 a2 hdy hq x (by omega)) hx.symm
 ·have hie:i=list.length:=by omega
  rw [hx,hie,List.drop_length];rfl
def b9:Nat→Expr→List Access
 |0,_=>[]
 |L+1,e=>(if e.kind=3 then [e.read] else [])++e.kids.flatMap (b9 L)
theorem zD{d:Int}: ∀{L:Nat} {e:Expr},dE L e d=true→ ∀a∈b9 L e,gM a d=true
 |0,e,h,a,ha=>by cases h
 |L+1,e,h,a,ha=>by
  obtain⟨h1,h2,h3⟩:=jB h
  simp only [b9,List.mem_append,List.mem_flatMap] at ha
  rcases ha with ha|⟨k,hk,ha⟩
  ·split at ha
   ·rename_i hk3
    simp at ha;subst ha
    unfold fP at h2
    rw [if_neg (by omega),if_pos hk3] at h2
    simp only [Bool.and_eq_true] at h2
    exact h2.2.2
   ·simp at ha
  ·exact zD (h3 k hk) a ha
theorem uG: ∀(L:Nat) (e:Expr),((b9 L e).length:Int)≤rW L e
 |0,e=>by simp [b9,rW]
 |L+1,e=>by
  have h: ∀(l:List Expr),((l.flatMap (b9 L)).length:Int)≤(l.map (rW L)).sum:=by
   intro l
   induction l with
   |nil=>simp
   |cons k l ih=>
    have:=uG L k
    simp only [List.flatMap_cons,List.length_append,List.map_cons,List.sum_cons];omega
  have:=h e.kids
  simp only [b9,rW,List.length_append]
  split
  ·rw [List.length_singleton];omega
  ·rw [List.length_nil];omega
theorem vX{d:Int}: ∀(L n:Nat) (e:Expr),6000+L≤n→L≤5→dE L e d=true→i_reads (n+1) e=some (b9 L e)
 |0,n,e,_,_,h=>by cases h
 |L+1,n,e,hn,hL,h=>by
  obtain⟨h1,h2,h3⟩:=jB h
  have hk2:=nS e.kind
  unfold i_reads
  refine Ev.eq (aG (fun h3k=>Ev.some ?_) (fun hn3=> ?_))
  ·have:e.kids=[]:=by
    have hz:gU e.kind=0:=by unfold gU;rw [if_pos (Or.inr (Or.inr h3k))]
    exact List.eq_nil_of_length_eq_zero (by omega)
   simp [b9,h3k,this]
  ·obtain⟨n,rfl⟩: ∃j,n=j+1:=⟨n-1,by omega⟩
   have hcb: ∀k∈e.kids,((b9 L k).length:Int)≤100:=fun k hk=>by
    have h5:=aA0 (h3 k hk)
    have h6:(2:Int)^L≤40:=by
     match L,hL with
     |0,_=>decide
     |1,_=>decide
     |2,_=>decide
     |3,_=>decide
     |4,_=>decide
    have:=uG L k
    omega
   refine Ev.loop (fun x:List Access×Int=> ∃i:Nat,x.2=i∧i≤e.kids.length∧x.1=(e.kids.take i).flatMap (b9 L)∧(x.1.length:Int)≤100*i) (fun x=>e.kids.length-x.2.toNat) ?_ (n+1) _ ⟨0,rfl,by omega,by simp,by simp⟩ (by simp;omega)
   rintro again ⟨x,k⟩ ⟨i,hk,hi,hx,hxl⟩ hr
   dsimp only at hk hx hxl⊢
   subst hk
   refine aG (fun hlt=> ?_) (fun hge=>Ev.some ?_)
   ·have hk3:=List.getElem?_eq_getElem (show i<e.kids.length by omega)
    have hm:=List.mem_of_getElem? hk3
    have hb:=hcb _ hm
    refine aA (aN hk3) (aA (vX (d:=d) L n _ (by omega) (by omega) (h3 _ hm)) (aA (bM (by omega)) ?_))
    rw [aK (by omega)]
    refine hr _ ⟨i+1,by dsimp only;omega,by omega,?_,by dsimp only;rw [List.length_append];omega⟩ (by dsimp only;omega)
    dsimp only
    rw [List.take_add_one,hk3,List.flatMap_append,hx];simp
   ·have:i=e.kids.length:=by omega
    rw [hx,this,List.take_length]
    simp [b9,hn3]
theorem P1(n:Nat){a:Affine}(h:a.coefs.length≤1000):fA n a=some a:=by
 unfold fA
 refine Ev.eq (aG (fun h0=>Ev.some ?_) (fun h0=>aA (fR _ h) (Ev.some rfl)))
 obtain⟨cs,c⟩:=a
 have:cs=[]:=List.eq_nil_of_length_eq_zero (by simpa using h0)
 subst this;rfl
theorem wB{n:Nat}(hn:5000≤n){a:Access}(h:G0 a.subs):d8 n a=some a:=by
 obtain⟨h0,h1⟩:=h
 refine Ev.eq ?_
 unfold d8
 refine Ev.loop (fun x:List Affine×Int=> ∃i:Nat,x.2=i∧i≤a.subs.length∧x.1=a.subs.take i) (fun x=>a.subs.length-x.2.toNat) ?_ n _ ⟨0,rfl,by omega,by simp⟩ (by simp;omega)
 rintro again ⟨x,k⟩ ⟨i,hk,hi,hx⟩ hr
 dsimp only at hk hx⊢
 subst hk
 refine aG (fun hlt=> ?_) (fun hge=>Ev.some ?_)
 ·have hs:=List.getElem?_eq_getElem (show i<a.subs.length by omega)
  have hl:x.length=i:=by rw [hx,List.length_take];omega
  refine aA (aN hs) (aA (P1 n (h1 _ (List.mem_of_getElem? hs))) (aA (bM (by simp;omega)) ?_))
  rw [aK (by omega)]
  refine hr _ ⟨i+1,by dsimp only;omega,by omega,?_⟩ (by dsimp only;omega)
  dsimp only
  rw [List.take_add_one,hs,hx];rfl
 ·have:i=a.subs.length:=by omega
  rw [hx,this,List.take_length]
theorem aJI{l:List Affine}(h1:l.length≤2)(h2: ∀a∈l,b7 a=true):G0 l:=⟨by omega,fun a ha=>by have:=(iJ (h2 a ha)).1;unfold SmA;omega⟩
theorem I8{d:Int}: ∀(L n:Nat) (e:Expr) (out:List Access),6000+L≤n→L≤5→dE L e d=true→(out.length:Int)≤1000+200*(6-(L:Int))→s_l3Reads (n+1) out e=some (out++b9 L e)
 |0,n,e,out,_,_,h,_=>by cases h
 |L+1,n,e,out,hn,hL,h,ho=>by
  obtain⟨h1,h2,h3⟩:=jB h
  have hk2:=nS e.kind
  unfold s_l3Reads
  refine Ev.eq (Ev.jn (fun z=>z=out++(if e.kind=3 then [e.read] else [])) (fun j hj=>aG (fun h3k=> ?_) (fun hn3=>hj _ (by rw [if_neg hn3];simp))) (fun z hz=> ?_))
  ·have ha:=zD h e.read (by simp [b9,h3k])
   obtain⟨_,b1,b2⟩:=t2 ha
   exact aA (wB (by omega) (aJI b1 b2)) (aA (bM (by simp;omega)) (hj _ (by rw [if_pos h3k])))
  ·subst hz
   obtain⟨n,rfl⟩: ∃j,n=j+1:=⟨n-1,by omega⟩
   by_cases h3k:e.kind=3
   ·have hnil:e.kids=[]:=by
     have hz:gU e.kind=0:=by unfold gU;rw [if_pos (Or.inr (Or.inr h3k))]
     exact List.eq_nil_of_length_eq_zero (by omega)
    rw [hnil]
    refine Ev.some ?_
    simp [b9,h3k,hnil]
   ·have hcb: ∀k∈e.kids,((b9 L k).length:Int)≤100:=fun k hk=>by
     have h5:=aA0 (h3 k hk)
     have h6:(2:Int)^L≤40:=by
      match L,hL with
      |0,_=>decide
      |1,_=>decide
      |2,_=>decide
      |3,_=>decide
      |4,_=>decide
     have:=uG L k
     omega
    rw [if_neg h3k,List.append_nil]
    refine Ev.loop (fun x:List Access×Int=> ∃i:Nat,x.2=i∧i≤e.kids.length∧x.1=out++(e.kids.take i).flatMap (b9 L)∧(x.1.length:Int)≤out.length+100*i) (fun x=>e.kids.length-x.2.toNat) ?_ (n+1) _ ⟨0,rfl,by omega,by simp,by simp⟩ (by simp;omega)
    rintro again ⟨x,k⟩ ⟨i,hk,hi,hx,hxl⟩ hr
    dsimp only at hk hx hxl⊢
    subst hk
    refine aG (fun hlt=> ?_) (fun hge=>Ev.some ?_)
    ·have hk3:=List.getElem?_eq_getElem (show i<e.kids.length by omega)
     have hm:=List.mem_of_getElem? hk3
     have hb:=hcb _ hm
     refine aA (aN hk3) (aA (I8 (d:=d) L n _ x (by omega) (by omega) (h3 _ hm) (by omega)) ?_)
     rw [aK (by omega)]
     refine hr _ ⟨i+1,by dsimp only;omega,by omega,?_,by dsimp only;rw [List.length_append];omega⟩ (by dsimp only;omega)
     dsimp only
     rw [List.take_add_one,hk3,List.flatMap_append,hx];simp
    ·have:i=e.kids.length:=by omega
     rw [hx,this,List.take_length]
     simp [b9,h3k]
theorem aGX{nest:List Loop}(hf:Fit nest): ∀(ls:List Loop) (k:Nat) (p q:List Int),nest.drop k=ls→k≤nest.length→o9 k p→q∈pts ls p→o9 nest.length q
 | [],k,p,q,hd,hk,hp,hq=>by
  have:=xU hd hk
  simp only [pts,List.mem_singleton] at hq
  subst hq;subst this;exact hp
 |l::ls,k,p,q,hd,hk,hp,hq=>by
  obtain⟨d1,d2,d3⟩:=uO hd
  obtain⟨s1,s2⟩:=hf.2 k l d1
  have hf1:=hf.1
  simp only [pts,List.mem_flatMap] at hq
  obtain⟨v,hv,hq⟩:=hq
  exact aGX hf ls (k+1) _ q d2 (by omega) (G3 s1 s2 hp (by omega) (aAt.1 hv)) hq
theorem aCQ{nest:List Loop}{ps:List (List Int)}(h:NP nest=some ps):Fit nest∧ps.length≤120∧(∀q∈ps,o9 nest.length q)∧ps=pts nest []∧wk nest []≤1200:=by
 unfold NP at h
 split at h
 ·rename_i hc
  cases h
  have hf:=aAM hc.1
  exact⟨hf,hc.2.2,fun q hq=>aGX hf nest 0 [] q rfl (by omega) pt0 hq,rfl,hc.2.1⟩
 ·cases h
def dG(list:List Arr)(s:Stmt)(q:List Int):Bool:=decide (0≤cQ list s.write q 0)&&(b9 5 s.value).all (fun a=>decide (0≤cQ list a q 0))
theorem lA{s:Stmt}{d:Int}(h:fO s d=true):gM s.write d=true∧dE 5 s.value d=true∧(∀a∈b9 5 s.value,gM a d=true)∧(b9 5 s.value).length≤12:=by
 simp only [fO,Bool.and_eq_true,decide_eq_true_eq] at h
 obtain⟨_,h1,h2,h3⟩:=h
 have:=uG 5 s.value
 exact⟨h1,h2,zD h2,by omega⟩
theorem aBX{n:Nat}(hn:7000≤n){p:Prog}(hl:p.arrays.length≤4)(hd:jH p.arrays){s:Stmt}{d:Int}(hs:fO s d=true){k:Nat}{q:List Int}(hq:o9 k q):fI n p s q=some (dG p.arrays s q):=by
 obtain⟨h1,h2,h3,h4⟩:=lA hs
 obtain⟨n,rfl⟩: ∃j,n=j+1:=⟨n-1,by omega⟩
 refine Ev.eq ?_
 unfold fI
 generalize hT:dG p.arrays s q=T
 unfold dG at hT
 refine Ev.jn (fun z=>z=T) (fun j hj=>aA (uM (by omega) hl hd h1 hq) (aG (fun h=> ?_) (fun h=>hj _ ?_))) (fun z hz=>Ev.some hz)
 ·have hc:=E9 (n:=n+1) (f:=fun q0=>dD (n+1) q0 p q) (p:=fun a=>decide (cQ p.arrays a q 0<0)) (l:=b9 5 s.value)
   (fun a ha=>by unfold dD;rw [uM (by omega) hl hd (h3 a ha) hq];rfl) (by omega) (by omega)
  refine aA (vX (d:=d) 5 n s.value (by omega) (by omega) h2) (aA hc (hj _ ?_))
  rw [←hT,decide_eq_true h,Bool.true_and,List.all_eq_not_any_not]
  congr 1
  apply congrArg (fun f=>List.any (b9 5 s.value) f)
  funext a
  rw [ltd]
 ·rw [←hT,decide_eq_false h];rfl
theorem wZ{n:Nat}(hn:7000≤n){list:List Arr}(hl:list.length≤4)(hd:jH list){s:Stmt}{d:Int}(hs:fO s d=true){k:Nat}{q:List Int}(hq:o9 k q):
  lB n list s q=some (if dG list s q=true then((b9 5 s.value).map (fun a=>cQ list a q 0),cQ list s.write q 0,true) else([],0,false)):=by
 obtain⟨h1,h2,h3,h4⟩:=lA hs
 obtain⟨n,rfl⟩: ∃j,n=j+1:=⟨n-1,by omega⟩
 refine Ev.eq ?_
 unfold lB
 refine aA (I8 (d:=d) 5 n s.value [] (by omega) (by omega) h2 (by simp)) ?_
 rw [List.nil_append]
 generalize hR:b9 5 s.value=R at*
 have hco:dG list s q=(decide (0≤cQ list s.write q 0)&&R.all (fun a=>decide (0≤cQ list a q 0))):=by unfold dG;rw [hR]
 refine Ev.loop (fun x:List Int×Int=> ∃i:Nat,x.2=i∧i≤R.length∧x.1=(R.take i).map (fun a=>cQ list a q 0)∧ ∀(t:Nat) a,t<i→R[t]? =some a→0≤cQ list a q 0) (fun x=>R.length-x.2.toNat) ?_ (n+1) _ ⟨0,rfl,by omega,by simp,fun t a h=>by omega⟩ (by dsimp only;omega)
 rintro again ⟨x,z⟩ ⟨i,hz,hi,hx,ha⟩ hr
 dsimp only at hz hx ha⊢
 subst hz
 refine aG (fun hlt=> ?_) (fun hge=> ?_)
 ·have hg:=List.getElem?_eq_getElem (show i<R.length by omega)
  have hm:=List.mem_of_getElem? hg
  refine aA (aN hg) (aA (V8 (by omega) hl hd (h3 _ hm) hq) (aG (fun hneg=>Ev.some ?_) (fun hpos=> ?_)))
  ·rw [if_neg]
   rw [hco]
   intro h
   rw [Bool.and_eq_true] at h
   have:=List.all_eq_true.1 h.2 _ hm
   rw [decide_eq_true_eq] at this
   omega
  ·have hl2:x.length≤12:=by rw [hx,List.length_map,List.length_take];omega
   refine aA (bM (by simp;omega)) ?_
   rw [aK (by omega)]
   refine hr _ ⟨i+1,by dsimp only;omega,by omega,?_,fun t a ht hta=> ?_⟩ (by dsimp only;omega)
   ·dsimp only
    rw [List.take_add_one,hg,List.map_append,hx];rfl
   ·by_cases hti:t=i
    ·subst hti;rw [hg] at hta;cases hta;omega
    ·exact ha t a (by omega) hta
 ·have hie:i=R.length:=by omega
  have hall:R.all (fun a=>decide (0≤cQ list a q 0))=true:=List.all_eq_true.2 (fun a hm=>by
   obtain⟨t,ht⟩:=List.getElem?_of_mem hm
   have:=(List.getElem?_eq_some_iff.1 ht).1
   exact decide_eq_true (ha t a (by omega) ht))
  rw [hco,hall,Bool.and_true]
  refine aA (V8 (by omega) hl hd h1 hq) (aG (fun hneg=>Ev.some ?_) (fun hpos=>Ev.some ?_))
  ·rw [if_neg (by rw [decide_eq_true_eq];omega)]
  ·rw [if_pos (by rw [decide_eq_true_eq];omega),hx,hie,List.take_length]
def ptV(q:List Int):Bool:=decide (q.length≤4)&&q.all (fun x=>decide (-9999≤x∧x≤9999))
theorem aAH{n:Nat}(hn:5000≤n){q:List Int}(h:q.length≤1000):pV n q=some (ptV q):=by
 unfold pV ptV
 have hc:=q9 (n:=n) (f:=fun q0=>jY n q0) (p:=fun x=> !decide (-9999≤x∧x≤9999)) (l:=q) (fun x _=>by unfold jY;rw [dN];rfl) (by omega) (by omega)
 simp only [jn,Option.bind]
 rw [hc]
 have e:(q.any fun x=> !decide (-9999≤x∧x≤9999))= !(q.all fun x=>decide (-9999≤x∧x≤9999)):=by rw [List.all_eq_not_any_not];simp
 rw [e,show decide ((q.length:Int)≤4)=decide (q.length≤4) from decide_eq_decide.2 (by omega)]
 cases decide (q.length≤4)<;>simp
theorem aAp{n:Nat}(hn:5000≤n){q:List Int}(h:q.length≤1000):pJ n q=some (ptV q):=by
 refine Ev.eq ?_
 unfold pJ
 refine m5 (l:=q) (p:=fun _ x=>decide (-9999≤x∧x≤9999)) (by omega) (by omega) (fun again i x hx hgo hno=> ?_) (fun again hall=> ?_) (fun⟨i,x,hx,hp⟩=> ?_)
 ·have hi:=(List.getElem?_eq_some_iff.1 hx).1
  rw [decide_eq_true (show(i:Int)<(q.length:Int) by omega)]
  refine bW (aA (aN hx) (aA (sH n x 9999 (by omega)) ?_))
  cases hp:decide (-9999≤x∧x≤9999) with
  |true=>show Ev (again _) _;rw [aK (by omega)];exact hgo hp
  |false=>exact Ev.some (hno hp)
 ·rw [decide_eq_false (show¬(q.length:Int)<(q.length:Int) by omega)]
  refine Ev.some ?_
  unfold ptV
  rw [List.all_eq_true.2 (fun c hc=>by obtain⟨i,hi⟩:=List.getElem?_of_mem hc;exact hall i c hi),Bool.and_true]
  exact decide_eq_decide.2 (by omega)
 ·unfold ptV
  rw [List.all_eq_false.2 ⟨x,List.mem_of_getElem? hx,by rw [hp];simp⟩,Bool.and_false]
theorem aCJ{α:Type}(p q:α→Bool): ∀l:List α,(l.all p&&l.all q)=l.all (fun x=>p x&&q x)
 | []=>rfl
 |x::l=>by
  simp only [List.all_cons,←aCJ p q l]
  cases p x<;>cases q x<;>cases l.all p<;>cases l.all q<;>rfl
def yP(part:Part):Bool:=decide (1≤part.body.length∧part.body.length≤4)&&part.body.all (fun s=>fO s (part.nest.length:Int))
def dF(part:Part):List (List Int):=(NP part.nest).getD []
def cD(list:List Arr)(part:Part):Bool:=(NP part.nest).isSome&&(yP part&&part.body.all (fun s=>(dF part).all (fun q=>dG list s q&&ptV q)))
def aBc(x:Part):Prop:=SmN x.nest∧x.body.length≤1000∧ ∀s∈x.body,SmS s
def SmP(p:Prog):Prop:=SmR p.arrays∧p.parts.length≤1000∧ ∀x∈p.parts,aBc x
theorem iU{list:List Arr}{x:Part}(h:cD list x=true):NP x.nest=some (dF x)∧(1≤x.body.length∧x.body.length≤4)∧(∀s∈x.body,fO s (x.nest.length:Int)=true)∧ ∀s∈x.body,∀q∈dF x,dG list s q=true∧ptV q=true:=by
 simp only [cD,yP,Bool.and_eq_true,decide_eq_true_eq,List.all_eq_true] at h
 refine⟨?_,h.2.1.1,h.2.1.2,h.2.2⟩
 unfold dF
 cases hn:NP x.nest with
 |none=>rw [hn] at h;simp at h
 |some ps=>rfl
theorem aEq{list:List Arr}(h:iE list=true):list.length≤4∧jH list:=by
 simp only [iE,Bool.and_eq_true,decide_eq_true_eq] at h
 refine⟨h.2,fun x hx=> ?_⟩
 obtain⟨i,hi⟩:=List.getElem?_of_mem hx
 have:=M9 h.1 hi
 simp only [V3,Bool.and_eq_true] at this
 exact this.2.2
theorem sO{n:Nat}(hn:7000≤n){list:List Arr}(hl:list.length≤4)(hd:jH list){x:Part}(hx:aBc x):
  nI n list x=some (if cD list x=true then(((dF x).length:Int)*(x.body.length:Int),true) else(0,false)):=by
 obtain⟨h1,h2,h3⟩:=hx
 refine Ev.eq ?_
 unfold nI
 generalize hT:(if cD list x=true then(((dF x).length:Int)*(x.body.length:Int),true) else((0:Int),false))=T
 refine aA (E4 (by omega) h1) ?_
 have hbad:cD list x=false→((0:Int),false)=T:=fun h=>by rw [←hT,h];rfl
 refine Ev.jn (fun z=>z= !((NP x.nest).isSome&&decide (1≤x.body.length∧x.body.length≤4))) (fun j hj=> ?_) (fun z hz=> ?_)
 ·cases hN:NP x.nest with
  |none=>exact bW (hj _ (by rw [hN];rfl))
  |some ps=>
   refine bT (aG (fun h=>hj _ ?_) (fun h=>hj _ ?_))
   ·rw [hN,decide_eq_false (by omega)];rfl
   ·rw [hN]
    by_cases h4:x.body.length≤4
    ·rw [decide_eq_false (show¬(4:Int)<(x.body.length:Int) by omega),decide_eq_true (by omega)];rfl
    ·rw [decide_eq_true (show(4:Int)<(x.body.length:Int) by omega),decide_eq_false (by omega)];rfl
 subst hz
 cases hN:NP x.nest with
 |none=>exact Ev.some (hbad (by unfold cD;rw [hN];rfl))
 |some ps=>
  obtain⟨hf,hp1,hp2,hp3,hp4⟩:=aCQ hN
  have hpp:dF x=ps:=by unfold dF;rw [hN];rfl
  by_cases hb:1≤x.body.length∧x.body.length≤4
  ·rw [decide_eq_true hb]
   refine bT ?_
   have hok:cD list x=x.body.all (fun s=>fO s (x.nest.length:Int)&&ps.all (fun q=>dG list s q&&ptV q)):=by
    unfold cD yP
    rw [hN,hpp,decide_eq_true hb,Option.isSome_some,Bool.true_and,Bool.true_and]
    exact aCJ _ _ _
   refine Ev.loop (fun y:Int=> ∃i:Nat,y=i∧i≤x.body.length∧ ∀(t:Nat) s,t<i→x.body[t]? =some s→(fO s (x.nest.length:Int)&&ps.all (fun q=>dG list s q&&ptV q))=true) (fun y=>x.body.length-y.toNat) ?_ n _ ⟨0,rfl,by omega,fun t s h=>by omega⟩ (by simp;omega)
   rintro again y ⟨i,rfl,hi,ha⟩ hr
   refine aG (fun hlt=> ?_) (fun hge=>Ev.some ?_)
   ·have hg:=List.getElem?_eq_getElem (show i<x.body.length by omega)
    have hm:=List.mem_of_getElem? hg
    refine aA (aN hg) (aA (tC (by omega) (h3 _ hm) _) ?_)
    cases hsv:fO x.body[i] (x.nest.length:Int) with
    |false=>
     refine bW (Ev.some (hbad ?_))
     rw [hok];exact List.all_eq_false.2 ⟨_,hm,by rw [hsv];simp⟩
    |true=>
     refine bT ?_
     show Ev (aL (fun again9 (x8:Int)=>bif decide (x8<(ps.length:Int)) then _ else _) n 0) _
     refine Ev.loop (fun y:Int=> ∃k:Nat,y=k∧k≤ps.length∧ ∀(t:Nat) q,t<k→ps[t]? =some q→(dG list x.body[i] q&&ptV q)=true) (fun y=>ps.length-y.toNat) ?_ n _ ⟨0,rfl,by omega,fun t s h=>by omega⟩ (by simp;omega)
     rintro again9 y ⟨k,rfl,hk,hak⟩ hr9
     refine aG (fun hlt9=> ?_) (fun hge9=> ?_)
     ·have hgk:=List.getElem?_eq_getElem (show k<ps.length by omega)
      have hmk:=List.mem_of_getElem? hgk
      have hq:=hp2 _ hmk
      have hql:ps[k].length≤1000:=by have:=hq.1;have:=hq.2.1;omega
      refine aA (aN hgk) (aA (wZ (by omega) hl hd hsv hq) (Ev.jn (fun z=>z= !(dG list x.body[i] ps[k]&&ptV ps[k])) (fun j hj=> ?_) (fun z hz=> ?_)))
      ·cases hc:dG list x.body[i] ps[k] with
       |false=>
        rw [hc] at hj
        exact bW (hj _ rfl)
       |true=>
        rw [hc] at hj
        exact bT (aA (aAp (by omega) hql) (hj _ rfl))
      ·subst hz
       cases hc:(dG list x.body[i] ps[k]&&ptV ps[k]) with
       |false=>
        refine Ev.some (hbad ?_)
        rw [hok]
        refine List.all_eq_false.2 ⟨_,hm,?_⟩
        rw [hsv,Bool.true_and]
        rw [List.all_eq_false.2 ⟨_,hmk,by rw [hc];simp⟩];simp
       |true=>
        show Ev (again9 _) _
        rw [aK (by omega)]
        refine hr9 _ ⟨k+1,by omega,by omega,fun t q ht htq=> ?_⟩ (by omega)
        by_cases htk:t=k
        ·subst htk;rw [hgk] at htq;cases htq;exact hc
        ·exact hak t q (by omega) htq
     ·rw [aK (by omega)]
      refine hr _ ⟨i+1,by omega,by omega,fun t s ht hts=> ?_⟩ (by omega)
      by_cases hti:t=i
      ·subst hti;rw [hg] at hts;cases hts
       rw [hsv,Bool.true_and]
       refine List.all_eq_true.2 (fun q hq=> ?_)
       obtain⟨t',ht'⟩:=List.getElem?_of_mem hq
       have:=(List.getElem?_eq_some_iff.1 ht').1
       exact hak t' q (by omega) ht'
      ·exact ha t s (by omega) hts
   ·have hall:cD list x=true:=by
     rw [hok]
     refine List.all_eq_true.2 (fun s hs=> ?_)
     obtain⟨t,ht⟩:=List.getElem?_of_mem hs
     have:=(List.getElem?_eq_some_iff.1 ht).1
     exact ha t s (by omega) ht
    rw [←hT,hall,if_pos rfl,hpp]
    show(wr ((ps.length:Int)*(x.body.length:Int)),true)=_
    have hb1:(0:Int)≤(ps.length:Int)*(x.body.length:Int):=Int.mul_nonneg (by omega) (by omega)
    have hb2:(ps.length:Int)*(x.body.length:Int)≤120*4:=Int.mul_le_mul (by omega) (by omega) (by omega) (by omega)
    rw [aK (by omega)]
  ·rw [decide_eq_false hb]
   refine Ev.some (hbad ?_)
   unfold cD yP
   rw [decide_eq_false hb];simp
def fZ(x:Part):Int:=((dF x).length:Int)*(x.body.length:Int)
def instP(i:Nat)(x:Part):List Inst:=(dF x).flatMap fun q=>(List.range x.body.length).map fun(k:Nat)=>(⟨(i:Int),(k:Int),q⟩:Inst)
def insts(ps:List Part):List Inst:=ps.zipIdx.flatMap fun y=>instP y.2 y.1
def qK(p:Prog):Bool:=iE p.arrays&&(decide (p.parts.length≤4)&&p.parts.all (cD p.arrays))
def bQ(p:Prog):Bool:=qK p&&decide ((p.parts.map fZ).sum≤120)
theorem insts_snoc(l:List Part)(x:Part):insts (l++[x])=insts l++instP l.length x:=by
 unfold insts
 rw [List.zipIdx_append,List.flatMap_append]
 simp
theorem insts_take{l:List Part}{i:Nat}{x:Part}(h:l[i]? =some x):insts (l.take (i+1))=insts (l.take i)++instP i x:=by
 have hi:=(List.getElem?_eq_some_iff.1 h).1
 rw [List.take_add_one,h]
 show insts (l.take i++[x])=_
 rw [insts_snoc,List.length_take,Nat.min_eq_left (Nat.le_of_lt hi)]
theorem xS{α β:Type}(f:α→List β)(m:Nat)(h: ∀x,(f x).length=m): ∀l:List α,(l.flatMap f).length=l.length*m
 | []=>by simp
 |x::l=>by rw [List.flatMap_cons,List.length_append,h,xS f m h l,List.length_cons,Nat.add_mul];omega
theorem instP_len(i:Nat)(x:Part):((instP i x).length:Int)=fZ x:=by
 unfold instP fZ
 rw [xS _ x.body.length (fun q=>by simp)]
 exact Int.natCast_mul _ _
theorem aBw{l:List Part}{i:Nat}{x:Part}(h:l[i]? =some x):((l.take (i+1)).map fZ).sum=((l.take i).map fZ).sum+fZ x:=by
 rw [List.take_add_one,h];simp
theorem insts_len: ∀(l:List Part) (i:Nat),i≤l.length→((insts (l.take i)).length:Int)=((l.take i).map fZ).sum
 |l,0,_=>by simp [insts]
 |l,i+1,h=>by
  have hg:=List.getElem?_eq_getElem (show i<l.length by omega)
  rw [insts_take hg,List.length_append,aBw hg]
  have:=insts_len l i (by omega)
  have:=instP_len i l[i]
  omega
theorem insts_len'(l:List Part):((insts l).length:Int)=(l.map fZ).sum:=by
 have:=insts_len l l.length (Nat.le_refl _)
 rwa [List.take_length] at this
theorem A6{list:List Arr}{x:Part}(h:cD list x=true):0≤fZ x∧fZ x≤480:=by
 obtain⟨h1,h2,_⟩:=iU h
 obtain⟨_,h3,_⟩:=aCQ h1
 unfold fZ
 refine⟨Int.mul_nonneg (by omega) (by omega),?_⟩
 have:=Int.mul_le_mul (show((dF x).length:Int)≤120 by omega) (show(x.body.length:Int)≤4 by omega) (by omega) (by omega)
 omega
theorem kE{n:Nat}(hn:7000≤n){p:Prog}(hp:SmP p):dI n p=some (bQ p):=by
 obtain⟨h1,h2,h3⟩:=hp
 refine Ev.eq ?_
 unfold dI
 generalize hT:bQ p=T
 unfold bQ qK at hT
 refine Ev.jn (fun z=>z= !(iE p.arrays&&decide (p.parts.length≤4))) (fun j hj=>aA (S5 (by omega) h1) ?_) (fun z hz=> ?_)
 ·cases ha:iE p.arrays with
  |false=>exact bW (hj _ (by rw [ha];rfl))
  |true=>
   refine bT (hj _ ?_)
   rw [ha]
   by_cases h4:p.parts.length≤4
   ·rw [decide_eq_false (show¬(4:Int)<(p.parts.length:Int) by omega),decide_eq_true h4];rfl
   ·rw [decide_eq_true (show(4:Int)<(p.parts.length:Int) by omega),decide_eq_false h4];rfl
 subst hz
 cases hb:(iE p.arrays&&decide (p.parts.length≤4)) with
 |false=>
  refine Ev.some ?_
  rw [←hT,←Bool.and_assoc,hb];rfl
 |true=>
  have hT':T=(p.parts.all (cD p.arrays)&&decide ((p.parts.map fZ).sum≤120)):=by rw [←hT,←Bool.and_assoc,hb];rfl
  rw [Bool.and_eq_true,decide_eq_true_eq] at hb
  obtain⟨hl,hd⟩:=aEq hb.1
  refine bT ?_
  refine Ev.loop (fun x:Int×Int=> ∃i:Nat,x.2=i∧i≤p.parts.length∧x.1=((p.parts.take i).map fZ).sum∧0≤x.1∧x.1≤480*i∧ ∀(t:Nat) y,t<i→p.parts[t]? =some y→cD p.arrays y=true) (fun x=>p.parts.length-x.2.toNat) ?_ n _ ⟨0,rfl,by omega,by simp,by simp,by simp,fun t y h=>by omega⟩ (by dsimp only;omega)
  rintro again ⟨x,z⟩ ⟨i,hz,hi,hx,hx0,hx1,ha⟩ hr
  dsimp only at hz hx hx0 hx1 ha⊢
  subst hz
  refine aG (fun hlt=> ?_) (fun hge=>Ev.some ?_)
  ·have hg:=List.getElem?_eq_getElem (show i<p.parts.length by omega)
   have hm:=List.mem_of_getElem? hg
   refine aA (aN hg) (aA (sO (by omega) hl hd (h3 _ hm)) ?_)
   cases hpo:cD p.arrays p.parts[i] with
   |false=>
    rw [if_neg (by simp)]
    refine Ev.some ?_
    rw [hT',List.all_eq_false.2 ⟨_,hm,by rw [hpo];simp⟩];rfl
   |true=>
    rw [if_pos rfl]
    have hcb:=A6 hpo
    show Ev (again (wr (x+fZ p.parts[i]),wr ((i:Int)+1))) _
    rw [aK (n:=x+fZ p.parts[i]) (by omega),aK (by omega)]
    refine hr _ ⟨i+1,by dsimp only;omega,by omega,by dsimp only;rw [aBw hg];omega,by dsimp only;omega,by dsimp only;omega,fun t y ht hty=> ?_⟩ (by dsimp only;omega)
    by_cases hti:t=i
    ·subst hti;rw [hg] at hty;cases hty;exact hpo
    ·exact ha t y (by omega) hty
  ·have hie:i=p.parts.length:=by omega
   have hall:p.parts.all (cD p.arrays)=true:=List.all_eq_true.2 (fun y hy=>by
    obtain⟨t,ht⟩:=List.getElem?_of_mem hy
    have:=(List.getElem?_eq_some_iff.1 ht).1
    exact ha t y (by omega) ht)
   rw [hT',hall,Bool.true_and,hx,hie,List.take_length]
theorem tF{α:Type}(f:Nat→α)(k:Nat):(List.range (k+1)).map f=(List.range k).map f++[f k]:=by
 rw [List.range_succ,List.map_append];rfl
theorem tJ{n:Nat}(hn:7000≤n){p:Prog}(hp:SmP p):cG n p=some (if qK p=true then(insts p.parts,decide ((insts p.parts).length≤120)) else([],false)):=by
 obtain⟨h1,h2,h3⟩:=hp
 refine Ev.eq ?_
 unfold cG
 generalize hT:(if qK p=true then(insts p.parts,decide ((insts p.parts).length≤120)) else([],false))=T
 have hbad:qK p=false→(([]:List Inst),false)=T:=fun h=>by rw [←hT,h];rfl
 refine Ev.jn (fun z=>z= !(iE p.arrays&&decide (p.parts.length≤4))) (fun j hj=>aA (T5 (by omega) h1) ?_) (fun z hz=> ?_)
 ·cases ha:iE p.arrays with
  |false=>exact bW (hj _ (by rw [ha];rfl))
  |true=>
   refine bT (hj _ ?_)
   rw [ha]
   by_cases h4:p.parts.length≤4
   ·rw [decide_eq_false (show¬(4:Int)<(p.parts.length:Int) by omega),decide_eq_true h4];rfl
   ·rw [decide_eq_true (show(4:Int)<(p.parts.length:Int) by omega),decide_eq_false h4];rfl
 subst hz
 cases hb:(iE p.arrays&&decide (p.parts.length≤4)) with
 |false=>exact Ev.some (hbad (by unfold qK;rw [←Bool.and_assoc,hb];rfl))
 |true=>
  have hall':qK p=p.parts.all (cD p.arrays):=by unfold qK;rw [←Bool.and_assoc,hb];rfl
  rw [Bool.and_eq_true,decide_eq_true_eq] at hb
  obtain⟨hl,hd⟩:=aEq hb.1
  refine bT ?_
  refine Ev.loop (fun x:List Inst×Int=> ∃i:Nat,x.2=i∧i≤p.parts.length∧x.1=insts (p.parts.take i)∧x.1.length≤480*i∧ ∀(t:Nat) y,t<i→p.parts[t]? =some y→cD p.arrays y=true) (fun x=>p.parts.length-x.2.toNat) ?_ n _ ⟨0,rfl,by omega,by simp [insts],by simp,fun t y h=>by omega⟩ (by dsimp only;omega)
  rintro again ⟨x,z⟩ ⟨i,hz,hi,hx,hxl,ha⟩ hr
  dsimp only at hz hx hxl ha⊢
  subst hz
  refine aG (fun hlt=> ?_) (fun hge=>Ev.some ?_)
  ·have hg:=List.getElem?_eq_getElem (show i<p.parts.length by omega)
   have hm:=List.mem_of_getElem? hg
   obtain⟨s1,s2,s3⟩:=h3 _ hm
   generalize hP:p.parts[i]=P at*
   have hpb:cD p.arrays P=false→qK p=false:=fun h=>by rw [hall'];exact List.all_eq_false.2 ⟨_,hm,by rw [h];simp⟩
   refine aA (aN hg) (aA (E8 (by omega) s1) (Ev.jn (fun z=>z= !((NP P.nest).isSome&&yP P)) (fun j hj=> ?_) (fun z hz=> ?_)))
   ·cases hN:NP P.nest with
    |none=>exact bW (hj _ (by rw [hN];rfl))
    |some ps=>
     refine bT ?_
     have hw:cB n (P.body.length:Int) 1 4=some (decide (1≤P.body.length∧P.body.length≤4)):=by
      rw [dN];congr 1;exact decide_eq_decide.2 (by omega)
     refine aA hw ?_
     have hc:=T8 (n:=n) (f:=fun q0=>cH n q0 P) (p:=fun s=> !fO s (P.nest.length:Int)) (l:=P.body) (fun s hs=>by unfold cH;rw [N4 (by omega) (s3 s hs)];rfl) (by omega) (by omega)
     have e:(P.body.any fun s=> !fO s (P.nest.length:Int))= !(P.body.all fun s=>fO s (P.nest.length:Int)):=by rw [List.all_eq_not_any_not];simp
     cases hw2:decide (1≤P.body.length∧P.body.length≤4) with
     |false=>exact bW (hj _ (by unfold yP;rw [hN,hw2];rfl))
     |true=>exact bT (aA hc (hj _ (by unfold yP;rw [hN,hw2,e];rfl)))
   subst hz
   cases hN:NP P.nest with
   |none=>exact Ev.some (hbad (hpb (by unfold cD;rw [hN];rfl)))
   |some ps=>
    obtain⟨hf,hp1,hp2,hp3,hp4⟩:=aCQ hN
    have hpp:dF P=ps:=by unfold dF;rw [hN];rfl
    cases hbv:yP P with
    |false=>exact Ev.some (hbad (hpb (by unfold cD;rw [hbv];simp)))
    |true=>
     have hbv':=hbv
     simp only [yP,Bool.and_eq_true,decide_eq_true_eq,List.all_eq_true] at hbv'
     obtain⟨⟨hb1,hb2⟩,hb3⟩:=hbv'
     have hok:cD p.arrays P=P.body.all (fun s=>ps.all (fun q=>dG p.arrays s q&&ptV q)):=by
      unfold cD;rw [hN,hbv,hpp];rfl
     let row:List Int→List Inst:=fun q=>(List.range P.body.length).map fun(k:Nat)=>(⟨(i:Int),(k:Int),q⟩:Inst)
     have hrl: ∀q,(row q).length=P.body.length:=fun q=>by simp [row]
     have hinst:instP i P=ps.flatMap row:=by unfold instP;rw [hpp]
     refine bT ?_
     rw [show(aDT (some ps)).1=ps from rfl]
     refine Ev.loop (fun y:List Inst×Int=> ∃k:Nat,y.2=k∧k≤ps.length∧y.1=x++(ps.take k).flatMap row∧ ∀(t:Nat) q,t<k→ps[t]? =some q→ptV q=true∧ ∀s∈P.body,dG p.arrays s q=true) (fun y=>ps.length-y.2.toNat) ?_ n _ ⟨0,rfl,by omega,by simp,fun t q h=>by omega⟩ (by dsimp only;omega)
     rintro again17 ⟨y,z⟩ ⟨k,hz,hk,hy,hak⟩ hr17
     dsimp only at hz hy hak⊢
     subst hz
     refine aG (fun hlt2=> ?_) (fun hge2=> ?_)
     ·have hgk:=List.getElem?_eq_getElem (show k<ps.length by omega)
      have hmk:=List.mem_of_getElem? hgk
      generalize hQ:ps[k]=Q at*
      have hq:=hp2 _ hmk
      have hql:Q.length≤4:=by have:=hq.1;have:=hq.2.1;omega
      refine aA (aN hgk) (aA (aAH (by omega) (by omega)) ?_)
      have hyl:y.length≤480*4+480:=by
       rw [hy,List.length_append,xS row _ hrl,List.length_take]
       have:min k ps.length*P.body.length≤120*4:=Nat.mul_le_mul (by omega) hb2
       omega
      cases hpv:ptV Q with
      |false=>
       refine bW (Ev.some (hbad (hpb ?_)))
       rw [hok]
       obtain⟨s0,hs0⟩: ∃s0,s0∈P.body:=List.exists_mem_of_length_pos (by omega)
       refine List.all_eq_false.2 ⟨s0,hs0,?_⟩
       rw [List.all_eq_false.2 ⟨Q,hmk,by rw [hpv];simp⟩];simp
      |true=>
       refine bT ?_
       refine Ev.loop (fun u:List Inst×Int=> ∃m:Nat,u.2=m∧m≤P.body.length∧u.1=y++(List.range m).map (fun(k:Nat)=>(⟨(i:Int),(k:Int),Q⟩:Inst))∧ ∀(t:Nat) s,t<m→P.body[t]? =some s→dG p.arrays s Q=true) (fun u=>P.body.length-u.2.toNat) ?_ n _ ⟨0,rfl,by omega,by simp,fun t s h=>by omega⟩ (by dsimp only;omega)
       rintro again23 ⟨u,z⟩ ⟨m,hz,hmm,hu,ham⟩ hr23
       dsimp only at hz hu ham⊢
       subst hz
       refine aG (fun hlt3=> ?_) (fun hge3=> ?_)
       ·have hgm:=List.getElem?_eq_getElem (show m<P.body.length by omega)
        have hmem:=List.mem_of_getElem? hgm
        refine aA (aN hgm) (aA (aBX (by omega) hl hd (hb3 _ hmem) hq) ?_)
        cases hco:dG p.arrays P.body[m] Q with
        |false=>
         refine bW (Ev.some (hbad (hpb ?_)))
         rw [hok]
         refine List.all_eq_false.2 ⟨_,hmem,?_⟩
         rw [List.all_eq_false.2 ⟨Q,hmk,by rw [hco];simp⟩];simp
        |true=>
         have hcl:m_ownClone Q=some Q:=by unfold m_ownClone;rw [if_pos (by omega)]
         have hul:u.length≤480*4+480+4:=by rw [hu];simp;omega
         refine bT (aA hcl (aA (bM (by simp;omega)) ?_))
         rw [aK (by omega)]
         refine hr23 _ ⟨m+1,by dsimp only;omega,by omega,?_,fun t s ht hts=> ?_⟩ (by dsimp only;omega)
         ·dsimp only
          rw [hu,tF,List.append_assoc]
         ·by_cases htm:t=m
          ·subst htm;rw [hgm] at hts;cases hts;exact hco
          ·exact ham t s (by omega) hts
       ·have hme:m=P.body.length:=by omega
        rw [aK (by omega)]
        refine hr17 _ ⟨k+1,by dsimp only;omega,by omega,?_,fun t q ht htq=> ?_⟩ (by dsimp only;omega)
        ·dsimp only
         rw [List.take_add_one,hgk,List.flatMap_append,←List.append_assoc,←hy,hu,hme]
         simp [row]
        ·by_cases htk:t=k
         ·subst htk;rw [hgk] at htq;cases htq
          refine⟨hpv,fun s hs=> ?_⟩
          obtain⟨t',ht'⟩:=List.getElem?_of_mem hs
          have:=(List.getElem?_eq_some_iff.1 ht').1
          exact ham t' s (by omega) ht'
         ·exact hak t q (by omega) htq
     ·have hke:k=ps.length:=by omega
      have hpo:cD p.arrays P=true:=by
       rw [hok]
       refine List.all_eq_true.2 (fun s hs=>List.all_eq_true.2 (fun q hq=> ?_))
       obtain⟨t,ht⟩:=List.getElem?_of_mem hq
       have:=(List.getElem?_eq_some_iff.1 ht).1
       obtain⟨g1,g2⟩:=hak t q (by omega) ht
       rw [g1,g2 s hs];rfl
      have hcb:=A6 hpo
      have hil:=instP_len i P
      rw [aK (by omega)]
      refine hr _ ⟨i+1,by dsimp only;omega,by omega,?_,?_,fun t y ht hty=> ?_⟩ (by dsimp only;omega)
      ·dsimp only
       rw [insts_take hg,hinst,hy,hke,List.take_length,hx]
      ·dsimp only
       rw [hy,hke,List.take_length,List.length_append,←hinst];omega
      ·by_cases hti:t=i
       ·subst hti;rw [hg] at hty;cases hty;exact hpo
       ·exact ha t y (by omega) hty
  ·have hie:i=p.parts.length:=by omega
   have hall:qK p=true:=by
    rw [hall']
    exact List.all_eq_true.2 (fun y hy=>by
     obtain⟨t,ht⟩:=List.getElem?_of_mem hy
     have:=(List.getElem?_eq_some_iff.1 ht).1
     exact ha t y (by omega) ht)
   rw [←hT,if_pos hall,hx,hie,List.take_length]
   congr 1
   exact decide_eq_decide.2 (by omega)
theorem kO{n:Nat}(hn:7000≤n){p:Prog}(hp:SmP p):fJ n p=some (bQ p):=by
 unfold fJ
 rw [tJ hn hp]
 unfold bQ
 cases h:qK p with
 |false=>rfl
 |true=>
  rw [if_pos rfl]
  show some (decide _)=_
  rw [Bool.true_and]
  congr 1
  have:=insts_len' p.parts
  exact decide_eq_decide.2 (by omega)
theorem fV{p:Prog}(h:bQ p=true):p.arrays.length≤4∧jH p.arrays∧p.parts.length≤4∧(∀x∈p.parts,cD p.arrays x=true)∧(insts p.parts).length≤120:=by
 simp only [bQ,qK,Bool.and_eq_true,decide_eq_true_eq,List.all_eq_true] at h
 obtain⟨⟨h1,h2,h3⟩,h4⟩:=h
 obtain⟨a,b⟩:=aEq h1
 have:=insts_len' p.parts
 exact⟨a,b,h2,h3,by omega⟩
theorem s9{n:Nat}(hn:7000≤n){p:Prog}(hv:bQ p=true):gE n p=some (insts p.parts):=by
 obtain⟨hl,hd,h4,hpo,hil⟩:=fV hv
 refine Ev.eq ?_
 unfold gE
 refine Ev.loop (fun x:List Inst×Int=> ∃i:Nat,x.2=i∧i≤p.parts.length∧x.1=insts (p.parts.take i)∧x.1.length≤480*i) (fun x=>p.parts.length-x.2.toNat) ?_ n _ ⟨0,rfl,by omega,by simp [insts],by simp⟩ (by dsimp only;omega)
 rintro again ⟨x,z⟩ ⟨i,hz,hi,hx,hxl⟩ hr
 dsimp only at hz hx hxl⊢
 subst hz
 refine aG (fun hlt=> ?_) (fun hge=>Ev.some ?_)
 ·have hg:=List.getElem?_eq_getElem (show i<p.parts.length by omega)
  have hm:=List.mem_of_getElem? hg
  have hpP:=hpo _ hm
  generalize hP:p.parts[i]=P at*
  obtain⟨q1,q2,q3,q4⟩:=iU hpP
  obtain⟨hf,hp1,hp2,hp3,hp4⟩:=aCQ q1
  generalize hpp:dF P=ps at*
  have hcb:=A6 hpP
  have hil':=instP_len i P
  let row:List Int→List Inst:=fun q=>(List.range P.body.length).map fun(k:Nat)=>(⟨(i:Int),(k:Int),q⟩:Inst)
  have hrl: ∀q,(row q).length=P.body.length:=fun q=>by simp [row]
  have hinst:instP i P=ps.flatMap row:=by unfold instP;rw [hpp]
  refine aA (aN hg) (aI (sI hf P.nest n 0 [] [] (by have:=hf.1;omega) rfl (by omega) pt0 hp4 (by simp)) (fun r ⟨r1,r2⟩=> ?_))
  have hr1:r=ps:=by rw [r1 (by rw [←hp3];simpa using hp1),hp3];rfl
  subst hr1
  refine Ev.loop (fun y:List Inst×Int=> ∃k:Nat,y.2=k∧k≤r.length∧y.1=x++(r.take k).flatMap row) (fun y=>r.length-y.2.toNat) ?_ n _ ⟨0,rfl,by omega,by simp⟩ (by dsimp only;omega)
  rintro again10 ⟨y,z⟩ ⟨k,hz,hk,hy⟩ hr10
  dsimp only at hz hy⊢
  subst hz
  refine aG (fun hlt2=> ?_) (fun hge2=> ?_)
  ·have hgk:=List.getElem?_eq_getElem (show k<r.length by omega)
   have hmk:=List.mem_of_getElem? hgk
   generalize hQ:r[k]=Q at*
   have hq:=hp2 _ hmk
   have hql:Q.length≤4:=by have:=hq.1;have:=hq.2.1;omega
   have hyl:y.length≤480*4+480:=by
    rw [hy,List.length_append,xS row _ hrl,List.length_take]
    have:min k r.length*P.body.length≤120*4:=Nat.mul_le_mul (by omega) q2.2
    omega
   refine Ev.loop (fun u:List Inst×Int=> ∃m:Nat,u.2=m∧m≤P.body.length∧u.1=y++(List.range m).map (fun(k:Nat)=>(⟨(i:Int),(k:Int),Q⟩:Inst))) (fun u=>P.body.length-u.2.toNat) ?_ n _ ⟨0,rfl,by omega,by simp⟩ (by dsimp only;omega)
   rintro again14 ⟨u,z⟩ ⟨m,hz,hmm,hu⟩ hr14
   dsimp only at hz hu⊢
   subst hz
   refine aG (fun hlt3=> ?_) (fun hge3=> ?_)
   ·have hul:u.length≤480*4+480+4:=by rw [hu];simp;omega
    refine aA (aN hgk) (aA (fR _ (by omega)) (aA (bM (by simp;omega)) ?_))
    rw [aK (by omega)]
    refine hr14 _ ⟨m+1,by dsimp only;omega,by omega,?_⟩ (by dsimp only;omega)
    dsimp only
    rw [hu,tF,List.append_assoc]
   ·have hme:m=P.body.length:=by omega
    rw [aK (by omega)]
    refine hr10 _ ⟨k+1,by dsimp only;omega,by omega,?_⟩ (by dsimp only;omega)
    dsimp only
    rw [List.take_add_one,hgk,List.flatMap_append,←List.append_assoc,←hy,hu,hme]
    simp [row]
  ·have hke:k=r.length:=by omega
   rw [aK (by omega)]
   refine hr _ ⟨i+1,by dsimp only;omega,by omega,?_,?_⟩ (by dsimp only;omega)
   ·dsimp only
    rw [insts_take hg,hinst,hy,hke,List.take_length,hx]
   ·dsimp only
    rw [hy,hke,List.take_length,List.length_append,←hinst];omega
 ·have hie:i=p.parts.length:=by omega
  rw [hx,hie,List.take_length]
def uU:Nat→List Arr→List Int→Expr→List Int→Int
 |0,_,_,_,_=>0
 |L+1,list,m,e,q=>
  if e.kind=1 then e.num
  else if e.kind=2 then cJ e.index q%1000
  else if e.kind=3 then m.getD (cQ list e.read q 0).toNat 0
  else match e.kids with
   | [a,b]=>if e.kind=4 then(uU L list m a q+uU L list m b q)%1000 else if e.kind=5 then(uU L list m a q-uU L list m b q)%1000 else(uU L list m a q*uU L list m b q)%1000
   |_=>0
def R9(list:List Arr)(m:List Int):Prop:=(m.length:Int)=u4 list∧ ∀x∈m,0≤x∧x≤999
theorem aKQ{list:List Arr}{m:List Int}(h:R9 list m)(i:Nat):0≤m.getD i 0∧m.getD i 0≤999:=by
 rw [List.getD_eq_getElem?_getD]
 cases hi:m[i]? with
 |none=>simp
 |some x=>exact h.2 x (List.mem_of_getElem? hi)
theorem aKk{list:List Arr}{m:List Int}(hm:R9 list m){d:Int}{q:List Int}: ∀{L:Nat} {e:Expr},dE L e d=true→0≤uU L list m e q∧uU L list m e q≤999
 |0,e,h=>by cases h
 |L+1,e,h=>by
  obtain⟨h1,h2,h3⟩:=jB h
  simp only [uU]
  split
  ·rename_i k1
   unfold fP at h2
   rw [if_neg (by omega),if_neg (by omega),if_pos k1] at h2
   simp only [Bool.and_eq_true,decide_eq_true_eq] at h2
   omega
  ·split
   ·omega
   ·split
    ·exact aKQ hm _
    ·split
     ·split
      ·omega
      ·split<;>omega
     ·omega
def iO(p:Prog)(x:Inst):Prop:= ∃(i k:Nat) (P:Part) (s:Stmt),x.part=i∧x.stmt=k∧p.parts[i]? =some P∧P.body[k]? =some s∧x.point∈dF P
def oU(p:Prog)(x:Inst):Option Stmt:=(p.parts[x.part.toNat]?).bind fun P=>P.body[x.stmt.toNat]?
def rU(p:Prog)(m:List Int)(x:Inst):List Int:=match oU p x with
 |some s=>m.set (cQ p.arrays s.write x.point 0).toNat (uU 5 p.arrays m s.value x.point)
 |none=>m
theorem inst_d{p:Prog}(hv:bQ p=true){x:Inst}(hx:iO p x): ∃(i k:Nat) (P:Part) (s:Stmt) (d:Int),x.part=i∧x.stmt=k∧p.parts[i]? =some P∧P.body[k]? =some s∧oU p x=some s∧fO s d=true∧o9 P.nest.length x.point∧dG p.arrays s x.point=true:=by
 obtain⟨hl,hd,h4,hpo,hil⟩:=fV hv
 obtain⟨i,k,P,s,e1,e2,e3,e4,e5⟩:=hx
 obtain⟨q1,q2,q3,q4⟩:=iU (hpo P (List.mem_of_getElem? e3))
 obtain⟨hf,hp1,hp2,hp3,hp4⟩:=aCQ q1
 have hs:=List.mem_of_getElem? e4
 exact⟨i,k,P,s,_,e1,e2,e3,e4,by unfold oU;rw [e1,e2,Int.toNat_natCast,e3];exact(by rw [Int.toNat_natCast];exact e4),q3 s hs,hp2 _ e5,(q4 s hs _ e5).1⟩
theorem aA1{list:List Arr}{s:Stmt}{q:List Int}(h:dG list s q=true):0≤cQ list s.write q 0∧ ∀a∈b9 5 s.value,0≤cQ list a q 0:=by
 simp only [dG,Bool.and_eq_true,decide_eq_true_eq,List.all_eq_true] at h
 exact h
theorem aEV{α:Type}{l:List α}{c:Int}(h0:0≤c)(h:c.toNat<l.length):ix l c=some l[c.toNat]:=by
 unfold ix;rw [if_pos h0,List.getElem?_eq_getElem h]
theorem aEE{p:Prog}(hv:bQ p=true){m:List Int}(hm:R9 p.arrays m){x:Inst}(hx:iO p x):R9 p.arrays (rU p m x):=by
 obtain⟨i,k,P,s,d,e1,e2,e3,e4,e5,e6,e7,e8⟩:=inst_d hv hx
 unfold rU
 rw [e5]
 refine⟨by rw [List.length_set];exact hm.1,fun v hv'=> ?_⟩
 rcases List.mem_or_eq_of_mem_set hv' with h|h
 ·exact hm.2 v h
 ·rw [h];exact aKk hm (lA e6).2.1
theorem insts_mem{ps:List Part}{x:Inst}(h:x∈insts ps): ∃(i k:Nat) (P:Part) (s:Stmt),x.part=i∧x.stmt=k∧ps[i]? =some P∧P.body[k]? =some s∧x.point∈dF P:=by
 unfold insts at h
 rw [List.mem_flatMap] at h
 obtain⟨⟨P,i⟩,h1,h2⟩:=h
 unfold instP at h2
 rw [List.mem_flatMap] at h2
 obtain⟨q,h3,h4⟩:=h2
 rw [List.mem_map] at h4
 obtain⟨k,h5,rfl⟩:=h4
 have hk:=List.mem_range.1 h5
 exact⟨i,k,P,P.body[k],rfl,rfl,List.mem_zipIdx_iff_getElem?.1 h1,List.getElem?_eq_getElem hk,h3⟩
def jM(p:Prog)(m:List Int)(l:List Inst):List Int:=l.foldl (rU p) m
end Go.Lift
