/- Valid statements. -/
import Derived.Test.YtjmaejilmokdgaaGreatSCore1
set_option maxRecDepth 100000
set_option linter.unusedVariables false
namespace Go.Lift
open Go
def SmE:Nat→Expr→Prop
 |0,_=>True
 |L+1,e=>e.kids.length≤1000∧SmA e.index∧H9 e.read.subs∧ ∀k∈e.kids,SmE L k
def dV:Nat→Expr→Int→Bool
 |0,_,_=>false
 |L+1,e,d=>decide (gS e.kind=e.kids.length)&&(fP e d&&e.kids.all fun k=>dV L k d)
def s8:Nat→Expr→Int
 |0,_=>1
 |L+1,e=>1+(e.kids.map (s8 L)).sum
theorem qM(k:Int):gS k≤2:=by unfold gS;split;omega;split<;>omega
theorem xS(d:Int): ∀(L n:Nat) (e:Expr),5000+L≤n→L≤1000→SmE L e→s_l3Shape (n+1) e d (L:Int)=some (dV L e d)
 |0,n,e,_,_,_=>by unfold s_l3Shape;rfl
 |L+1,n,e,hn,hL,he=>by
  obtain⟨e1,e2,e3,e4⟩:=he;unfold s_l3Shape;refine Ev.eq ?_;refine Ev.jn (fun z=>z= !(decide (gS e.kind=e.kids.length)&&fP e d)) (fun j hj=>aI (fun h=>by omega) fun h=>aA (aCm n _) (eC (fun h=>hj _ ?_) fun h=>aA (aDM (by omega) e2 e3 d) (hj _ ?_))) fun z hz=>?_
  ·rw [decide_eq_false h];rfl
  ·rw [decide_eq_true h];rfl
  subst hz;unfold dV;cases hb:(decide (gS e.kind=e.kids.length)&&fP e d) with
  |false=>exact Ev.some (by rw [←vAY,hb];rfl)
  |true=>
   rw [←vAY,hb,vAO];refine bY ?_;obtain⟨n,rfl⟩: ∃j,n=j+1:=⟨n-1,by omega⟩
   have ew:wr (((L+1:Nat):Int)-1)=(L:Int):=by rw [aO (by omega)];omega
   rw [ew];refine nC (l:=e.kids) (p:=fun _ k=>dV L k d) (by omega) (by omega) (fun again i x hx hgo hno=>?_) (fun again hall=>?_) (fun⟨i,x,hx,hp⟩=>?_)
   ·have hi:=(cP.1 hx).1;rw [decide_eq_true (show(i:Int)<(e.kids.length:Int) by omega)];refine b6 (aA (aT hx) (aA (xS d L n x (by omega) (by omega) (e4 x (dA hx))) ?_));cases hs:dV L x d with
    |true=>show Ev (again _) _;rw [aO (by omega)];exact hgo hs
    |false=>exact Ev.some (hno hs)
   ·rw [decide_eq_false (show¬(e.kids.length:Int)<(e.kids.length:Int) by omega)];refine Ev.some ?_;exact(vAB.2 fun c hc=>by obtain⟨i,hi⟩:=vAC hc;exact hall i c hi).symm
   exact(vAD.2 ⟨x,dA hx,by rw [hp];simp⟩).symm
theorem vC: ∀(L:Nat) (e:Expr),1≤s8 L e
 |0,_=>z8 _
 |L+1,e=>by have:=nO (s8 L) e.kids fun k _=>vC L k;simp only [s8];omega
theorem aAX{α:Type}(f:α→Int)(M:Int): ∀(l:List α),(∀x∈l,f x≤M)→(l.map f).sum≤l.length*M
 | [],_=>by simp
 |x::l,h=>by have h1:=aAX f M l fun y hy=>h y (by simp [hy]);have h2:=h x (by simp);simp only [List.map_cons,List.sum_cons,List.length_cons,Int.natCast_add,Int.add_mul];omega
theorem jT{L:Nat}{e:Expr}{d:Int}(h:dV (L+1) e d=true):gS e.kind=e.kids.length∧fP e d=true∧ ∀k∈e.kids,dV L k d=true:=by simp only [dV,Bool.and_eq_true,decide_eq_true_eq,List.all_eq_true] at h;exact⟨h.1,h.2.1,h.2.2⟩
theorem aBA: ∀{L:Nat} {e:Expr} {d:Int},dV L e d=true→s8 L e+1≤2^L
 |0,e,d,h=>by cases h
 |L+1,e,d,h=>by
  obtain⟨h1,_,h2⟩:=jT h;have h3:=aAX (s8 L) ((2:Int)^L-1) e.kids fun k hk=>by have:=aBA (h2 k hk);omega
  have h4:=qM e.kind;have h5:(e.kids.length:Int)*((2:Int)^L-1)≤2*((2:Int)^L-1):=by
   refine Int.mul_le_mul_of_nonneg_right (by omega) ?_
   have:(0:Int)<2^L:=Int.pow_pos (by omega);omega
  simp only [s8];rw [Int.pow_succ];omega
theorem xU{d:Int}: ∀(L n:Nat) (e:Expr),5000+L≤n→L≤5→dV L e d=true→s_l3Count (n+1) e (L:Int)=some (s8 L e)
 |0,n,e,_,_,h=>by cases h
 |L+1,n,e,hn,hL,h=>by
  obtain⟨h1,_,h2⟩:=jT h;have h4:=qM e.kind;have hb: ∀k∈e.kids,s8 L k≤40:=fun k hk=>by
   have h5:=aBA (h2 k hk);have h6:(2:Int)^L≤40:=by
    match L,hL with
    |0,_=>decide
    |1,_=>decide
    |2,_=>decide
    |3,_=>decide
    |4,_=>decide
   omega
  unfold s_l3Count;refine Ev.eq ?_;obtain⟨n,rfl⟩: ∃j,n=j+1:=⟨n-1,by omega⟩
  have ew:wr (((L+1:Nat):Int)-1)=(L:Int):=by rw [aO (by omega)];omega
  rw [ew];refine Ev.loop (fun x:Int×Int=> ∃i:Nat,x.2=i∧i≤e.kids.length∧x.1=1+((e.kids.take i).map (s8 L)).sum) (fun x=>e.kids.length-x.2.toNat) ?_ (n+1) _ ⟨0,rfl,by omega,by simp⟩ (by simp;omega);rintro again ⟨x,k⟩ ⟨i,hk,hi,hx⟩ hr;dsimp only at hk hx⊢;subst hk;refine Ev.jn (fun z=>z=decide (i<e.kids.length)) (fun j hj=>aI (fun h=>hj _ ?_) fun h=>hj _ ?_) fun z hz=>?_
  ·rw [decide_eq_true (show(0:Int)<((L+1:Nat):Int) by omega),decide_eq_true (by omega)]
  ·rw [decide_eq_false (by omega)]
  subst hz;refine aI (fun hlt=>?_) fun hge=>Ev.some ?_
  ·have hk2:=eD hlt;have hm:=dA hk2;refine aA (aT hk2) (aA (xU (d:=d) L n _ (by omega) (by omega) (h2 _ hm)) ?_);have hs:=aAX (s8 L) 40 (e.kids.take i) fun y hy=>hb y (V6 hy);have hs2:=nO (s8 L) (e.kids.take i) fun y _=>vC L y;have hb2:=hb _ hm;have hb3:=vC L e.kids[i];have hl:((e.kids.take i).length:Int)≤2:=by simp;omega
   rw [aO (n:=x+s8 L e.kids[i]) (by omega),aO (by omega)];refine hr _ ⟨i+1,by dsimp only;omega,by omega,?_⟩ (by dsimp only;omega);dsimp only;rw [K1,hk2,V2,List.sum_append,hx];simp;omega
  have:i=e.kids.length:=by omega
  rw [hx,this,vN];rfl
def aCw(e:Expr):Bool:=(decide (e.kind=1)||decide (e.num=0))&&((decide (e.kind=2)||iX e.index)&&(decide (e.kind=3)||mH e.read))
theorem pN(d:Int): ∀(L n:Nat) (e:Expr) (c:Int),5000+L≤n→L≤5→SmE L e→0≤c→c≤12→
  Ev (i_exprScan (n+1) e d (6-(L:Int)) c) (fun r=>r.1=(dV L e d&&decide (c+s8 L e≤12))∧(r.1=true→r.2=c+s8 L e))
 |0,n,e,c,hn,hL,he,h0,h1=>by
  unfold i_exprScan;refine Ev.jn (fun z=>z=true) (fun j hj=>aI (fun h=>hj _ rfl) fun h=>hj _ (by decide)) fun z hz=>?_;subst hz;exact Ev.some ⟨rfl,fun h=>by cases h⟩
 |L+1,n,e,c,hn,hL,he,h0,h1=>by
  obtain⟨e1,e2,e3,e4⟩:=he;have hcp:=vC (L+1) e;unfold i_exprScan;have ew:wr (c+1)=c+1:=aO (by omega);have ed:wr (6-(((L+1:Nat)):Int)+1)=6-(L:Int):=by rw [aO (by omega)];omega
  rw [ew,ed];refine Ev.jn (fun z=>z=decide (12<c+1)) (fun j hj=>aI (fun h=>hj _ (decide_eq_true h).symm) fun h=>hj _ ?_) fun z hz=>?_
  ·rw [decide_eq_false h,decide_eq_false (by omega)]
  subst hz;refine aI (fun h=>Ev.some ⟨?_,fun h=>by cases h⟩) fun hc=>?_
  ·rw [decide_eq_false (show¬c+s8 (L+1) e≤12 by omega),vBj]
  refine Ev.jn (fun z=>z= !aCw e) (fun j hj=>?_) fun z hz=>?_
  ·rw [W6,W7];unfold aCw at hj;simp only [Option.bind];by_cases k1:e.kind=1
   ·have k2: ¬e.kind=2:=by omega
    have k3: ¬e.kind=3:=by omega
    rw [decide_eq_true k1,decide_eq_false k2,decide_eq_false k3] at*;simp only [Bool.not_true,Bool.not_false,cond_true,cond_false,Bool.true_or,Bool.true_and,Bool.false_or] at*;cases ha:iX e.index with
    |false=>exact hj _ (by rw [ha];rfl)
    |true=>exact hj _ (by rw [ha];rfl)
   rw [decide_eq_false k1] at*;simp only [Bool.not_false,cond_true,Bool.false_or] at*;by_cases hnum:e.num=0
   ·rw [decide_eq_true hnum] at*;simp only [Bool.not_true,cond_false,Bool.true_and] at*;by_cases k2:e.kind=2
    ·have k3: ¬e.kind=3:=by omega
     rw [decide_eq_true k2,decide_eq_false k3] at*;simp only [Bool.not_true,Bool.not_false,cond_true,cond_false,Bool.true_or,Bool.true_and,Bool.false_or] at*;exact hj _ rfl
    rw [decide_eq_false k2] at*;simp only [Bool.not_false,cond_true,Bool.false_or] at*;cases ha:iX e.index with
    |false=>exact hj _ (by rw [ha];rfl)
    |true=>
     by_cases k3:e.kind=3
     ·rw [decide_eq_true k3] at*;exact hj _ (by rw [ha];rfl)
     rw [decide_eq_false k3] at*;exact hj _ (by rw [ha];rfl)
   rw [decide_eq_false hnum] at*;exact hj _ rfl
  subst hz;cases hp:aCw e with
  |false=>
   refine Ev.some ⟨?_,fun h=>by cases h⟩
   have:fP e d=false:=by
    unfold aCw at hp;unfold fP;by_cases k2:e.kind=2
    ·have k1: ¬e.kind=1:=by omega
     have k3: ¬e.kind=3:=by omega
     rw [if_pos k2];rw [decide_eq_true k2,decide_eq_false k1,decide_eq_false k3] at hp;revert hp;cases decide (e.num=0)<;>cases mH e.read<;>simp
    rw [if_neg k2];by_cases k3:e.kind=3
    ·have k1: ¬e.kind=1:=by omega
     rw [if_pos k3];rw [decide_eq_false k2,decide_eq_false k1,decide_eq_true k3] at hp;revert hp;cases decide (e.num=0)<;>cases iX e.index<;>simp
    rw [if_neg k3];rw [decide_eq_false k2,decide_eq_false k3] at hp;by_cases k1:e.kind=1
    ·rw [if_pos k1];rw [decide_eq_true k1] at hp;revert hp;cases iX e.index<;>cases mH e.read<;>simp
    rw [if_neg k1];rw [decide_eq_false k1] at hp;revert hp;cases decide (e.num=0)<;>cases iX e.index<;>cases mH e.read<;>simp
   unfold dV;rw [this];simp
  |true=>
   refine bY ?_;unfold aCw at hp;simp only [Bool.and_eq_true,Bool.or_eq_true,decide_eq_true_eq] at hp;obtain⟨p1,p2,p3⟩:=hp;have leafP: ∀(b:Bool),fP e d=b→gS e.kind=0→ ∀(z:Bool),z=(b&&decide ((e.kids.length:Int)=0))→z=(dV (L+1) e d&&decide (c+s8 (L+1) e≤12))∧(z=true→c+1=c+s8 (L+1) e):=by
    intro b hb hk z hz;unfold dV;rw [hb,hk];by_cases h:e.kids.length=0
    ·have hnil:e.kids=[]:=vAv h;have hcn:s8 (L+1) e=1:=by simp [s8,hnil]
     rw [hcn,decide_eq_true (show c+1≤12 by omega)];rw [decide_eq_true (show(e.kids.length:Int)=0 by omega)] at hz;rw [hz,hnil];simp
    rw [decide_eq_false (show¬(e.kids.length:Int)=0 by omega)] at hz;rw [hz,decide_eq_false (show¬(0:Int)=(e.kids.length:Int) by omega)];simp
   by_cases k1:e.kind=1
   ·have k2: ¬e.kind=2:=by omega
    have k3: ¬e.kind=3:=by omega
    rw [decide_eq_true k1];have hown:fP e d=decide (0≤e.num∧e.num≤99):=by
     unfold fP;rw [if_neg k2,if_neg k3,if_pos k1];rcases p2 with h|h
     ·exact absurd h k2
     rcases p3 with h'|h'
     ·exact absurd h' k3
     rw [h,h'];simp
    refine b6 (Ev.jn (fun z=>z=(decide (0≤e.num∧e.num≤99)&&decide ((e.kids.length:Int)=0))) (fun j hj=>aA (dM n _ _ _) ?_) fun z hz=>Ev.some ?_)
    ·cases hw:decide (0≤e.num∧e.num≤99) with
     |true=>exact hj _ (by rw [hw];rfl)
     |false=>exact hj _ (by rw [hw];rfl)
    exact leafP _ hown (by unfold gS;rw [if_pos (Or.inl k1)]) _ hz
   rw [decide_eq_false k1];refine bY ?_;have hnum:e.num=0:=by
    rcases p1 with h|h
    ·exact absurd h k1
    exact h
   by_cases k2:e.kind=2
   ·have k3: ¬e.kind=3:=by omega
    rw [decide_eq_true k2];have hown:fP e d=bZ e.index d:=by
     unfold fP;rw [if_pos k2,decide_eq_true hnum];rcases p3 with h'|h'
     ·exact absurd h' k3
     rw [h'];simp
    refine b6 (Ev.jn (fun z=>z=(bZ e.index d&&decide ((e.kids.length:Int)=0))) (fun j hj=>aA (qU (by omega) _ e2) ?_) fun z hz=>Ev.some ?_)
    ·unfold bZ at hj;cases hw:cZ e.index with
     |false=>exact hj _ (by rw [hw];rfl)
     |true=>
      refine aA (wO (by omega) e2) (aI (fun h=>hj _ ?_) fun h=>hj _ ?_)
      ·rw [hw,decide_eq_true h];rfl
      rw [hw,decide_eq_false h];rfl
    exact leafP _ hown (by unfold gS;rw [if_pos (Or.inr (Or.inl k2))]) _ hz
   rw [decide_eq_false k2];refine bY ?_;have hnaff:iX e.index=true:=by
    rcases p2 with h|h
    ·exact absurd h k2
    exact h
   by_cases k3:e.kind=3
   ·rw [decide_eq_true k3];have hown:fP e d=iI e.read d:=by
     unfold fP;rw [if_neg k2,if_pos k3,decide_eq_true hnum,hnaff];simp
    refine b6 (Ev.jn (fun z=>z=(iI e.read d&&decide ((e.kids.length:Int)=0))) (fun j hj=>aA (vT (by omega) e3 d) ?_) fun z hz=>Ev.some ?_)
    ·cases hw:iI e.read d with
     |false=>exact hj _ (by rw [hw];rfl)
     |true=>exact hj _ (by rw [hw];rfl)
    exact leafP _ hown (by unfold gS;rw [if_pos (Or.inr (Or.inr k3))]) _ hz
   rw [decide_eq_false k3];refine bY ?_;have hown:fP e d=true:=by
    unfold fP;rw [if_neg k2,if_neg k3,if_neg k1,decide_eq_true hnum,hnaff];rcases p3 with h'|h'
    ·exact absurd h' k3
    rw [h'];rfl
   have hop:aBj n e.kind=some (decide (4≤e.kind∧e.kind≤6)):=by unfold aBj;rw [dM];rfl
   have hkn:(gS e.kind=2↔(4≤e.kind∧e.kind≤6))∧(gS e.kind=2∨gS e.kind= -1):=by
    unfold gS;rw [if_neg (by omega)];split<;>omega
   refine Ev.jn (fun z=>z= !(decide (4≤e.kind∧e.kind≤6)&&decide ((e.kids.length:Int)=2))) (fun j hj=>aA hop ?_) fun z hz=>?_
   ·cases hw:decide (4≤e.kind∧e.kind≤6) with
    |false=>exact hj _ (by rw [hw];rfl)
    |true=>exact hj _ (by rw [hw];rfl)
   subst hz;by_cases hk:(4≤e.kind∧e.kind≤6)∧(e.kids.length:Int)=2
   ·rw [decide_eq_true hk.1,decide_eq_true hk.2];refine bY ?_;obtain⟨a,b,hab⟩: ∃a b,e.kids=[a,b]:=by
     have:e.kids.length=2:=by omega
     match hq:e.kids,this with
     | [a,b],_=>exact⟨a,b,rfl⟩
    have hsh:dV (L+1) e d=(dV L a d&&dV L b d):=by
     show(decide (gS e.kind=e.kids.length)&&(fP e d&&e.kids.all fun k=>dV L k d))=_;rw [hown,hab,decide_eq_true (show gS e.kind=(([a,b]:List Expr).length:Int) by rw [hkn.1.2 hk.1];rfl)];simp
    have hcn:s8 (L+1) e=1+(s8 L a+s8 L b):=by simp [s8,hab]
    have ca:=vC L a;have cb:=vC L b;rw [hsh,hcn];obtain⟨n,rfl⟩: ∃j,n=j+1:=⟨n-1,by omega⟩
    refine Ev.jn (fun z:Int×Bool=>z.2=(dV L a d&&dV L b d&&decide (c+(1+(s8 L a+s8 L b))≤12))∧(z.2=true→z.1=c+(1+(s8 L a+s8 L b)))) (fun j hj=>?_) fun z hz=>Ev.some hz;refine aA (x:=a) (by rw [hab];rfl) (aK (pN d L n a (c+1) (by omega) (by omega) (e4 a (by rw [hab];simp)) (by omega) (by omega)) fun r ⟨r1,r2⟩=>?_);cases hr:r.1 with
    |false=>
     refine hj _ ⟨?_,fun h=>by cases h⟩;rw [hr] at r1;show false=_;by_cases hsa:dV L a d=true
     ·rw [hsa,vAO] at r1
      have:=of_decide_eq_false r1.symm;rw [decide_eq_false (show¬c+(1+(s8 L a+s8 L b))≤12 by omega),vBj]
     rw [Bool.eq_false_iff.2 hsa];rfl
    |true=>
     have r2:=r2 hr;rw [hr] at r1;have r1:=r1.symm;rw [vBB,decide_eq_true_eq] at r1;refine aA (x:=b) (by rw [hab];rfl) ?_;rw [r2];refine aK (pN d L n b (c+1+s8 L a) (by omega) (by omega) (e4 b (by rw [hab];simp)) (by omega) (by omega)) fun q ⟨q1,q2⟩=>hj _ ⟨?_,fun h=>?_⟩
     ·show q.1=_;rw [q1,r1.1,vAO];congr 1;exact decide_eq_decide.2 (by omega)
     show q.2=_;rw [q2 h];omega
   have hf:dV (L+1) e d=false:=by
    unfold dV;rw [decide_eq_false (show¬gS e.kind=(e.kids.length:Int) by
     intro h;rcases hkn.2 with h2|h2
     ·exact hk ⟨hkn.1.1 h2,by omega⟩
     omega)]
    rfl
   have:(decide (4≤e.kind∧e.kind≤6)&&decide ((e.kids.length:Int)=2))=false:=by
    by_cases g:4≤e.kind∧e.kind≤6
    ·rw [decide_eq_false (show¬(e.kids.length:Int)=2 from fun h=>hk ⟨g,h⟩),vBj]
    rw [decide_eq_false g];rfl
   rw [this,hf];exact Ev.some ⟨rfl,fun h=>by cases h⟩
def gW(s:Stmt)(d:Int):Bool:=decide (0≤d∧d≤4)&&(iI s.write d&&(dV 5 s.value d&&decide (s8 5 s.value≤12)))
def SmS(s:Stmt):Prop:=H9 s.write.subs∧SmE 5 s.value
theorem P8{n:Nat}(hn:6000≤n){s:Stmt}(h:SmS s)(d:Int):pA n s d=some (gW s d):=by
 obtain⟨n,rfl⟩: ∃j,n=j+1:=⟨n-1,by omega⟩
 refine Ev.eq ?_;unfold pA;generalize hT:gW s d=T;unfold gW at hT;refine Ev.jn (fun z:Int×Bool=>z.2=T) (fun j hj=>aA (dM _ _ _ _) ?_) fun z hz=>Ev.some hz;cases h1:decide (0≤d∧d≤4) with
 |false=>exact hj (0,false) (by rw [←hT,h1];rfl)
 |true=>
  refine b6 (aA (vT (by omega) h.1 d) ?_);cases h2:iI s.write d with
  |false=>exact hj (0,false) (by rw [←hT,h1,h2];rfl)
  |true=>
   refine b6 (aK (pN d 5 n s.value 0 (by omega) (by omega) h.2 (by omega) (by omega)) fun r ⟨r1,r2⟩=>hj _ ?_);rw [←hT,h1,h2];show r.1=_;rw [r1];simp
theorem tP{n:Nat}(hn:6000≤n){s:Stmt}(h:SmS s)(d:Int):jN n s d=some (gW s d):=by
 obtain⟨n,rfl⟩: ∃j,n=j+1:=⟨n-1,by omega⟩
 refine Ev.eq ?_;unfold jN;generalize hT:gW s d=T;generalize hB:(decide (0≤d∧d≤4)&&(iI s.write d&&dV 5 s.value d))=B;have hTB:T=(B&&decide (s8 5 s.value≤12)):=by rw [←hT,←hB];unfold gW;simp only [Bool.and_assoc]
 refine Ev.jn (fun z=>z= !B) (fun j hj=>aI (fun h=>hj _ ?_) fun h0=>aI (fun h=>hj _ ?_) fun h4=>aA (vP (by omega) h.1 d) ?_) fun z hz=>?_
 ·rw [←hB,decide_eq_false (show¬(0≤d∧d≤4) by omega)];rfl
 ·rw [←hB,decide_eq_false (show¬(0≤d∧d≤4) by omega)];rfl
 ·rw [decide_eq_true (show 0≤d∧d≤4 by omega)] at hB;cases h2:iI s.write d with
  |false=>exact b6 (hj _ (by rw [←hB,h2];rfl))
  |true=>exact bY (aA (xS d 5 n s.value (by omega) (by omega) h.2) (hj _ (by rw [←hB,h2];rfl)))
 subst hz;cases hb:B with
 |false=>exact Ev.some (by rw [hTB,hb];rfl)
 |true=>
  rw [hb] at hB;simp only [Bool.and_eq_true] at hB;refine bY (aA (xU (d:=d) 5 n s.value (by omega) (by omega) hB.2.2) (Ev.some ?_));rw [hTB,hb];rfl
def iU(ds:List Int):Bool:=decide (1≤ds.length∧ds.length≤2)&&ds.all fun d=>decide (1≤d∧d≤6)
def wH(list:List Arr)(i:Nat)(x:Arr):Bool:=match i with
 |0=>true
 |i+1=>match list[i]? with
  |some y=>Op.bytesLess y.name x.name
  |none=>false
def Y3(list:List Arr)(i:Nat)(x:Arr):Bool:=nT x.name&&(wH list i x&&iU x.dims)
def iH(list:List Arr):Bool:=P5 (Y3 list) list&&decide (list.length≤4)
def SmR(list:List Arr):Prop:=list.length≤1000∧ ∀x∈list,x.dims.length≤1000
theorem E5{list:List Arr}{i:Nat}{x y:Arr}(h:list[i]? =some y):wH list (i+1) x=Op.bytesLess y.name x.name:=by simp only [wH,h]
theorem aIm(ds:List Int):(ds.any fun d=> !decide (1≤d∧d≤6))= !(ds.all fun d=>decide (1≤d∧d≤6)):=by rw [vAT];simp
theorem W8{n:Nat}(hn:6000≤n){list:List Arr}(h:SmR list):sA n list=some (iH list):=by
 obtain⟨h0,h1⟩:=h;refine Ev.eq ?_;unfold sA;refine nC (l:=list) (p:=Y3 list) (by omega) (by omega) (fun again i x hx hgo hno=>?_) (fun again hall=>?_) (fun⟨i,x,hx,hp⟩=>?_)
 ·have hi:=(cP.1 hx).1;have hm:=h1 x (dA hx);rw [decide_eq_true (show(i:Int)<(list.length:Int) by omega)];have hd:bW n x.dims (fun q0=>fA n q0)=some (!(x.dims.all fun d=>decide (1≤d∧d≤6))):=by
   rw [←aIm];exact m7 (fun d _=>by unfold fA;rw [dM];rfl) (by omega) (by omega)
  refine b6 (aA (aT hx) (Ev.jn (fun z=>z= !Y3 list i x) (fun j hj=>aA (yU n _) ?_) fun z hz=>?_))
  ·unfold Y3 iU at hj;cases g1:nT x.name with
   |false=>exact b6 (hj _ (by rw [g1];rfl))
   |true=>
    rw [g1] at hj;refine bY ?_;rw [rZ];have hlast:wH list i x=true→Ev (Option.bind (some (decide (1≤x.dims.length∧x.dims.length≤2))) fun x6=>bif !x6 then j true else Option.bind (bW n x.dims fun q0=>fA n q0) fun x7=>j x7) (fun r=>r=iH list):=by
     intro hp;rw [hp] at hj;show Ev (bif _ then _ else _) _;cases g2:decide (1≤x.dims.length∧x.dims.length≤2) with
     |false=>exact b6 (hj _ (by rw [g2];rfl))
     |true=>exact bY (aA hd (hj _ (by rw [g2];rfl)))
    cases i with
    |zero=>exact aI (fun h=>absurd h (by decide)) (fun _=>hlast rfl)
    |succ i=>
     have hy:=eD (show i<list.length by omega);have e:wr (((i+1:Nat):Int)-1)=(i:Int):=by rw [aO (by omega)];omega
     rw [e];refine aI (fun _=>aA (aT hy) ?_) fun h=>absurd (show(0:Int)<((i+1:Nat):Int) by omega) h;have hpp:=E5 (x:=x) hy;cases g3:Op.bytesLess list[i].name x.name with
     |false=>exact b6 (hj _ (by rw [hpp,g3];rfl))
     |true=>exact bY (hlast (by rw [hpp,g3]))
  subst hz;cases hb:Y3 list i x with
  |true=>show Ev (again _) _;rw [aO (by omega)];exact hgo hb
  |false=>exact Ev.some (hno hb)
 ·rw [decide_eq_false (show¬(list.length:Int)<(list.length:Int) by omega)];refine Ev.some ?_;unfold iH;rw [o7 hall,vAO];exact decide_eq_decide.2 (by omega)
 unfold iH;rw [mT hx hp];rfl
theorem aHg(s:List UInt8):(!Op.bytesLess s [68]&& !s==[68])= !(Op.bytesLess s [68]||s==[68]):=by cases Op.bytesLess s [68]<;>cases (s==[68])<;>rfl
theorem V8{n:Nat}(hn:6000≤n){list:List Arr}(h:SmR list):rM n list=some (iH list):=by
 obtain⟨h0,h1⟩:=h;refine Ev.eq ?_;unfold rM;refine nC (l:=list) (p:=Y3 list) (by omega) (by omega) (fun again i x hx hgo hno=>?_) (fun again hall=>?_) (fun⟨i,x,hx,hp⟩=>?_)
 ·have hi:=(cP.1 hx).1;have hm:=h1 x (dA hx);rw [decide_eq_true (show(i:Int)<(list.length:Int) by omega)];refine b6 (aA (aT hx) (Ev.jn (fun z=>z= !(nT x.name&&(wH list i x&&decide (1≤x.dims.length∧x.dims.length≤2)))) (fun j hj=>?_) fun z hz=>?_))
  ·refine eC (fun hl=>hj _ ?_) fun hl=>?_
   ·rw [wK (by omega)];rfl
   obtain⟨b,hb⟩:=aKS (show x.name.length=1 by omega);rw [aHg];have hless: ∀(y:Arr),Op.bytesLess y.name x.name=Op.bytesLess y.name [b]:=fun y=>by rw [hb]
   have hnm:nT x.name=decide (65≤b.toNat∧b.toNat≤68):=by rw [hb];rfl
   have l1:Op.bytesLess x.name [65]=decide (b.toNat<65):=by rw [hb];exact O5 b
   have l2:(Op.bytesLess x.name [68]||x.name==[68])=decide (b.toNat≤68):=by rw [hb];exact O4 b
   rw [l1,l2];rw [hnm] at hj;refine aI (fun g1=>hj _ ?_) fun g1=>eC (fun g2=>hj _ ?_) fun g2=>?_
   ·rw [decide_eq_false (show¬(65≤b.toNat∧b.toNat≤68) by omega)];rfl
   ·rw [decide_eq_false (show¬(65≤b.toNat∧b.toNat≤68) by omega)];rfl
   rw [decide_eq_true (show 65≤b.toNat∧b.toNat≤68 by omega)] at hj;have hlast:wH list i x=true→Ev (bif decide ((x.dims.length:Int)<1) then j true else j (decide ((2:Int)<(x.dims.length:Int)))) (fun r=>r=iH list):=by
    intro hp;rw [hp] at hj;refine aI (fun h=>hj _ ?_) fun h=>hj _ ?_
    ·rw [decide_eq_false (show¬(1≤x.dims.length∧x.dims.length≤2) by omega)];rfl
    by_cases h2:x.dims.length≤2
    ·rw [decide_eq_false (show¬(2:Int)<(x.dims.length:Int) by omega),decide_eq_true (show 1≤x.dims.length∧x.dims.length≤2 by omega)];rfl
    rw [decide_eq_true (show(2:Int)<(x.dims.length:Int) by omega),decide_eq_false (show¬(1≤x.dims.length∧x.dims.length≤2) by omega)];rfl
   cases i with
   |zero=>exact aI (fun h=>absurd h (by decide)) (fun _=>hlast rfl)
   |succ i=>
    have hy:=eD (show i<list.length by omega);have e:wr (((i+1:Nat):Int)-1)=(i:Int):=by rw [aO (by omega)];omega
    rw [e];refine aI (fun _=>aA (aT hy) ?_) fun h=>absurd (show(0:Int)<((i+1:Nat):Int) by omega) h;have hpp:=E5 (x:=x) hy;cases g3:Op.bytesLess list[i].name x.name with
    |false=>exact b6 (hj _ (by rw [hpp,g3];rfl))
    |true=>exact bY (hlast (by rw [hpp,g3]))
  subst hz;cases hb:(nT x.name&&(wH list i x&&decide (1≤x.dims.length∧x.dims.length≤2))) with
  |false=>
   refine Ev.some (hno ?_);unfold Y3 iU;rw [←vAY,←vAY];rw [←vAY] at hb;rw [hb];rfl
  |true=>
   have hap:Y3 list i x=x.dims.all (fun d=>decide (1≤d∧d≤6)):=by
    unfold Y3 iU;rw [←vAY,←vAY];rw [←vAY] at hb;rw [hb];rfl
   refine bY ?_;refine Ev.loop (fun y:Int=> ∃k:Nat,y=k∧k≤x.dims.length∧ ∀(t:Nat) d,t<k→x.dims[t]? =some d→decide (1≤d∧d≤6)=true) (fun y=>x.dims.length-y.toNat) ?_ n _ ⟨0,rfl,by omega,fun t d h=>by omega⟩ (by simp;omega);rintro again8 y ⟨k,rfl,hk,ha⟩ hr;refine aI (fun hlt=>?_) fun hge=>?_
   ·have hd:=eD (show k<x.dims.length by omega);have ek:wr ((k:Int)+1)=((k+1:Nat):Int):=by rw [aO (by omega)];omega
    refine Ev.jn (fun z=>z= !decide (1≤x.dims[k]∧x.dims[k]≤6)) (fun j hj=>aA (aT hd) (aI (fun h=>hj _ ?_) fun h=>hj _ ?_)) fun z hz=>?_
    ·rw [decide_eq_false (by omega)];rfl
    ·by_cases h6:x.dims[k]≤6
     ·rw [decide_eq_false (show¬(6:Int)<x.dims[k] by omega),decide_eq_true (show 1≤x.dims[k]∧x.dims[k]≤6 by omega)];rfl
     rw [decide_eq_true (show(6:Int)<x.dims[k] by omega),decide_eq_false (show¬(1≤x.dims[k]∧x.dims[k]≤6) by omega)];rfl
    subst hz;cases hb2:decide (1≤x.dims[k]∧x.dims[k]≤6) with
    |false=>
     refine Ev.some (hno ?_);rw [hap];exact vAD.2 ⟨_,dA hd,by rw [hb2];simp⟩
    |true=>
     rw [ek];refine hr _ ⟨k+1,rfl,by omega,fun t d ht hd2=>?_⟩ (by omega);by_cases htk:t=k
     ·subst htk;rw [hd] at hd2;cases hd2;exact hb2
     exact ha t d (by omega) hd2
   have e:wr ((i:Int)+1)=(i:Int)+1:=aO (by omega);rw [e];refine hgo ?_;rw [hap];refine vAB.2 fun d hd=>?_;obtain⟨t,ht⟩:=vAC hd
   have:=(cP.1 ht).1;exact ha t d (by omega) ht
 ·rw [decide_eq_false (show¬(list.length:Int)<(list.length:Int) by omega)];refine Ev.some ?_;unfold iH;rw [o7 hall,vAO];exact decide_eq_decide.2 (by omega)
 unfold iH;rw [mT hx hp];rfl
def L1:List Int→Int
 | []=>1
 |d::ds=>d*L1 ds
theorem aEy{ds:List Int}(h:iU ds=true):(∃a,ds=[a]∧1≤a∧a≤6)∨ ∃a b,ds=[a,b]∧(1≤a∧a≤6)∧1≤b∧b≤6:=by
 simp only [iU,Bool.and_eq_true,decide_eq_true_eq,List.all_eq_true] at h;obtain⟨⟨h1,h2⟩,h3⟩:=h
 match ds,h1,h2,h3 with
 | [a],_,_,h3=>exact .inl ⟨a,rfl,h3 a (by simp)⟩
 | [a,b],_,_,h3=>exact .inr ⟨a,b,rfl,h3 a (by simp),h3 b (by simp)⟩
theorem aLW{a b:Int}(ha:1≤a∧a≤6)(hb:1≤b∧b≤6):1≤a*b∧a*b≤36:=by
 constructor
 ·have:=vBo ha.1 hb.1 (by omega) (by omega);omega
 have:=vBo ha.2 hb.2 (by omega) (by omega);omega
theorem L0{ds:List Int}(h:iU ds=true):1≤L1 ds∧L1 ds≤36:=by
 rcases aEy h with ⟨a,rfl,h1⟩|⟨a,b,rfl,h1,h2⟩
 ·simp [L1];omega
 have:=aLW h1 h2;simp [L1];omega
theorem tK{n:Nat}(hn:6000≤n){x:Arr}(h:iU x.dims=true):xN n x=some (L1 x.dims):=by
 obtain⟨n,rfl⟩: ∃j,n=j+3:=⟨n-3,by omega⟩
 unfold xN;rcases aEy h with ⟨a,e,h1⟩|⟨a,b,e,h1,h2⟩
 ·rw [e];have e1:wr a=a:=aO (by omega);simp [aN,ix,L1,e1,show wr 1=1 from aO (by omega)]
 rw [e]
 have:=aLW h1 h2;have e1:wr a=a:=aO (by omega);have e2:wr (a*b)=a*b:=aO (by omega);simp [aN,ix,L1,e1,e2,show wr 1=1 from aO (by omega),show wr 2=2 from aO (by omega)]
theorem aF4{n:Nat}(hn:6000≤n){x:Arr}(h:iU x.dims=true):mZ n x=some (L1 x.dims):=tK hn h
def oO:List Affine→List Int→List Int→Int→Int
 |s::ss,d::ds,p,acc=>if 0≤fD s p∧fD s p<d then oO ss ds p (acc*d+fD s p) else-1
 |_,_,_,acc=>acc
def cY:List Arr→Access→List Int→Int→Int
 | [],_,_,_=> -1
 |x::xs,a,p,base=>if x.name=a.array then(if a.subs.length=x.dims.length then(if oO a.subs x.dims p 0<0 then-1 else base+oO a.subs x.dims p 0) else-1) else cY xs a p (base+L1 x.dims)
def fE(xs:List Arr):Prop:= ∀x∈xs,iU x.dims=true
theorem aL2{ds:List Int}(hd:iU ds=true){ss:List Affine}(hl:ss.length=ds.length)(p:List Int):oO ss ds p 0= -1∨(0≤oO ss ds p 0∧oO ss ds p 0<L1 ds):=by
 rcases aEy hd with ⟨a,rfl,h1⟩|⟨a,b,rfl,h1,h2⟩
 ·match ss,hl with
  | [s],_=>
   simp only [oO,L1,Int.zero_mul,Int.zero_add,Int.mul_one];split<;>omega
 match ss,hl with
 | [s,t],_=>
  simp only [oO,L1,Int.zero_mul,Int.zero_add,Int.mul_one];split
  ·rename_i hs;split
   ·rename_i ht;refine .inr ⟨?_,?_⟩
    ·have:=vBf hs.1 (show 0≤b by omega);omega
    have:=Int.mul_le_mul_of_nonneg_right (show fD s p≤a-1 by omega) (show 0≤b by omega);rw [Int.sub_mul] at this;omega
   exact .inl rfl
  exact .inl rfl
def f0(xs:List Arr):Int:=(xs.map fun x=>L1 x.dims).sum
theorem J3: ∀{xs:List Arr},fE xs→ ∀(a:Access) (p:List Int) (base:Int),0≤base→cY xs a p base= -1∨(base≤cY xs a p base∧cY xs a p base<base+f0 xs)
 | [],_,a,p,base,_=> .inl rfl
 |x::xs,hd,a,p,base,hb=>by
  have hx:=hd x (by simp);have hs:=L0 hx;have hxs:fE xs:=fun y hy=>hd y (by simp [hy]);have ht:0≤f0 xs:=by
   have:=nO (fun x:Arr=>L1 x.dims) xs fun y hy=>(L0 (hxs y hy)).1;unfold f0;omega
  have e:f0 (x::xs)=L1 x.dims+f0 xs:=by simp [f0]
  rw [e];simp only [cY];split
  ·split
   ·rename_i hl;rcases aL2 hx hl p with h|h
    ·rw [if_pos (by omega)];exact .inl rfl
    rw [if_neg (by omega)];exact .inr ⟨by omega,by omega⟩
   exact .inl rfl
  rcases J3 hxs a p (base+L1 x.dims) (by omega) with h|h
  ·exact .inl h
  exact .inr ⟨by omega,by omega⟩
theorem U9{a:Access}{d:Int}(h:iI a d=true):1≤a.subs.length∧a.subs.length≤2∧ ∀x∈a.subs,cZ x=true:=by
 simp only [iI,Bool.and_eq_true,decide_eq_true_eq,List.all_eq_true] at h;refine⟨h.2.2.1,h.2.2.2,fun x hx=>?_⟩
 have:=h.1 x hx;simp only [bZ,Bool.and_eq_true] at this;exact this.1
theorem iC{α:Type}{l:List α}{i:Nat}{x:α}(h:l[i]? =some x):l.drop i=x::l.drop (i+1):=by obtain⟨h1,h2⟩:=cP.1 h;rw [List.drop_eq_getElem_cons h1,h2]
theorem aDm{a d v:Int}(ha:0≤a∧a≤36)(hd:1≤d∧d≤6)(hv:0≤v∧v<d):0≤a*d∧a*d≤216∧0≤a*d+v:=by have h1:=vBf ha.1 (show 0≤d by omega);have h2:=vBo ha.2 hd.2 (by omega) (by omega);omega
theorem aHw{n:Nat}(hn:6000≤n){a:Access}(h1:a.subs.length≤2)(h2: ∀x∈a.subs,cZ x=true){ds:List Int}(hd:iU ds=true)(hl:a.subs.length=ds.length){k:Nat}{p:List Int}(hp:nD k p)(base:Int)(hb:0≤base∧base≤1000000):
  aN (fun again8 ((x6,x7):Int×Int)=>bif decide (x7<(a.subs.length:Int)) then(Option.bind (ix a.subs x7) fun x9=>Option.bind (cO n x9 p) fun x10=>Option.bind (ix ds x7) fun x11=>Option.bind (b8 n x10 0 (wr (x11-1))) fun x12=>bif !x12 then(some (-1)) else(again8 (wr ((wr (x6*x11))+x10),wr (x7+1)))) else(some (wr (base+x6)))) n (0,0)
   =some (if oO a.subs ds p 0<0 then-1 else base+oO a.subs ds p 0):=by
 have hdm: ∀d∈ds,1≤d∧d≤6:=by
  simp only [iU,Bool.and_eq_true,decide_eq_true_eq,List.all_eq_true] at hd;exact fun d h=>hd.2 d h
 refine Ev.eq ?_;refine Ev.loop (fun x:Int×Int=> ∃i:Nat,x.2=i∧i≤a.subs.length∧0≤x.1∧x.1≤36*i∧(i=0→x.1=0)∧(i=1→x.1≤5)∧oO a.subs ds p 0=oO (a.subs.drop i) (ds.drop i) p x.1) (fun x=>a.subs.length-x.2.toNat) ?_ n _ ⟨0,rfl,by omega,by simp,by simp,fun _=>rfl,fun h=>by omega,rfl⟩ (by simp;omega);rintro again ⟨x,z⟩ ⟨i,hz,hi,hx0,hx1,hx2,hx3,hx⟩ hr;dsimp only at hz hx0 hx1 hx2 hx3 hx⊢;subst hz;refine aI (fun hlt=>?_) fun hge=>Ev.some ?_
 ·have hs:=eD (show i<a.subs.length by omega);have hdd:=eD (show i<ds.length by omega);have hdb:=hdm _ (dA hdd);have ew:wr (ds[i]-1)=ds[i]-1:=aO (by omega);rw [iC hs,iC hdd] at hx;simp only [oO] at hx;refine aA (aT hs) (aA (aF6 (by omega) (h2 _ (dA hs)) hp) (aA (aT hdd) (aA (dM _ _ _ _) ?_)));rw [ew];by_cases hc:0≤fD a.subs[i] p∧fD a.subs[i] p<ds[i]
  ·rw [if_pos hc] at hx;rw [decide_eq_true (show 0≤fD a.subs[i] p∧fD a.subs[i] p≤ds[i]-1 by omega)];obtain⟨g1,g2,g3⟩:=aDm (a:=x) (by omega) hdb hc;refine bY ?_;rw [aO (n:=x*ds[i]) (by omega),aO (n:=x*ds[i]+fD a.subs[i] p) (by omega),aO (by omega)];have hi01:i=0∨i=1:=by omega
   refine hr _ ⟨i+1,by dsimp only;omega,by omega,by dsimp only;omega,?_,fun h=>by omega,fun h=>?_,hx⟩ (by dsimp only;omega)
   ·dsimp only;rcases hi01 with rfl|rfl
    ·rw [hx2 rfl];omega
    have:=hx3 rfl
    have:=vBo this hdb.2 (by omega) (by omega);omega
   dsimp only
   have:i=0:=by omega
   subst this;rw [hx2 rfl];omega
  rw [if_neg hc] at hx;rw [decide_eq_false (show¬(0≤fD a.subs[i] p∧fD a.subs[i] p≤ds[i]-1) by omega)];refine b6 (Ev.some ?_);rw [hx];rfl
 have hie:i=a.subs.length:=by omega
 have hdr:oO (a.subs.drop i) (ds.drop i) p x=x:=by
  rw [hie,vBv];unfold oO;rfl
 rw [hdr] at hx;rw [hx,if_neg (by omega),aO (by omega)]
theorem aG0{n:Nat}(hn:6000≤n){a:Access}(h0:1≤a.subs.length)(h1:a.subs.length≤2)(h2: ∀x∈a.subs,cZ x=true){ds:List Int}(hd:iU ds=true){k:Nat}{p:List Int}(hp:nD k p)(base:Int)(hb:0≤base∧base≤1000000):
  aN (fun again8 ((x6,x7):Int×Int)=>bif decide (x7<(a.subs.length:Int)) then(bif !decide ((a.subs.length:Int)=(ds.length:Int)) then(some (-1)) else(Option.bind (ix a.subs x7) fun x9=>Option.bind (iW n x9 p) fun x10=>jn (fun(x13:Bool)=>bif x13 then(some (-1)) else(Option.bind (ix ds x7) fun x14=>again8 (wr ((wr (x6*x14))+x10),wr (x7+1)))) fun j11=>bif decide (x10<0) then(j11 true) else(Option.bind (ix ds x7) fun x12=>j11 (decide (x12≤x10))))) else(some (wr (base+x6)))) n (0,0)
   =some (if a.subs.length=ds.length then(if oO a.subs ds p 0<0 then-1 else base+oO a.subs ds p 0) else-1):=by
 by_cases hl:a.subs.length=ds.length
 ·rw [if_pos hl];rw [decide_eq_true (show(a.subs.length:Int)=(ds.length:Int) by omega)];have hdm: ∀d∈ds,1≤d∧d≤6:=by
   simp only [iU,Bool.and_eq_true,decide_eq_true_eq,List.all_eq_true] at hd;exact fun d h=>hd.2 d h
  refine Ev.eq ?_;refine Ev.loop (fun x:Int×Int=> ∃i:Nat,x.2=i∧i≤a.subs.length∧0≤x.1∧x.1≤36*i∧(i=0→x.1=0)∧(i=1→x.1≤5)∧oO a.subs ds p 0=oO (a.subs.drop i) (ds.drop i) p x.1) (fun x=>a.subs.length-x.2.toNat) ?_ n _ ⟨0,rfl,by omega,by simp,by simp,fun _=>rfl,fun h=>by omega,rfl⟩ (by simp;omega);rintro again ⟨x,z⟩ ⟨i,hz,hi,hx0,hx1,hx2,hx3,hx⟩ hr;dsimp only at hz hx0 hx1 hx2 hx3 hx⊢;subst hz;refine aI (fun hlt=>?_) fun hge=>Ev.some ?_
  ·have hs:=eD (show i<a.subs.length by omega);have hdd:=eD (show i<ds.length by omega);have hdb:=hdm _ (dA hdd);rw [iC hs,iC hdd] at hx;simp only [oO] at hx;refine bY (aA (aT hs) (aA (aG1 (by omega) (h2 _ (dA hs)) hp) (Ev.jn (fun z=>z= !decide (0≤fD a.subs[i] p∧fD a.subs[i] p<ds[i])) (fun j hj=>aI (fun h=>hj _ ?_) fun h=>aA (aT hdd) (hj _ ?_)) fun z hz=>?_)))
   ·rw [decide_eq_false (by omega)];rfl
   ·by_cases hc:ds[i]≤fD a.subs[i] p
    ·rw [decide_eq_true hc,decide_eq_false (by omega)];rfl
    rw [decide_eq_false hc,decide_eq_true (by omega)];rfl
   subst hz;by_cases hc:0≤fD a.subs[i] p∧fD a.subs[i] p<ds[i]
   ·rw [if_pos hc] at hx;rw [decide_eq_true hc];obtain⟨g1,g2,g3⟩:=aDm (a:=x) (by omega) hdb hc;refine bY (aA (aT hdd) ?_);rw [aO (n:=x*ds[i]) (by omega),aO (n:=x*ds[i]+fD a.subs[i] p) (by omega),aO (by omega)];have hi01:i=0∨i=1:=by omega
    refine hr _ ⟨i+1,by dsimp only;omega,by omega,by dsimp only;omega,?_,fun h=>by omega,fun h=>?_,hx⟩ (by dsimp only;omega)
    ·dsimp only;rcases hi01 with rfl|rfl
     ·rw [hx2 rfl];omega
     have:=hx3 rfl
     have:=vBo this hdb.2 (by omega) (by omega);omega
    dsimp only
    have:i=0:=by omega
    subst this;rw [hx2 rfl];omega
   rw [if_neg hc] at hx;rw [decide_eq_false hc];refine b6 (Ev.some ?_);rw [hx];rfl
  have hie:i=a.subs.length:=by omega
  have hdr:oO (a.subs.drop i) (ds.drop i) p x=x:=by
   rw [hie,vBv];unfold oO;rfl
  rw [hdr] at hx;rw [hx,if_neg (by omega),aO (by omega)]
 rw [if_neg hl,decide_eq_false (show¬(a.subs.length:Int)=(ds.length:Int) by omega)];obtain⟨n,rfl⟩: ∃j,n=j+1:=⟨n-1,by omega⟩
 simp only [aN];rw [decide_eq_true (show(0:Int)<(a.subs.length:Int) by omega)];rfl
theorem nJ{n:Nat}(hn:6000≤n){p:Prog}(hl:p.arrays.length≤4)(hd:fE p.arrays){a:Access}{d:Int}(ha:iI a d=true){k:Nat}{q:List Int}(hq:nD k q):dD n p a q=some (cY p.arrays a q 0):=by
 obtain⟨a0,a1,a2⟩:=U9 ha;refine Ev.eq ?_;unfold dD;refine Ev.loop (fun x:Int×Int=> ∃i:Nat,x.2=i∧i≤p.arrays.length∧0≤x.1∧x.1≤36*i∧cY p.arrays a q 0=cY (p.arrays.drop i) a q x.1) (fun x=>p.arrays.length-x.2.toNat) ?_ n _ ⟨0,rfl,by omega,by simp,by simp,rfl⟩ (by simp;omega);rintro again ⟨x,z⟩ ⟨i,hz,hi,hx0,hx1,hx⟩ hr;dsimp only at hz hx0 hx1 hx⊢;subst hz;refine aI (fun hlt=>?_) fun hge=>Ev.some ?_
 ·have hy:=eD (show i<p.arrays.length by omega);have hdy:=hd _ (dA hy);have hsz:=L0 hdy;rw [iC hy] at hx;simp only [cY] at hx;refine aA (aT hy) (eC (fun hne=>?_) fun he=>?_)
  ·rw [if_neg hne] at hx;refine aA (aF4 hn hdy) ?_;rw [aO (n:=x+L1 p.arrays[i].dims) (by omega),aO (by omega)];exact hr _ ⟨i+1,by dsimp only;omega,by omega,by dsimp only;omega,by dsimp only;omega,hx⟩ (by dsimp only;omega)
  rw [if_pos he] at hx;refine eC (fun hne=>Ev.some ?_) fun hle=>?_
  ·rw [hx,if_neg (by omega)]
  have hle':a.subs.length=p.arrays[i].dims.length:=by omega
  rw [if_pos hle'] at hx;exact Ev.of (aHw hn a1 a2 hdy hle' hq x (by omega)) hx.symm
 have hie:i=p.arrays.length:=by omega
 rw [hx,hie,vBv];rfl
theorem Z4{n:Nat}(hn:6000≤n){list:List Arr}(hl:list.length≤4)(hd:fE list){a:Access}{d:Int}(ha:iI a d=true){k:Nat}{q:List Int}(hq:nD k q):tM n list a q=some (cY list a q 0):=by
 obtain⟨a0,a1,a2⟩:=U9 ha;refine Ev.eq ?_;unfold tM;refine Ev.loop (fun x:Int×Int=> ∃i:Nat,x.2=i∧i≤list.length∧0≤x.1∧x.1≤36*i∧cY list a q 0=cY (list.drop i) a q x.1) (fun x=>list.length-x.2.toNat) ?_ n _ ⟨0,rfl,by omega,by simp,by simp,rfl⟩ (by simp;omega);rintro again ⟨x,z⟩ ⟨i,hz,hi,hx0,hx1,hx⟩ hr;dsimp only at hz hx0 hx1 hx⊢;subst hz;refine aI (fun hlt=>?_) fun hge=>Ev.some ?_
 ·have hy:=eD (show i<list.length by omega);have hdy:=hd _ (dA hy);have hsz:=L0 hdy;rw [iC hy] at hx;simp only [cY] at hx;refine aA (aT hy) (eC (fun hne=>?_) fun he=>?_)
  ·rw [if_neg hne] at hx;refine aA (tK hn hdy) ?_;rw [aO (n:=x+L1 list[i].dims) (by omega),aO (by omega)];exact hr _ ⟨i+1,by dsimp only;omega,by omega,by dsimp only;omega,by dsimp only;omega,hx⟩ (by dsimp only;omega)
  rw [if_pos he] at hx;exact Ev.of (aG0 hn a0 a1 a2 hdy hq x (by omega)) hx.symm
 have hie:i=list.length:=by omega
 rw [hx,hie,vBv];rfl
def cH:Nat→Expr→List Access
 |0,_=>[]
 |L+1,e=>(if e.kind=3 then [e.read] else [])++e.kids.flatMap (cH L)
theorem uV{d:Int}: ∀{L:Nat} {e:Expr},dV L e d=true→ ∀a∈cH L e,iI a d=true
 |0,e,h,a,ha=>by cases h
 |L+1,e,h,a,ha=>by
  obtain⟨h1,h2,h3⟩:=jT h;simp only [cH,List.mem_append,List.mem_flatMap] at ha;rcases ha with ha|⟨k,hk,ha⟩
  ·split at ha
   ·rename_i hk3;simp at ha;subst ha;unfold fP at h2;rw [if_neg (by omega),if_pos hk3] at h2;simp only [Bool.and_eq_true] at h2;exact h2.2.2
   simp at ha
  exact uV (h3 k hk) a ha
theorem uU: ∀(L:Nat) (e:Expr),((cH L e).length:Int)≤s8 L e
 |0,e=>by simp [cH,s8]
 |L+1,e=>by
  have h: ∀(l:List Expr),((l.flatMap (cH L)).length:Int)≤(l.map (s8 L)).sum:=by
   intro l;induction l with
   |nil=>simp
   |cons k l ih=>
    have:=uU L k;simp only [List.flatMap_cons,List.length_append,List.map_cons,List.sum_cons];omega
  have:=h e.kids;simp only [cH,s8,List.length_append];split
  ·rw [List.length_singleton];omega
  rw [List.length_nil];omega
theorem wN{d:Int}: ∀(L n:Nat) (e:Expr),6000+L≤n→L≤5→dV L e d=true→i_reads (n+1) e=some (cH L e)
 |0,n,e,_,_,h=>by cases h
 |L+1,n,e,hn,hL,h=>by
  obtain⟨h1,h2,h3⟩:=jT h;have hk2:=qM e.kind;unfold i_reads;refine Ev.eq (aI (fun h3k=>Ev.some ?_) fun hn3=>?_)
  ·have:e.kids=[]:=by
    have hz:gS e.kind=0:=by unfold gS;rw [if_pos (Or.inr (Or.inr h3k))]
    exact vAv (by omega)
   simp [cH,h3k,this]
  obtain⟨n,rfl⟩: ∃j,n=j+1:=⟨n-1,by omega⟩
  have hcb: ∀k∈e.kids,((cH L k).length:Int)≤100:=fun k hk=>by
   have h5:=aBA (h3 k hk);have h6:(2:Int)^L≤40:=by
    match L,hL with
    |0,_=>decide
    |1,_=>decide
    |2,_=>decide
    |3,_=>decide
    |4,_=>decide
   have:=uU L k;omega
  refine Ev.loop (fun x:List Access×Int=> ∃i:Nat,x.2=i∧i≤e.kids.length∧x.1=(e.kids.take i).flatMap (cH L)∧(x.1.length:Int)≤100*i) (fun x=>e.kids.length-x.2.toNat) ?_ (n+1) _ ⟨0,rfl,by omega,by simp,by simp⟩ (by simp;omega);rintro again ⟨x,k⟩ ⟨i,hk,hi,hx,hxl⟩ hr;dsimp only at hk hx hxl⊢;subst hk;refine aI (fun hlt=>?_) fun hge=>Ev.some ?_
  ·have hk3:=eD (show i<e.kids.length by omega);have hm:=dA hk3;have hb:=hcb _ hm;refine aA (aT hk3) (aA (wN (d:=d) L n _ (by omega) (by omega) (h3 _ hm)) (aA (cD (by omega)) ?_));rw [aO (by omega)];refine hr _ ⟨i+1,by dsimp only;omega,by omega,?_,by dsimp only;rw [pX];omega⟩ (by dsimp only;omega);dsimp only;rw [K1,hk3,vAS,hx];simp
  have:i=e.kids.length:=by omega
  rw [hx,this,vN];simp [cH,hn3]
theorem R6(n:Nat){a:Affine}(h:a.coefs.length≤1000):gY n a=some a:=by
 unfold gY;refine Ev.eq (aI (fun h0=>Ev.some ?_) fun h0=>aA (fI _ h) (Ev.some rfl));obtain⟨cs,c⟩:=a
 have:cs=[]:=vAv (by simpa using h0);subst this;rfl
theorem wR{n:Nat}(hn:5000≤n){a:Access}(h:H9 a.subs):fN n a=some a:=by
 obtain⟨h0,h1⟩:=h;refine Ev.eq ?_;unfold fN;refine Ev.loop (fun x:List Affine×Int=> ∃i:Nat,x.2=i∧i≤a.subs.length∧x.1=a.subs.take i) (fun x=>a.subs.length-x.2.toNat) ?_ n _ ⟨0,rfl,by omega,by simp⟩ (by simp;omega);rintro again ⟨x,k⟩ ⟨i,hk,hi,hx⟩ hr;dsimp only at hk hx⊢;subst hk;refine aI (fun hlt=>?_) fun hge=>Ev.some ?_
 ·have hs:=eD (show i<a.subs.length by omega);have hl:x.length=i:=by rw [hx,pJ];omega
  refine aA (aT hs) (aA (R6 n (h1 _ (dA hs))) (aA (cD (by simp;omega)) ?_));rw [aO (by omega)];refine hr _ ⟨i+1,by dsimp only;omega,by omega,?_⟩ (by dsimp only;omega);dsimp only;rw [K1,hs,hx];rfl
 have:i=a.subs.length:=by omega
 rw [hx,this,vN]
theorem aJU{l:List Affine}(h1:l.length≤2)(h2: ∀a∈l,cZ a=true):H9 l:=⟨by omega,fun a ha=>by have:=(jH (h2 a ha)).1;unfold SmA;omega⟩
theorem L4{d:Int}: ∀(L n:Nat) (e:Expr) (out:List Access),6000+L≤n→L≤5→dV L e d=true→(out.length:Int)≤1000+200*(6-(L:Int))→s_l3Reads (n+1) out e=some (out++cH L e)
 |0,n,e,out,_,_,h,_=>by cases h
 |L+1,n,e,out,hn,hL,h,ho=>by
  obtain⟨h1,h2,h3⟩:=jT h;have hk2:=qM e.kind;unfold s_l3Reads;refine Ev.eq (Ev.jn (fun z=>z=out++(if e.kind=3 then [e.read] else [])) (fun j hj=>aI (fun h3k=>?_) fun hn3=>hj _ (by rw [if_neg hn3];simp)) fun z hz=>?_)
  ·have ha:=uV h e.read (by simp [cH,h3k]);obtain⟨_,b1,b2⟩:=U9 ha;exact aA (wR (by omega) (aJU b1 b2)) (aA (cD (by simp;omega)) (hj _ (by rw [if_pos h3k])))
  subst hz;obtain⟨n,rfl⟩: ∃j,n=j+1:=⟨n-1,by omega⟩
  by_cases h3k:e.kind=3
  ·have hnil:e.kids=[]:=by
    have hz:gS e.kind=0:=by unfold gS;rw [if_pos (Or.inr (Or.inr h3k))]
    exact vAv (by omega)
   rw [hnil];refine Ev.some ?_;simp [cH,h3k,hnil]
  have hcb: ∀k∈e.kids,((cH L k).length:Int)≤100:=fun k hk=>by
   have h5:=aBA (h3 k hk);have h6:(2:Int)^L≤40:=by
    match L,hL with
    |0,_=>decide
    |1,_=>decide
    |2,_=>decide
    |3,_=>decide
    |4,_=>decide
   have:=uU L k;omega
  rw [if_neg h3k,List.append_nil];refine Ev.loop (fun x:List Access×Int=> ∃i:Nat,x.2=i∧i≤e.kids.length∧x.1=out++(e.kids.take i).flatMap (cH L)∧(x.1.length:Int)≤out.length+100*i) (fun x=>e.kids.length-x.2.toNat) ?_ (n+1) _ ⟨0,rfl,by omega,by simp,by simp⟩ (by simp;omega);rintro again ⟨x,k⟩ ⟨i,hk,hi,hx,hxl⟩ hr;dsimp only at hk hx hxl⊢;subst hk;refine aI (fun hlt=>?_) fun hge=>Ev.some ?_
  ·have hk3:=eD (show i<e.kids.length by omega);have hm:=dA hk3;have hb:=hcb _ hm;refine aA (aT hk3) (aA (L4 (d:=d) L n _ x (by omega) (by omega) (h3 _ hm) (by omega)) ?_);rw [aO (by omega)];refine hr _ ⟨i+1,by dsimp only;omega,by omega,?_,by dsimp only;rw [pX];omega⟩ (by dsimp only;omega);dsimp only;rw [K1,hk3,vAS,hx];simp
  have:i=e.kids.length:=by omega
  rw [hx,this,vN];simp [cH,h3k]
theorem aHa{nest:List Loop}(hf:Fit nest): ∀(ls:List Loop) (k:Nat) (p q:List Int),nest.drop k=ls→k≤nest.length→nD k p→q∈pts ls p→nD nest.length q
 | [],k,p,q,hd,hk,hp,hq=>by
  have:=yZ hd hk;simp only [pts,List.mem_singleton] at hq;subst hq;subst this;exact hp
 |l::ls,k,p,q,hd,hk,hp,hq=>by obtain⟨d1,d2,d3⟩:=vA hd;obtain⟨s1,s2⟩:=hf.2 k l d1;have hf1:=hf.1;simp only [pts,List.mem_flatMap] at hq;obtain⟨v,hv,hq⟩:=hq;exact aHa hf ls (k+1) _ q d2 (by omega) (yF s1 s2 hp (by omega) (aA3.1 hv)) hq
theorem aBV{nest:List Loop}{ps:List (List Int)}(h:NP nest=some ps):Fit nest∧ps.length≤120∧(∀q∈ps,nD nest.length q)∧ps=pts nest []∧wk nest []≤1200:=by
 unfold NP at h;split at h
 ·rename_i hc;cases h;have hf:=Q3 hc.1;exact⟨hf,hc.2.2,fun q hq=>aHa hf nest 0 [] q rfl (by omega) pt0 hq,rfl,hc.2.1⟩
 cases h
def dS(list:List Arr)(s:Stmt)(q:List Int):Bool:=decide (0≤cY list s.write q 0)&&(cH 5 s.value).all fun a=>decide (0≤cY list a q 0)
theorem rH{s:Stmt}{d:Int}(h:gW s d=true):iI s.write d=true∧dV 5 s.value d=true∧(∀a∈cH 5 s.value,iI a d=true)∧(cH 5 s.value).length≤12:=by
 simp only [gW,Bool.and_eq_true,decide_eq_true_eq] at h;obtain⟨_,h1,h2,h3⟩:=h
 have:=uU 5 s.value;exact⟨h1,h2,uV h2,by omega⟩
theorem aCG{n:Nat}(hn:7000≤n){p:Prog}(hl:p.arrays.length≤4)(hd:fE p.arrays){s:Stmt}{d:Int}(hs:gW s d=true){k:Nat}{q:List Int}(hq:nD k q):iP n p s q=some (dS p.arrays s q):=by
 obtain⟨h1,h2,h3,h4⟩:=rH hs;obtain⟨n,rfl⟩: ∃j,n=j+1:=⟨n-1,by omega⟩
 refine Ev.eq ?_;unfold iP;generalize hT:dS p.arrays s q=T;unfold dS at hT;refine Ev.jn (fun z=>z=T) (fun j hj=>aA (nJ (by omega) hl hd h1 hq) (aI (fun h=>?_) fun h=>hj _ ?_)) fun z hz=>Ev.some hz
 ·have hc:=H3 (n:=n+1) (f:=fun q0=>eJ (n+1) q0 p q) (p:=fun a=>decide (cY p.arrays a q 0<0)) (l:=cH 5 s.value)
   (fun a ha=>by unfold eJ;rw [nJ (by omega) hl hd (h3 a ha) hq];rfl) (by omega) (by omega)
  refine aA (wN (d:=d) 5 n s.value (by omega) (by omega) h2) (aA hc (hj _ ?_));rw [←hT,decide_eq_true h,vAO,vAT];congr 1;apply congrArg fun f=>List.any (cH 5 s.value) f;funext a;rw [ltd]
 rw [←hT,decide_eq_false h];rfl
theorem aAZ{n:Nat}(hn:7000≤n){list:List Arr}(hl:list.length≤4)(hd:fE list){s:Stmt}{d:Int}(hs:gW s d=true){k:Nat}{q:List Int}(hq:nD k q):
  uO n list s q=some (if dS list s q=true then((cH 5 s.value).map fun a=>cY list a q 0,cY list s.write q 0,true) else([],0,false)):=by
 obtain⟨h1,h2,h3,h4⟩:=rH hs;obtain⟨n,rfl⟩: ∃j,n=j+1:=⟨n-1,by omega⟩
 refine Ev.eq ?_;unfold uO;refine aA (L4 (d:=d) 5 n s.value [] (by omega) (by omega) h2 (by simp)) ?_;rw [List.nil_append];generalize hR:cH 5 s.value=R at*;have hco:dS list s q=(decide (0≤cY list s.write q 0)&&R.all fun a=>decide (0≤cY list a q 0)):=by unfold dS;rw [hR]
 refine Ev.loop (fun x:List Int×Int=> ∃i:Nat,x.2=i∧i≤R.length∧x.1=(R.take i).map (fun a=>cY list a q 0)∧ ∀(t:Nat) a,t<i→R[t]? =some a→0≤cY list a q 0) (fun x=>R.length-x.2.toNat) ?_ (n+1) _ ⟨0,rfl,by omega,by simp,fun t a h=>by omega⟩ (by dsimp only;omega);rintro again ⟨x,z⟩ ⟨i,hz,hi,hx,ha⟩ hr;dsimp only at hz hx ha⊢;subst hz;refine aI (fun hlt=>?_) fun hge=>?_
 ·have hg:=eD (show i<R.length by omega);have hm:=dA hg;refine aA (aT hg) (aA (Z4 (by omega) hl hd (h3 _ hm) hq) (aI (fun hneg=>Ev.some ?_) fun hpos=>?_))
  ·rw [if_neg];rw [hco];intro h;rw [vBB] at h
   have:=vAB.1 h.2 _ hm;rw [decide_eq_true_eq] at this;omega
  have hl2:x.length≤12:=by rw [hx,vAJ,pJ];omega
  refine aA (cD (by simp;omega)) ?_;rw [aO (by omega)];refine hr _ ⟨i+1,by dsimp only;omega,by omega,?_,fun t a ht hta=>?_⟩ (by dsimp only;omega)
  ·dsimp only;rw [K1,hg,V2,hx];rfl
  by_cases hti:t=i
  ·subst hti;rw [hg] at hta;cases hta;omega
  exact ha t a (by omega) hta
 have hie:i=R.length:=by omega
 have hall:R.all (fun a=>decide (0≤cY list a q 0))=true:=vAB.2 (fun a hm=>by
  obtain⟨t,ht⟩:=vAC hm
  have:=(cP.1 ht).1;exact decide_eq_true (ha t a (by omega) ht))
 rw [hco,hall,Bool.and_true];refine aA (Z4 (by omega) hl hd h1 hq) (aI (fun hneg=>Ev.some ?_) fun hpos=>Ev.some ?_)
 ·rw [if_neg (by rw [decide_eq_true_eq];omega)]
 rw [if_pos (by rw [decide_eq_true_eq];omega),hx,hie,vN]
def ptV(q:List Int):Bool:=decide (q.length≤4)&&q.all fun x=>decide (-9999≤x∧x≤9999)
theorem yT{n:Nat}(hn:5000≤n){q:List Int}(h:q.length≤1000):qQ n q=some (ptV q):=by
 unfold qQ ptV;have hc:=m7 (n:=n) (f:=fun q0=>lV n q0) (p:=fun x=> !decide (-9999≤x∧x≤9999)) (l:=q) (fun x _=>by unfold lV;rw [dM];rfl) (by omega) (by omega);simp only [jn,Option.bind];rw [hc];have e:(q.any fun x=> !decide (-9999≤x∧x≤9999))= !(q.all fun x=>decide (-9999≤x∧x≤9999)):=by rw [vAT];simp
 rw [e,show decide ((q.length:Int)≤4)=decide (q.length≤4) from decide_eq_decide.2 (by omega)];cases decide (q.length≤4)<;>simp
theorem aA1{n:Nat}(hn:5000≤n){q:List Int}(h:q.length≤1000):uP n q=some (ptV q):=by
 refine Ev.eq ?_;unfold uP;refine nC (l:=q) (p:=fun _ x=>decide (-9999≤x∧x≤9999)) (by omega) (by omega) (fun again i x hx hgo hno=>?_) (fun again hall=>?_) (fun⟨i,x,hx,hp⟩=>?_)
 ·have hi:=(cP.1 hx).1;rw [decide_eq_true (show(i:Int)<(q.length:Int) by omega)];refine b6 (aA (aT hx) (aA (tI n x 9999 (by omega)) ?_));cases hp:decide (-9999≤x∧x≤9999) with
  |true=>show Ev (again _) _;rw [aO (by omega)];exact hgo hp
  |false=>exact Ev.some (hno hp)
 ·rw [decide_eq_false (show¬(q.length:Int)<(q.length:Int) by omega)];refine Ev.some ?_;unfold ptV;rw [vAB.2 (fun c hc=>by obtain⟨i,hi⟩:=vAC hc;exact hall i c hi),Bool.and_true];exact decide_eq_decide.2 (by omega)
 unfold ptV;rw [vAD.2 ⟨x,dA hx,by rw [hp];simp⟩,vBj]
theorem aDl{α:Type}(p q:α→Bool): ∀l:List α,(l.all p&&l.all q)=l.all (fun x=>p x&&q x)
 | []=>rfl
 |x::l=>by simp only [List.all_cons,←aDl p q l];cases p x<;>cases q x<;>cases l.all p<;>cases l.all q<;>rfl
def zS(part:Part):Bool:=decide (1≤part.body.length∧part.body.length≤4)&&part.body.all fun s=>gW s (part.nest.length:Int)
def cQ(part:Part):List (List Int):=(NP part.nest).getD []
def cK(list:List Arr)(part:Part):Bool:=(NP part.nest).isSome&&(zS part&&part.body.all fun s=>(cQ part).all fun q=>dS list s q&&ptV q)
def aBO(x:Part):Prop:=SmN x.nest∧x.body.length≤1000∧ ∀s∈x.body,SmS s
def SmP(p:Prog):Prop:=SmR p.arrays∧p.parts.length≤1000∧ ∀x∈p.parts,aBO x
theorem lT{list:List Arr}{x:Part}(h:cK list x=true):NP x.nest=some (cQ x)∧(1≤x.body.length∧x.body.length≤4)∧(∀s∈x.body,gW s (x.nest.length:Int)=true)∧ ∀s∈x.body,∀q∈cQ x,dS list s q=true∧ptV q=true:=by
 simp only [cK,zS,Bool.and_eq_true,decide_eq_true_eq,List.all_eq_true] at h;refine⟨?_,h.2.1.1,h.2.1.2,h.2.2⟩;unfold cQ;cases hn:NP x.nest with
 |none=>rw [hn] at h;simp at h
 |some ps=>rfl
theorem aEX{list:List Arr}(h:iH list=true):list.length≤4∧fE list:=by
 simp only [iH,Bool.and_eq_true,decide_eq_true_eq] at h;refine⟨h.2,fun x hx=>?_⟩;obtain⟨i,hi⟩:=vAC hx
 have:=P4 h.1 hi;simp only [Y3,Bool.and_eq_true] at this;exact this.2.2
theorem tL{n:Nat}(hn:7000≤n){list:List Arr}(hl:list.length≤4)(hd:fE list){x:Part}(hx:aBO x):
  qD n list x=some (if cK list x=true then(((cQ x).length:Int)*(x.body.length:Int),true) else(0,false)):=by
 obtain⟨h1,h2,h3⟩:=hx;refine Ev.eq ?_;unfold qD;generalize hT:(if cK list x=true then(((cQ x).length:Int)*(x.body.length:Int),true) else((0:Int),false))=T;refine aA (G8 (by omega) h1) ?_;have hbad:cK list x=false→((0:Int),false)=T:=fun h=>by rw [←hT,h];rfl
 refine Ev.jn (fun z=>z= !((NP x.nest).isSome&&decide (1≤x.body.length∧x.body.length≤4))) (fun j hj=>?_) fun z hz=>?_
 ·cases hN:NP x.nest with
  |none=>exact b6 (hj _ (by rw [hN];rfl))
  |some ps=>
   refine bY (aI (fun h=>hj _ ?_) fun h=>hj _ ?_)
   ·rw [hN,decide_eq_false (by omega)];rfl
   rw [hN];by_cases h4:x.body.length≤4
   ·rw [decide_eq_false (show¬(4:Int)<(x.body.length:Int) by omega),decide_eq_true (by omega)];rfl
   rw [decide_eq_true (show(4:Int)<(x.body.length:Int) by omega),decide_eq_false (by omega)];rfl
 subst hz;cases hN:NP x.nest with
 |none=>exact Ev.some (hbad (by unfold cK;rw [hN];rfl))
 |some ps=>
  obtain⟨hf,hp1,hp2,hp3,hp4⟩:=aBV hN;have hpp:cQ x=ps:=by unfold cQ;rw [hN];rfl
  by_cases hb:1≤x.body.length∧x.body.length≤4
  ·rw [decide_eq_true hb];refine bY ?_;have hok:cK list x=x.body.all (fun s=>gW s (x.nest.length:Int)&&ps.all fun q=>dS list s q&&ptV q):=by
    unfold cK zS;rw [hN,hpp,decide_eq_true hb,Option.isSome_some,vAO,vAO];exact aDl _ _ _
   refine Ev.loop (fun y:Int=> ∃i:Nat,y=i∧i≤x.body.length∧ ∀(t:Nat) s,t<i→x.body[t]? =some s→(gW s (x.nest.length:Int)&&ps.all fun q=>dS list s q&&ptV q)=true) (fun y=>x.body.length-y.toNat) ?_ n _ ⟨0,rfl,by omega,fun t s h=>by omega⟩ (by simp;omega);rintro again y ⟨i,rfl,hi,ha⟩ hr;refine aI (fun hlt=>?_) fun hge=>Ev.some ?_
   ·have hg:=eD (show i<x.body.length by omega);have hm:=dA hg;refine aA (aT hg) (aA (tP (by omega) (h3 _ hm) _) ?_);cases hsv:gW x.body[i] (x.nest.length:Int) with
    |false=>
     refine b6 (Ev.some (hbad ?_));rw [hok];exact vAD.2 ⟨_,hm,by rw [hsv];simp⟩
    |true=>
     refine bY ?_;show Ev (aN (fun again9 (x8:Int)=>bif decide (x8<(ps.length:Int)) then _ else _) n 0) _;refine Ev.loop (fun y:Int=> ∃k:Nat,y=k∧k≤ps.length∧ ∀(t:Nat) q,t<k→ps[t]? =some q→(dS list x.body[i] q&&ptV q)=true) (fun y=>ps.length-y.toNat) ?_ n _ ⟨0,rfl,by omega,fun t s h=>by omega⟩ (by simp;omega);rintro again9 y ⟨k,rfl,hk,hak⟩ hr9;refine aI (fun hlt9=>?_) fun hge9=>?_
     ·have hgk:=eD (show k<ps.length by omega);have hmk:=dA hgk;have hq:=hp2 _ hmk;have hql:ps[k].length≤1000:=by have:=hq.1;have:=hq.2.1;omega
      refine aA (aT hgk) (aA (aAZ (by omega) hl hd hsv hq) (Ev.jn (fun z=>z= !(dS list x.body[i] ps[k]&&ptV ps[k])) (fun j hj=>?_) fun z hz=>?_))
      ·cases hc:dS list x.body[i] ps[k] with
       |false=>
        rw [hc] at hj;exact b6 (hj _ rfl)
       |true=>
        rw [hc] at hj;exact bY (aA (aA1 (by omega) hql) (hj _ rfl))
      subst hz;cases hc:(dS list x.body[i] ps[k]&&ptV ps[k]) with
      |false=>
       refine Ev.some (hbad ?_);rw [hok];refine vAD.2 ⟨_,hm,?_⟩;rw [hsv,vAO];rw [vAD.2 ⟨_,hmk,by rw [hc];simp⟩];simp
      |true=>
       show Ev (again9 _) _;rw [aO (by omega)];refine hr9 _ ⟨k+1,by omega,by omega,fun t q ht htq=>?_⟩ (by omega);by_cases htk:t=k
       ·subst htk;rw [hgk] at htq;cases htq;exact hc
       exact hak t q (by omega) htq
     rw [aO (by omega)];refine hr _ ⟨i+1,by omega,by omega,fun t s ht hts=>?_⟩ (by omega);by_cases hti:t=i
     ·subst hti;rw [hg] at hts;cases hts;rw [hsv,vAO];refine vAB.2 fun q hq=>?_;obtain⟨t',ht'⟩:=vAC hq
      have:=(cP.1 ht').1;exact hak t' q (by omega) ht'
     exact ha t s (by omega) hts
   have hall:cK list x=true:=by
    rw [hok];refine vAB.2 fun s hs=>?_;obtain⟨t,ht⟩:=vAC hs
    have:=(cP.1 ht).1;exact ha t s (by omega) ht
   rw [←hT,hall,if_pos rfl,hpp];show(wr ((ps.length:Int)*(x.body.length:Int)),true)=_;have hb1:(0:Int)≤(ps.length:Int)*(x.body.length:Int):=vBf (by omega) (by omega);have hb2:(ps.length:Int)*(x.body.length:Int)≤120*4:=vBo (by omega) (by omega) (by omega) (by omega);rw [aO (by omega)]
  rw [decide_eq_false hb];refine Ev.some (hbad ?_);unfold cK zS;rw [decide_eq_false hb];simp
def fW(x:Part):Int:=((cQ x).length:Int)*(x.body.length:Int)
def instP(i:Nat)(x:Part):List Inst:=(cQ x).flatMap fun q=>(List.range x.body.length).map fun(k:Nat)=>(⟨(i:Int),(k:Int),q⟩:Inst)
def insts(ps:List Part):List Inst:=ps.zipIdx.flatMap fun y=>instP y.2 y.1
def rE(p:Prog):Bool:=iH p.arrays&&(decide (p.parts.length≤4)&&p.parts.all (cK p.arrays))
def cL(p:Prog):Bool:=rE p&&decide ((p.parts.map fW).sum≤120)
theorem insts_snoc(l:List Part)(x:Part):insts (l++[x])=insts l++instP l.length x:=by unfold insts;rw [List.zipIdx_append,vAS];simp
theorem insts_take{l:List Part}{i:Nat}{x:Part}(h:l[i]? =some x):insts (l.take (i+1))=insts (l.take i)++instP i x:=by have hi:=(cP.1 h).1;rw [K1,h];show insts (l.take i++[x])=_;rw [insts_snoc,pJ,Nat.min_eq_left (Nat.le_of_lt hi)]
theorem Q0{α β:Type}(f:α→List β)(m:Nat)(h: ∀x,(f x).length=m): ∀l:List α,(l.flatMap f).length=l.length*m
 | []=>by simp
 |x::l=>by rw [vBq,pX,h,Q0 f m h l,List.length_cons,jS];omega
theorem instP_len(i:Nat)(x:Part):((instP i x).length:Int)=fW x:=by unfold instP fW;rw [Q0 _ x.body.length fun q=>by simp];exact Int.natCast_mul _ _
theorem aCe{l:List Part}{i:Nat}{x:Part}(h:l[i]? =some x):((l.take (i+1)).map fW).sum=((l.take i).map fW).sum+fW x:=by rw [K1,h];simp
theorem insts_len: ∀(l:List Part) (i:Nat),i≤l.length→((insts (l.take i)).length:Int)=((l.take i).map fW).sum
 |l,0,_=>by simp [insts]
 |l,i+1,h=>by
  have hg:=eD (show i<l.length by omega);rw [insts_take hg,pX,aCe hg]
  have:=insts_len l i (by omega)
  have:=instP_len i l[i];omega
theorem insts_len'(l:List Part):((insts l).length:Int)=(l.map fW).sum:=by
 have:=insts_len l l.length (kQ _)
 rwa [vN] at this
theorem aAE{list:List Arr}{x:Part}(h:cK list x=true):0≤fW x∧fW x≤480:=by
 obtain⟨h1,h2,_⟩:=lT h;obtain⟨_,h3,_⟩:=aBV h1;unfold fW;refine⟨vBf (by omega) (by omega),?_⟩
 have:=vBo (show((cQ x).length:Int)≤120 by omega) (show(x.body.length:Int)≤4 by omega) (by omega) (by omega);omega
theorem jV{n:Nat}(hn:7000≤n){p:Prog}(hp:SmP p):dW n p=some (cL p):=by
 obtain⟨h1,h2,h3⟩:=hp;refine Ev.eq ?_;unfold dW;generalize hT:cL p=T;unfold cL rE at hT;refine Ev.jn (fun z=>z= !(iH p.arrays&&decide (p.parts.length≤4))) (fun j hj=>aA (V8 (by omega) h1) ?_) fun z hz=>?_
 ·cases ha:iH p.arrays with
  |false=>exact b6 (hj _ (by rw [ha];rfl))
  |true=>
   refine bY (hj _ ?_);rw [ha];by_cases h4:p.parts.length≤4
   ·rw [decide_eq_false (show¬(4:Int)<(p.parts.length:Int) by omega),decide_eq_true h4];rfl
   rw [decide_eq_true (show(4:Int)<(p.parts.length:Int) by omega),decide_eq_false h4];rfl
 subst hz;cases hb:(iH p.arrays&&decide (p.parts.length≤4)) with
 |false=>
  refine Ev.some ?_;rw [←hT,←vAY,hb];rfl
 |true=>
  have hT':T=(p.parts.all (cK p.arrays)&&decide ((p.parts.map fW).sum≤120)):=by rw [←hT,←vAY,hb];rfl
  rw [vBB,decide_eq_true_eq] at hb;obtain⟨hl,hd⟩:=aEX hb.1;refine bY ?_;refine Ev.loop (fun x:Int×Int=> ∃i:Nat,x.2=i∧i≤p.parts.length∧x.1=((p.parts.take i).map fW).sum∧0≤x.1∧x.1≤480*i∧ ∀(t:Nat) y,t<i→p.parts[t]? =some y→cK p.arrays y=true) (fun x=>p.parts.length-x.2.toNat) ?_ n _ ⟨0,rfl,by omega,by simp,by simp,by simp,fun t y h=>by omega⟩ (by dsimp only;omega);rintro again ⟨x,z⟩ ⟨i,hz,hi,hx,hx0,hx1,ha⟩ hr;dsimp only at hz hx hx0 hx1 ha⊢;subst hz;refine aI (fun hlt=>?_) fun hge=>Ev.some ?_
  ·have hg:=eD (show i<p.parts.length by omega);have hm:=dA hg;refine aA (aT hg) (aA (tL (by omega) hl hd (h3 _ hm)) ?_);cases hpo:cK p.arrays p.parts[i] with
   |false=>
    rw [if_neg (by simp)];refine Ev.some ?_;rw [hT',vAD.2 ⟨_,hm,by rw [hpo];simp⟩];rfl
   |true=>
    rw [if_pos rfl];have hcb:=aAE hpo;show Ev (again (wr (x+fW p.parts[i]),wr ((i:Int)+1))) _;rw [aO (n:=x+fW p.parts[i]) (by omega),aO (by omega)];refine hr _ ⟨i+1,by dsimp only;omega,by omega,by dsimp only;rw [aCe hg];omega,by dsimp only;omega,by dsimp only;omega,fun t y ht hty=>?_⟩ (by dsimp only;omega);by_cases hti:t=i
    ·subst hti;rw [hg] at hty;cases hty;exact hpo
    exact ha t y (by omega) hty
  have hie:i=p.parts.length:=by omega
  have hall:p.parts.all (cK p.arrays)=true:=vAB.2 (fun y hy=>by
   obtain⟨t,ht⟩:=vAC hy
   have:=(cP.1 ht).1;exact ha t y (by omega) ht)
  rw [hT',hall,vAO,hx,hie,vN]
theorem M4{α:Type}(f:Nat→α)(k:Nat):(List.range (k+1)).map f=(List.range k).map f++[f k]:=by rw [List.range_succ,V2];rfl
theorem tY{n:Nat}(hn:7000≤n){p:Prog}(hp:SmP p):d8 n p=some (if rE p=true then(insts p.parts,decide ((insts p.parts).length≤120)) else([],false)):=by
 obtain⟨h1,h2,h3⟩:=hp;refine Ev.eq ?_;unfold d8;generalize hT:(if rE p=true then(insts p.parts,decide ((insts p.parts).length≤120)) else([],false))=T;have hbad:rE p=false→(([]:List Inst),false)=T:=fun h=>by rw [←hT,h];rfl
 refine Ev.jn (fun z=>z= !(iH p.arrays&&decide (p.parts.length≤4))) (fun j hj=>aA (W8 (by omega) h1) ?_) fun z hz=>?_
 ·cases ha:iH p.arrays with
  |false=>exact b6 (hj _ (by rw [ha];rfl))
  |true=>
   refine bY (hj _ ?_);rw [ha];by_cases h4:p.parts.length≤4
   ·rw [decide_eq_false (show¬(4:Int)<(p.parts.length:Int) by omega),decide_eq_true h4];rfl
   rw [decide_eq_true (show(4:Int)<(p.parts.length:Int) by omega),decide_eq_false h4];rfl
 subst hz;cases hb:(iH p.arrays&&decide (p.parts.length≤4)) with
 |false=>exact Ev.some (hbad (by unfold rE;rw [←vAY,hb];rfl))
 |true=>
  have hall':rE p=p.parts.all (cK p.arrays):=by unfold rE;rw [←vAY,hb];rfl
  rw [vBB,decide_eq_true_eq] at hb;obtain⟨hl,hd⟩:=aEX hb.1;refine bY ?_;refine Ev.loop (fun x:List Inst×Int=> ∃i:Nat,x.2=i∧i≤p.parts.length∧x.1=insts (p.parts.take i)∧x.1.length≤480*i∧ ∀(t:Nat) y,t<i→p.parts[t]? =some y→cK p.arrays y=true) (fun x=>p.parts.length-x.2.toNat) ?_ n _ ⟨0,rfl,by omega,by simp [insts],by simp,fun t y h=>by omega⟩ (by dsimp only;omega);rintro again ⟨x,z⟩ ⟨i,hz,hi,hx,hxl,ha⟩ hr;dsimp only at hz hx hxl ha⊢;subst hz;refine aI (fun hlt=>?_) fun hge=>Ev.some ?_
  ·have hg:=eD (show i<p.parts.length by omega);have hm:=dA hg;obtain⟨s1,s2,s3⟩:=h3 _ hm;generalize hP:p.parts[i]=P at*;have hpb:cK p.arrays P=false→rE p=false:=fun h=>by rw [hall'];exact vAD.2 ⟨_,hm,by rw [h];simp⟩
   refine aA (aT hg) (aA (H2 (by omega) s1) (Ev.jn (fun z=>z= !((NP P.nest).isSome&&zS P)) (fun j hj=>?_) fun z hz=>?_))
   ·cases hN:NP P.nest with
    |none=>exact b6 (hj _ (by rw [hN];rfl))
    |some ps=>
     refine bY ?_;have hw:b8 n (P.body.length:Int) 1 4=some (decide (1≤P.body.length∧P.body.length≤4)):=by
      rw [dM];congr 1;exact decide_eq_decide.2 (by omega)
     refine aA hw ?_;have hc:=X3 (n:=n) (f:=fun q0=>dJ n q0 P) (p:=fun s=> !gW s (P.nest.length:Int)) (l:=P.body) (fun s hs=>by unfold dJ;rw [P8 (by omega) (s3 s hs)];rfl) (by omega) (by omega);have e:(P.body.any fun s=> !gW s (P.nest.length:Int))= !(P.body.all fun s=>gW s (P.nest.length:Int)):=by rw [vAT];simp
     cases hw2:decide (1≤P.body.length∧P.body.length≤4) with
     |false=>exact b6 (hj _ (by unfold zS;rw [hN,hw2];rfl))
     |true=>exact bY (aA hc (hj _ (by unfold zS;rw [hN,hw2,e];rfl)))
   subst hz;cases hN:NP P.nest with
   |none=>exact Ev.some (hbad (hpb (by unfold cK;rw [hN];rfl)))
   |some ps=>
    obtain⟨hf,hp1,hp2,hp3,hp4⟩:=aBV hN;have hpp:cQ P=ps:=by unfold cQ;rw [hN];rfl
    cases hbv:zS P with
    |false=>exact Ev.some (hbad (hpb (by unfold cK;rw [hbv];simp)))
    |true=>
     have hbv':=hbv;simp only [zS,Bool.and_eq_true,decide_eq_true_eq,List.all_eq_true] at hbv';obtain⟨⟨hb1,hb2⟩,hb3⟩:=hbv';have hok:cK p.arrays P=P.body.all (fun s=>ps.all fun q=>dS p.arrays s q&&ptV q):=by
      unfold cK;rw [hN,hbv,hpp];rfl
     let row:List Int→List Inst:=fun q=>(List.range P.body.length).map fun(k:Nat)=>(⟨(i:Int),(k:Int),q⟩:Inst)
     have hrl: ∀q,(row q).length=P.body.length:=fun q=>by simp [row]
     have hinst:instP i P=ps.flatMap row:=by unfold instP;rw [hpp]
     refine bY ?_;rw [show(aEw (some ps)).1=ps from rfl];refine Ev.loop (fun y:List Inst×Int=> ∃k:Nat,y.2=k∧k≤ps.length∧y.1=x++(ps.take k).flatMap row∧ ∀(t:Nat) q,t<k→ps[t]? =some q→ptV q=true∧ ∀s∈P.body,dS p.arrays s q=true) (fun y=>ps.length-y.2.toNat) ?_ n _ ⟨0,rfl,by omega,by simp,fun t q h=>by omega⟩ (by dsimp only;omega);rintro again17 ⟨y,z⟩ ⟨k,hz,hk,hy,hak⟩ hr17;dsimp only at hz hy hak⊢;subst hz;refine aI (fun hlt2=>?_) fun hge2=>?_
     ·have hgk:=eD (show k<ps.length by omega);have hmk:=dA hgk;generalize hQ:ps[k]=Q at*;have hq:=hp2 _ hmk;have hql:Q.length≤4:=by have:=hq.1;have:=hq.2.1;omega
      refine aA (aT hgk) (aA (yT (by omega) (by omega)) ?_);have hyl:y.length≤480*4+480:=by
       rw [hy,pX,Q0 row _ hrl,pJ]
       have:min k ps.length*P.body.length≤120*4:=Nat.mul_le_mul (by omega) hb2;omega
      cases hpv:ptV Q with
      |false=>
       refine b6 (Ev.some (hbad (hpb ?_)));rw [hok];obtain⟨s0,hs0⟩: ∃s0,s0∈P.body:=List.exists_mem_of_length_pos (by omega);refine vAD.2 ⟨s0,hs0,?_⟩;rw [vAD.2 ⟨Q,hmk,by rw [hpv];simp⟩];simp
      |true=>
       refine bY ?_;refine Ev.loop (fun u:List Inst×Int=> ∃m:Nat,u.2=m∧m≤P.body.length∧u.1=y++(List.range m).map (fun(k:Nat)=>(⟨(i:Int),(k:Int),Q⟩:Inst))∧ ∀(t:Nat) s,t<m→P.body[t]? =some s→dS p.arrays s Q=true) (fun u=>P.body.length-u.2.toNat) ?_ n _ ⟨0,rfl,by omega,by simp,fun t s h=>by omega⟩ (by dsimp only;omega);rintro again23 ⟨u,z⟩ ⟨m,hz,hmm,hu,ham⟩ hr23;dsimp only at hz hu ham⊢;subst hz;refine aI (fun hlt3=>?_) fun hge3=>?_
       ·have hgm:=eD (show m<P.body.length by omega);have hmem:=dA hgm;refine aA (aT hgm) (aA (aCG (by omega) hl hd (hb3 _ hmem) hq) ?_);cases hco:dS p.arrays P.body[m] Q with
        |false=>
         refine b6 (Ev.some (hbad (hpb ?_)));rw [hok];refine vAD.2 ⟨_,hmem,?_⟩;rw [vAD.2 ⟨Q,hmk,by rw [hco];simp⟩];simp
        |true=>
         have hcl:m_ownClone Q=some Q:=by unfold m_ownClone;rw [if_pos (by omega)]
         have hul:u.length≤480*4+480+4:=by rw [hu];simp;omega
         refine bY (aA hcl (aA (cD (by simp;omega)) ?_));rw [aO (by omega)];refine hr23 _ ⟨m+1,by dsimp only;omega,by omega,?_,fun t s ht hts=>?_⟩ (by dsimp only;omega)
         ·dsimp only;rw [hu,M4,vAG]
         by_cases htm:t=m
         ·subst htm;rw [hgm] at hts;cases hts;exact hco
         exact ham t s (by omega) hts
       have hme:m=P.body.length:=by omega
       rw [aO (by omega)];refine hr17 _ ⟨k+1,by dsimp only;omega,by omega,?_,fun t q ht htq=>?_⟩ (by dsimp only;omega)
       ·dsimp only;rw [K1,hgk,vAS,←vAG,←hy,hu,hme];simp [row]
       by_cases htk:t=k
       ·subst htk;rw [hgk] at htq;cases htq;refine⟨hpv,fun s hs=>?_⟩;obtain⟨t',ht'⟩:=vAC hs
        have:=(cP.1 ht').1;exact ham t' s (by omega) ht'
       exact hak t q (by omega) htq
     have hke:k=ps.length:=by omega
     have hpo:cK p.arrays P=true:=by
      rw [hok];refine vAB.2 fun s hs=>vAB.2 fun q hq=>?_;obtain⟨t,ht⟩:=vAC hq
      have:=(cP.1 ht).1;obtain⟨g1,g2⟩:=hak t q (by omega) ht;rw [g1,g2 s hs];rfl
     have hcb:=aAE hpo;have hil:=instP_len i P;rw [aO (by omega)];refine hr _ ⟨i+1,by dsimp only;omega,by omega,?_,?_,fun t y ht hty=>?_⟩ (by dsimp only;omega)
     ·dsimp only;rw [insts_take hg,hinst,hy,hke,vN,hx]
     ·dsimp only;rw [hy,hke,vN,pX,←hinst];omega
     by_cases hti:t=i
     ·subst hti;rw [hg] at hty;cases hty;exact hpo
     exact ha t y (by omega) hty
  have hie:i=p.parts.length:=by omega
  have hall:rE p=true:=by
   rw [hall'];exact vAB.2 (fun y hy=>by
    obtain⟨t,ht⟩:=vAC hy
    have:=(cP.1 ht).1;exact ha t y (by omega) ht)
  rw [←hT,if_pos hall,hx,hie,vN];congr 1;exact decide_eq_decide.2 (by omega)
theorem fC{n:Nat}(hn:7000≤n){p:Prog}(hp:SmP p):dX n p=some (cL p):=by
 unfold dX;rw [tY hn hp];unfold cL;cases h:rE p with
 |false=>rfl
 |true=>
  rw [if_pos rfl];show some (decide _)=_;rw [vAO];congr 1
  have:=insts_len' p.parts;exact decide_eq_decide.2 (by omega)
theorem gM{n:Nat}(hn:7000≤n){p:Prog}(hp:SmP p):dQ n p=some (if cL p=true then insts p.parts else []):=by
 unfold dQ;rw [tY hn hp];unfold cL;cases h:rE p with
 |false=>rfl
 |true=>
  rw [if_pos rfl,vAO]
  have:=insts_len' p.parts;by_cases hl:(insts p.parts).length≤120
  ·rw [decide_eq_true hl,decide_eq_true (by omega),if_pos rfl];rfl
  rw [decide_eq_false hl,decide_eq_false (by omega),if_neg (by simp)];rfl
theorem gL{p:Prog}(h:cL p=true):p.arrays.length≤4∧fE p.arrays∧p.parts.length≤4∧(∀x∈p.parts,cK p.arrays x=true)∧(insts p.parts).length≤120:=by
 simp only [cL,rE,Bool.and_eq_true,decide_eq_true_eq,List.all_eq_true] at h;obtain⟨⟨h1,h2,h3⟩,h4⟩:=h;obtain⟨a,b⟩:=aEX h1
 have:=insts_len' p.parts;exact⟨a,b,h2,h3,by omega⟩
theorem aDJ{l:List Arr}{i:Nat}{x:Arr}(h:l[i]? =some x):f0 (l.take (i+1))=f0 (l.take i)+L1 x.dims:=by unfold f0;rw [List.take_add_one,h];simp
theorem aDL{n:Nat}(hn:7000≤n){p:Prog}(hl:p.arrays.length≤4)(hd:fE p.arrays):eV n p=some (f0 p.arrays):=by
 refine Ev.eq ?_;unfold eV;refine Ev.loop (fun x:Int×Int=> ∃i:Nat,x.2=i∧i≤p.arrays.length∧x.1=f0 (p.arrays.take i)∧0≤x.1∧x.1≤36*i) (fun x=>p.arrays.length-x.2.toNat) ?_ n _ ⟨0,rfl,by omega,by simp [f0],by simp,by simp⟩ (by dsimp only;omega);rintro again ⟨x,z⟩ ⟨i,hz,hi,hx,hx0,hx1⟩ hr;dsimp only at hz hx hx0 hx1⊢;subst hz;refine aI (fun hlt=>?_) fun hge=>Ev.some ?_
 ·have hg:=eD (show i<p.arrays.length by omega);have hdm:=hd _ (dA hg);have hsz:=L0 hdm;refine aA (aT hg) (aA (tK (by omega) hdm) ?_);rw [aO (n:=x+L1 p.arrays[i].dims) (by omega),aO (by omega)];exact hr _ ⟨i+1,by dsimp only;omega,by omega,by dsimp only;rw [aDJ hg];omega,by dsimp only;omega,by dsimp only;omega⟩ (by dsimp only;omega)
 have hie:i=p.arrays.length:=by omega
 rw [hx,hie,vN]
theorem P6{n:Nat}(hn:7000≤n){p:Prog}(hl:p.arrays.length≤4)(hd:fE p.arrays):eV n p=some (f0 p.arrays):=aDL hn hl hd
def aBe(p:Prog)(m:List Int):Bool:=cL p&&(decide ((m.length:Int)=f0 p.arrays)&&m.all fun x=>decide (0≤x∧x≤999))
theorem C4{n:Nat}(hn:7000≤n){p:Prog}(hp:SmP p){m:List Int}(hm:m.length≤1000):lK n p m=some (aBe p m):=by
 refine Ev.eq ?_;unfold lK;generalize hT:aBe p m=T;unfold aBe at hT;refine Ev.jn (fun z=>z=T) (fun j hj=>aA (fC hn hp) ?_) fun z hz=>Ev.some hz;cases hv:cL p with
 |false=>exact bY (hj _ (by rw [←hT,hv];rfl))
 |true=>
  obtain⟨hl,hd,_⟩:=gL hv;have hc:=m7 (n:=n) (f:=fun q0=>gD n q0) (p:=fun x=> !decide (0≤x∧x≤999)) (l:=m) (fun x _=>by unfold gD;rw [dM];rfl) (by omega) (by omega);have e:(m.any fun x=> !decide (0≤x∧x≤999))= !(m.all fun x=>decide (0≤x∧x≤999)):=by rw [vAT];simp
  refine b6 (aA (P6 hn hl hd) (aI (fun h=>aA hc (hj _ ?_)) fun h=>hj _ ?_))
  ·rw [←hT,hv,decide_eq_true h,e];simp
  rw [←hT,hv,decide_eq_false h];rfl
theorem K7(x:Int):Int.tmod x 1000=if 0≤x then x%1000 else-((-x)%1000):=by
 split
 ·rename_i h;exact Int.tmod_eq_emod_of_nonneg h
 rename_i h;have h2:0≤ -x:=by omega
 have e1:Int.tmod x 1000= -(Int.tmod (-x) 1000):=by rw [Int.neg_tmod,Int.neg_neg]
 rw [e1,Int.tmod_eq_emod_of_nonneg h2]
theorem o8(n:Nat)(x:Int):nW n x=some (x%1000):=by
 unfold nW;rw [K7 x];congr 1;split
 ·rw [aO (n:=x%1000+999) (by omega),aO (by omega),K7,if_pos (by omega)];omega
 rw [aO (n:= -(-x%1000)+999) (by omega),aO (by omega),K7,if_pos (by omega)];omega
def zY:Nat→List Arr→List Int→Expr→List Int→Int
 |0,_,_,_,_=>0
 |L+1,list,m,e,q=>
  if e.kind=1 then e.num
  else if e.kind=2 then fD e.index q%1000
  else if e.kind=3 then m.getD (cY list e.read q 0).toNat 0
  else match e.kids with
   | [a,b]=>if e.kind=4 then(zY L list m a q+zY L list m b q)%1000 else if e.kind=5 then(zY L list m a q-zY L list m b q)%1000 else(zY L list m a q*zY L list m b q)%1000
   |_=>0
def iS(list:List Arr)(m:List Int):Prop:=(m.length:Int)=f0 list∧ ∀x∈m,0≤x∧x≤999
theorem aK3{list:List Arr}{m:List Int}(h:iS list m)(i:Nat):0≤m.getD i 0∧m.getD i 0≤999:=by
 rw [vBc];cases hi:m[i]? with
 |none=>simp
 |some x=>exact h.2 x (dA hi)
theorem aDI{list:List Arr}{m:List Int}(hm:iS list m){d:Int}{q:List Int}: ∀{L:Nat} {e:Expr},dV L e d=true→0≤zY L list m e q∧zY L list m e q≤999
 |0,e,h=>by cases h
 |L+1,e,h=>by
  obtain⟨h1,h2,h3⟩:=jT h;simp only [zY];split
  ·rename_i k1;unfold fP at h2;rw [if_neg (by omega),if_neg (by omega),if_pos k1] at h2;simp only [Bool.and_eq_true,decide_eq_true_eq] at h2;omega
  split
  ·omega
  split
  ·exact aK3 hm _
  split
  ·split
   ·omega
   split<;>omega
  omega
theorem aGF{a b:Int}(ha:0≤a∧a≤999)(hb:0≤b∧b≤999):0≤a*b∧a*b≤999000:=by
 constructor
 ·exact vBf ha.1 hb.1
 have:=vBo ha.2 hb.2 (by omega) (by omega);omega
theorem aHn{L:Nat}{e:Expr}{d:Int}(h:dV (L+1) e d=true)(k1: ¬e.kind=1)(k2: ¬e.kind=2)(k3: ¬e.kind=3):(e.kind=4∨e.kind=5∨e.kind=6)∧ ∃a b,e.kids=[a,b]:=by
 obtain⟨h1,_,_⟩:=jT h;unfold gS at h1;rw [if_neg (by omega)] at h1;split at h1
 ·rename_i hk;refine⟨hk,?_⟩
  have:e.kids.length=2:=by omega
  match hq:e.kids,this with
  | [a,b],_=>exact⟨a,b,rfl⟩
 omega
theorem wM{p:Prog}(hl:p.arrays.length≤4)(hd:fE p.arrays){m:List Int}(hm:iS p.arrays m){d:Int}{k:Nat}{q:List Int}(hq:nD k q): ∀(L n:Nat) (e:Expr),7000+L≤n→dV L e d=true→(∀a∈cH L e,0≤cY p.arrays a q 0)→
  i_Program_value (n+1) p m e q=some (zY L p.arrays m e q)
 |0,n,e,_,h,_=>by cases h
 |L+1,n,e,hn,h,hr=>by
  obtain⟨h1,h2,h3⟩:=jT h;unfold i_Program_value;refine Ev.eq ?_;simp only [zY];refine aI (fun k1=>Ev.some (by rw [if_pos k1])) fun k1=>?_;rw [if_neg k1];refine aI (fun k2=>?_) fun k2=>?_
  ·rw [if_pos k2];unfold fP at h2;rw [if_pos k2] at h2;simp only [Bool.and_eq_true,bZ] at h2;have ha:=h2.2.2.1;exact aA (aF6 (by omega) ha hq) (aA (o8 _ _) (Ev.some rfl))
  rw [if_neg k2];refine aI (fun k3=>?_) fun k3=>?_
  ·rw [if_pos k3];have hmem:e.read∈cH (L+1) e:=by simp [cH,k3]
   have ha:=uV h _ hmem;have hc0:=hr _ hmem;rcases J3 hd e.read q 0 (z8 0) with hc|hc
   ·omega
   have hlt:(cY p.arrays e.read q 0).toNat<m.length:=by have:=hm.1;omega
   have hg:=eD hlt;have hix:ix m (cY p.arrays e.read q 0)=some m[(cY p.arrays e.read q 0).toNat]:=by
    unfold ix;rw [if_pos hc0,hg]
   refine aA (nJ (by omega) hl hd ha hq) (aA hix (Ev.some ?_));rw [vBc,hg];rfl
  rw [if_neg k3];obtain⟨hk,a,b,hab⟩:=aHn h k1 k2 k3;obtain⟨n,rfl⟩: ∃j,n=j+1:=⟨n-1,by omega⟩
  have hsa:=h3 a (by rw [hab];simp);have hsb:=h3 b (by rw [hab];simp);have va:=wM hl hd hm hq L n a (by omega) hsa fun x hx=>hr x (by simp only [cH,List.mem_append,List.mem_flatMap];exact .inr ⟨a,by rw [hab];simp,hx⟩);have vb:=wM hl hd hm hq L n b (by omega) hsb fun x hx=>hr x (by simp only [cH,List.mem_append,List.mem_flatMap];exact .inr ⟨b,by rw [hab];simp,hx⟩);have ba:=aDI hm (q:=q) hsa;have bb:=aDI hm (q:=q) hsb;have bm:=aGF ba bb;rw [hab];refine aA (x:=a) rfl (aA va (aA (x:=b) rfl (aA vb ?_)));dsimp only;refine aI (fun k4=>?_) fun k4=>?_
  ·rw [if_pos k4,aO (by omega)];exact aA (o8 _ _) (Ev.some rfl)
  rw [if_neg k4];refine aI (fun k5=>?_) fun k5=>?_
  ·rw [if_pos k5,aO (by omega)];exact aA (o8 _ _) (Ev.some rfl)
  rw [if_neg k5,aO (by omega)];exact aA (o8 _ _) (Ev.some rfl)
def gO(p:Prog)(x:Inst):Prop:= ∃(i k:Nat) (P:Part) (s:Stmt),x.part=i∧x.stmt=k∧p.parts[i]? =some P∧P.body[k]? =some s∧x.point∈cQ P
def iT(p:Prog)(x:Inst):Option Stmt:=(p.parts[x.part.toNat]?).bind fun P=>P.body[x.stmt.toNat]?
def kX(p:Prog)(m:List Int)(x:Inst):List Int:=match iT p x with
 |some s=>m.set (cY p.arrays s.write x.point 0).toNat (zY 5 p.arrays m s.value x.point)
 |none=>m
theorem inst_d{p:Prog}(hv:cL p=true){x:Inst}(hx:gO p x): ∃(i k:Nat) (P:Part) (s:Stmt) (d:Int),x.part=i∧x.stmt=k∧p.parts[i]? =some P∧P.body[k]? =some s∧iT p x=some s∧gW s d=true∧nD P.nest.length x.point∧dS p.arrays s x.point=true:=by obtain⟨hl,hd,h4,hpo,hil⟩:=gL hv;obtain⟨i,k,P,s,e1,e2,e3,e4,e5⟩:=hx;obtain⟨q1,q2,q3,q4⟩:=lT (hpo P (dA e3));obtain⟨hf,hp1,hp2,hp3,hp4⟩:=aBV q1;have hs:=dA e4;exact⟨i,k,P,s,_,e1,e2,e3,e4,by unfold iT;rw [e1,e2,vAE,e3];exact(by rw [vAE];exact e4),q3 s hs,hp2 _ e5,(q4 s hs _ e5).1⟩
theorem aBB{list:List Arr}{s:Stmt}{q:List Int}(h:dS list s q=true):0≤cY list s.write q 0∧ ∀a∈cH 5 s.value,0≤cY list a q 0:=by simp only [dS,Bool.and_eq_true,decide_eq_true_eq,List.all_eq_true] at h;exact h
theorem aGE{p:Prog}(hd:fE p.arrays){m:List Int}(hm:iS p.arrays m){a:Access}{q:List Int}(h:0≤cY p.arrays a q 0):(cY p.arrays a q 0).toNat<m.length:=by
 rcases J3 hd a q 0 (z8 0) with hc|hc
 ·omega
 have:=hm.1;omega
theorem aCi{α:Type}{l:List α}{c:Int}(h0:0≤c)(h:c.toNat<l.length)(x:α):gX l c x=some (l.set c.toNat x):=by unfold gX;rw [if_pos ⟨h0,by omega⟩]
theorem aJ7{α:Type}{l:List α}{c:Int}(h0:0≤c)(h:c.toNat<l.length):ix l c=some l[c.toNat]:=by unfold ix;rw [if_pos h0,List.getElem?_eq_getElem h]
theorem I6{p:Prog}(hv:cL p=true){m:List Int}(hm:iS p.arrays m){x:Inst}(hx:gO p x):iS p.arrays (kX p m x):=by
 obtain⟨i,k,P,s,d,e1,e2,e3,e4,e5,e6,e7,e8⟩:=inst_d hv hx;unfold kX;rw [e5];refine⟨by rw [vBb];exact hm.1,fun v hv'=>?_⟩;rcases vAX hv' with h|h
 ·exact hm.2 v h
 rw [h];exact aDI hm (rH e6).2.1
theorem aJz{n:Nat}(hn:7100≤n){p:Prog}(hv:cL p=true){m:List Int}(hm:iS p.arrays m){x:Inst}(hx:gO p x):mU n p m x=some (kX p m x):=by
 obtain⟨hl,hd,h4,hpo,hil⟩:=gL hv;obtain⟨i,k,P,s,d,e1,e2,e3,e4,e5,e6,e7,e8⟩:=inst_d hv hx;obtain⟨c1,c2⟩:=aBB e8;obtain⟨s1,s2,s3,s4⟩:=rH e6;obtain⟨n,rfl⟩: ∃j,n=j+1:=⟨n-1,by omega⟩
 have hlt:=aGE hd hm c1;have hst:eK (n+1) p x=some s:=by
  unfold eK;rw [e1,e2,aT e3];show Option.bind (ix P.body (k:Int)) _=_;rw [aT e4];rfl
 refine Ev.eq ?_;unfold mU;refine aA hst (aA (nJ (by omega) hl hd s1 e7) (aA (wM hl hd hm e7 5 n s.value (by omega) s2 c2) (aA (aJ7 c1 hlt) (aA (aCi c1 hlt _) (Ev.some ?_)))));unfold kX;rw [e5]
theorem insts_mem{ps:List Part}{x:Inst}(h:x∈insts ps): ∃(i k:Nat) (P:Part) (s:Stmt),x.part=i∧x.stmt=k∧ps[i]? =some P∧P.body[k]? =some s∧x.point∈cQ P:=by unfold insts at h;rw [List.mem_flatMap] at h;obtain⟨⟨P,i⟩,h1,h2⟩:=h;unfold instP at h2;rw [List.mem_flatMap] at h2;obtain⟨q,h3,h4⟩:=h2;rw [vAW] at h4;obtain⟨k,h5,rfl⟩:=h4;have hk:=List.mem_range.1 h5;exact⟨i,k,P,P.body[k],rfl,rfl,vBi.1 h1,eD hk,h3⟩
def dO(p:Prog)(m:List Int)(l:List Inst):List Int:=l.foldl (kX p) m
theorem B1{p:Prog}(hv:cL p=true): ∀{l:List Inst} {m:List Int},(∀x∈l,gO p x)→iS p.arrays m→iS p.arrays (dO p m l)
 | [],_,_,h=>h
 |x::l,m,hl,h=>B1 hv (l:=l) (fun y hy=>hl y (by simp [hy])) (I6 hv h (hl x (by simp)))
theorem aCr(p:Prog)(m:List Int)(l:List Inst)(x:Inst):dO p m (l++[x])=kX p (dO p m l) x:=by unfold dO;rw [List.foldl_append];rfl
theorem aLX{p:Prog}{m:List Int}(h:aBe p m=true):cL p=true∧iS p.arrays m:=by simp only [aBe,Bool.and_eq_true,decide_eq_true_eq,List.all_eq_true] at h;exact⟨h.1,h.2.1,h.2.2⟩
theorem aG2{n:Nat}(hn:7100≤n){p:Prog}(hv:cL p=true){m:List Int}(hm:iS p.arrays m){l:List Inst}(hl:l.length≤5000)(hx: ∀x∈l,gO p x){f:List Int→Inst→Option (List Int)}(hf: ∀m x,iS p.arrays m→gO p x→f m x=some (kX p m x)):
  aN (fun again7 ((x4,x5):(List Int)×Int)=>bif decide (x5<(l.length:Int)) then(Option.bind (ix l x5) fun x8=>Option.bind (f x4 x8) fun x9=>Option.bind (uM x4 x9) fun x10=>again7 (x9,wr (x5+1))) else(some (x4,true))) n (m,0)=some (dO p m l,true):=by
 refine Ev.eq ?_;refine Ev.loop (fun x:List Int×Int=> ∃i:Nat,x.2=i∧i≤l.length∧x.1=dO p m (l.take i)) (fun x=>l.length-x.2.toNat) ?_ n _ ⟨0,rfl,by omega,rfl⟩ (by dsimp only;omega);rintro again ⟨x,z⟩ ⟨i,hz,hi,hx1⟩ hr;dsimp only at hz hx1⊢;subst hz;have hok:iS p.arrays x:=by rw [hx1];exact B1 hv (fun y hy=>hx y (V6 hy)) hm
 refine aI (fun hlt=>?_) fun hge=>Ev.some ?_
 ·have hg:=eD (show i<l.length by omega);have hxo:=hx _ (dA hg);have hok2:=I6 hv hok hxo;have hsl:uM x (kX p x l[i])=some ():=by
   unfold uM;rw [if_pos]
   have:=hok.1;have:=hok2.1;omega
  refine aA (aT hg) (aA (hf x _ hok hxo) (aA hsl ?_));rw [aO (by omega)];refine hr _ ⟨i+1,by dsimp only;omega,by omega,?_⟩ (by dsimp only;omega);dsimp only;rw [K1,hg];show _=dO p m (l.take i++[l[i]]);rw [aCr,←hx1]
 have hie:i=l.length:=by omega
 rw [hx1,hie,vN]
def aJb(p:Prog)(m:List Int):List Int×Bool:=if aBe p m=true then(dO p m (insts p.parts),true) else([],false)
theorem sZ{n:Nat}(hn:7100≤n){p:Prog}(hp:SmP p){m:List Int}(hm:m.length≤1000):fV n p m=some (aJb p m):=by
 refine Ev.eq ?_;unfold fV;refine aA (C4 (by omega) hp hm) ?_;unfold aJb;cases hv:aBe p m with
 |false=>exact Ev.some rfl
 |true=>
  obtain⟨h1,h2⟩:=aLX hv;have hil:=(gL h1).2.2.2.2;have hc:m_ownClone m=some m:=by unfold m_ownClone;rw [if_pos (by omega)]
  refine bY (aA hc (aA (gM (by omega) hp) ?_));rw [if_pos h1,if_pos rfl];exact Ev.of (aG2 hn h1 h2 (by omega) (fun x hx=>insts_mem hx) fun m x hm hx=>aJz hn h1 hm hx) rfl
end Go.Lift
