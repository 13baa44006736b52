/- Valid statements. -/
import Derived.Test.YtjmaejilmokdgaaGreatRCore1
set_option maxRecDepth 100000
set_option linter.unusedVariables false
namespace Go.Lift
open Go
def SmE:Nat→Expr→Prop
 |0,_=>True
 |L+1,e=>e.kids.length≤1000∧SmA e.index∧I4 e.read.subs∧ ∀k∈e.kids,SmE L k
def dN:Nat→Expr→Int→Bool
 |0,_,_=>false
 |L+1,e,d=>decide (gB e.kind=e.kids.length)&&(iF e d&&e.kids.all fun k=>dN L k d)
def sQ:Nat→Expr→Int
 |0,_=>1
 |L+1,e=>1+(e.kids.map (sQ L)).sum
theorem yI(k:Int):gB k≤2:=by unfold gB;split;omega;split<;>omega
theorem xO(d:Int): ∀(L n:Nat) (e:Expr),5000+L≤n→L≤1000→SmE L e→s_l3Shape (n+1) e d (L:Int)=some (dN L e d)
 |0,n,e,_,_,_=>by unfold s_l3Shape;rfl
 |L+1,n,e,hn,hL,he=>by
  obtain⟨e1,e2,e3,e4⟩:=he;unfold s_l3Shape;refine Ev.eq ?_;refine Ev.jn (fun z=>z= !(decide (gB e.kind=e.kids.length)&&iF e d)) (fun j hj=>aH (fun h=>by omega) fun h=>aA (aCm n _) (eU (fun h=>hj _ ?_) fun h=>aA (aDY (by omega) e2 e3 d) (hj _ ?_))) fun z hz=>?_
  ·rw [decide_eq_false h];rfl
  ·rw [decide_eq_true h];rfl
  subst hz;unfold dN;cases hb:(decide (gB e.kind=e.kids.length)&&iF e d) with
  |false=>exact Ev.some (by rw [←vBf,hb];rfl)
  |true=>
   rw [←vBf,hb,W0];refine bT ?_;obtain⟨n,rfl⟩: ∃j,n=j+1:=⟨n-1,by omega⟩
   have ew:wr (((L+1:Nat):Int)-1)=(L:Int):=by rw [aK (by omega)];omega
   rw [ew];refine mK (l:=e.kids) (p:=fun _ k=>dN L k d) (by omega) (by omega) (fun again i x hx hgo hno=>?_) (fun again hall=>?_) (fun⟨i,x,hx,hp⟩=>?_)
   ·have hi:=(cL.1 hx).1;rw [decide_eq_true (show(i:Int)<(e.kids.length:Int) by omega)];refine bY (aA (aM hx) (aA (xO d L n x (by omega) (by omega) (e4 x (cF hx))) ?_));cases hs:dN L x d with
    |true=>show Ev (again _) _;rw [aK (by omega)];exact hgo hs
    |false=>exact Ev.some (hno hs)
   ·rw [decide_eq_false (show¬(e.kids.length:Int)<(e.kids.length:Int) by omega)];refine Ev.some ?_;exact(vAE.2 fun c hc=>by obtain⟨i,hi⟩:=vAH hc;exact hall i c hi).symm
   exact(vAL.2 ⟨x,cF hx,by rw [hp];simp⟩).symm
theorem vA: ∀(L:Nat) (e:Expr),1≤sQ L e
 |0,_=>zV _
 |L+1,e=>by have:=m4 (sQ L) e.kids fun k _=>vA L k;simp only [sQ];omega
theorem aA2{α:Type}(f:α→Int)(M:Int): ∀(l:List α),(∀x∈l,f x≤M)→(l.map f).sum≤l.length*M
 | [],_=>by simp
 |x::l,h=>by have h1:=aA2 f M l fun y hy=>h y (by simp [hy]);have h2:=h x (by simp);simp only [List.map_cons,List.sum_cons,List.length_cons,Int.natCast_add,Int.add_mul];omega
theorem lW{L:Nat}{e:Expr}{d:Int}(h:dN (L+1) e d=true):gB e.kind=e.kids.length∧iF e d=true∧ ∀k∈e.kids,dN L k d=true:=by simp only [dN,Bool.and_eq_true,decide_eq_true_eq,List.all_eq_true] at h;exact⟨h.1,h.2.1,h.2.2⟩
theorem aBH: ∀{L:Nat} {e:Expr} {d:Int},dN L e d=true→sQ L e+1≤2^L
 |0,e,d,h=>by cases h
 |L+1,e,d,h=>by
  obtain⟨h1,_,h2⟩:=lW h;have h3:=aA2 (sQ L) ((2:Int)^L-1) e.kids fun k hk=>by have:=aBH (h2 k hk);omega
  have h4:=yI e.kind;have h5:(e.kids.length:Int)*((2:Int)^L-1)≤2*((2:Int)^L-1):=by
   refine Int.mul_le_mul_of_nonneg_right (by omega) ?_
   have:(0:Int)<2^L:=Int.pow_pos (by omega);omega
  simp only [sQ];rw [Int.pow_succ];omega
theorem xQ{d:Int}: ∀(L n:Nat) (e:Expr),5000+L≤n→L≤5→dN L e d=true→s_l3Count (n+1) e (L:Int)=some (sQ L e)
 |0,n,e,_,_,h=>by cases h
 |L+1,n,e,hn,hL,h=>by
  obtain⟨h1,_,h2⟩:=lW h;have h4:=yI e.kind;have hb: ∀k∈e.kids,sQ L k≤40:=fun k hk=>by
   have h5:=aBH (h2 k hk);have h6:(2:Int)^L≤40:=by
    match L,hL with
    |0,_=>decide
    |1,_=>decide
    |2,_=>decide
    |3,_=>decide
    |4,_=>decide
   omega
  unfold s_l3Count;refine Ev.eq ?_;obtain⟨n,rfl⟩: ∃j,n=j+1:=⟨n-1,by omega⟩
  have ew:wr (((L+1:Nat):Int)-1)=(L:Int):=by rw [aK (by omega)];omega
  rw [ew];refine Ev.loop (fun x:Int×Int=> ∃i:Nat,x.2=i∧i≤e.kids.length∧x.1=1+((e.kids.take i).map (sQ L)).sum) (fun x=>e.kids.length-x.2.toNat) ?_ (n+1) _ ⟨0,rfl,by omega,by simp⟩ (by simp;omega);rintro again ⟨x,k⟩ ⟨i,hk,hi,hx⟩ hr;dsimp only at hk hx⊢;subst hk;refine Ev.jn (fun z=>z=decide (i<e.kids.length)) (fun j hj=>aH (fun h=>hj _ ?_) fun h=>hj _ ?_) fun z hz=>?_
  ·rw [decide_eq_true (show(0:Int)<((L+1:Nat):Int) by omega),decide_eq_true (by omega)]
  ·rw [decide_eq_false (by omega)]
  subst hz;refine aH (fun hlt=>?_) fun hge=>Ev.some ?_
  ·have hk2:=cI hlt;have hm:=cF hk2;refine aA (aM hk2) (aA (xQ (d:=d) L n _ (by omega) (by omega) (h2 _ hm)) ?_);have hs:=aA2 (sQ L) 40 (e.kids.take i) fun y hy=>hb y (vAz hy);have hs2:=m4 (sQ L) (e.kids.take i) fun y _=>vA L y;have hb2:=hb _ hm;have hb3:=vA L e.kids[i];have hl:((e.kids.take i).length:Int)≤2:=by simp;omega
   rw [aK (n:=x+sQ L e.kids[i]) (by omega),aK (by omega)];refine hr _ ⟨i+1,by dsimp only;omega,by omega,?_⟩ (by dsimp only;omega);dsimp only;rw [xC,hk2,sY,List.sum_append,hx];simp;omega
  have:i=e.kids.length:=by omega
  rw [hx,this,pB];rfl
def aCv(e:Expr):Bool:=(decide (e.kind=1)||decide (e.num=0))&&((decide (e.kind=2)||lG e.index)&&(decide (e.kind=3)||sG e.read))
theorem pI(d:Int): ∀(L n:Nat) (e:Expr) (c:Int),5000+L≤n→L≤5→SmE L e→0≤c→c≤12→
  Ev (i_exprScan (n+1) e d (6-(L:Int)) c) (fun r=>r.1=(dN L e d&&decide (c+sQ L e≤12))∧(r.1=true→r.2=c+sQ L e))
 |0,n,e,c,hn,hL,he,h0,h1=>by
  unfold i_exprScan;refine Ev.jn (fun z=>z=true) (fun j hj=>aH (fun h=>hj _ rfl) fun h=>hj _ (by decide)) fun z hz=>?_;subst hz;exact Ev.some ⟨rfl,fun h=>by cases h⟩
 |L+1,n,e,c,hn,hL,he,h0,h1=>by
  obtain⟨e1,e2,e3,e4⟩:=he;have hcp:=vA (L+1) e;unfold i_exprScan;have ew:wr (c+1)=c+1:=aK (by omega);have ed:wr (6-(((L+1:Nat)):Int)+1)=6-(L:Int):=by rw [aK (by omega)];omega
  rw [ew,ed];refine Ev.jn (fun z=>z=decide (12<c+1)) (fun j hj=>aH (fun h=>hj _ (decide_eq_true h).symm) fun h=>hj _ ?_) fun z hz=>?_
  ·rw [decide_eq_false h,decide_eq_false (by omega)]
  subst hz;refine aH (fun h=>Ev.some ⟨?_,fun h=>by cases h⟩) fun hc=>?_
  ·rw [decide_eq_false (show¬c+sQ (L+1) e≤12 by omega),vBN]
  refine Ev.jn (fun z=>z= !aCv e) (fun j hj=>?_) fun z hz=>?_
  ·rw [X0,X2];unfold aCv at hj;simp only [Option.bind];by_cases k1:e.kind=1
   ·have k2: ¬e.kind=2:=by omega
    have k3: ¬e.kind=3:=by omega
    rw [decide_eq_true k1,decide_eq_false k2,decide_eq_false k3] at*;simp only [Bool.not_true,Bool.not_false,cond_true,cond_false,Bool.true_or,Bool.true_and,Bool.false_or] at*;cases ha:lG e.index with
    |false=>exact hj _ (by rw [ha];rfl)
    |true=>exact hj _ (by rw [ha];rfl)
   rw [decide_eq_false k1] at*;simp only [Bool.not_false,cond_true,Bool.false_or] at*;by_cases hnum:e.num=0
   ·rw [decide_eq_true hnum] at*;simp only [Bool.not_true,cond_false,Bool.true_and] at*;by_cases k2:e.kind=2
    ·have k3: ¬e.kind=3:=by omega
     rw [decide_eq_true k2,decide_eq_false k3] at*;simp only [Bool.not_true,Bool.not_false,cond_true,cond_false,Bool.true_or,Bool.true_and,Bool.false_or] at*;exact hj _ rfl
    rw [decide_eq_false k2] at*;simp only [Bool.not_false,cond_true,Bool.false_or] at*;cases ha:lG e.index with
    |false=>exact hj _ (by rw [ha];rfl)
    |true=>
     by_cases k3:e.kind=3
     ·rw [decide_eq_true k3] at*;exact hj _ (by rw [ha];rfl)
     rw [decide_eq_false k3] at*;exact hj _ (by rw [ha];rfl)
   rw [decide_eq_false hnum] at*;exact hj _ rfl
  subst hz;cases hp:aCv e with
  |false=>
   refine Ev.some ⟨?_,fun h=>by cases h⟩
   have:iF e d=false:=by
    unfold aCv at hp;unfold iF;by_cases k2:e.kind=2
    ·have k1: ¬e.kind=1:=by omega
     have k3: ¬e.kind=3:=by omega
     rw [if_pos k2];rw [decide_eq_true k2,decide_eq_false k1,decide_eq_false k3] at hp;revert hp;cases decide (e.num=0)<;>cases sG e.read<;>simp
    rw [if_neg k2];by_cases k3:e.kind=3
    ·have k1: ¬e.kind=1:=by omega
     rw [if_pos k3];rw [decide_eq_false k2,decide_eq_false k1,decide_eq_true k3] at hp;revert hp;cases decide (e.num=0)<;>cases lG e.index<;>simp
    rw [if_neg k3];rw [decide_eq_false k2,decide_eq_false k3] at hp;by_cases k1:e.kind=1
    ·rw [if_pos k1];rw [decide_eq_true k1] at hp;revert hp;cases lG e.index<;>cases sG e.read<;>simp
    rw [if_neg k1];rw [decide_eq_false k1] at hp;revert hp;cases decide (e.num=0)<;>cases lG e.index<;>cases sG e.read<;>simp
   unfold dN;rw [this];simp
  |true=>
   refine bT ?_;unfold aCv at hp;simp only [Bool.and_eq_true,Bool.or_eq_true,decide_eq_true_eq] at hp;obtain⟨p1,p2,p3⟩:=hp;have leafP: ∀(b:Bool),iF e d=b→gB e.kind=0→ ∀(z:Bool),z=(b&&decide ((e.kids.length:Int)=0))→z=(dN (L+1) e d&&decide (c+sQ (L+1) e≤12))∧(z=true→c+1=c+sQ (L+1) e):=by
    intro b hb hk z hz;unfold dN;rw [hb,hk];by_cases h:e.kids.length=0
    ·have hnil:e.kids=[]:=vAC h;have hcn:sQ (L+1) e=1:=by simp [sQ,hnil]
     rw [hcn,decide_eq_true (show c+1≤12 by omega)];rw [decide_eq_true (show(e.kids.length:Int)=0 by omega)] at hz;rw [hz,hnil];simp
    rw [decide_eq_false (show¬(e.kids.length:Int)=0 by omega)] at hz;rw [hz,decide_eq_false (show¬(0:Int)=(e.kids.length:Int) by omega)];simp
   by_cases k1:e.kind=1
   ·have k2: ¬e.kind=2:=by omega
    have k3: ¬e.kind=3:=by omega
    rw [decide_eq_true k1];have hown:iF e d=decide (0≤e.num∧e.num≤99):=by
     unfold iF;rw [if_neg k2,if_neg k3,if_pos k1];rcases p2 with h|h
     ·exact absurd h k2
     rcases p3 with h'|h'
     ·exact absurd h' k3
     rw [h,h'];simp
    refine bY (Ev.jn (fun z=>z=(decide (0≤e.num∧e.num≤99)&&decide ((e.kids.length:Int)=0))) (fun j hj=>aA (dH n _ _ _) ?_) fun z hz=>Ev.some ?_)
    ·cases hw:decide (0≤e.num∧e.num≤99) with
     |true=>exact hj _ (by rw [hw];rfl)
     |false=>exact hj _ (by rw [hw];rfl)
    exact leafP _ hown (by unfold gB;rw [if_pos (Or.inl k1)]) _ hz
   rw [decide_eq_false k1];refine bT ?_;have hnum:e.num=0:=by
    rcases p1 with h|h
    ·exact absurd h k1
    exact h
   by_cases k2:e.kind=2
   ·have k3: ¬e.kind=3:=by omega
    rw [decide_eq_true k2];have hown:iF e d=b6 e.index d:=by
     unfold iF;rw [if_pos k2,decide_eq_true hnum];rcases p3 with h'|h'
     ·exact absurd h' k3
     rw [h'];simp
    refine bY (Ev.jn (fun z=>z=(b6 e.index d&&decide ((e.kids.length:Int)=0))) (fun j hj=>aA (qE (by omega) _ e2) ?_) fun z hz=>Ev.some ?_)
    ·unfold b6 at hj;cases hw:fC e.index with
     |false=>exact hj _ (by rw [hw];rfl)
     |true=>
      refine aA (Q8 (by omega) e2) (aH (fun h=>hj _ ?_) fun h=>hj _ ?_)
      ·rw [hw,decide_eq_true h];rfl
      rw [hw,decide_eq_false h];rfl
    exact leafP _ hown (by unfold gB;rw [if_pos (Or.inr (Or.inl k2))]) _ hz
   rw [decide_eq_false k2];refine bT ?_;have hnaff:lG e.index=true:=by
    rcases p2 with h|h
    ·exact absurd h k2
    exact h
   by_cases k3:e.kind=3
   ·rw [decide_eq_true k3];have hown:iF e d=jE e.read d:=by
     unfold iF;rw [if_neg k2,if_pos k3,decide_eq_true hnum,hnaff];simp
    refine bY (Ev.jn (fun z=>z=(jE e.read d&&decide ((e.kids.length:Int)=0))) (fun j hj=>aA (vX (by omega) e3 d) ?_) fun z hz=>Ev.some ?_)
    ·cases hw:jE e.read d with
     |false=>exact hj _ (by rw [hw];rfl)
     |true=>exact hj _ (by rw [hw];rfl)
    exact leafP _ hown (by unfold gB;rw [if_pos (Or.inr (Or.inr k3))]) _ hz
   rw [decide_eq_false k3];refine bT ?_;have hown:iF e d=true:=by
    unfold iF;rw [if_neg k2,if_neg k3,if_neg k1,decide_eq_true hnum,hnaff];rcases p3 with h'|h'
    ·exact absurd h' k3
    rw [h'];rfl
   have hop:aBp n e.kind=some (decide (4≤e.kind∧e.kind≤6)):=by unfold aBp;rw [dH];rfl
   have hkn:(gB e.kind=2↔(4≤e.kind∧e.kind≤6))∧(gB e.kind=2∨gB e.kind= -1):=by
    unfold gB;rw [if_neg (by omega)];split<;>omega
   refine Ev.jn (fun z=>z= !(decide (4≤e.kind∧e.kind≤6)&&decide ((e.kids.length:Int)=2))) (fun j hj=>aA hop ?_) fun z hz=>?_
   ·cases hw:decide (4≤e.kind∧e.kind≤6) with
    |false=>exact hj _ (by rw [hw];rfl)
    |true=>exact hj _ (by rw [hw];rfl)
   subst hz;by_cases hk:(4≤e.kind∧e.kind≤6)∧(e.kids.length:Int)=2
   ·rw [decide_eq_true hk.1,decide_eq_true hk.2];refine bT ?_;obtain⟨a,b,hab⟩: ∃a b,e.kids=[a,b]:=by
     have:e.kids.length=2:=by omega
     match hq:e.kids,this with
     | [a,b],_=>exact⟨a,b,rfl⟩
    have hsh:dN (L+1) e d=(dN L a d&&dN L b d):=by
     show(decide (gB e.kind=e.kids.length)&&(iF e d&&e.kids.all fun k=>dN L k d))=_;rw [hown,hab,decide_eq_true (show gB e.kind=(([a,b]:List Expr).length:Int) by rw [hkn.1.2 hk.1];rfl)];simp
    have hcn:sQ (L+1) e=1+(sQ L a+sQ L b):=by simp [sQ,hab]
    have ca:=vA L a;have cb:=vA L b;rw [hsh,hcn];obtain⟨n,rfl⟩: ∃j,n=j+1:=⟨n-1,by omega⟩
    refine Ev.jn (fun z:Int×Bool=>z.2=(dN L a d&&dN L b d&&decide (c+(1+(sQ L a+sQ L b))≤12))∧(z.2=true→z.1=c+(1+(sQ L a+sQ L b)))) (fun j hj=>?_) fun z hz=>Ev.some hz;refine aA (x:=a) (by rw [hab];rfl) (aI (pI d L n a (c+1) (by omega) (by omega) (e4 a (by rw [hab];simp)) (by omega) (by omega)) fun r ⟨r1,r2⟩=>?_);cases hr:r.1 with
    |false=>
     refine hj _ ⟨?_,fun h=>by cases h⟩;rw [hr] at r1;show false=_;by_cases hsa:dN L a d=true
     ·rw [hsa,W0] at r1
      have:=of_decide_eq_false r1.symm;rw [decide_eq_false (show¬c+(1+(sQ L a+sQ L b))≤12 by omega),vBN]
     rw [Bool.eq_false_iff.2 hsa];rfl
    |true=>
     have r2:=r2 hr;rw [hr] at r1;have r1:=r1.symm;rw [vBL,decide_eq_true_eq] at r1;refine aA (x:=b) (by rw [hab];rfl) ?_;rw [r2];refine aI (pI d L n b (c+1+sQ L a) (by omega) (by omega) (e4 b (by rw [hab];simp)) (by omega) (by omega)) fun q ⟨q1,q2⟩=>hj _ ⟨?_,fun h=>?_⟩
     ·show q.1=_;rw [q1,r1.1,W0];congr 1;exact decide_eq_decide.2 (by omega)
     show q.2=_;rw [q2 h];omega
   have hf:dN (L+1) e d=false:=by
    unfold dN;rw [decide_eq_false (show¬gB e.kind=(e.kids.length:Int) by
     intro h;rcases hkn.2 with h2|h2
     ·exact hk ⟨hkn.1.1 h2,by omega⟩
     omega)]
    rfl
   have:(decide (4≤e.kind∧e.kind≤6)&&decide ((e.kids.length:Int)=2))=false:=by
    by_cases g:4≤e.kind∧e.kind≤6
    ·rw [decide_eq_false (show¬(e.kids.length:Int)=2 from fun h=>hk ⟨g,h⟩),vBN]
    rw [decide_eq_false g];rfl
   rw [this,hf];exact Ev.some ⟨rfl,fun h=>by cases h⟩
def jI(s:Stmt)(d:Int):Bool:=decide (0≤d∧d≤4)&&(jE s.write d&&(dN 5 s.value d&&decide (sQ 5 s.value≤12)))
def SmS(s:Stmt):Prop:=I4 s.write.subs∧SmE 5 s.value
theorem R2{n:Nat}(hn:6000≤n){s:Stmt}(h:SmS s)(d:Int):oL n s d=some (jI s d):=by
 obtain⟨n,rfl⟩: ∃j,n=j+1:=⟨n-1,by omega⟩
 refine Ev.eq ?_;unfold oL;generalize hT:jI s d=T;unfold jI at hT;refine Ev.jn (fun z:Int×Bool=>z.2=T) (fun j hj=>aA (dH _ _ _ _) ?_) fun z hz=>Ev.some hz;cases h1:decide (0≤d∧d≤4) with
 |false=>exact hj (0,false) (by rw [←hT,h1];rfl)
 |true=>
  refine bY (aA (vX (by omega) h.1 d) ?_);cases h2:jE s.write d with
  |false=>exact hj (0,false) (by rw [←hT,h1,h2];rfl)
  |true=>
   refine bY (aI (pI d 5 n s.value 0 (by omega) (by omega) h.2 (by omega) (by omega)) fun r ⟨r1,r2⟩=>hj _ ?_);rw [←hT,h1,h2];show r.1=_;rw [r1];simp
theorem tL{n:Nat}(hn:6000≤n){s:Stmt}(h:SmS s)(d:Int):jA n s d=some (jI s d):=by
 obtain⟨n,rfl⟩: ∃j,n=j+1:=⟨n-1,by omega⟩
 refine Ev.eq ?_;unfold jA;generalize hT:jI s d=T;generalize hB:(decide (0≤d∧d≤4)&&(jE s.write d&&dN 5 s.value d))=B;have hTB:T=(B&&decide (sQ 5 s.value≤12)):=by rw [←hT,←hB];unfold jI;simp only [Bool.and_assoc]
 refine Ev.jn (fun z=>z= !B) (fun j hj=>aH (fun h=>hj _ ?_) fun h0=>aH (fun h=>hj _ ?_) fun h4=>aA (vT (by omega) h.1 d) ?_) fun z hz=>?_
 ·rw [←hB,decide_eq_false (show¬(0≤d∧d≤4) by omega)];rfl
 ·rw [←hB,decide_eq_false (show¬(0≤d∧d≤4) by omega)];rfl
 ·rw [decide_eq_true (show 0≤d∧d≤4 by omega)] at hB;cases h2:jE s.write d with
  |false=>exact bY (hj _ (by rw [←hB,h2];rfl))
  |true=>exact bT (aA (xO d 5 n s.value (by omega) (by omega) h.2) (hj _ (by rw [←hB,h2];rfl)))
 subst hz;cases hb:B with
 |false=>exact Ev.some (by rw [hTB,hb];rfl)
 |true=>
  rw [hb] at hB;simp only [Bool.and_eq_true] at hB;refine bT (aA (xQ (d:=d) 5 n s.value (by omega) (by omega) hB.2.2) (Ev.some ?_));rw [hTB,hb];rfl
def iW(ds:List Int):Bool:=decide (1≤ds.length∧ds.length≤2)&&ds.all fun d=>decide (1≤d∧d≤6)
def wM(list:List Arr)(i:Nat)(x:Arr):Bool:=match i with
 |0=>true
 |i+1=>match list[i]? with
  |some y=>Op.bytesLess y.name x.name
  |none=>false
def Y4(list:List Arr)(i:Nat)(x:Arr):Bool:=nC x.name&&(wM list i x&&iW x.dims)
def gO(list:List Arr):Bool:=Q6 (Y4 list) list&&decide (list.length≤4)
def SmR(list:List Arr):Prop:=list.length≤1000∧ ∀x∈list,x.dims.length≤1000
theorem E5{list:List Arr}{i:Nat}{x y:Arr}(h:list[i]? =some y):wM list (i+1) x=Op.bytesLess y.name x.name:=by simp only [wM,h]
theorem aI5(ds:List Int):(ds.any fun d=> !decide (1≤d∧d≤6))= !(ds.all fun d=>decide (1≤d∧d≤6)):=by rw [vAV];simp
theorem X3{n:Nat}(hn:6000≤n){list:List Arr}(h:SmR list):rE n list=some (gO list):=by
 obtain⟨h0,h1⟩:=h;refine Ev.eq ?_;unfold rE;refine mK (l:=list) (p:=Y4 list) (by omega) (by omega) (fun again i x hx hgo hno=>?_) (fun again hall=>?_) (fun⟨i,x,hx,hp⟩=>?_)
 ·have hi:=(cL.1 hx).1;have hm:=h1 x (cF hx);rw [decide_eq_true (show(i:Int)<(list.length:Int) by omega)];have hd:bW n x.dims (fun q0=>eC n q0)=some (!(x.dims.all fun d=>decide (1≤d∧d≤6))):=by
   rw [←aI5];exact mD (fun d _=>by unfold eC;rw [dH];rfl) (by omega) (by omega)
  refine bY (aA (aM hx) (Ev.jn (fun z=>z= !Y4 list i x) (fun j hj=>aA (yQ n _) ?_) fun z hz=>?_))
  ·unfold Y4 iW at hj;cases g1:nC x.name with
   |false=>exact bY (hj _ (by rw [g1];rfl))
   |true=>
    rw [g1] at hj;refine bT ?_;rw [rD];have hlast:wM list i x=true→Ev (Option.bind (some (decide (1≤x.dims.length∧x.dims.length≤2))) fun x6=>bif !x6 then j true else Option.bind (bW n x.dims fun q0=>eC n q0) fun x7=>j x7) (fun r=>r=gO list):=by
     intro hp;rw [hp] at hj;show Ev (bif _ then _ else _) _;cases g2:decide (1≤x.dims.length∧x.dims.length≤2) with
     |false=>exact bY (hj _ (by rw [g2];rfl))
     |true=>exact bT (aA hd (hj _ (by rw [g2];rfl)))
    cases i with
    |zero=>exact aH (fun h=>absurd h (by decide)) (fun _=>hlast rfl)
    |succ i=>
     have hy:=cI (show i<list.length by omega);have e:wr (((i+1:Nat):Int)-1)=(i:Int):=by rw [aK (by omega)];omega
     rw [e];refine aH (fun _=>aA (aM hy) ?_) fun h=>absurd (show(0:Int)<((i+1:Nat):Int) by omega) h;have hpp:=E5 (x:=x) hy;cases g3:Op.bytesLess list[i].name x.name with
     |false=>exact bY (hj _ (by rw [hpp,g3];rfl))
     |true=>exact bT (hlast (by rw [hpp,g3]))
  subst hz;cases hb:Y4 list i x with
  |true=>show Ev (again _) _;rw [aK (by omega)];exact hgo hb
  |false=>exact Ev.some (hno hb)
 ·rw [decide_eq_false (show¬(list.length:Int)<(list.length:Int) by omega)];refine Ev.some ?_;unfold gO;rw [oJ hall,W0];exact decide_eq_decide.2 (by omega)
 unfold gO;rw [l5 hx hp];rfl
theorem aHW(s:List UInt8):(!Op.bytesLess s [68]&& !s==[68])= !(Op.bytesLess s [68]||s==[68]):=by cases Op.bytesLess s [68]<;>cases (s==[68])<;>rfl
theorem W5{n:Nat}(hn:6000≤n){list:List Arr}(h:SmR list):qW n list=some (gO list):=by
 obtain⟨h0,h1⟩:=h;refine Ev.eq ?_;unfold qW;refine mK (l:=list) (p:=Y4 list) (by omega) (by omega) (fun again i x hx hgo hno=>?_) (fun again hall=>?_) (fun⟨i,x,hx,hp⟩=>?_)
 ·have hi:=(cL.1 hx).1;have hm:=h1 x (cF hx);rw [decide_eq_true (show(i:Int)<(list.length:Int) by omega)];refine bY (aA (aM hx) (Ev.jn (fun z=>z= !(nC x.name&&(wM list i x&&decide (1≤x.dims.length∧x.dims.length≤2)))) (fun j hj=>?_) fun z hz=>?_))
  ·refine eU (fun hl=>hj _ ?_) fun hl=>?_
   ·rw [wP (by omega)];rfl
   obtain⟨b,hb⟩:=aL7 (show x.name.length=1 by omega);rw [aHW];have hless: ∀(y:Arr),Op.bytesLess y.name x.name=Op.bytesLess y.name [b]:=fun y=>by rw [hb]
   have hnm:nC x.name=decide (65≤b.toNat∧b.toNat≤68):=by rw [hb];rfl
   have l1:Op.bytesLess x.name [65]=decide (b.toNat<65):=by rw [hb];exact P6 b
   have l2:(Op.bytesLess x.name [68]||x.name==[68])=decide (b.toNat≤68):=by rw [hb];exact P5 b
   rw [l1,l2];rw [hnm] at hj;refine aH (fun g1=>hj _ ?_) fun g1=>eU (fun g2=>hj _ ?_) fun g2=>?_
   ·rw [decide_eq_false (show¬(65≤b.toNat∧b.toNat≤68) by omega)];rfl
   ·rw [decide_eq_false (show¬(65≤b.toNat∧b.toNat≤68) by omega)];rfl
   rw [decide_eq_true (show 65≤b.toNat∧b.toNat≤68 by omega)] at hj;have hlast:wM list i x=true→Ev (bif decide ((x.dims.length:Int)<1) then j true else j (decide ((2:Int)<(x.dims.length:Int)))) (fun r=>r=gO list):=by
    intro hp;rw [hp] at hj;refine aH (fun h=>hj _ ?_) fun h=>hj _ ?_
    ·rw [decide_eq_false (show¬(1≤x.dims.length∧x.dims.length≤2) by omega)];rfl
    by_cases h2:x.dims.length≤2
    ·rw [decide_eq_false (show¬(2:Int)<(x.dims.length:Int) by omega),decide_eq_true (show 1≤x.dims.length∧x.dims.length≤2 by omega)];rfl
    rw [decide_eq_true (show(2:Int)<(x.dims.length:Int) by omega),decide_eq_false (show¬(1≤x.dims.length∧x.dims.length≤2) by omega)];rfl
   cases i with
   |zero=>exact aH (fun h=>absurd h (by decide)) (fun _=>hlast rfl)
   |succ i=>
    have hy:=cI (show i<list.length by omega);have e:wr (((i+1:Nat):Int)-1)=(i:Int):=by rw [aK (by omega)];omega
    rw [e];refine aH (fun _=>aA (aM hy) ?_) fun h=>absurd (show(0:Int)<((i+1:Nat):Int) by omega) h;have hpp:=E5 (x:=x) hy;cases g3:Op.bytesLess list[i].name x.name with
    |false=>exact bY (hj _ (by rw [hpp,g3];rfl))
    |true=>exact bT (hlast (by rw [hpp,g3]))
  subst hz;cases hb:(nC x.name&&(wM list i x&&decide (1≤x.dims.length∧x.dims.length≤2))) with
  |false=>
   refine Ev.some (hno ?_);unfold Y4 iW;rw [←vBf,←vBf];rw [←vBf] at hb;rw [hb];rfl
  |true=>
   have hap:Y4 list i x=x.dims.all (fun d=>decide (1≤d∧d≤6)):=by
    unfold Y4 iW;rw [←vBf,←vBf];rw [←vBf] at hb;rw [hb];rfl
   refine bT ?_;refine Ev.loop (fun y:Int=> ∃k:Nat,y=k∧k≤x.dims.length∧ ∀(t:Nat) d,t<k→x.dims[t]? =some d→decide (1≤d∧d≤6)=true) (fun y=>x.dims.length-y.toNat) ?_ n _ ⟨0,rfl,by omega,fun t d h=>by omega⟩ (by simp;omega);rintro again8 y ⟨k,rfl,hk,ha⟩ hr;refine aH (fun hlt=>?_) fun hge=>?_
   ·have hd:=cI (show k<x.dims.length by omega);have ek:wr ((k:Int)+1)=((k+1:Nat):Int):=by rw [aK (by omega)];omega
    refine Ev.jn (fun z=>z= !decide (1≤x.dims[k]∧x.dims[k]≤6)) (fun j hj=>aA (aM hd) (aH (fun h=>hj _ ?_) fun h=>hj _ ?_)) fun z hz=>?_
    ·rw [decide_eq_false (by omega)];rfl
    ·by_cases h6:x.dims[k]≤6
     ·rw [decide_eq_false (show¬(6:Int)<x.dims[k] by omega),decide_eq_true (show 1≤x.dims[k]∧x.dims[k]≤6 by omega)];rfl
     rw [decide_eq_true (show(6:Int)<x.dims[k] by omega),decide_eq_false (show¬(1≤x.dims[k]∧x.dims[k]≤6) by omega)];rfl
    subst hz;cases hb2:decide (1≤x.dims[k]∧x.dims[k]≤6) with
    |false=>
     refine Ev.some (hno ?_);rw [hap];exact vAL.2 ⟨_,cF hd,by rw [hb2];simp⟩
    |true=>
     rw [ek];refine hr _ ⟨k+1,rfl,by omega,fun t d ht hd2=>?_⟩ (by omega);by_cases htk:t=k
     ·subst htk;rw [hd] at hd2;cases hd2;exact hb2
     exact ha t d (by omega) hd2
   have e:wr ((i:Int)+1)=(i:Int)+1:=aK (by omega);rw [e];refine hgo ?_;rw [hap];refine vAE.2 fun d hd=>?_;obtain⟨t,ht⟩:=vAH hd
   have:=(cL.1 ht).1;exact ha t d (by omega) ht
 ·rw [decide_eq_false (show¬(list.length:Int)<(list.length:Int) by omega)];refine Ev.some ?_;unfold gO;rw [oJ hall,W0];exact decide_eq_decide.2 (by omega)
 unfold gO;rw [l5 hx hp];rfl
def M4:List Int→Int
 | []=>1
 |d::ds=>d*M4 ds
theorem aEE{ds:List Int}(h:iW ds=true):(∃a,ds=[a]∧1≤a∧a≤6)∨ ∃a b,ds=[a,b]∧(1≤a∧a≤6)∧1≤b∧b≤6:=by
 simp only [iW,Bool.and_eq_true,decide_eq_true_eq,List.all_eq_true] at h;obtain⟨⟨h1,h2⟩,h3⟩:=h
 match ds,h1,h2,h3 with
 | [a],_,_,h3=>exact .inl ⟨a,rfl,h3 a (by simp)⟩
 | [a,b],_,_,h3=>exact .inr ⟨a,b,rfl,h3 a (by simp),h3 b (by simp)⟩
theorem aNq{a b:Int}(ha:1≤a∧a≤6)(hb:1≤b∧b≤6):1≤a*b∧a*b≤36:=by
 constructor
 ·have:=vBF ha.1 hb.1 (by omega) (by omega);omega
 have:=vBF ha.2 hb.2 (by omega) (by omega);omega
theorem M3{ds:List Int}(h:iW ds=true):1≤M4 ds∧M4 ds≤36:=by
 rcases aEE h with ⟨a,rfl,h1⟩|⟨a,b,rfl,h1,h2⟩
 ·simp [M4];omega
 have:=aNq h1 h2;simp [M4];omega
theorem tF{n:Nat}(hn:6000≤n){x:Arr}(h:iW x.dims=true):xJ n x=some (M4 x.dims):=by
 obtain⟨n,rfl⟩: ∃j,n=j+3:=⟨n-3,by omega⟩
 unfold xJ;rcases aEE h with ⟨a,e,h1⟩|⟨a,b,e,h1,h2⟩
 ·rw [e];have e1:wr a=a:=aK (by omega);simp [aL,ix,M4,e1,show wr 1=1 from aK (by omega)]
 rw [e]
 have:=aNq h1 h2;have e1:wr a=a:=aK (by omega);have e2:wr (a*b)=a*b:=aK (by omega);simp [aL,ix,M4,e1,e2,show wr 1=1 from aK (by omega),show wr 2=2 from aK (by omega)]
theorem aGy{n:Nat}(hn:6000≤n){x:Arr}(h:iW x.dims=true):mA n x=some (M4 x.dims):=tF hn h
def nY:List Affine→List Int→List Int→Int→Int
 |s::ss,d::ds,p,acc=>if 0≤fA s p∧fA s p<d then nY ss ds p (acc*d+fA s p) else-1
 |_,_,_,acc=>acc
def cM:List Arr→Access→List Int→Int→Int
 | [],_,_,_=> -1
 |x::xs,a,p,base=>if x.name=a.array then(if a.subs.length=x.dims.length then(if nY a.subs x.dims p 0<0 then-1 else base+nY a.subs x.dims p 0) else-1) else cM xs a p (base+M4 x.dims)
def eS(xs:List Arr):Prop:= ∀x∈xs,iW x.dims=true
theorem aNv{ds:List Int}(hd:iW ds=true){ss:List Affine}(hl:ss.length=ds.length)(p:List Int):nY ss ds p 0= -1∨(0≤nY ss ds p 0∧nY ss ds p 0<M4 ds):=by
 rcases aEE hd with ⟨a,rfl,h1⟩|⟨a,b,rfl,h1,h2⟩
 ·match ss,hl with
  | [s],_=>
   simp only [nY,M4,Int.zero_mul,Int.zero_add,Int.mul_one];split<;>omega
 match ss,hl with
 | [s,t],_=>
  simp only [nY,M4,Int.zero_mul,Int.zero_add,Int.mul_one];split
  ·rename_i hs;split
   ·rename_i ht;refine .inr ⟨?_,?_⟩
    ·have:=vBo hs.1 (show 0≤b by omega);omega
    have:=Int.mul_le_mul_of_nonneg_right (show fA s p≤a-1 by omega) (show 0≤b by omega);rw [Int.sub_mul] at this;omega
   exact .inl rfl
  exact .inl rfl
def fN(xs:List Arr):Int:=(xs.map fun x=>M4 x.dims).sum
theorem K7: ∀{xs:List Arr},eS xs→ ∀(a:Access) (p:List Int) (base:Int),0≤base→cM xs a p base= -1∨(base≤cM xs a p base∧cM xs a p base<base+fN xs)
 | [],_,a,p,base,_=> .inl rfl
 |x::xs,hd,a,p,base,hb=>by
  have hx:=hd x (by simp);have hs:=M3 hx;have hxs:eS xs:=fun y hy=>hd y (by simp [hy]);have ht:0≤fN xs:=by
   have:=m4 (fun x:Arr=>M4 x.dims) xs fun y hy=>(M3 (hxs y hy)).1;unfold fN;omega
  have e:fN (x::xs)=M4 x.dims+fN xs:=by simp [fN]
  rw [e];simp only [cM];split
  ·split
   ·rename_i hl;rcases aNv hx hl p with h|h
    ·rw [if_pos (by omega)];exact .inl rfl
    rw [if_neg (by omega)];exact .inr ⟨by omega,by omega⟩
   exact .inl rfl
  rcases K7 hxs a p (base+M4 x.dims) (by omega) with h|h
  ·exact .inl h
  exact .inr ⟨by omega,by omega⟩
theorem aI8{a:Access}{d:Int}(h:jE a d=true):1≤a.subs.length∧a.subs.length≤2∧ ∀x∈a.subs,fC x=true:=by
 simp only [jE,Bool.and_eq_true,decide_eq_true_eq,List.all_eq_true] at h;refine⟨h.2.2.1,h.2.2.2,fun x hx=>?_⟩
 have:=h.1 x hx;simp only [b6,Bool.and_eq_true] at this;exact this.1
theorem iK{α:Type}{l:List α}{i:Nat}{x:α}(h:l[i]? =some x):l.drop i=x::l.drop (i+1):=by obtain⟨h1,h2⟩:=cL.1 h;rw [List.drop_eq_getElem_cons h1,h2]
theorem aDv{a d v:Int}(ha:0≤a∧a≤36)(hd:1≤d∧d≤6)(hv:0≤v∧v<d):0≤a*d∧a*d≤216∧0≤a*d+v:=by have h1:=vBo ha.1 (show 0≤d by omega);have h2:=vBF ha.2 hd.2 (by omega) (by omega);omega
theorem aIf{n:Nat}(hn:6000≤n){a:Access}(h1:a.subs.length≤2)(h2: ∀x∈a.subs,fC x=true){ds:List Int}(hd:iW ds=true)(hl:a.subs.length=ds.length){k:Nat}{p:List Int}(hp:nZ k p)(base:Int)(hb:0≤base∧base≤1000000):
  aL (fun again8 ((x6,x7):Int×Int)=>bif decide (x7<(a.subs.length:Int)) then(Option.bind (ix a.subs x7) fun x9=>Option.bind (cK n x9 p) fun x10=>Option.bind (ix ds x7) fun x11=>Option.bind (cH n x10 0 (wr (x11-1))) fun x12=>bif !x12 then(some (-1)) else(again8 (wr ((wr (x6*x11))+x10),wr (x7+1)))) else(some (wr (base+x6)))) n (0,0)
   =some (if nY a.subs ds p 0<0 then-1 else base+nY a.subs ds p 0):=by
 have hdm: ∀d∈ds,1≤d∧d≤6:=by
  simp only [iW,Bool.and_eq_true,decide_eq_true_eq,List.all_eq_true] at hd;exact fun d h=>hd.2 d h
 refine Ev.eq ?_;refine Ev.loop (fun x:Int×Int=> ∃i:Nat,x.2=i∧i≤a.subs.length∧0≤x.1∧x.1≤36*i∧(i=0→x.1=0)∧(i=1→x.1≤5)∧nY a.subs ds p 0=nY (a.subs.drop i) (ds.drop i) p x.1) (fun x=>a.subs.length-x.2.toNat) ?_ n _ ⟨0,rfl,by omega,by simp,by simp,fun _=>rfl,fun h=>by omega,rfl⟩ (by simp;omega);rintro again ⟨x,z⟩ ⟨i,hz,hi,hx0,hx1,hx2,hx3,hx⟩ hr;dsimp only at hz hx0 hx1 hx2 hx3 hx⊢;subst hz;refine aH (fun hlt=>?_) fun hge=>Ev.some ?_
 ·have hs:=cI (show i<a.subs.length by omega);have hdd:=cI (show i<ds.length by omega);have hdb:=hdm _ (cF hdd);have ew:wr (ds[i]-1)=ds[i]-1:=aK (by omega);rw [iK hs,iK hdd] at hx;simp only [nY] at hx;refine aA (aM hs) (aA (aGA (by omega) (h2 _ (cF hs)) hp) (aA (aM hdd) (aA (dH _ _ _ _) ?_)));rw [ew];by_cases hc:0≤fA a.subs[i] p∧fA a.subs[i] p<ds[i]
  ·rw [if_pos hc] at hx;rw [decide_eq_true (show 0≤fA a.subs[i] p∧fA a.subs[i] p≤ds[i]-1 by omega)];obtain⟨g1,g2,g3⟩:=aDv (a:=x) (by omega) hdb hc;refine bT ?_;rw [aK (n:=x*ds[i]) (by omega),aK (n:=x*ds[i]+fA a.subs[i] p) (by omega),aK (by omega)];have hi01:i=0∨i=1:=by omega
   refine hr _ ⟨i+1,by dsimp only;omega,by omega,by dsimp only;omega,?_,fun h=>by omega,fun h=>?_,hx⟩ (by dsimp only;omega)
   ·dsimp only;rcases hi01 with rfl|rfl
    ·rw [hx2 rfl];omega
    have:=hx3 rfl
    have:=vBF this hdb.2 (by omega) (by omega);omega
   dsimp only
   have:i=0:=by omega
   subst this;rw [hx2 rfl];omega
  rw [if_neg hc] at hx;rw [decide_eq_false (show¬(0≤fA a.subs[i] p∧fA a.subs[i] p≤ds[i]-1) by omega)];refine bY (Ev.some ?_);rw [hx];rfl
 have hie:i=a.subs.length:=by omega
 have hdr:nY (a.subs.drop i) (ds.drop i) p x=x:=by
  rw [hie,vBx];unfold nY;rfl
 rw [hdr] at hx;rw [hx,if_neg (by omega),aK (by omega)]
theorem aHF{n:Nat}(hn:6000≤n){a:Access}(h0:1≤a.subs.length)(h1:a.subs.length≤2)(h2: ∀x∈a.subs,fC x=true){ds:List Int}(hd:iW ds=true){k:Nat}{p:List Int}(hp:nZ k p)(base:Int)(hb:0≤base∧base≤1000000):
  aL (fun again8 ((x6,x7):Int×Int)=>bif decide (x7<(a.subs.length:Int)) then(bif !decide ((a.subs.length:Int)=(ds.length:Int)) then(some (-1)) else(Option.bind (ix a.subs x7) fun x9=>Option.bind (iE n x9 p) fun x10=>jn (fun(x13:Bool)=>bif x13 then(some (-1)) else(Option.bind (ix ds x7) fun x14=>again8 (wr ((wr (x6*x14))+x10),wr (x7+1)))) fun j11=>bif decide (x10<0) then(j11 true) else(Option.bind (ix ds x7) fun x12=>j11 (decide (x12≤x10))))) else(some (wr (base+x6)))) n (0,0)
   =some (if a.subs.length=ds.length then(if nY a.subs ds p 0<0 then-1 else base+nY a.subs ds p 0) else-1):=by
 by_cases hl:a.subs.length=ds.length
 ·rw [if_pos hl];rw [decide_eq_true (show(a.subs.length:Int)=(ds.length:Int) by omega)];have hdm: ∀d∈ds,1≤d∧d≤6:=by
   simp only [iW,Bool.and_eq_true,decide_eq_true_eq,List.all_eq_true] at hd;exact fun d h=>hd.2 d h
  refine Ev.eq ?_;refine Ev.loop (fun x:Int×Int=> ∃i:Nat,x.2=i∧i≤a.subs.length∧0≤x.1∧x.1≤36*i∧(i=0→x.1=0)∧(i=1→x.1≤5)∧nY a.subs ds p 0=nY (a.subs.drop i) (ds.drop i) p x.1) (fun x=>a.subs.length-x.2.toNat) ?_ n _ ⟨0,rfl,by omega,by simp,by simp,fun _=>rfl,fun h=>by omega,rfl⟩ (by simp;omega);rintro again ⟨x,z⟩ ⟨i,hz,hi,hx0,hx1,hx2,hx3,hx⟩ hr;dsimp only at hz hx0 hx1 hx2 hx3 hx⊢;subst hz;refine aH (fun hlt=>?_) fun hge=>Ev.some ?_
  ·have hs:=cI (show i<a.subs.length by omega);have hdd:=cI (show i<ds.length by omega);have hdb:=hdm _ (cF hdd);rw [iK hs,iK hdd] at hx;simp only [nY] at hx;refine bT (aA (aM hs) (aA (aHG (by omega) (h2 _ (cF hs)) hp) (Ev.jn (fun z=>z= !decide (0≤fA a.subs[i] p∧fA a.subs[i] p<ds[i])) (fun j hj=>aH (fun h=>hj _ ?_) fun h=>aA (aM hdd) (hj _ ?_)) fun z hz=>?_)))
   ·rw [decide_eq_false (by omega)];rfl
   ·by_cases hc:ds[i]≤fA a.subs[i] p
    ·rw [decide_eq_true hc,decide_eq_false (by omega)];rfl
    rw [decide_eq_false hc,decide_eq_true (by omega)];rfl
   subst hz;by_cases hc:0≤fA a.subs[i] p∧fA a.subs[i] p<ds[i]
   ·rw [if_pos hc] at hx;rw [decide_eq_true hc];obtain⟨g1,g2,g3⟩:=aDv (a:=x) (by omega) hdb hc;refine bT (aA (aM hdd) ?_);rw [aK (n:=x*ds[i]) (by omega),aK (n:=x*ds[i]+fA a.subs[i] p) (by omega),aK (by omega)];have hi01:i=0∨i=1:=by omega
    refine hr _ ⟨i+1,by dsimp only;omega,by omega,by dsimp only;omega,?_,fun h=>by omega,fun h=>?_,hx⟩ (by dsimp only;omega)
    ·dsimp only;rcases hi01 with rfl|rfl
     ·rw [hx2 rfl];omega
     have:=hx3 rfl
     have:=vBF this hdb.2 (by omega) (by omega);omega
    dsimp only
    have:i=0:=by omega
    subst this;rw [hx2 rfl];omega
   rw [if_neg hc] at hx;rw [decide_eq_false hc];refine bY (Ev.some ?_);rw [hx];rfl
  have hie:i=a.subs.length:=by omega
  have hdr:nY (a.subs.drop i) (ds.drop i) p x=x:=by
   rw [hie,vBx];unfold nY;rfl
  rw [hdr] at hx;rw [hx,if_neg (by omega),aK (by omega)]
 rw [if_neg hl,decide_eq_false (show¬(a.subs.length:Int)=(ds.length:Int) by omega)];obtain⟨n,rfl⟩: ∃j,n=j+1:=⟨n-1,by omega⟩
 simp only [aL];rw [decide_eq_true (show(0:Int)<(a.subs.length:Int) by omega)];rfl
theorem mW{n:Nat}(hn:6000≤n){p:Prog}(hl:p.arrays.length≤4)(hd:eS p.arrays){a:Access}{d:Int}(ha:jE a d=true){k:Nat}{q:List Int}(hq:nZ k q):cQ n p a q=some (cM p.arrays a q 0):=by
 obtain⟨a0,a1,a2⟩:=aI8 ha;refine Ev.eq ?_;unfold cQ;refine Ev.loop (fun x:Int×Int=> ∃i:Nat,x.2=i∧i≤p.arrays.length∧0≤x.1∧x.1≤36*i∧cM p.arrays a q 0=cM (p.arrays.drop i) a q x.1) (fun x=>p.arrays.length-x.2.toNat) ?_ n _ ⟨0,rfl,by omega,by simp,by simp,rfl⟩ (by simp;omega);rintro again ⟨x,z⟩ ⟨i,hz,hi,hx0,hx1,hx⟩ hr;dsimp only at hz hx0 hx1 hx⊢;subst hz;refine aH (fun hlt=>?_) fun hge=>Ev.some ?_
 ·have hy:=cI (show i<p.arrays.length by omega);have hdy:=hd _ (cF hy);have hsz:=M3 hdy;rw [iK hy] at hx;simp only [cM] at hx;refine aA (aM hy) (eU (fun hne=>?_) fun he=>?_)
  ·rw [if_neg hne] at hx;refine aA (aGy hn hdy) ?_;rw [aK (n:=x+M4 p.arrays[i].dims) (by omega),aK (by omega)];exact hr _ ⟨i+1,by dsimp only;omega,by omega,by dsimp only;omega,by dsimp only;omega,hx⟩ (by dsimp only;omega)
  rw [if_pos he] at hx;refine eU (fun hne=>Ev.some ?_) fun hle=>?_
  ·rw [hx,if_neg (by omega)]
  have hle':a.subs.length=p.arrays[i].dims.length:=by omega
  rw [if_pos hle'] at hx;exact Ev.of (aIf hn a1 a2 hdy hle' hq x (by omega)) hx.symm
 have hie:i=p.arrays.length:=by omega
 rw [hx,hie,vBx];rfl
theorem Z4{n:Nat}(hn:6000≤n){list:List Arr}(hl:list.length≤4)(hd:eS list){a:Access}{d:Int}(ha:jE a d=true){k:Nat}{q:List Int}(hq:nZ k q):tH n list a q=some (cM list a q 0):=by
 obtain⟨a0,a1,a2⟩:=aI8 ha;refine Ev.eq ?_;unfold tH;refine Ev.loop (fun x:Int×Int=> ∃i:Nat,x.2=i∧i≤list.length∧0≤x.1∧x.1≤36*i∧cM list a q 0=cM (list.drop i) a q x.1) (fun x=>list.length-x.2.toNat) ?_ n _ ⟨0,rfl,by omega,by simp,by simp,rfl⟩ (by simp;omega);rintro again ⟨x,z⟩ ⟨i,hz,hi,hx0,hx1,hx⟩ hr;dsimp only at hz hx0 hx1 hx⊢;subst hz;refine aH (fun hlt=>?_) fun hge=>Ev.some ?_
 ·have hy:=cI (show i<list.length by omega);have hdy:=hd _ (cF hy);have hsz:=M3 hdy;rw [iK hy] at hx;simp only [cM] at hx;refine aA (aM hy) (eU (fun hne=>?_) fun he=>?_)
  ·rw [if_neg hne] at hx;refine aA (tF hn hdy) ?_;rw [aK (n:=x+M4 list[i].dims) (by omega),aK (by omega)];exact hr _ ⟨i+1,by dsimp only;omega,by omega,by dsimp only;omega,by dsimp only;omega,hx⟩ (by dsimp only;omega)
  rw [if_pos he] at hx;exact Ev.of (aHF hn a0 a1 a2 hdy hq x (by omega)) hx.symm
 have hie:i=list.length:=by omega
 rw [hx,hie,vBx];rfl
def cC:Nat→Expr→List Access
 |0,_=>[]
 |L+1,e=>(if e.kind=3 then [e.read] else [])++e.kids.flatMap (cC L)
theorem uP{d:Int}: ∀{L:Nat} {e:Expr},dN L e d=true→ ∀a∈cC L e,jE a d=true
 |0,e,h,a,ha=>by cases h
 |L+1,e,h,a,ha=>by
  obtain⟨h1,h2,h3⟩:=lW h;simp only [cC,List.mem_append,List.mem_flatMap] at ha;rcases ha with ha|⟨k,hk,ha⟩
  ·split at ha
   ·rename_i hk3;simp at ha;subst ha;unfold iF at h2;rw [if_neg (by omega),if_pos hk3] at h2;simp only [Bool.and_eq_true] at h2;exact h2.2.2
   simp at ha
  exact uP (h3 k hk) a ha
theorem uO: ∀(L:Nat) (e:Expr),((cC L e).length:Int)≤sQ L e
 |0,e=>by simp [cC,sQ]
 |L+1,e=>by
  have h: ∀(l:List Expr),((l.flatMap (cC L)).length:Int)≤(l.map (sQ L)).sum:=by
   intro l;induction l with
   |nil=>simp
   |cons k l ih=>
    have:=uO L k;simp only [List.flatMap_cons,List.length_append,List.map_cons,List.sum_cons];omega
  have:=h e.kids;simp only [cC,sQ,List.length_append];split
  ·rw [vAJ];omega
  rw [List.length_nil];omega
theorem wS{d:Int}: ∀(L n:Nat) (e:Expr),6000+L≤n→L≤5→dN L e d=true→i_reads (n+1) e=some (cC L e)
 |0,n,e,_,_,h=>by cases h
 |L+1,n,e,hn,hL,h=>by
  obtain⟨h1,h2,h3⟩:=lW h;have hk2:=yI e.kind;unfold i_reads;refine Ev.eq (aH (fun h3k=>Ev.some ?_) fun hn3=>?_)
  ·have:e.kids=[]:=by
    have hz:gB e.kind=0:=by unfold gB;rw [if_pos (Or.inr (Or.inr h3k))]
    exact vAC (by omega)
   simp [cC,h3k,this]
  obtain⟨n,rfl⟩: ∃j,n=j+1:=⟨n-1,by omega⟩
  have hcb: ∀k∈e.kids,((cC L k).length:Int)≤100:=fun k hk=>by
   have h5:=aBH (h3 k hk);have h6:(2:Int)^L≤40:=by
    match L,hL with
    |0,_=>decide
    |1,_=>decide
    |2,_=>decide
    |3,_=>decide
    |4,_=>decide
   have:=uO L k;omega
  refine Ev.loop (fun x:List Access×Int=> ∃i:Nat,x.2=i∧i≤e.kids.length∧x.1=(e.kids.take i).flatMap (cC L)∧(x.1.length:Int)≤100*i) (fun x=>e.kids.length-x.2.toNat) ?_ (n+1) _ ⟨0,rfl,by omega,by simp,by simp⟩ (by simp;omega);rintro again ⟨x,k⟩ ⟨i,hk,hi,hx,hxl⟩ hr;dsimp only at hk hx hxl⊢;subst hk;refine aH (fun hlt=>?_) fun hge=>Ev.some ?_
  ·have hk3:=cI (show i<e.kids.length by omega);have hm:=cF hk3;have hb:=hcb _ hm;refine aA (aM hk3) (aA (wS (d:=d) L n _ (by omega) (by omega) (h3 _ hm)) (aA (bI (by omega)) ?_));rw [aK (by omega)];refine hr _ ⟨i+1,by dsimp only;omega,by omega,?_,by dsimp only;rw [iX];omega⟩ (by dsimp only;omega);dsimp only;rw [xC,hk3,vAW,hx];simp
  have:i=e.kids.length:=by omega
  rw [hx,this,pB];simp [cC,hn3]
theorem T4(n:Nat){a:Affine}(h:a.coefs.length≤1000):gD n a=some a:=by
 unfold gD;refine Ev.eq (aH (fun h0=>Ev.some ?_) fun h0=>aA (fB _ h) (Ev.some rfl));obtain⟨cs,c⟩:=a
 have:cs=[]:=vAC (by simpa using h0);subst this;rfl
theorem wX{n:Nat}(hn:5000≤n){a:Access}(h:I4 a.subs):eV n a=some a:=by
 obtain⟨h0,h1⟩:=h;refine Ev.eq ?_;unfold eV;refine Ev.loop (fun x:List Affine×Int=> ∃i:Nat,x.2=i∧i≤a.subs.length∧x.1=a.subs.take i) (fun x=>a.subs.length-x.2.toNat) ?_ n _ ⟨0,rfl,by omega,by simp⟩ (by simp;omega);rintro again ⟨x,k⟩ ⟨i,hk,hi,hx⟩ hr;dsimp only at hk hx⊢;subst hk;refine aH (fun hlt=>?_) fun hge=>Ev.some ?_
 ·have hs:=cI (show i<a.subs.length by omega);have hl:x.length=i:=by rw [hx,qS];omega
  refine aA (aM hs) (aA (T4 n (h1 _ (cF hs))) (aA (bI (by simp;omega)) ?_));rw [aK (by omega)];refine hr _ ⟨i+1,by dsimp only;omega,by omega,?_⟩ (by dsimp only;omega);dsimp only;rw [xC,hs,hx];rfl
 have:i=a.subs.length:=by omega
 rw [hx,this,pB]
theorem aKQ{l:List Affine}(h1:l.length≤2)(h2: ∀a∈l,fC a=true):I4 l:=⟨by omega,fun a ha=>by have:=(zT (h2 a ha)).1;unfold SmA;omega⟩
theorem M7{d:Int}: ∀(L n:Nat) (e:Expr) (out:List Access),6000+L≤n→L≤5→dN L e d=true→(out.length:Int)≤1000+200*(6-(L:Int))→s_l3Reads (n+1) out e=some (out++cC L e)
 |0,n,e,out,_,_,h,_=>by cases h
 |L+1,n,e,out,hn,hL,h,ho=>by
  obtain⟨h1,h2,h3⟩:=lW h;have hk2:=yI e.kind;unfold s_l3Reads;refine Ev.eq (Ev.jn (fun z=>z=out++(if e.kind=3 then [e.read] else [])) (fun j hj=>aH (fun h3k=>?_) fun hn3=>hj _ (by rw [if_neg hn3];simp)) fun z hz=>?_)
  ·have ha:=uP h e.read (by simp [cC,h3k]);obtain⟨_,b1,b2⟩:=aI8 ha;exact aA (wX (by omega) (aKQ b1 b2)) (aA (bI (by simp;omega)) (hj _ (by rw [if_pos h3k])))
  subst hz;obtain⟨n,rfl⟩: ∃j,n=j+1:=⟨n-1,by omega⟩
  by_cases h3k:e.kind=3
  ·have hnil:e.kids=[]:=by
    have hz:gB e.kind=0:=by unfold gB;rw [if_pos (Or.inr (Or.inr h3k))]
    exact vAC (by omega)
   rw [hnil];refine Ev.some ?_;simp [cC,h3k,hnil]
  have hcb: ∀k∈e.kids,((cC L k).length:Int)≤100:=fun k hk=>by
   have h5:=aBH (h3 k hk);have h6:(2:Int)^L≤40:=by
    match L,hL with
    |0,_=>decide
    |1,_=>decide
    |2,_=>decide
    |3,_=>decide
    |4,_=>decide
   have:=uO L k;omega
  rw [if_neg h3k,vAY];refine Ev.loop (fun x:List Access×Int=> ∃i:Nat,x.2=i∧i≤e.kids.length∧x.1=out++(e.kids.take i).flatMap (cC L)∧(x.1.length:Int)≤out.length+100*i) (fun x=>e.kids.length-x.2.toNat) ?_ (n+1) _ ⟨0,rfl,by omega,by simp,by simp⟩ (by simp;omega);rintro again ⟨x,k⟩ ⟨i,hk,hi,hx,hxl⟩ hr;dsimp only at hk hx hxl⊢;subst hk;refine aH (fun hlt=>?_) fun hge=>Ev.some ?_
  ·have hk3:=cI (show i<e.kids.length by omega);have hm:=cF hk3;have hb:=hcb _ hm;refine aA (aM hk3) (aA (M7 (d:=d) L n _ x (by omega) (by omega) (h3 _ hm) (by omega)) ?_);rw [aK (by omega)];refine hr _ ⟨i+1,by dsimp only;omega,by omega,?_,by dsimp only;rw [iX];omega⟩ (by dsimp only;omega);dsimp only;rw [xC,hk3,vAW,hx];simp
  have:i=e.kids.length:=by omega
  rw [hx,this,pB];simp [cC,h3k]
theorem aHQ{nest:List Loop}(hf:Fit nest): ∀(ls:List Loop) (k:Nat) (p q:List Int),nest.drop k=ls→k≤nest.length→nZ k p→q∈pts ls p→nZ nest.length q
 | [],k,p,q,hd,hk,hp,hq=>by
  have:=yX hd hk;simp only [pts,List.mem_singleton] at hq;subst hq;subst this;exact hp
 |l::ls,k,p,q,hd,hk,hp,hq=>by obtain⟨d1,d2,d3⟩:=u7 hd;obtain⟨s1,s2⟩:=hf.2 k l d1;have hf1:=hf.1;simp only [pts,List.mem_flatMap] at hq;obtain⟨v,hv,hq⟩:=hq;exact aHQ hf ls (k+1) _ q d2 (by omega) (J4 s1 s2 hp (by omega) (aJY.1 hv)) hq
theorem aDB{nest:List Loop}{ps:List (List Int)}(h:NP nest=some ps):Fit nest∧ps.length≤120∧(∀q∈ps,nZ nest.length q)∧ps=pts nest []∧wk nest []≤1200:=by
 unfold NP at h;split at h
 ·rename_i hc;cases h;have hf:=aBt hc.1;exact⟨hf,hc.2.2,fun q hq=>aHQ hf nest 0 [] q rfl (by omega) pt0 hq,rfl,hc.2.1⟩
 cases h
def dC(list:List Arr)(s:Stmt)(q:List Int):Bool:=decide (0≤cM list s.write q 0)&&(cC 5 s.value).all fun a=>decide (0≤cM list a q 0)
theorem wE{s:Stmt}{d:Int}(h:jI s d=true):jE s.write d=true∧dN 5 s.value d=true∧(∀a∈cC 5 s.value,jE a d=true)∧(cC 5 s.value).length≤12:=by
 simp only [jI,Bool.and_eq_true,decide_eq_true_eq] at h;obtain⟨_,h1,h2,h3⟩:=h
 have:=uO 5 s.value;exact⟨h1,h2,uP h2,by omega⟩
theorem aCN{n:Nat}(hn:7000≤n){p:Prog}(hl:p.arrays.length≤4)(hd:eS p.arrays){s:Stmt}{d:Int}(hs:jI s d=true){k:Nat}{q:List Int}(hq:nZ k q):gW n p s q=some (dC p.arrays s q):=by
 obtain⟨h1,h2,h3,h4⟩:=wE hs;obtain⟨n,rfl⟩: ∃j,n=j+1:=⟨n-1,by omega⟩
 refine Ev.eq ?_;unfold gW;generalize hT:dC p.arrays s q=T;unfold dC at hT;refine Ev.jn (fun z=>z=T) (fun j hj=>aA (mW (by omega) hl hd h1 hq) (aH (fun h=>?_) fun h=>hj _ ?_)) fun z hz=>Ev.some hz
 ·have hc:=I0 (n:=n+1) (f:=fun q0=>dU (n+1) q0 p q) (p:=fun a=>decide (cM p.arrays a q 0<0)) (l:=cC 5 s.value)
   (fun a ha=>by unfold dU;rw [mW (by omega) hl hd (h3 a ha) hq];rfl) (by omega) (by omega)
  refine aA (wS (d:=d) 5 n s.value (by omega) (by omega) h2) (aA hc (hj _ ?_));rw [←hT,decide_eq_true h,W0,vAV];congr 1;apply congrArg fun f=>List.any (cC 5 s.value) f;funext a;rw [ltd]
 rw [←hT,decide_eq_false h];rfl
theorem aA4{n:Nat}(hn:7000≤n){list:List Arr}(hl:list.length≤4)(hd:eS list){s:Stmt}{d:Int}(hs:jI s d=true){k:Nat}{q:List Int}(hq:nZ k q):
  uI n list s q=some (if dC list s q=true then((cC 5 s.value).map fun a=>cM list a q 0,cM list s.write q 0,true) else([],0,false)):=by
 obtain⟨h1,h2,h3,h4⟩:=wE hs;obtain⟨n,rfl⟩: ∃j,n=j+1:=⟨n-1,by omega⟩
 refine Ev.eq ?_;unfold uI;refine aA (M7 (d:=d) 5 n s.value [] (by omega) (by omega) h2 (by simp)) ?_;rw [List.nil_append];generalize hR:cC 5 s.value=R at*;have hco:dC list s q=(decide (0≤cM list s.write q 0)&&R.all fun a=>decide (0≤cM list a q 0)):=by unfold dC;rw [hR]
 refine Ev.loop (fun x:List Int×Int=> ∃i:Nat,x.2=i∧i≤R.length∧x.1=(R.take i).map (fun a=>cM list a q 0)∧ ∀(t:Nat) a,t<i→R[t]? =some a→0≤cM list a q 0) (fun x=>R.length-x.2.toNat) ?_ (n+1) _ ⟨0,rfl,by omega,by simp,fun t a h=>by omega⟩ (by dsimp only;omega);rintro again ⟨x,z⟩ ⟨i,hz,hi,hx,ha⟩ hr;dsimp only at hz hx ha⊢;subst hz;refine aH (fun hlt=>?_) fun hge=>?_
 ·have hg:=cI (show i<R.length by omega);have hm:=cF hg;refine aA (aM hg) (aA (Z4 (by omega) hl hd (h3 _ hm) hq) (aH (fun hneg=>Ev.some ?_) fun hpos=>?_))
  ·rw [if_neg];rw [hco];intro h;rw [vBL] at h
   have:=vAE.1 h.2 _ hm;rw [decide_eq_true_eq] at this;omega
  have hl2:x.length≤12:=by rw [hx,lT,qS];omega
  refine aA (bI (by simp;omega)) ?_;rw [aK (by omega)];refine hr _ ⟨i+1,by dsimp only;omega,by omega,?_,fun t a ht hta=>?_⟩ (by dsimp only;omega)
  ·dsimp only;rw [xC,hg,sY,hx];rfl
  by_cases hti:t=i
  ·subst hti;rw [hg] at hta;cases hta;omega
  exact ha t a (by omega) hta
 have hie:i=R.length:=by omega
 have hall:R.all (fun a=>decide (0≤cM list a q 0))=true:=vAE.2 (fun a hm=>by
  obtain⟨t,ht⟩:=vAH hm
  have:=(cL.1 ht).1;exact decide_eq_true (ha t a (by omega) ht))
 rw [hco,hall,Bool.and_true];refine aA (Z4 (by omega) hl hd h1 hq) (aH (fun hneg=>Ev.some ?_) fun hpos=>Ev.some ?_)
 ·rw [if_neg (by rw [decide_eq_true_eq];omega)]
 rw [if_pos (by rw [decide_eq_true_eq];omega),hx,hie,pB]
def ptV(q:List Int):Bool:=decide (q.length≤4)&&q.all fun x=>decide (-9999≤x∧x≤9999)
theorem aBn{n:Nat}(hn:5000≤n){q:List Int}(h:q.length≤1000):uY n q=some (ptV q):=by
 unfold uY ptV;have hc:=mD (n:=n) (f:=fun q0=>lH n q0) (p:=fun x=> !decide (-9999≤x∧x≤9999)) (l:=q) (fun x _=>by unfold lH;rw [dH];rfl) (by omega) (by omega);simp only [jn,Option.bind];rw [hc];have e:(q.any fun x=> !decide (-9999≤x∧x≤9999))= !(q.all fun x=>decide (-9999≤x∧x≤9999)):=by rw [vAV];simp
 rw [e,show decide ((q.length:Int)≤4)=decide (q.length≤4) from decide_eq_decide.2 (by omega)];cases decide (q.length≤4)<;>simp
theorem aA6{n:Nat}(hn:5000≤n){q:List Int}(h:q.length≤1000):uJ n q=some (ptV q):=by
 refine Ev.eq ?_;unfold uJ;refine mK (l:=q) (p:=fun _ x=>decide (-9999≤x∧x≤9999)) (by omega) (by omega) (fun again i x hx hgo hno=>?_) (fun again hall=>?_) (fun⟨i,x,hx,hp⟩=>?_)
 ·have hi:=(cL.1 hx).1;rw [decide_eq_true (show(i:Int)<(q.length:Int) by omega)];refine bY (aA (aM hx) (aA (tC n x 9999 (by omega)) ?_));cases hp:decide (-9999≤x∧x≤9999) with
  |true=>show Ev (again _) _;rw [aK (by omega)];exact hgo hp
  |false=>exact Ev.some (hno hp)
 ·rw [decide_eq_false (show¬(q.length:Int)<(q.length:Int) by omega)];refine Ev.some ?_;unfold ptV;rw [vAE.2 (fun c hc=>by obtain⟨i,hi⟩:=vAH hc;exact hall i c hi),Bool.and_true];exact decide_eq_decide.2 (by omega)
 unfold ptV;rw [vAL.2 ⟨x,cF hx,by rw [hp];simp⟩,vBN]
theorem aDu{α:Type}(p q:α→Bool): ∀l:List α,(l.all p&&l.all q)=l.all (fun x=>p x&&q x)
 | []=>rfl
 |x::l=>by simp only [List.all_cons,←aDu p q l];cases p x<;>cases q x<;>cases l.all p<;>cases l.all q<;>rfl
def zP(part:Part):Bool:=decide (1≤part.body.length∧part.body.length≤4)&&part.body.all fun s=>jI s (part.nest.length:Int)
def eB(part:Part):List (List Int):=(NP part.nest).getD []
def cT(list:List Arr)(part:Part):Bool:=(NP part.nest).isSome&&(zP part&&part.body.all fun s=>(eB part).all fun q=>dC list s q&&ptV q)
def aBU(x:Part):Prop:=SmN x.nest∧x.body.length≤1000∧ ∀s∈x.body,SmS s
def SmP(p:Prog):Prop:=SmR p.arrays∧p.parts.length≤1000∧ ∀x∈p.parts,aBU x
theorem pY{list:List Arr}{x:Part}(h:cT list x=true):NP x.nest=some (eB x)∧(1≤x.body.length∧x.body.length≤4)∧(∀s∈x.body,jI s (x.nest.length:Int)=true)∧ ∀s∈x.body,∀q∈eB x,dC list s q=true∧ptV q=true:=by
 simp only [cT,zP,Bool.and_eq_true,decide_eq_true_eq,List.all_eq_true] at h;refine⟨?_,h.2.1.1,h.2.1.2,h.2.2⟩;unfold eB;cases hn:NP x.nest with
 |none=>rw [hn] at h;simp at h
 |some ps=>rfl
theorem aE7{list:List Arr}(h:gO list=true):list.length≤4∧eS list:=by
 simp only [gO,Bool.and_eq_true,decide_eq_true_eq] at h;refine⟨h.2,fun x hx=>?_⟩;obtain⟨i,hi⟩:=vAH hx
 have:=Q5 h.1 hi;simp only [Y4,Bool.and_eq_true] at this;exact this.2.2
theorem tG{n:Nat}(hn:7000≤n){list:List Arr}(hl:list.length≤4)(hd:eS list){x:Part}(hx:aBU x):
  pR n list x=some (if cT list x=true then(((eB x).length:Int)*(x.body.length:Int),true) else(0,false)):=by
 obtain⟨h1,h2,h3⟩:=hx;refine Ev.eq ?_;unfold pR;generalize hT:(if cT list x=true then(((eB x).length:Int)*(x.body.length:Int),true) else((0:Int),false))=T;refine aA (H0 (by omega) h1) ?_;have hbad:cT list x=false→((0:Int),false)=T:=fun h=>by rw [←hT,h];rfl
 refine Ev.jn (fun z=>z= !((NP x.nest).isSome&&decide (1≤x.body.length∧x.body.length≤4))) (fun j hj=>?_) fun z hz=>?_
 ·cases hN:NP x.nest with
  |none=>exact bY (hj _ (by rw [hN];rfl))
  |some ps=>
   refine bT (aH (fun h=>hj _ ?_) fun h=>hj _ ?_)
   ·rw [hN,decide_eq_false (by omega)];rfl
   rw [hN];by_cases h4:x.body.length≤4
   ·rw [decide_eq_false (show¬(4:Int)<(x.body.length:Int) by omega),decide_eq_true (by omega)];rfl
   rw [decide_eq_true (show(4:Int)<(x.body.length:Int) by omega),decide_eq_false (by omega)];rfl
 subst hz;cases hN:NP x.nest with
 |none=>exact Ev.some (hbad (by unfold cT;rw [hN];rfl))
 |some ps=>
  obtain⟨hf,hp1,hp2,hp3,hp4⟩:=aDB hN;have hpp:eB x=ps:=by unfold eB;rw [hN];rfl
  by_cases hb:1≤x.body.length∧x.body.length≤4
  ·rw [decide_eq_true hb];refine bT ?_;have hok:cT list x=x.body.all (fun s=>jI s (x.nest.length:Int)&&ps.all fun q=>dC list s q&&ptV q):=by
    unfold cT zP;rw [hN,hpp,decide_eq_true hb,Option.isSome_some,W0,W0];exact aDu _ _ _
   refine Ev.loop (fun y:Int=> ∃i:Nat,y=i∧i≤x.body.length∧ ∀(t:Nat) s,t<i→x.body[t]? =some s→(jI s (x.nest.length:Int)&&ps.all fun q=>dC list s q&&ptV q)=true) (fun y=>x.body.length-y.toNat) ?_ n _ ⟨0,rfl,by omega,fun t s h=>by omega⟩ (by simp;omega);rintro again y ⟨i,rfl,hi,ha⟩ hr;refine aH (fun hlt=>?_) fun hge=>Ev.some ?_
   ·have hg:=cI (show i<x.body.length by omega);have hm:=cF hg;refine aA (aM hg) (aA (tL (by omega) (h3 _ hm) _) ?_);cases hsv:jI x.body[i] (x.nest.length:Int) with
    |false=>
     refine bY (Ev.some (hbad ?_));rw [hok];exact vAL.2 ⟨_,hm,by rw [hsv];simp⟩
    |true=>
     refine bT ?_;show Ev (aL (fun again9 (x8:Int)=>bif decide (x8<(ps.length:Int)) then _ else _) n 0) _;refine Ev.loop (fun y:Int=> ∃k:Nat,y=k∧k≤ps.length∧ ∀(t:Nat) q,t<k→ps[t]? =some q→(dC list x.body[i] q&&ptV q)=true) (fun y=>ps.length-y.toNat) ?_ n _ ⟨0,rfl,by omega,fun t s h=>by omega⟩ (by simp;omega);rintro again9 y ⟨k,rfl,hk,hak⟩ hr9;refine aH (fun hlt9=>?_) fun hge9=>?_
     ·have hgk:=cI (show k<ps.length by omega);have hmk:=cF hgk;have hq:=hp2 _ hmk;have hql:ps[k].length≤1000:=by have:=hq.1;have:=hq.2.1;omega
      refine aA (aM hgk) (aA (aA4 (by omega) hl hd hsv hq) (Ev.jn (fun z=>z= !(dC list x.body[i] ps[k]&&ptV ps[k])) (fun j hj=>?_) fun z hz=>?_))
      ·cases hc:dC list x.body[i] ps[k] with
       |false=>
        rw [hc] at hj;exact bY (hj _ rfl)
       |true=>
        rw [hc] at hj;exact bT (aA (aA6 (by omega) hql) (hj _ rfl))
      subst hz;cases hc:(dC list x.body[i] ps[k]&&ptV ps[k]) with
      |false=>
       refine Ev.some (hbad ?_);rw [hok];refine vAL.2 ⟨_,hm,?_⟩;rw [hsv,W0];rw [vAL.2 ⟨_,hmk,by rw [hc];simp⟩];simp
      |true=>
       show Ev (again9 _) _;rw [aK (by omega)];refine hr9 _ ⟨k+1,by omega,by omega,fun t q ht htq=>?_⟩ (by omega);by_cases htk:t=k
       ·subst htk;rw [hgk] at htq;cases htq;exact hc
       exact hak t q (by omega) htq
     rw [aK (by omega)];refine hr _ ⟨i+1,by omega,by omega,fun t s ht hts=>?_⟩ (by omega);by_cases hti:t=i
     ·subst hti;rw [hg] at hts;cases hts;rw [hsv,W0];refine vAE.2 fun q hq=>?_;obtain⟨t',ht'⟩:=vAH hq
      have:=(cL.1 ht').1;exact hak t' q (by omega) ht'
     exact ha t s (by omega) hts
   have hall:cT list x=true:=by
    rw [hok];refine vAE.2 fun s hs=>?_;obtain⟨t,ht⟩:=vAH hs
    have:=(cL.1 ht).1;exact ha t s (by omega) ht
   rw [←hT,hall,if_pos rfl,hpp];show(wr ((ps.length:Int)*(x.body.length:Int)),true)=_;have hb1:(0:Int)≤(ps.length:Int)*(x.body.length:Int):=vBo (by omega) (by omega);have hb2:(ps.length:Int)*(x.body.length:Int)≤120*4:=vBF (by omega) (by omega) (by omega) (by omega);rw [aK (by omega)]
  rw [decide_eq_false hb];refine Ev.some (hbad ?_);unfold cT zP;rw [decide_eq_false hb];simp
def fI(x:Part):Int:=((eB x).length:Int)*(x.body.length:Int)
def instP(i:Nat)(x:Part):List Inst:=(eB x).flatMap fun q=>(List.range x.body.length).map fun(k:Nat)=>(⟨(i:Int),(k:Int),q⟩:Inst)
def insts(ps:List Part):List Inst:=ps.zipIdx.flatMap fun y=>instP y.2 y.1
def o9(p:Prog):Bool:=gO p.arrays&&(decide (p.parts.length≤4)&&p.parts.all (cT p.arrays))
def bM(p:Prog):Bool:=o9 p&&decide ((p.parts.map fI).sum≤120)
theorem insts_snoc(l:List Part)(x:Part):insts (l++[x])=insts l++instP l.length x:=by unfold insts;rw [List.zipIdx_append,vAW];simp
theorem insts_take{l:List Part}{i:Nat}{x:Part}(h:l[i]? =some x):insts (l.take (i+1))=insts (l.take i)++instP i x:=by have hi:=(cL.1 h).1;rw [xC,h];show insts (l.take i++[x])=_;rw [insts_snoc,qS,vBt (Nat.le_of_lt hi)]
theorem yV{α β:Type}(f:α→List β)(m:Nat)(h: ∀x,(f x).length=m): ∀l:List α,(l.flatMap f).length=l.length*m
 | []=>by simp
 |x::l=>by rw [vBW,iX,h,yV f m h l,vCa,mZ];omega
theorem instP_len(i:Nat)(x:Part):((instP i x).length:Int)=fI x:=by unfold instP fI;rw [yV _ x.body.length fun q=>by simp];exact Int.natCast_mul _ _
theorem aCg{l:List Part}{i:Nat}{x:Part}(h:l[i]? =some x):((l.take (i+1)).map fI).sum=((l.take i).map fI).sum+fI x:=by rw [xC,h];simp
theorem insts_len: ∀(l:List Part) (i:Nat),i≤l.length→((insts (l.take i)).length:Int)=((l.take i).map fI).sum
 |l,0,_=>by simp [insts]
 |l,i+1,h=>by
  have hg:=cI (show i<l.length by omega);rw [insts_take hg,iX,aCg hg]
  have:=insts_len l i (by omega)
  have:=instP_len i l[i];omega
theorem insts_len'(l:List Part):((insts l).length:Int)=(l.map fI).sum:=by
 have:=insts_len l l.length (iB _)
 rwa [pB] at this
theorem C7{list:List Arr}{x:Part}(h:cT list x=true):0≤fI x∧fI x≤480:=by
 obtain⟨h1,h2,_⟩:=pY h;obtain⟨_,h3,_⟩:=aDB h1;unfold fI;refine⟨vBo (by omega) (by omega),?_⟩
 have:=vBF (show((eB x).length:Int)≤120 by omega) (show(x.body.length:Int)≤4 by omega) (by omega) (by omega);omega
theorem oB{n:Nat}(hn:7000≤n){p:Prog}(hp:SmP p):eX n p=some (bM p):=by
 obtain⟨h1,h2,h3⟩:=hp;refine Ev.eq ?_;unfold eX;generalize hT:bM p=T;unfold bM o9 at hT;refine Ev.jn (fun z=>z= !(gO p.arrays&&decide (p.parts.length≤4))) (fun j hj=>aA (W5 (by omega) h1) ?_) fun z hz=>?_
 ·cases ha:gO p.arrays with
  |false=>exact bY (hj _ (by rw [ha];rfl))
  |true=>
   refine bT (hj _ ?_);rw [ha];by_cases h4:p.parts.length≤4
   ·rw [decide_eq_false (show¬(4:Int)<(p.parts.length:Int) by omega),decide_eq_true h4];rfl
   rw [decide_eq_true (show(4:Int)<(p.parts.length:Int) by omega),decide_eq_false h4];rfl
 subst hz;cases hb:(gO p.arrays&&decide (p.parts.length≤4)) with
 |false=>
  refine Ev.some ?_;rw [←hT,←vBf,hb];rfl
 |true=>
  have hT':T=(p.parts.all (cT p.arrays)&&decide ((p.parts.map fI).sum≤120)):=by rw [←hT,←vBf,hb];rfl
  rw [vBL,decide_eq_true_eq] at hb;obtain⟨hl,hd⟩:=aE7 hb.1;refine bT ?_;refine Ev.loop (fun x:Int×Int=> ∃i:Nat,x.2=i∧i≤p.parts.length∧x.1=((p.parts.take i).map fI).sum∧0≤x.1∧x.1≤480*i∧ ∀(t:Nat) y,t<i→p.parts[t]? =some y→cT p.arrays y=true) (fun x=>p.parts.length-x.2.toNat) ?_ n _ ⟨0,rfl,by omega,by simp,by simp,by simp,fun t y h=>by omega⟩ (by dsimp only;omega);rintro again ⟨x,z⟩ ⟨i,hz,hi,hx,hx0,hx1,ha⟩ hr;dsimp only at hz hx hx0 hx1 ha⊢;subst hz;refine aH (fun hlt=>?_) fun hge=>Ev.some ?_
  ·have hg:=cI (show i<p.parts.length by omega);have hm:=cF hg;refine aA (aM hg) (aA (tG (by omega) hl hd (h3 _ hm)) ?_);cases hpo:cT p.arrays p.parts[i] with
   |false=>
    rw [if_neg (by simp)];refine Ev.some ?_;rw [hT',vAL.2 ⟨_,hm,by rw [hpo];simp⟩];rfl
   |true=>
    rw [if_pos rfl];have hcb:=C7 hpo;show Ev (again (wr (x+fI p.parts[i]),wr ((i:Int)+1))) _;rw [aK (n:=x+fI p.parts[i]) (by omega),aK (by omega)];refine hr _ ⟨i+1,by dsimp only;omega,by omega,by dsimp only;rw [aCg hg];omega,by dsimp only;omega,by dsimp only;omega,fun t y ht hty=>?_⟩ (by dsimp only;omega);by_cases hti:t=i
    ·subst hti;rw [hg] at hty;cases hty;exact hpo
    exact ha t y (by omega) hty
  have hie:i=p.parts.length:=by omega
  have hall:p.parts.all (cT p.arrays)=true:=vAE.2 (fun y hy=>by
   obtain⟨t,ht⟩:=vAH hy
   have:=(cL.1 ht).1;exact ha t y (by omega) ht)
  rw [hT',hall,W0,hx,hie,pB]
theorem tP{α:Type}(f:Nat→α)(k:Nat):(List.range (k+1)).map f=(List.range k).map f++[f k]:=by rw [vBR,sY];rfl
theorem nG{n:Nat}(hn:7000≤n){p:Prog}(hp:SmP p):b9 n p=some (if o9 p=true then(insts p.parts,decide ((insts p.parts).length≤120)) else([],false)):=by
 obtain⟨h1,h2,h3⟩:=hp;refine Ev.eq ?_;unfold b9;generalize hT:(if o9 p=true then(insts p.parts,decide ((insts p.parts).length≤120)) else([],false))=T;have hbad:o9 p=false→(([]:List Inst),false)=T:=fun h=>by rw [←hT,h];rfl
 refine Ev.jn (fun z=>z= !(gO p.arrays&&decide (p.parts.length≤4))) (fun j hj=>aA (X3 (by omega) h1) ?_) fun z hz=>?_
 ·cases ha:gO p.arrays with
  |false=>exact bY (hj _ (by rw [ha];rfl))
  |true=>
   refine bT (hj _ ?_);rw [ha];by_cases h4:p.parts.length≤4
   ·rw [decide_eq_false (show¬(4:Int)<(p.parts.length:Int) by omega),decide_eq_true h4];rfl
   rw [decide_eq_true (show(4:Int)<(p.parts.length:Int) by omega),decide_eq_false h4];rfl
 subst hz;cases hb:(gO p.arrays&&decide (p.parts.length≤4)) with
 |false=>exact Ev.some (hbad (by unfold o9;rw [←vBf,hb];rfl))
 |true=>
  have hall':o9 p=p.parts.all (cT p.arrays):=by unfold o9;rw [←vBf,hb];rfl
  rw [vBL,decide_eq_true_eq] at hb;obtain⟨hl,hd⟩:=aE7 hb.1;refine bT ?_;refine Ev.loop (fun x:List Inst×Int=> ∃i:Nat,x.2=i∧i≤p.parts.length∧x.1=insts (p.parts.take i)∧x.1.length≤480*i∧ ∀(t:Nat) y,t<i→p.parts[t]? =some y→cT p.arrays y=true) (fun x=>p.parts.length-x.2.toNat) ?_ n _ ⟨0,rfl,by omega,by simp [insts],by simp,fun t y h=>by omega⟩ (by dsimp only;omega);rintro again ⟨x,z⟩ ⟨i,hz,hi,hx,hxl,ha⟩ hr;dsimp only at hz hx hxl ha⊢;subst hz;refine aH (fun hlt=>?_) fun hge=>Ev.some ?_
  ·have hg:=cI (show i<p.parts.length by omega);have hm:=cF hg;obtain⟨s1,s2,s3⟩:=h3 _ hm;generalize hP:p.parts[i]=P at*;have hpb:cT p.arrays P=false→o9 p=false:=fun h=>by rw [hall'];exact vAL.2 ⟨_,hm,by rw [h];simp⟩
   refine aA (aM hg) (aA (H7 (by omega) s1) (Ev.jn (fun z=>z= !((NP P.nest).isSome&&zP P)) (fun j hj=>?_) fun z hz=>?_))
   ·cases hN:NP P.nest with
    |none=>exact bY (hj _ (by rw [hN];rfl))
    |some ps=>
     refine bT ?_;have hw:cH n (P.body.length:Int) 1 4=some (decide (1≤P.body.length∧P.body.length≤4)):=by
      rw [dH];congr 1;exact decide_eq_decide.2 (by omega)
     refine aA hw ?_;have hc:=X7 (n:=n) (f:=fun q0=>cX n q0 P) (p:=fun s=> !jI s (P.nest.length:Int)) (l:=P.body) (fun s hs=>by unfold cX;rw [R2 (by omega) (s3 s hs)];rfl) (by omega) (by omega);have e:(P.body.any fun s=> !jI s (P.nest.length:Int))= !(P.body.all fun s=>jI s (P.nest.length:Int)):=by rw [vAV];simp
     cases hw2:decide (1≤P.body.length∧P.body.length≤4) with
     |false=>exact bY (hj _ (by unfold zP;rw [hN,hw2];rfl))
     |true=>exact bT (aA hc (hj _ (by unfold zP;rw [hN,hw2,e];rfl)))
   subst hz;cases hN:NP P.nest with
   |none=>exact Ev.some (hbad (hpb (by unfold cT;rw [hN];rfl)))
   |some ps=>
    obtain⟨hf,hp1,hp2,hp3,hp4⟩:=aDB hN;have hpp:eB P=ps:=by unfold eB;rw [hN];rfl
    cases hbv:zP P with
    |false=>exact Ev.some (hbad (hpb (by unfold cT;rw [hbv];simp)))
    |true=>
     have hbv':=hbv;simp only [zP,Bool.and_eq_true,decide_eq_true_eq,List.all_eq_true] at hbv';obtain⟨⟨hb1,hb2⟩,hb3⟩:=hbv';have hok:cT p.arrays P=P.body.all (fun s=>ps.all fun q=>dC p.arrays s q&&ptV q):=by
      unfold cT;rw [hN,hbv,hpp];rfl
     let row:List Int→List Inst:=fun q=>(List.range P.body.length).map fun(k:Nat)=>(⟨(i:Int),(k:Int),q⟩:Inst)
     have hrl: ∀q,(row q).length=P.body.length:=fun q=>by simp [row]
     have hinst:instP i P=ps.flatMap row:=by unfold instP;rw [hpp]
     refine bT ?_;rw [show(aEB (some ps)).1=ps from rfl];refine Ev.loop (fun y:List Inst×Int=> ∃k:Nat,y.2=k∧k≤ps.length∧y.1=x++(ps.take k).flatMap row∧ ∀(t:Nat) q,t<k→ps[t]? =some q→ptV q=true∧ ∀s∈P.body,dC p.arrays s q=true) (fun y=>ps.length-y.2.toNat) ?_ n _ ⟨0,rfl,by omega,by simp,fun t q h=>by omega⟩ (by dsimp only;omega);rintro again17 ⟨y,z⟩ ⟨k,hz,hk,hy,hak⟩ hr17;dsimp only at hz hy hak⊢;subst hz;refine aH (fun hlt2=>?_) fun hge2=>?_
     ·have hgk:=cI (show k<ps.length by omega);have hmk:=cF hgk;generalize hQ:ps[k]=Q at*;have hq:=hp2 _ hmk;have hql:Q.length≤4:=by have:=hq.1;have:=hq.2.1;omega
      refine aA (aM hgk) (aA (aBn (by omega) (by omega)) ?_);have hyl:y.length≤480*4+480:=by
       rw [hy,iX,yV row _ hrl,qS]
       have:min k ps.length*P.body.length≤120*4:=vBM (by omega) hb2;omega
      cases hpv:ptV Q with
      |false=>
       refine bY (Ev.some (hbad (hpb ?_)));rw [hok];obtain⟨s0,hs0⟩: ∃s0,s0∈P.body:=List.exists_mem_of_length_pos (by omega);refine vAL.2 ⟨s0,hs0,?_⟩;rw [vAL.2 ⟨Q,hmk,by rw [hpv];simp⟩];simp
      |true=>
       refine bT ?_;refine Ev.loop (fun u:List Inst×Int=> ∃m:Nat,u.2=m∧m≤P.body.length∧u.1=y++(List.range m).map (fun(k:Nat)=>(⟨(i:Int),(k:Int),Q⟩:Inst))∧ ∀(t:Nat) s,t<m→P.body[t]? =some s→dC p.arrays s Q=true) (fun u=>P.body.length-u.2.toNat) ?_ n _ ⟨0,rfl,by omega,by simp,fun t s h=>by omega⟩ (by dsimp only;omega);rintro again23 ⟨u,z⟩ ⟨m,hz,hmm,hu,ham⟩ hr23;dsimp only at hz hu ham⊢;subst hz;refine aH (fun hlt3=>?_) fun hge3=>?_
       ·have hgm:=cI (show m<P.body.length by omega);have hmem:=cF hgm;refine aA (aM hgm) (aA (aCN (by omega) hl hd (hb3 _ hmem) hq) ?_);cases hco:dC p.arrays P.body[m] Q with
        |false=>
         refine bY (Ev.some (hbad (hpb ?_)));rw [hok];refine vAL.2 ⟨_,hmem,?_⟩;rw [vAL.2 ⟨Q,hmk,by rw [hco];simp⟩];simp
        |true=>
         have hcl:m_ownClone Q=some Q:=by unfold m_ownClone;rw [if_pos (by omega)]
         have hul:u.length≤480*4+480+4:=by rw [hu];simp;omega
         refine bT (aA hcl (aA (bI (by simp;omega)) ?_));rw [aK (by omega)];refine hr23 _ ⟨m+1,by dsimp only;omega,by omega,?_,fun t s ht hts=>?_⟩ (by dsimp only;omega)
         ·dsimp only;rw [hu,tP,Y6]
         by_cases htm:t=m
         ·subst htm;rw [hgm] at hts;cases hts;exact hco
         exact ham t s (by omega) hts
       have hme:m=P.body.length:=by omega
       rw [aK (by omega)];refine hr17 _ ⟨k+1,by dsimp only;omega,by omega,?_,fun t q ht htq=>?_⟩ (by dsimp only;omega)
       ·dsimp only;rw [xC,hgk,vAW,←Y6,←hy,hu,hme];simp [row]
       by_cases htk:t=k
       ·subst htk;rw [hgk] at htq;cases htq;refine⟨hpv,fun s hs=>?_⟩;obtain⟨t',ht'⟩:=vAH hs
        have:=(cL.1 ht').1;exact ham t' s (by omega) ht'
       exact hak t q (by omega) htq
     have hke:k=ps.length:=by omega
     have hpo:cT p.arrays P=true:=by
      rw [hok];refine vAE.2 fun s hs=>vAE.2 fun q hq=>?_;obtain⟨t,ht⟩:=vAH hq
      have:=(cL.1 ht).1;obtain⟨g1,g2⟩:=hak t q (by omega) ht;rw [g1,g2 s hs];rfl
     have hcb:=C7 hpo;have hil:=instP_len i P;rw [aK (by omega)];refine hr _ ⟨i+1,by dsimp only;omega,by omega,?_,?_,fun t y ht hty=>?_⟩ (by dsimp only;omega)
     ·dsimp only;rw [insts_take hg,hinst,hy,hke,pB,hx]
     ·dsimp only;rw [hy,hke,pB,iX,←hinst];omega
     by_cases hti:t=i
     ·subst hti;rw [hg] at hty;cases hty;exact hpo
     exact ha t y (by omega) hty
  have hie:i=p.parts.length:=by omega
  have hall:o9 p=true:=by
   rw [hall'];exact vAE.2 (fun y hy=>by
    obtain⟨t,ht⟩:=vAH hy
    have:=(cL.1 ht).1;exact ha t y (by omega) ht)
  rw [←hT,if_pos hall,hx,hie,pB];congr 1;exact decide_eq_decide.2 (by omega)
theorem oO{n:Nat}(hn:7000≤n){p:Prog}(hp:SmP p):gI n p=some (bM p):=by
 unfold gI;rw [nG hn hp];unfold bM;cases h:o9 p with
 |false=>rfl
 |true=>
  rw [if_pos rfl];show some (decide _)=_;rw [W0];congr 1
  have:=insts_len' p.parts;exact decide_eq_decide.2 (by omega)
theorem kE{n:Nat}(hn:7000≤n){p:Prog}(hp:SmP p):dW n p=some (if bM p=true then insts p.parts else []):=by
 unfold dW;rw [nG hn hp];unfold bM;cases h:o9 p with
 |false=>rfl
 |true=>
  rw [if_pos rfl,W0]
  have:=insts_len' p.parts;by_cases hl:(insts p.parts).length≤120
  ·rw [decide_eq_true hl,decide_eq_true (by omega),if_pos rfl];rfl
  rw [decide_eq_false hl,decide_eq_false (by omega),if_neg (by simp)];rfl
theorem dT{p:Prog}(h:bM p=true):p.arrays.length≤4∧eS p.arrays∧p.parts.length≤4∧(∀x∈p.parts,cT p.arrays x=true)∧(insts p.parts).length≤120:=by
 simp only [bM,o9,Bool.and_eq_true,decide_eq_true_eq,List.all_eq_true] at h;obtain⟨⟨h1,h2,h3⟩,h4⟩:=h;obtain⟨a,b⟩:=aE7 h1
 have:=insts_len' p.parts;exact⟨a,b,h2,h3,by omega⟩
theorem N5{n:Nat}(hn:7000≤n){p:Prog}(hv:bM p=true):kW n p=some (insts p.parts):=by
 obtain⟨hl,hd,h4,hpo,hil⟩:=dT hv;refine Ev.eq ?_;unfold kW;refine Ev.loop (fun x:List Inst×Int=> ∃i:Nat,x.2=i∧i≤p.parts.length∧x.1=insts (p.parts.take i)∧x.1.length≤480*i) (fun x=>p.parts.length-x.2.toNat) ?_ n _ ⟨0,rfl,by omega,by simp [insts],by simp⟩ (by dsimp only;omega);rintro again ⟨x,z⟩ ⟨i,hz,hi,hx,hxl⟩ hr;dsimp only at hz hx hxl⊢;subst hz;refine aH (fun hlt=>?_) fun hge=>Ev.some ?_
 ·have hg:=cI (show i<p.parts.length by omega);have hm:=cF hg;have hpP:=hpo _ hm;generalize hP:p.parts[i]=P at*;obtain⟨q1,q2,q3,q4⟩:=pY hpP;obtain⟨hf,hp1,hp2,hp3,hp4⟩:=aDB q1;generalize hpp:eB P=ps at*;have hcb:=C7 hpP;have hil':=instP_len i P;let row:List Int→List Inst:=fun q=>(List.range P.body.length).map fun(k:Nat)=>(⟨(i:Int),(k:Int),q⟩:Inst)
  have hrl: ∀q,(row q).length=P.body.length:=fun q=>by simp [row]
  have hinst:instP i P=ps.flatMap row:=by unfold instP;rw [hpp]
  refine aA (aM hg) (aI (tD hf P.nest n 0 [] [] (by have:=hf.1;omega) rfl (by omega) pt0 hp4 (by simp)) fun r ⟨r1,r2⟩=>?_);have hr1:r=ps:=by rw [r1 (by rw [←hp3];simpa using hp1),hp3];rfl
  subst hr1;refine Ev.loop (fun y:List Inst×Int=> ∃k:Nat,y.2=k∧k≤r.length∧y.1=x++(r.take k).flatMap row) (fun y=>r.length-y.2.toNat) ?_ n _ ⟨0,rfl,by omega,by simp⟩ (by dsimp only;omega);rintro again10 ⟨y,z⟩ ⟨k,hz,hk,hy⟩ hr10;dsimp only at hz hy⊢;subst hz;refine aH (fun hlt2=>?_) fun hge2=>?_
  ·have hgk:=cI (show k<r.length by omega);have hmk:=cF hgk;generalize hQ:r[k]=Q at*;have hq:=hp2 _ hmk;have hql:Q.length≤4:=by have:=hq.1;have:=hq.2.1;omega
   have hyl:y.length≤480*4+480:=by
    rw [hy,iX,yV row _ hrl,qS]
    have:min k r.length*P.body.length≤120*4:=vBM (by omega) q2.2;omega
   refine Ev.loop (fun u:List Inst×Int=> ∃m:Nat,u.2=m∧m≤P.body.length∧u.1=y++(List.range m).map (fun(k:Nat)=>(⟨(i:Int),(k:Int),Q⟩:Inst))) (fun u=>P.body.length-u.2.toNat) ?_ n _ ⟨0,rfl,by omega,by simp⟩ (by dsimp only;omega);rintro again14 ⟨u,z⟩ ⟨m,hz,hmm,hu⟩ hr14;dsimp only at hz hu⊢;subst hz;refine aH (fun hlt3=>?_) fun hge3=>?_
   ·have hul:u.length≤480*4+480+4:=by rw [hu];simp;omega
    refine aA (aM hgk) (aA (fB _ (by omega)) (aA (bI (by simp;omega)) ?_));rw [aK (by omega)];refine hr14 _ ⟨m+1,by dsimp only;omega,by omega,?_⟩ (by dsimp only;omega);dsimp only;rw [hu,tP,Y6]
   have hme:m=P.body.length:=by omega
   rw [aK (by omega)];refine hr10 _ ⟨k+1,by dsimp only;omega,by omega,?_⟩ (by dsimp only;omega);dsimp only;rw [xC,hgk,vAW,←Y6,←hy,hu,hme];simp [row]
  have hke:k=r.length:=by omega
  rw [aK (by omega)];refine hr _ ⟨i+1,by dsimp only;omega,by omega,?_,?_⟩ (by dsimp only;omega)
  ·dsimp only;rw [insts_take hg,hinst,hy,hke,pB,hx]
  dsimp only;rw [hy,hke,pB,iX,←hinst];omega
 have hie:i=p.parts.length:=by omega
 rw [hx,hie,pB]
theorem aDV{l:List Arr}{i:Nat}{x:Arr}(h:l[i]? =some x):fN (l.take (i+1))=fN (l.take i)+M4 x.dims:=by unfold fN;rw [List.take_add_one,h];simp
theorem aDX{n:Nat}(hn:7000≤n){p:Prog}(hl:p.arrays.length≤4)(hd:eS p.arrays):d7 n p=some (fN p.arrays):=by
 refine Ev.eq ?_;unfold d7;refine Ev.loop (fun x:Int×Int=> ∃i:Nat,x.2=i∧i≤p.arrays.length∧x.1=fN (p.arrays.take i)∧0≤x.1∧x.1≤36*i) (fun x=>p.arrays.length-x.2.toNat) ?_ n _ ⟨0,rfl,by omega,by simp [fN],by simp,by simp⟩ (by dsimp only;omega);rintro again ⟨x,z⟩ ⟨i,hz,hi,hx,hx0,hx1⟩ hr;dsimp only at hz hx hx0 hx1⊢;subst hz;refine aH (fun hlt=>?_) fun hge=>Ev.some ?_
 ·have hg:=cI (show i<p.arrays.length by omega);have hdm:=hd _ (cF hg);have hsz:=M3 hdm;refine aA (aM hg) (aA (tF (by omega) hdm) ?_);rw [aK (n:=x+M4 p.arrays[i].dims) (by omega),aK (by omega)];exact hr _ ⟨i+1,by dsimp only;omega,by omega,by dsimp only;rw [aDV hg];omega,by dsimp only;omega,by dsimp only;omega⟩ (by dsimp only;omega)
 have hie:i=p.arrays.length:=by omega
 rw [hx,hie,pB]
theorem Q9{n:Nat}(hn:7000≤n){p:Prog}(hl:p.arrays.length≤4)(hd:eS p.arrays):d7 n p=some (fN p.arrays):=aDX hn hl hd
def yH(p:Prog)(m:List Int):Bool:=bM p&&(decide ((m.length:Int)=fN p.arrays)&&m.all fun x=>decide (0≤x∧x≤999))
theorem qD{n:Nat}(hn:7000≤n){p:Prog}(hp:SmP p){m:List Int}(hm:m.length≤1000):iJ n p m=some (yH p m):=by
 refine Ev.eq ?_;unfold iJ;generalize hT:yH p m=T;unfold yH at hT;refine Ev.jn (fun z=>z=T) (fun j hj=>aA (oO hn hp) ?_) fun z hz=>Ev.some hz;cases hv:bM p with
 |false=>exact bT (hj _ (by rw [←hT,hv];rfl))
 |true=>
  obtain⟨hl,hd,_⟩:=dT hv;have hc:=mD (n:=n) (f:=fun q0=>fR n q0) (p:=fun x=> !decide (0≤x∧x≤999)) (l:=m) (fun x _=>by unfold fR;rw [dH];rfl) (by omega) (by omega);have e:(m.any fun x=> !decide (0≤x∧x≤999))= !(m.all fun x=>decide (0≤x∧x≤999)):=by rw [vAV];simp
  refine bY (aA (Q9 hn hl hd) (aH (fun h=>aA hc (hj _ ?_)) fun h=>hj _ ?_))
  ·rw [←hT,hv,decide_eq_true h,e];simp
  rw [←hT,hv,decide_eq_false h];rfl
theorem M1(x:Int):Int.tmod x 1000=if 0≤x then x%1000 else-((-x)%1000):=by
 split
 ·rename_i h;exact Int.tmod_eq_emod_of_nonneg h
 rename_i h;have h2:0≤ -x:=by omega
 have e1:Int.tmod x 1000= -(Int.tmod (-x) 1000):=by rw [Int.neg_tmod,Int.neg_neg]
 rw [e1,Int.tmod_eq_emod_of_nonneg h2]
theorem oK(n:Nat)(x:Int):nF n x=some (x%1000):=by
 unfold nF;rw [M1 x];congr 1;split
 ·rw [aK (n:=x%1000+999) (by omega),aK (by omega),M1,if_pos (by omega)];omega
 rw [aK (n:= -(-x%1000)+999) (by omega),aK (by omega),M1,if_pos (by omega)];omega
def sL:Nat→List Arr→List Int→Expr→List Int→Int
 |0,_,_,_,_=>0
 |L+1,list,m,e,q=>
  if e.kind=1 then e.num
  else if e.kind=2 then fA e.index q%1000
  else if e.kind=3 then m.getD (cM list e.read q 0).toNat 0
  else match e.kids with
   | [a,b]=>if e.kind=4 then(sL L list m a q+sL L list m b q)%1000 else if e.kind=5 then(sL L list m a q-sL L list m b q)%1000 else(sL L list m a q*sL L list m b q)%1000
   |_=>0
def fD(list:List Arr)(m:List Int):Prop:=(m.length:Int)=fN list∧ ∀x∈m,0≤x∧x≤999
theorem aMk{list:List Arr}{m:List Int}(h:fD list m)(i:Nat):0≤m.getD i 0∧m.getD i 0≤999:=by
 rw [I6];cases hi:m[i]? with
 |none=>simp
 |some x=>exact h.2 x (cF hi)
theorem aDU{list:List Arr}{m:List Int}(hm:fD list m){d:Int}{q:List Int}: ∀{L:Nat} {e:Expr},dN L e d=true→0≤sL L list m e q∧sL L list m e q≤999
 |0,e,h=>by cases h
 |L+1,e,h=>by
  obtain⟨h1,h2,h3⟩:=lW h;simp only [sL];split
  ·rename_i k1;unfold iF at h2;rw [if_neg (by omega),if_neg (by omega),if_pos k1] at h2;simp only [Bool.and_eq_true,decide_eq_true_eq] at h2;omega
  split
  ·omega
  split
  ·exact aMk hm _
  split
  ·split
   ·omega
   split<;>omega
  omega
theorem aHc{a b:Int}(ha:0≤a∧a≤999)(hb:0≤b∧b≤999):0≤a*b∧a*b≤999000:=by
 constructor
 ·exact vBo ha.1 hb.1
 have:=vBF ha.2 hb.2 (by omega) (by omega);omega
theorem aH5{L:Nat}{e:Expr}{d:Int}(h:dN (L+1) e d=true)(k1: ¬e.kind=1)(k2: ¬e.kind=2)(k3: ¬e.kind=3):(e.kind=4∨e.kind=5∨e.kind=6)∧ ∃a b,e.kids=[a,b]:=by
 obtain⟨h1,_,_⟩:=lW h;unfold gB at h1;rw [if_neg (by omega)] at h1;split at h1
 ·rename_i hk;refine⟨hk,?_⟩
  have:e.kids.length=2:=by omega
  match hq:e.kids,this with
  | [a,b],_=>exact⟨a,b,rfl⟩
 omega
theorem wR{p:Prog}(hl:p.arrays.length≤4)(hd:eS p.arrays){m:List Int}(hm:fD p.arrays m){d:Int}{k:Nat}{q:List Int}(hq:nZ k q): ∀(L n:Nat) (e:Expr),7000+L≤n→dN L e d=true→(∀a∈cC L e,0≤cM p.arrays a q 0)→
  i_Program_value (n+1) p m e q=some (sL L p.arrays m e q)
 |0,n,e,_,h,_=>by cases h
 |L+1,n,e,hn,h,hr=>by
  obtain⟨h1,h2,h3⟩:=lW h;unfold i_Program_value;refine Ev.eq ?_;simp only [sL];refine aH (fun k1=>Ev.some (by rw [if_pos k1])) fun k1=>?_;rw [if_neg k1];refine aH (fun k2=>?_) fun k2=>?_
  ·rw [if_pos k2];unfold iF at h2;rw [if_pos k2] at h2;simp only [Bool.and_eq_true,b6] at h2;have ha:=h2.2.2.1;exact aA (aGA (by omega) ha hq) (aA (oK _ _) (Ev.some rfl))
  rw [if_neg k2];refine aH (fun k3=>?_) fun k3=>?_
  ·rw [if_pos k3];have hmem:e.read∈cC (L+1) e:=by simp [cC,k3]
   have ha:=uP h _ hmem;have hc0:=hr _ hmem;rcases K7 hd e.read q 0 (zV 0) with hc|hc
   ·omega
   have hlt:(cM p.arrays e.read q 0).toNat<m.length:=by have:=hm.1;omega
   have hg:=cI hlt;have hix:ix m (cM p.arrays e.read q 0)=some m[(cM p.arrays e.read q 0).toNat]:=by
    unfold ix;rw [if_pos hc0,hg]
   refine aA (mW (by omega) hl hd ha hq) (aA hix (Ev.some ?_));rw [I6,hg];rfl
  rw [if_neg k3];obtain⟨hk,a,b,hab⟩:=aH5 h k1 k2 k3;obtain⟨n,rfl⟩: ∃j,n=j+1:=⟨n-1,by omega⟩
  have hsa:=h3 a (by rw [hab];simp);have hsb:=h3 b (by rw [hab];simp);have va:=wR hl hd hm hq L n a (by omega) hsa fun x hx=>hr x (by simp only [cC,List.mem_append,List.mem_flatMap];exact .inr ⟨a,by rw [hab];simp,hx⟩);have vb:=wR hl hd hm hq L n b (by omega) hsb fun x hx=>hr x (by simp only [cC,List.mem_append,List.mem_flatMap];exact .inr ⟨b,by rw [hab];simp,hx⟩);have ba:=aDU hm (q:=q) hsa;have bb:=aDU hm (q:=q) hsb;have bm:=aHc ba bb;rw [hab];refine aA (x:=a) rfl (aA va (aA (x:=b) rfl (aA vb ?_)));dsimp only;refine aH (fun k4=>?_) fun k4=>?_
  ·rw [if_pos k4,aK (by omega)];exact aA (oK _ _) (Ev.some rfl)
  rw [if_neg k4];refine aH (fun k5=>?_) fun k5=>?_
  ·rw [if_pos k5,aK (by omega)];exact aA (oK _ _) (Ev.some rfl)
  rw [if_neg k5,aK (by omega)];exact aA (oK _ _) (Ev.some rfl)
def dF(p:Prog)(x:Inst):Prop:= ∃(i k:Nat) (P:Part) (s:Stmt),x.part=i∧x.stmt=k∧p.parts[i]? =some P∧P.body[k]? =some s∧x.point∈eB P
def zZ(p:Prog)(x:Inst):Option Stmt:=(p.parts[x.part.toNat]?).bind fun P=>P.body[x.stmt.toNat]?
def runI(p:Prog)(m:List Int)(x:Inst):List Int:=match zZ p x with
 |some s=>m.set (cM p.arrays s.write x.point 0).toNat (sL 5 p.arrays m s.value x.point)
 |none=>m
theorem inst_d{p:Prog}(hv:bM p=true){x:Inst}(hx:dF p x): ∃(i k:Nat) (P:Part) (s:Stmt) (d:Int),x.part=i∧x.stmt=k∧p.parts[i]? =some P∧P.body[k]? =some s∧zZ p x=some s∧jI s d=true∧nZ P.nest.length x.point∧dC p.arrays s x.point=true:=by obtain⟨hl,hd,h4,hpo,hil⟩:=dT hv;obtain⟨i,k,P,s,e1,e2,e3,e4,e5⟩:=hx;obtain⟨q1,q2,q3,q4⟩:=pY (hpo P (cF e3));obtain⟨hf,hp1,hp2,hp3,hp4⟩:=aDB q1;have hs:=cF e4;exact⟨i,k,P,s,_,e1,e2,e3,e4,by unfold zZ;rw [e1,e2,sZ,e3];exact(by rw [sZ];exact e4),q3 s hs,hp2 _ e5,(q4 s hs _ e5).1⟩
theorem aBJ{list:List Arr}{s:Stmt}{q:List Int}(h:dC list s q=true):0≤cM list s.write q 0∧ ∀a∈cC 5 s.value,0≤cM list a q 0:=by simp only [dC,Bool.and_eq_true,decide_eq_true_eq,List.all_eq_true] at h;exact h
theorem aHb{p:Prog}(hd:eS p.arrays){m:List Int}(hm:fD p.arrays m){a:Access}{q:List Int}(h:0≤cM p.arrays a q 0):(cM p.arrays a q 0).toNat<m.length:=by
 rcases K7 hd a q 0 (zV 0) with hc|hc
 ·omega
 have:=hm.1;omega
theorem M6{α:Type}{l:List α}{c:Int}(h0:0≤c)(h:c.toNat<l.length)(x:α):fZ l c x=some (l.set c.toNat x):=by unfold fZ;rw [if_pos ⟨h0,by omega⟩]
theorem P8{α:Type}{l:List α}{c:Int}(h0:0≤c)(h:c.toNat<l.length):ix l c=some l[c.toNat]:=by unfold ix;rw [if_pos h0,List.getElem?_eq_getElem h]
theorem qX{p:Prog}(hv:bM p=true){m:List Int}(hm:fD p.arrays m){x:Inst}(hx:dF p x):fD p.arrays (runI p m x):=by
 obtain⟨i,k,P,s,d,e1,e2,e3,e4,e5,e6,e7,e8⟩:=inst_d hv hx;unfold runI;rw [e5];refine⟨by rw [vBd];exact hm.1,fun v hv'=>?_⟩;rcases vAZ hv' with h|h
 ·exact hm.2 v h
 rw [h];exact aDU hm (wE e6).2.1
theorem aFO{n:Nat}(hn:7100≤n){p:Prog}(hv:bM p=true){m:List Int}(hm:fD p.arrays m){x:Inst}(hx:dF p x):jU n p m x=some (runI p m x):=by
 obtain⟨hl,hd,h4,hpo,hil⟩:=dT hv;obtain⟨i,k,P,s,d,e1,e2,e3,e4,e5,e6,e7,e8⟩:=inst_d hv hx;obtain⟨c1,c2⟩:=aBJ e8;obtain⟨s1,s2,s3,s4⟩:=wE e6;obtain⟨n,rfl⟩: ∃j,n=j+1:=⟨n-1,by omega⟩
 have hlt:=aHb hd hm c1;have hst:dV (n+1) p x=some s:=by
  unfold dV;rw [e1,e2,aM e3];show Option.bind (ix P.body (k:Int)) _=_;rw [aM e4];rfl
 refine Ev.eq ?_;unfold jU;refine aA hst (aA (mW (by omega) hl hd s1 e7) (aA (wR hl hd hm e7 5 n s.value (by omega) s2 c2) (aA (P8 c1 hlt) (aA (M6 c1 hlt _) (Ev.some ?_)))));unfold runI;rw [e5]
theorem insts_mem{ps:List Part}{x:Inst}(h:x∈insts ps): ∃(i k:Nat) (P:Part) (s:Stmt),x.part=i∧x.stmt=k∧ps[i]? =some P∧P.body[k]? =some s∧x.point∈eB P:=by unfold insts at h;rw [vBy] at h;obtain⟨⟨P,i⟩,h1,h2⟩:=h;unfold instP at h2;rw [vBy] at h2;obtain⟨q,h3,h4⟩:=h2;rw [D7] at h4;obtain⟨k,h5,rfl⟩:=h4;have hk:=vBZ.1 h5;exact⟨i,k,P,P.body[k],rfl,rfl,vBi.1 h1,cI hk,h3⟩
def cB(p:Prog)(m:List Int)(l:List Inst):List Int:=l.foldl (runI p) m
theorem uL{p:Prog}(hv:bM p=true): ∀{l:List Inst} {m:List Int},(∀x∈l,dF p x)→fD p.arrays m→fD p.arrays (cB p m l)
 | [],_,_,h=>h
 |x::l,m,hl,h=>uL hv (l:=l) (fun y hy=>hl y (by simp [hy])) (qX hv h (hl x (by simp)))
theorem E2(p:Prog)(m:List Int)(l:List Inst)(x:Inst):cB p m (l++[x])=runI p (cB p m l) x:=by unfold cB;rw [List.foldl_append];rfl
theorem aK8{p:Prog}{m:List Int}(h:yH p m=true):bM p=true∧fD p.arrays m:=by simp only [yH,Bool.and_eq_true,decide_eq_true_eq,List.all_eq_true] at h;exact⟨h.1,h.2.1,h.2.2⟩
theorem aHH{n:Nat}(hn:7100≤n){p:Prog}(hv:bM p=true){m:List Int}(hm:fD p.arrays m){l:List Inst}(hl:l.length≤5000)(hx: ∀x∈l,dF p x){f:List Int→Inst→Option (List Int)}(hf: ∀m x,fD p.arrays m→dF p x→f m x=some (runI p m x)):
  aL (fun again7 ((x4,x5):(List Int)×Int)=>bif decide (x5<(l.length:Int)) then(Option.bind (ix l x5) fun x8=>Option.bind (f x4 x8) fun x9=>Option.bind (kV x4 x9) fun x10=>again7 (x9,wr (x5+1))) else(some (x4,true))) n (m,0)=some (cB p m l,true):=by
 refine Ev.eq ?_;refine Ev.loop (fun x:List Int×Int=> ∃i:Nat,x.2=i∧i≤l.length∧x.1=cB p m (l.take i)) (fun x=>l.length-x.2.toNat) ?_ n _ ⟨0,rfl,by omega,rfl⟩ (by dsimp only;omega);rintro again ⟨x,z⟩ ⟨i,hz,hi,hx1⟩ hr;dsimp only at hz hx1⊢;subst hz;have hok:fD p.arrays x:=by rw [hx1];exact uL hv (fun y hy=>hx y (vAz hy)) hm
 refine aH (fun hlt=>?_) fun hge=>Ev.some ?_
 ·have hg:=cI (show i<l.length by omega);have hxo:=hx _ (cF hg);have hok2:=qX hv hok hxo;have hsl:kV x (runI p x l[i])=some ():=by
   unfold kV;rw [if_pos]
   have:=hok.1;have:=hok2.1;omega
  refine aA (aM hg) (aA (hf x _ hok hxo) (aA hsl ?_));rw [aK (by omega)];refine hr _ ⟨i+1,by dsimp only;omega,by omega,?_⟩ (by dsimp only;omega);dsimp only;rw [xC,hg];show _=cB p m (l.take i++[l[i]]);rw [E2,←hx1]
 have hie:i=l.length:=by omega
 rw [hx1,hie,pB]
def aJW(p:Prog)(m:List Int):List Int×Bool:=if yH p m=true then(cB p m (insts p.parts),true) else([],false)
theorem H5{n:Nat}(hn:7100≤n){p:Prog}(hp:SmP p){m:List Int}(hm:m.length≤1000):jT n p m=some (aJW p m):=by
 refine Ev.eq ?_;unfold jT;refine aA (qD (by omega) hp hm) ?_;unfold aJW;cases hv:yH p m with
 |false=>exact Ev.some rfl
 |true=>
  obtain⟨h1,h2⟩:=aK8 hv;have hil:=(dT h1).2.2.2.2;have hc:m_ownClone m=some m:=by unfold m_ownClone;rw [if_pos (by omega)]
  refine bT (aA hc (aA (kE (by omega) hp) ?_));rw [if_pos h1,if_pos rfl];exact Ev.of (aHH hn h1 h2 (by omega) (fun x hx=>insts_mem hx) fun m x hm hx=>aFO hn h1 hm hx) rfl
end Go.Lift
