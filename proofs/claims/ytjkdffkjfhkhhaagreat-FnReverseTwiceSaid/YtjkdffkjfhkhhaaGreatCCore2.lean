/- Valid statements. -/
import Derived.Test.YtjkdffkjfhkhhaaGreatCCore1
set_option maxRecDepth 100000
set_option linter.unusedVariables false
namespace Go.Lift
open Go
def SmE:Nat→Expr→Prop
 |0,_=>True
 |L+1,e=>e.kids.length≤1000∧SmA e.index∧Q7 e.read.subs∧ ∀k∈e.kids,SmE L k
def dO:Nat→Expr→Int→Bool
 |0,_,_=>false
 |L+1,e,d=>decide (iG e.kind=e.kids.length)&&(fV e d&&e.kids.all fun k=>dO L k d)
def uL:Nat→Expr→Int
 |0,_=>1
 |L+1,e=>1+(e.kids.map (uL L)).sum
theorem mS(k:Int):iG k≤2:=by unfold iG;split;omega;split<;>omega
theorem B0(d:Int): ∀(L n:Nat) (e:Expr),5000+L≤n→L≤1000→SmE L e→s_l3Shape (n+1) e d (L:Int)=some (dO L e d)
 |0,n,e,_,_,_=>by unfold s_l3Shape;rfl
 |L+1,n,e,hn,hL,he=>by
  obtain⟨e1,e2,e3,e4⟩:=he;unfold s_l3Shape;refine Ev.eq ?_;refine Ev.jn (fun z=>z= !(decide (iG e.kind=e.kids.length)&&fV e d)) (fun j hj=>aH (fun h=>by omega) fun h=>aA (aD6 n _) (dI (fun h=>hj _ ?_) fun h=>aA (aFS (by omega) e2 e3 d) (hj _ ?_))) fun z hz=>?_
  ·rw [decide_eq_false h];rfl
  ·rw [decide_eq_true h];rfl
  subst hz;unfold dO;cases hb:(decide (iG e.kind=e.kids.length)&&fV e d) with
  |false=>exact Ev.some (by rw [←vBc,hb];rfl)
  |true=>
   rw [←vBc,hb,vAV];refine bZ ?_;obtain⟨n,rfl⟩: ∃j,n=j+1:=⟨n-1,by omega⟩
   have ew:wr (((L+1:Nat):Int)-1)=(L:Int):=by rw [aQ (by omega)];omega
   rw [ew];refine nY (l:=e.kids) (p:=fun _ k=>dO L k d) (by omega) (by omega) (fun again i x hx hgo hno=>?_) (fun again hall=>?_) (fun⟨i,x,hx,hp⟩=>?_)
   ·have hi:=(cH.1 hx).1;rw [decide_eq_true (show(i:Int)<(e.kids.length:Int) by omega)];refine b8 (aA (aS hx) (aA (B0 d L n x (by omega) (by omega) (e4 x (cN hx))) ?_));cases hs:dO L x d with
    |true=>show Ev (again _) _;rw [aQ (by omega)];exact hgo hs
    |false=>exact Ev.some (hno hs)
   ·rw [decide_eq_false (show¬(e.kids.length:Int)<(e.kids.length:Int) by omega)];refine Ev.some ?_;exact(vAF.2 fun c hc=>by obtain⟨i,hi⟩:=vAM hc;exact hall i c hi).symm
   exact(vAJ.2 ⟨x,cN hx,by rw [hp];simp⟩).symm
theorem xA: ∀(L:Nat) (e:Expr),1≤uL L e
 |0,_=>T4 _
 |L+1,e=>by have:=qN (uL L) e.kids fun k _=>xA L k;simp only [uL];omega
theorem aFP{α:Type}(f:α→Int)(M:Int): ∀(l:List α),(∀x∈l,f x≤M)→(l.map f).sum≤l.length*M
 | [],_=>by simp
 |x::l,h=>by have h1:=aFP f M l fun y hy=>h y (by simp [hy]);have h2:=h x (by simp);simp only [List.map_cons,List.sum_cons,List.length_cons,Int.natCast_add,Int.add_mul];omega
theorem gU{L:Nat}{e:Expr}{d:Int}(h:dO (L+1) e d=true):iG e.kind=e.kids.length∧fV e d=true∧ ∀k∈e.kids,dO L k d=true:=by simp only [dO,Bool.and_eq_true,decide_eq_true_eq,List.all_eq_true] at h;exact⟨h.1,h.2.1,h.2.2⟩
theorem aDg: ∀{L:Nat} {e:Expr} {d:Int},dO L e d=true→uL L e+1≤2^L
 |0,e,d,h=>by cases h
 |L+1,e,d,h=>by
  obtain⟨h1,_,h2⟩:=gU h;have h3:=aFP (uL L) ((2:Int)^L-1) e.kids fun k hk=>by have:=aDg (h2 k hk);omega
  have h4:=mS e.kind;have h5:(e.kids.length:Int)*((2:Int)^L-1)≤2*((2:Int)^L-1):=by
   refine Int.mul_le_mul_of_nonneg_right (by omega) ?_
   have:(0:Int)<2^L:=Int.pow_pos (by omega);omega
  simp only [uL];rw [Int.pow_succ];omega
theorem B3{d:Int}: ∀(L n:Nat) (e:Expr),5000+L≤n→L≤5→dO L e d=true→s_l3Count (n+1) e (L:Int)=some (uL L e)
 |0,n,e,_,_,h=>by cases h
 |L+1,n,e,hn,hL,h=>by
  obtain⟨h1,_,h2⟩:=gU h;have h4:=mS e.kind;have hb: ∀k∈e.kids,uL L k≤40:=fun k hk=>by
   have h5:=aDg (h2 k hk);have h6:(2:Int)^L≤40:=by
    match L,hL with
    |0,_=>decide
    |1,_=>decide
    |2,_=>decide
    |3,_=>decide
    |4,_=>decide
   omega
  unfold s_l3Count;refine Ev.eq ?_;obtain⟨n,rfl⟩: ∃j,n=j+1:=⟨n-1,by omega⟩
  have ew:wr (((L+1:Nat):Int)-1)=(L:Int):=by rw [aQ (by omega)];omega
  rw [ew];refine Ev.loop (fun x:Int×Int=> ∃i:Nat,x.2=i∧i≤e.kids.length∧x.1=1+((e.kids.take i).map (uL L)).sum) (fun x=>e.kids.length-x.2.toNat) ?_ (n+1) _ ⟨0,rfl,by omega,by simp⟩ (by simp;omega);rintro again ⟨x,k⟩ ⟨i,hk,hi,hx⟩ hr;dsimp only at hk hx⊢;subst hk;refine Ev.jn (fun z=>z=decide (i<e.kids.length)) (fun j hj=>aH (fun h=>hj _ ?_) fun h=>hj _ ?_) fun z hz=>?_
  ·rw [decide_eq_true (show(0:Int)<((L+1:Nat):Int) by omega),decide_eq_true (by omega)]
  ·rw [decide_eq_false (by omega)]
  subst hz;refine aH (fun hlt=>?_) fun hge=>Ev.some ?_
  ·have hk2:=cP hlt;have hm:=cN hk2;refine aA (aS hk2) (aA (B3 (d:=d) L n _ (by omega) (by omega) (h2 _ hm)) ?_);have hs:=aFP (uL L) 40 (e.kids.take i) fun y hy=>hb y (vAC hy);have hs2:=qN (uL L) (e.kids.take i) fun y _=>xA L y;have hb2:=hb _ hm;have hb3:=xA L e.kids[i];have hl:((e.kids.take i).length:Int)≤2:=by simp;omega
   rw [aQ (n:=x+uL L e.kids[i]) (by omega),aQ (by omega)];refine hr _ ⟨i+1,by dsimp only;omega,by omega,?_⟩ (by dsimp only;omega);dsimp only;rw [xX,hk2,vAN,List.sum_append,hx];simp;omega
  have:i=e.kids.length:=by omega
  rw [hx,this,q7];rfl
def aEl(e:Expr):Bool:=(decide (e.kind=1)||decide (e.num=0))&&((decide (e.kind=2)||jI e.index)&&(decide (e.kind=3)||nA e.read))
theorem qU(d:Int): ∀(L n:Nat) (e:Expr) (c:Int),5000+L≤n→L≤5→SmE L e→0≤c→c≤12→
  Ev (i_exprScan (n+1) e d (6-(L:Int)) c) (fun r=>r.1=(dO L e d&&decide (c+uL L e≤12))∧(r.1=true→r.2=c+uL L e))
 |0,n,e,c,hn,hL,he,h0,h1=>by
  unfold i_exprScan;refine Ev.jn (fun z=>z=true) (fun j hj=>aH (fun h=>hj _ rfl) fun h=>hj _ (by decide)) fun z hz=>?_;subst hz;exact Ev.some ⟨rfl,fun h=>by cases h⟩
 |L+1,n,e,c,hn,hL,he,h0,h1=>by
  obtain⟨e1,e2,e3,e4⟩:=he;have hcp:=xA (L+1) e;unfold i_exprScan;have ew:wr (c+1)=c+1:=aQ (by omega);have ed:wr (6-(((L+1:Nat)):Int)+1)=6-(L:Int):=by rw [aQ (by omega)];omega
  rw [ew,ed];refine Ev.jn (fun z=>z=decide (12<c+1)) (fun j hj=>aH (fun h=>hj _ (decide_eq_true h).symm) fun h=>hj _ ?_) fun z hz=>?_
  ·rw [decide_eq_false h,decide_eq_false (by omega)]
  subst hz;refine aH (fun h=>Ev.some ⟨?_,fun h=>by cases h⟩) fun hc=>?_
  ·rw [decide_eq_false (show¬c+uL (L+1) e≤12 by omega),vBj]
  refine Ev.jn (fun z=>z= !aEl e) (fun j hj=>?_) fun z hz=>?_
  ·rw [aA9,aBa];unfold aEl at hj;simp only [Option.bind];by_cases k1:e.kind=1
   ·have k2: ¬e.kind=2:=by omega
    have k3: ¬e.kind=3:=by omega
    rw [decide_eq_true k1,decide_eq_false k2,decide_eq_false k3] at*;simp only [Bool.not_true,Bool.not_false,cond_true,cond_false,Bool.true_or,Bool.true_and,Bool.false_or] at*;cases ha:jI e.index with
    |false=>exact hj _ (by rw [ha];rfl)
    |true=>exact hj _ (by rw [ha];rfl)
   rw [decide_eq_false k1] at*;simp only [Bool.not_false,cond_true,Bool.false_or] at*;by_cases hnum:e.num=0
   ·rw [decide_eq_true hnum] at*;simp only [Bool.not_true,cond_false,Bool.true_and] at*;by_cases k2:e.kind=2
    ·have k3: ¬e.kind=3:=by omega
     rw [decide_eq_true k2,decide_eq_false k3] at*;simp only [Bool.not_true,Bool.not_false,cond_true,cond_false,Bool.true_or,Bool.true_and,Bool.false_or] at*;exact hj _ rfl
    rw [decide_eq_false k2] at*;simp only [Bool.not_false,cond_true,Bool.false_or] at*;cases ha:jI e.index with
    |false=>exact hj _ (by rw [ha];rfl)
    |true=>
     by_cases k3:e.kind=3
     ·rw [decide_eq_true k3] at*;exact hj _ (by rw [ha];rfl)
     rw [decide_eq_false k3] at*;exact hj _ (by rw [ha];rfl)
   rw [decide_eq_false hnum] at*;exact hj _ rfl
  subst hz;cases hp:aEl e with
  |false=>
   refine Ev.some ⟨?_,fun h=>by cases h⟩
   have:fV e d=false:=by
    unfold aEl at hp;unfold fV;by_cases k2:e.kind=2
    ·have k1: ¬e.kind=1:=by omega
     have k3: ¬e.kind=3:=by omega
     rw [if_pos k2];rw [decide_eq_true k2,decide_eq_false k1,decide_eq_false k3] at hp;revert hp;cases decide (e.num=0)<;>cases nA e.read<;>simp
    rw [if_neg k2];by_cases k3:e.kind=3
    ·have k1: ¬e.kind=1:=by omega
     rw [if_pos k3];rw [decide_eq_false k2,decide_eq_false k1,decide_eq_true k3] at hp;revert hp;cases decide (e.num=0)<;>cases jI e.index<;>simp
    rw [if_neg k3];rw [decide_eq_false k2,decide_eq_false k3] at hp;by_cases k1:e.kind=1
    ·rw [if_pos k1];rw [decide_eq_true k1] at hp;revert hp;cases jI e.index<;>cases nA e.read<;>simp
    rw [if_neg k1];rw [decide_eq_false k1] at hp;revert hp;cases decide (e.num=0)<;>cases jI e.index<;>cases nA e.read<;>simp
   unfold dO;rw [this];simp
  |true=>
   refine bZ ?_;unfold aEl at hp;simp only [Bool.and_eq_true,Bool.or_eq_true,decide_eq_true_eq] at hp;obtain⟨p1,p2,p3⟩:=hp;have leafP: ∀(b:Bool),fV e d=b→iG e.kind=0→ ∀(z:Bool),z=(b&&decide ((e.kids.length:Int)=0))→z=(dO (L+1) e d&&decide (c+uL (L+1) e≤12))∧(z=true→c+1=c+uL (L+1) e):=by
    intro b hb hk z hz;unfold dO;rw [hb,hk];by_cases h:e.kids.length=0
    ·have hnil:e.kids=[]:=vAz h;have hcn:uL (L+1) e=1:=by simp [uL,hnil]
     rw [hcn,decide_eq_true (show c+1≤12 by omega)];rw [decide_eq_true (show(e.kids.length:Int)=0 by omega)] at hz;rw [hz,hnil];simp
    rw [decide_eq_false (show¬(e.kids.length:Int)=0 by omega)] at hz;rw [hz,decide_eq_false (show¬(0:Int)=(e.kids.length:Int) by omega)];simp
   by_cases k1:e.kind=1
   ·have k2: ¬e.kind=2:=by omega
    have k3: ¬e.kind=3:=by omega
    rw [decide_eq_true k1];have hown:fV e d=decide (0≤e.num∧e.num≤99):=by
     unfold fV;rw [if_neg k2,if_neg k3,if_pos k1];rcases p2 with h|h
     ·exact absurd h k2
     rcases p3 with h'|h'
     ·exact absurd h' k3
     rw [h,h'];simp
    refine b8 (Ev.jn (fun z=>z=(decide (0≤e.num∧e.num≤99)&&decide ((e.kids.length:Int)=0))) (fun j hj=>aA (e9 n _ _ _) ?_) fun z hz=>Ev.some ?_)
    ·cases hw:decide (0≤e.num∧e.num≤99) with
     |true=>exact hj _ (by rw [hw];rfl)
     |false=>exact hj _ (by rw [hw];rfl)
    exact leafP _ hown (by unfold iG;rw [if_pos (Or.inl k1)]) _ hz
   rw [decide_eq_false k1];refine bZ ?_;have hnum:e.num=0:=by
    rcases p1 with h|h
    ·exact absurd h k1
    exact h
   by_cases k2:e.kind=2
   ·have k3: ¬e.kind=3:=by omega
    rw [decide_eq_true k2];have hown:fV e d=b7 e.index d:=by
     unfold fV;rw [if_pos k2,decide_eq_true hnum];rcases p3 with h'|h'
     ·exact absurd h' k3
     rw [h'];simp
    refine b8 (Ev.jn (fun z=>z=(b7 e.index d&&decide ((e.kids.length:Int)=0))) (fun j hj=>aA (rX (by omega) _ e2) ?_) fun z hz=>Ev.some ?_)
    ·unfold b7 at hj;cases hw:bO e.index with
     |false=>exact hj _ (by rw [hw];rfl)
     |true=>
      refine aA (yP (by omega) e2) (aH (fun h=>hj _ ?_) fun h=>hj _ ?_)
      ·rw [hw,decide_eq_true h];rfl
      rw [hw,decide_eq_false h];rfl
    exact leafP _ hown (by unfold iG;rw [if_pos (Or.inr (Or.inl k2))]) _ hz
   rw [decide_eq_false k2];refine bZ ?_;have hnaff:jI e.index=true:=by
    rcases p2 with h|h
    ·exact absurd h k2
    exact h
   by_cases k3:e.kind=3
   ·rw [decide_eq_true k3];have hown:fV e d=gN e.read d:=by
     unfold fV;rw [if_neg k2,if_pos k3,decide_eq_true hnum,hnaff];simp
    refine b8 (Ev.jn (fun z=>z=(gN e.read d&&decide ((e.kids.length:Int)=0))) (fun j hj=>aA (xP (by omega) e3 d) ?_) fun z hz=>Ev.some ?_)
    ·cases hw:gN e.read d with
     |false=>exact hj _ (by rw [hw];rfl)
     |true=>exact hj _ (by rw [hw];rfl)
    exact leafP _ hown (by unfold iG;rw [if_pos (Or.inr (Or.inr k3))]) _ hz
   rw [decide_eq_false k3];refine bZ ?_;have hown:fV e d=true:=by
    unfold fV;rw [if_neg k2,if_neg k3,if_neg k1,decide_eq_true hnum,hnaff];rcases p3 with h'|h'
    ·exact absurd h' k3
    rw [h'];rfl
   have hop:aCU n e.kind=some (decide (4≤e.kind∧e.kind≤6)):=by unfold aCU;rw [e9];rfl
   have hkn:(iG e.kind=2↔(4≤e.kind∧e.kind≤6))∧(iG e.kind=2∨iG e.kind= -1):=by
    unfold iG;rw [if_neg (by omega)];split<;>omega
   refine Ev.jn (fun z=>z= !(decide (4≤e.kind∧e.kind≤6)&&decide ((e.kids.length:Int)=2))) (fun j hj=>aA hop ?_) fun z hz=>?_
   ·cases hw:decide (4≤e.kind∧e.kind≤6) with
    |false=>exact hj _ (by rw [hw];rfl)
    |true=>exact hj _ (by rw [hw];rfl)
   subst hz;by_cases hk:(4≤e.kind∧e.kind≤6)∧(e.kids.length:Int)=2
   ·rw [decide_eq_true hk.1,decide_eq_true hk.2];refine bZ ?_;obtain⟨a,b,hab⟩: ∃a b,e.kids=[a,b]:=by
     have:e.kids.length=2:=by omega
     match hq:e.kids,this with
     | [a,b],_=>exact⟨a,b,rfl⟩
    have hsh:dO (L+1) e d=(dO L a d&&dO L b d):=by
     show(decide (iG e.kind=e.kids.length)&&(fV e d&&e.kids.all fun k=>dO L k d))=_;rw [hown,hab,decide_eq_true (show iG e.kind=(([a,b]:List Expr).length:Int) by rw [hkn.1.2 hk.1];rfl)];simp
    have hcn:uL (L+1) e=1+(uL L a+uL L b):=by simp [uL,hab]
    have ca:=xA L a;have cb:=xA L b;rw [hsh,hcn];obtain⟨n,rfl⟩: ∃j,n=j+1:=⟨n-1,by omega⟩
    refine Ev.jn (fun z:Int×Bool=>z.2=(dO L a d&&dO L b d&&decide (c+(1+(uL L a+uL L b))≤12))∧(z.2=true→z.1=c+(1+(uL L a+uL L b)))) (fun j hj=>?_) fun z hz=>Ev.some hz;refine aA (x:=a) (by rw [hab];rfl) (aM (qU d L n a (c+1) (by omega) (by omega) (e4 a (by rw [hab];simp)) (by omega) (by omega)) fun r ⟨r1,r2⟩=>?_);cases hr:r.1 with
    |false=>
     refine hj _ ⟨?_,fun h=>by cases h⟩;rw [hr] at r1;show false=_;by_cases hsa:dO L a d=true
     ·rw [hsa,vAV] at r1
      have:=of_decide_eq_false r1.symm;rw [decide_eq_false (show¬c+(1+(uL L a+uL L b))≤12 by omega),vBj]
     rw [Bool.eq_false_iff.2 hsa];rfl
    |true=>
     have r2:=r2 hr;rw [hr] at r1;have r1:=r1.symm;rw [vBu,decide_eq_true_eq] at r1;refine aA (x:=b) (by rw [hab];rfl) ?_;rw [r2];refine aM (qU d L n b (c+1+uL L a) (by omega) (by omega) (e4 b (by rw [hab];simp)) (by omega) (by omega)) fun q ⟨q1,q2⟩=>hj _ ⟨?_,fun h=>?_⟩
     ·show q.1=_;rw [q1,r1.1,vAV];congr 1;exact decide_eq_decide.2 (by omega)
     show q.2=_;rw [q2 h];omega
   have hf:dO (L+1) e d=false:=by
    unfold dO;rw [decide_eq_false (show¬iG e.kind=(e.kids.length:Int) by
     intro h;rcases hkn.2 with h2|h2
     ·exact hk ⟨hkn.1.1 h2,by omega⟩
     omega)]
    rfl
   have:(decide (4≤e.kind∧e.kind≤6)&&decide ((e.kids.length:Int)=2))=false:=by
    by_cases g:4≤e.kind∧e.kind≤6
    ·rw [decide_eq_false (show¬(e.kids.length:Int)=2 from fun h=>hk ⟨g,h⟩),vBj]
    rw [decide_eq_false g];rfl
   rw [this,hf];exact Ev.some ⟨rfl,fun h=>by cases h⟩
def fN(s:Stmt)(d:Int):Bool:=decide (0≤d∧d≤4)&&(gN s.write d&&(dO 5 s.value d&&decide (uL 5 s.value≤12)))
def SmS(s:Stmt):Prop:=Q7 s.write.subs∧SmE 5 s.value
theorem Z4{n:Nat}(hn:6000≤n){s:Stmt}(h:SmS s)(d:Int):qA n s d=some (fN s d):=by
 obtain⟨n,rfl⟩: ∃j,n=j+1:=⟨n-1,by omega⟩
 refine Ev.eq ?_;unfold qA;generalize hT:fN s d=T;unfold fN at hT;refine Ev.jn (fun z:Int×Bool=>z.2=T) (fun j hj=>aA (e9 _ _ _ _) ?_) fun z hz=>Ev.some hz;cases h1:decide (0≤d∧d≤4) with
 |false=>exact hj (0,false) (by rw [←hT,h1];rfl)
 |true=>
  refine b8 (aA (xP (by omega) h.1 d) ?_);cases h2:gN s.write d with
  |false=>exact hj (0,false) (by rw [←hT,h1,h2];rfl)
  |true=>
   refine b8 (aM (qU d 5 n s.value 0 (by omega) (by omega) h.2 (by omega) (by omega)) fun r ⟨r1,r2⟩=>hj _ ?_);rw [←hT,h1,h2];show r.1=_;rw [r1];simp
theorem u7{n:Nat}(hn:6000≤n){s:Stmt}(h:SmS s)(d:Int):kH n s d=some (fN s d):=by
 obtain⟨n,rfl⟩: ∃j,n=j+1:=⟨n-1,by omega⟩
 refine Ev.eq ?_;unfold kH;generalize hT:fN s d=T;generalize hB:(decide (0≤d∧d≤4)&&(gN s.write d&&dO 5 s.value d))=B;have hTB:T=(B&&decide (uL 5 s.value≤12)):=by rw [←hT,←hB];unfold fN;simp only [Bool.and_assoc]
 refine Ev.jn (fun z=>z= !B) (fun j hj=>aH (fun h=>hj _ ?_) fun h0=>aH (fun h=>hj _ ?_) fun h4=>aA (xM (by omega) h.1 d) ?_) fun z hz=>?_
 ·rw [←hB,decide_eq_false (show¬(0≤d∧d≤4) by omega)];rfl
 ·rw [←hB,decide_eq_false (show¬(0≤d∧d≤4) by omega)];rfl
 ·rw [decide_eq_true (show 0≤d∧d≤4 by omega)] at hB;cases h2:gN s.write d with
  |false=>exact b8 (hj _ (by rw [←hB,h2];rfl))
  |true=>exact bZ (aA (B0 d 5 n s.value (by omega) (by omega) h.2) (hj _ (by rw [←hB,h2];rfl)))
 subst hz;cases hb:B with
 |false=>exact Ev.some (by rw [hTB,hb];rfl)
 |true=>
  rw [hb] at hB;simp only [Bool.and_eq_true] at hB;refine bZ (aA (B3 (d:=d) 5 n s.value (by omega) (by omega) hB.2.2) (Ev.some ?_));rw [hTB,hb];rfl
def jD(ds:List Int):Bool:=decide (1≤ds.length∧ds.length≤2)&&ds.all fun d=>decide (1≤d∧d≤6)
def yD(list:List Arr)(i:Nat)(x:Arr):Bool:=match i with
 |0=>true
 |i+1=>match list[i]? with
  |some y=>Op.bytesLess y.name x.name
  |none=>false
def aBn(list:List Arr)(i:Nat)(x:Arr):Bool:=o8 x.name&&(yD list i x&&jD x.dims)
def iM(list:List Arr):Bool:=Z1 (aBn list) list&&decide (list.length≤4)
def SmR(list:List Arr):Prop:=list.length≤1000∧ ∀x∈list,x.dims.length≤1000
theorem N5{list:List Arr}{i:Nat}{x y:Arr}(h:list[i]? =some y):yD list (i+1) x=Op.bytesLess y.name x.name:=by simp only [yD,h]
theorem aLK(ds:List Int):(ds.any fun d=> !decide (1≤d∧d≤6))= !(ds.all fun d=>decide (1≤d∧d≤6)):=by rw [vBd];simp
theorem aBb{n:Nat}(hn:6000≤n){list:List Arr}(h:SmR list):tJ n list=some (iM list):=by
 obtain⟨h0,h1⟩:=h;refine Ev.eq ?_;unfold tJ;refine nY (l:=list) (p:=aBn list) (by omega) (by omega) (fun again i x hx hgo hno=>?_) (fun again hall=>?_) (fun⟨i,x,hx,hp⟩=>?_)
 ·have hi:=(cH.1 hx).1;have hm:=h1 x (cN hx);rw [decide_eq_true (show(i:Int)<(list.length:Int) by omega)];have hd:cA n x.dims (fun q0=>fH n q0)=some (!(x.dims.all fun d=>decide (1≤d∧d≤6))):=by
   rw [←aLK];exact tP (fun d _=>by unfold fH;rw [e9];rfl) (by omega) (by omega)
  refine b8 (aA (aS hx) (Ev.jn (fun z=>z= !aBn list i x) (fun j hj=>aA (E5 n _) ?_) fun z hz=>?_))
  ·unfold aBn jD at hj;cases g1:o8 x.name with
   |false=>exact b8 (hj _ (by rw [g1];rfl))
   |true=>
    rw [g1] at hj;refine bZ ?_;rw [tG];have hlast:yD list i x=true→Ev (Option.bind (some (decide (1≤x.dims.length∧x.dims.length≤2))) fun x6=>bif !x6 then j true else Option.bind (cA n x.dims fun q0=>fH n q0) fun x7=>j x7) (fun r=>r=iM list):=by
     intro hp;rw [hp] at hj;show Ev (bif _ then _ else _) _;cases g2:decide (1≤x.dims.length∧x.dims.length≤2) with
     |false=>exact b8 (hj _ (by rw [g2];rfl))
     |true=>exact bZ (aA hd (hj _ (by rw [g2];rfl)))
    cases i with
    |zero=>exact aH (fun h=>absurd h (by decide)) (fun _=>hlast rfl)
    |succ i=>
     have hy:=cP (show i<list.length by omega);have e:wr (((i+1:Nat):Int)-1)=(i:Int):=by rw [aQ (by omega)];omega
     rw [e];refine aH (fun _=>aA (aS hy) ?_) fun h=>absurd (show(0:Int)<((i+1:Nat):Int) by omega) h;have hpp:=N5 (x:=x) hy;cases g3:Op.bytesLess list[i].name x.name with
     |false=>exact b8 (hj _ (by rw [hpp,g3];rfl))
     |true=>exact bZ (hlast (by rw [hpp,g3]))
  subst hz;cases hb:aBn list i x with
  |true=>show Ev (again _) _;rw [aQ (by omega)];exact hgo hb
  |false=>exact Ev.some (hno hb)
 ·rw [decide_eq_false (show¬(list.length:Int)<(list.length:Int) by omega)];refine Ev.some ?_;unfold iM;rw [pY hall,vAV];exact decide_eq_decide.2 (by omega)
 unfold iM;rw [nN hx hp];rfl
theorem aKp(s:List UInt8):(!Op.bytesLess s [68]&& !s==[68])= !(Op.bytesLess s [68]||s==[68]):=by cases Op.bytesLess s [68]<;>cases (s==[68])<;>rfl
theorem aA4{n:Nat}(hn:6000≤n){list:List Arr}(h:SmR list):sU n list=some (iM list):=by
 obtain⟨h0,h1⟩:=h;refine Ev.eq ?_;unfold sU;refine nY (l:=list) (p:=aBn list) (by omega) (by omega) (fun again i x hx hgo hno=>?_) (fun again hall=>?_) (fun⟨i,x,hx,hp⟩=>?_)
 ·have hi:=(cH.1 hx).1;have hm:=h1 x (cN hx);rw [decide_eq_true (show(i:Int)<(list.length:Int) by omega)];refine b8 (aA (aS hx) (Ev.jn (fun z=>z= !(o8 x.name&&(yD list i x&&decide (1≤x.dims.length∧x.dims.length≤2)))) (fun j hj=>?_) fun z hz=>?_))
  ·refine dI (fun hl=>hj _ ?_) fun hl=>?_
   ·rw [yI (by omega)];rfl
   obtain⟨b,hb⟩:=aOC (show x.name.length=1 by omega);rw [aKp];have hless: ∀(y:Arr),Op.bytesLess y.name x.name=Op.bytesLess y.name [b]:=fun y=>by rw [hb]
   have hnm:o8 x.name=decide (65≤b.toNat∧b.toNat≤68):=by rw [hb];rfl
   have l1:Op.bytesLess x.name [65]=decide (b.toNat<65):=by rw [hb];exact Y2 b
   have l2:(Op.bytesLess x.name [68]||x.name==[68])=decide (b.toNat≤68):=by rw [hb];exact Y1 b
   rw [l1,l2];rw [hnm] at hj;refine aH (fun g1=>hj _ ?_) fun g1=>dI (fun g2=>hj _ ?_) fun g2=>?_
   ·rw [decide_eq_false (show¬(65≤b.toNat∧b.toNat≤68) by omega)];rfl
   ·rw [decide_eq_false (show¬(65≤b.toNat∧b.toNat≤68) by omega)];rfl
   rw [decide_eq_true (show 65≤b.toNat∧b.toNat≤68 by omega)] at hj;have hlast:yD list i x=true→Ev (bif decide ((x.dims.length:Int)<1) then j true else j (decide ((2:Int)<(x.dims.length:Int)))) (fun r=>r=iM list):=by
    intro hp;rw [hp] at hj;refine aH (fun h=>hj _ ?_) fun h=>hj _ ?_
    ·rw [decide_eq_false (show¬(1≤x.dims.length∧x.dims.length≤2) by omega)];rfl
    by_cases h2:x.dims.length≤2
    ·rw [decide_eq_false (show¬(2:Int)<(x.dims.length:Int) by omega),decide_eq_true (show 1≤x.dims.length∧x.dims.length≤2 by omega)];rfl
    rw [decide_eq_true (show(2:Int)<(x.dims.length:Int) by omega),decide_eq_false (show¬(1≤x.dims.length∧x.dims.length≤2) by omega)];rfl
   cases i with
   |zero=>exact aH (fun h=>absurd h (by decide)) (fun _=>hlast rfl)
   |succ i=>
    have hy:=cP (show i<list.length by omega);have e:wr (((i+1:Nat):Int)-1)=(i:Int):=by rw [aQ (by omega)];omega
    rw [e];refine aH (fun _=>aA (aS hy) ?_) fun h=>absurd (show(0:Int)<((i+1:Nat):Int) by omega) h;have hpp:=N5 (x:=x) hy;cases g3:Op.bytesLess list[i].name x.name with
    |false=>exact b8 (hj _ (by rw [hpp,g3];rfl))
    |true=>exact bZ (hlast (by rw [hpp,g3]))
  subst hz;cases hb:(o8 x.name&&(yD list i x&&decide (1≤x.dims.length∧x.dims.length≤2))) with
  |false=>
   refine Ev.some (hno ?_);unfold aBn jD;rw [←vBc,←vBc];rw [←vBc] at hb;rw [hb];rfl
  |true=>
   have hap:aBn list i x=x.dims.all (fun d=>decide (1≤d∧d≤6)):=by
    unfold aBn jD;rw [←vBc,←vBc];rw [←vBc] at hb;rw [hb];rfl
   refine bZ ?_;refine Ev.loop (fun y:Int=> ∃k:Nat,y=k∧k≤x.dims.length∧ ∀(t:Nat) d,t<k→x.dims[t]? =some d→decide (1≤d∧d≤6)=true) (fun y=>x.dims.length-y.toNat) ?_ n _ ⟨0,rfl,by omega,fun t d h=>by omega⟩ (by simp;omega);rintro again8 y ⟨k,rfl,hk,ha⟩ hr;refine aH (fun hlt=>?_) fun hge=>?_
   ·have hd:=cP (show k<x.dims.length by omega);have ek:wr ((k:Int)+1)=((k+1:Nat):Int):=by rw [aQ (by omega)];omega
    refine Ev.jn (fun z=>z= !decide (1≤x.dims[k]∧x.dims[k]≤6)) (fun j hj=>aA (aS hd) (aH (fun h=>hj _ ?_) fun h=>hj _ ?_)) fun z hz=>?_
    ·rw [decide_eq_false (by omega)];rfl
    ·by_cases h6:x.dims[k]≤6
     ·rw [decide_eq_false (show¬(6:Int)<x.dims[k] by omega),decide_eq_true (show 1≤x.dims[k]∧x.dims[k]≤6 by omega)];rfl
     rw [decide_eq_true (show(6:Int)<x.dims[k] by omega),decide_eq_false (show¬(1≤x.dims[k]∧x.dims[k]≤6) by omega)];rfl
    subst hz;cases hb2:decide (1≤x.dims[k]∧x.dims[k]≤6) with
    |false=>
     refine Ev.some (hno ?_);rw [hap];exact vAJ.2 ⟨_,cN hd,by rw [hb2];simp⟩
    |true=>
     rw [ek];refine hr _ ⟨k+1,rfl,by omega,fun t d ht hd2=>?_⟩ (by omega);by_cases htk:t=k
     ·subst htk;rw [hd] at hd2;cases hd2;exact hb2
     exact ha t d (by omega) hd2
   have e:wr ((i:Int)+1)=(i:Int)+1:=aQ (by omega);rw [e];refine hgo ?_;rw [hap];refine vAF.2 fun d hd=>?_;obtain⟨t,ht⟩:=vAM hd
   have:=(cH.1 ht).1;exact ha t d (by omega) ht
 ·rw [decide_eq_false (show¬(list.length:Int)<(list.length:Int) by omega)];refine Ev.some ?_;unfold iM;rw [pY hall,vAV];exact decide_eq_decide.2 (by omega)
 unfold iM;rw [nN hx hp];rfl
def szL:List Int→Int
 | []=>1
 |d::ds=>d*szL ds
theorem aGL{ds:List Int}(h:jD ds=true):(∃a,ds=[a]∧1≤a∧a≤6)∨ ∃a b,ds=[a,b]∧(1≤a∧a≤6)∧1≤b∧b≤6:=by
 simp only [jD,Bool.and_eq_true,decide_eq_true_eq,List.all_eq_true] at h;obtain⟨⟨h1,h2⟩,h3⟩:=h
 match ds,h1,h2,h3 with
 | [a],_,_,h3=>exact .inl ⟨a,rfl,h3 a (by simp)⟩
 | [a,b],_,_,h3=>exact .inr ⟨a,b,rfl,h3 a (by simp),h3 b (by simp)⟩
theorem aPR{a b:Int}(ha:1≤a∧a≤6)(hb:1≤b∧b≤6):1≤a*b∧a*b≤36:=by
 constructor
 ·have:=vBP ha.1 hb.1 (by omega) (by omega);omega
 have:=vBP ha.2 hb.2 (by omega) (by omega);omega
theorem aHx{ds:List Int}(h:jD ds=true):1≤szL ds∧szL ds≤36:=by
 rcases aGL h with ⟨a,rfl,h1⟩|⟨a,b,rfl,h1,h2⟩
 ·simp [szL];omega
 have:=aPR h1 h2;simp [szL];omega
theorem M9{n:Nat}(hn:6000≤n){x:Arr}(h:jD x.dims=true):A5 n x=some (szL x.dims):=by
 obtain⟨n,rfl⟩: ∃j,n=j+3:=⟨n-3,by omega⟩
 unfold A5;rcases aGL h with ⟨a,e,h1⟩|⟨a,b,e,h1,h2⟩
 ·rw [e];have e1:wr a=a:=aQ (by omega);simp [aN,ix,szL,e1,show wr 1=1 from aQ (by omega)]
 rw [e]
 have:=aPR h1 h2;have e1:wr a=a:=aQ (by omega);have e2:wr (a*b)=a*b:=aQ (by omega);simp [aN,ix,szL,e1,e2,show wr 1=1 from aQ (by omega),show wr 2=2 from aQ (by omega)]
theorem aIT{n:Nat}(hn:6000≤n){x:Arr}(h:jD x.dims=true):tL n x=some (szL x.dims):=M9 hn h
def l3:List Affine→List Int→List Int→Int→Int
 |s::ss,d::ds,p,acc=>if 0≤cI s p∧cI s p<d then l3 ss ds p (acc*d+cI s p) else-1
 |_,_,_,acc=>acc
def cV:List Arr→Access→List Int→Int→Int
 | [],_,_,_=> -1
 |x::xs,a,p,base=>if x.name=a.array then(if a.subs.length=x.dims.length then(if l3 a.subs x.dims p 0<0 then-1 else base+l3 a.subs x.dims p 0) else-1) else cV xs a p (base+szL x.dims)
def jV(xs:List Arr):Prop:= ∀x∈xs,jD x.dims=true
theorem aPY{ds:List Int}(hd:jD ds=true){ss:List Affine}(hl:ss.length=ds.length)(p:List Int):l3 ss ds p 0= -1∨(0≤l3 ss ds p 0∧l3 ss ds p 0<szL ds):=by
 rcases aGL hd with ⟨a,rfl,h1⟩|⟨a,b,rfl,h1,h2⟩
 ·match ss,hl with
  | [s],_=>
   simp only [l3,szL,Int.zero_mul,Int.zero_add,Int.mul_one];split<;>omega
 match ss,hl with
 | [s,t],_=>
  simp only [l3,szL,Int.zero_mul,Int.zero_add,Int.mul_one];split
  ·rename_i hs;split
   ·rename_i ht;refine .inr ⟨?_,?_⟩
    ·have:=vBr hs.1 (show 0≤b by omega);omega
    have:=Int.mul_le_mul_of_nonneg_right (show cI s p≤a-1 by omega) (show 0≤b by omega);rw [Int.sub_mul] at this;omega
   exact .inl rfl
  exact .inl rfl
def xK(xs:List Arr):Int:=(xs.map fun x=>szL x.dims).sum
theorem aIf: ∀{xs:List Arr},jV xs→ ∀(a:Access) (p:List Int) (base:Int),0≤base→cV xs a p base= -1∨(base≤cV xs a p base∧cV xs a p base<base+xK xs)
 | [],_,a,p,base,_=> .inl rfl
 |x::xs,hd,a,p,base,hb=>by
  have hx:=hd x (by simp);have hs:=aHx hx;have hxs:jV xs:=fun y hy=>hd y (by simp [hy]);have ht:0≤xK xs:=by
   have:=qN (fun x:Arr=>szL x.dims) xs fun y hy=>(aHx (hxs y hy)).1;unfold xK;omega
  have e:xK (x::xs)=szL x.dims+xK xs:=by simp [xK]
  rw [e];simp only [cV];split
  ·split
   ·rename_i hl;rcases aPY hx hl p with h|h
    ·rw [if_pos (by omega)];exact .inl rfl
    rw [if_neg (by omega)];exact .inr ⟨by omega,by omega⟩
   exact .inl rfl
  rcases aIf hxs a p (base+szL x.dims) (by omega) with h|h
  ·exact .inl h
  exact .inr ⟨by omega,by omega⟩
theorem uH{a:Access}{d:Int}(h:gN a d=true):1≤a.subs.length∧a.subs.length≤2∧ ∀x∈a.subs,bO x=true:=by
 simp only [gN,Bool.and_eq_true,decide_eq_true_eq,List.all_eq_true] at h;refine⟨h.2.2.1,h.2.2.2,fun x hx=>?_⟩
 have:=h.1 x hx;simp only [b7,Bool.and_eq_true] at this;exact this.1
theorem kZ{α:Type}{l:List α}{i:Nat}{x:α}(h:l[i]? =some x):l.drop i=x::l.drop (i+1):=by obtain⟨h1,h2⟩:=cH.1 h;rw [vBf h1,h2]
theorem aFr{a d v:Int}(ha:0≤a∧a≤36)(hd:1≤d∧d≤6)(hv:0≤v∧v<d):0≤a*d∧a*d≤216∧0≤a*d+v:=by have h1:=vBr ha.1 (show 0≤d by omega);have h2:=vBP ha.2 hd.2 (by omega) (by omega);omega
theorem aKL{n:Nat}(hn:6000≤n){a:Access}(h1:a.subs.length≤2)(h2: ∀x∈a.subs,bO x=true){ds:List Int}(hd:jD ds=true)(hl:a.subs.length=ds.length){k:Nat}{p:List Int}(hp:q5 k p)(base:Int)(hb:0≤base∧base≤1000000):
  aN (fun again8 ((x6,x7):Int×Int)=>bif decide (x7<(a.subs.length:Int)) then(Option.bind (ix a.subs x7) fun x9=>Option.bind (dJ n x9 p) fun x10=>Option.bind (ix ds x7) fun x11=>Option.bind (cU n x10 0 (wr (x11-1))) fun x12=>bif !x12 then(some (-1)) else(again8 (wr ((wr (x6*x11))+x10),wr (x7+1)))) else(some (wr (base+x6)))) n (0,0)
   =some (if l3 a.subs ds p 0<0 then-1 else base+l3 a.subs ds p 0):=by
 have hdm: ∀d∈ds,1≤d∧d≤6:=by
  simp only [jD,Bool.and_eq_true,decide_eq_true_eq,List.all_eq_true] at hd;exact fun d h=>hd.2 d h
 refine Ev.eq ?_;refine Ev.loop (fun x:Int×Int=> ∃i:Nat,x.2=i∧i≤a.subs.length∧0≤x.1∧x.1≤36*i∧(i=0→x.1=0)∧(i=1→x.1≤5)∧l3 a.subs ds p 0=l3 (a.subs.drop i) (ds.drop i) p x.1) (fun x=>a.subs.length-x.2.toNat) ?_ n _ ⟨0,rfl,by omega,by simp,by simp,fun _=>rfl,fun h=>by omega,rfl⟩ (by simp;omega);rintro again ⟨x,z⟩ ⟨i,hz,hi,hx0,hx1,hx2,hx3,hx⟩ hr;dsimp only at hz hx0 hx1 hx2 hx3 hx⊢;subst hz;refine aH (fun hlt=>?_) fun hge=>Ev.some ?_
 ·have hs:=cP (show i<a.subs.length by omega);have hdd:=cP (show i<ds.length by omega);have hdb:=hdm _ (cN hdd);have ew:wr (ds[i]-1)=ds[i]-1:=aQ (by omega);rw [kZ hs,kZ hdd] at hx;simp only [l3] at hx;refine aA (aS hs) (aA (aKM (by omega) (h2 _ (cN hs)) hp) (aA (aS hdd) (aA (e9 _ _ _ _) ?_)));rw [ew];by_cases hc:0≤cI a.subs[i] p∧cI a.subs[i] p<ds[i]
  ·rw [if_pos hc] at hx;rw [decide_eq_true (show 0≤cI a.subs[i] p∧cI a.subs[i] p≤ds[i]-1 by omega)];obtain⟨g1,g2,g3⟩:=aFr (a:=x) (by omega) hdb hc;refine bZ ?_;rw [aQ (n:=x*ds[i]) (by omega),aQ (n:=x*ds[i]+cI a.subs[i] p) (by omega),aQ (by omega)];have hi01:i=0∨i=1:=by omega
   refine hr _ ⟨i+1,by dsimp only;omega,by omega,by dsimp only;omega,?_,fun h=>by omega,fun h=>?_,hx⟩ (by dsimp only;omega)
   ·dsimp only;rcases hi01 with rfl|rfl
    ·rw [hx2 rfl];omega
    have:=hx3 rfl
    have:=vBP this hdb.2 (by omega) (by omega);omega
   dsimp only
   have:i=0:=by omega
   subst this;rw [hx2 rfl];omega
  rw [if_neg hc] at hx;rw [decide_eq_false (show¬(0≤cI a.subs[i] p∧cI a.subs[i] p≤ds[i]-1) by omega)];refine b8 (Ev.some ?_);rw [hx];rfl
 have hie:i=a.subs.length:=by omega
 have hdr:l3 (a.subs.drop i) (ds.drop i) p x=x:=by
  rw [hie,vBq];unfold l3;rfl
 rw [hdr] at hx;rw [hx,if_neg (by omega),aQ (by omega)]
theorem aJ2{n:Nat}(hn:6000≤n){a:Access}(h0:1≤a.subs.length)(h1:a.subs.length≤2)(h2: ∀x∈a.subs,bO x=true){ds:List Int}(hd:jD ds=true){k:Nat}{p:List Int}(hp:q5 k p)(base:Int)(hb:0≤base∧base≤1000000):
  aN (fun again8 ((x6,x7):Int×Int)=>bif decide (x7<(a.subs.length:Int)) then(bif !decide ((a.subs.length:Int)=(ds.length:Int)) then(some (-1)) else(Option.bind (ix a.subs x7) fun x9=>Option.bind (jG n x9 p) fun x10=>jn (fun(x13:Bool)=>bif x13 then(some (-1)) else(Option.bind (ix ds x7) fun x14=>again8 (wr ((wr (x6*x14))+x10),wr (x7+1)))) fun j11=>bif decide (x10<0) then(j11 true) else(Option.bind (ix ds x7) fun x12=>j11 (decide (x12≤x10))))) else(some (wr (base+x6)))) n (0,0)
   =some (if a.subs.length=ds.length then(if l3 a.subs ds p 0<0 then-1 else base+l3 a.subs ds p 0) else-1):=by
 by_cases hl:a.subs.length=ds.length
 ·rw [if_pos hl];rw [decide_eq_true (show(a.subs.length:Int)=(ds.length:Int) by omega)];have hdm: ∀d∈ds,1≤d∧d≤6:=by
   simp only [jD,Bool.and_eq_true,decide_eq_true_eq,List.all_eq_true] at hd;exact fun d h=>hd.2 d h
  refine Ev.eq ?_;refine Ev.loop (fun x:Int×Int=> ∃i:Nat,x.2=i∧i≤a.subs.length∧0≤x.1∧x.1≤36*i∧(i=0→x.1=0)∧(i=1→x.1≤5)∧l3 a.subs ds p 0=l3 (a.subs.drop i) (ds.drop i) p x.1) (fun x=>a.subs.length-x.2.toNat) ?_ n _ ⟨0,rfl,by omega,by simp,by simp,fun _=>rfl,fun h=>by omega,rfl⟩ (by simp;omega);rintro again ⟨x,z⟩ ⟨i,hz,hi,hx0,hx1,hx2,hx3,hx⟩ hr;dsimp only at hz hx0 hx1 hx2 hx3 hx⊢;subst hz;refine aH (fun hlt=>?_) fun hge=>Ev.some ?_
  ·have hs:=cP (show i<a.subs.length by omega);have hdd:=cP (show i<ds.length by omega);have hdb:=hdm _ (cN hdd);rw [kZ hs,kZ hdd] at hx;simp only [l3] at hx;refine bZ (aA (aS hs) (aA (aJ3 (by omega) (h2 _ (cN hs)) hp) (Ev.jn (fun z=>z= !decide (0≤cI a.subs[i] p∧cI a.subs[i] p<ds[i])) (fun j hj=>aH (fun h=>hj _ ?_) fun h=>aA (aS hdd) (hj _ ?_)) fun z hz=>?_)))
   ·rw [decide_eq_false (by omega)];rfl
   ·by_cases hc:ds[i]≤cI a.subs[i] p
    ·rw [decide_eq_true hc,decide_eq_false (by omega)];rfl
    rw [decide_eq_false hc,decide_eq_true (by omega)];rfl
   subst hz;by_cases hc:0≤cI a.subs[i] p∧cI a.subs[i] p<ds[i]
   ·rw [if_pos hc] at hx;rw [decide_eq_true hc];obtain⟨g1,g2,g3⟩:=aFr (a:=x) (by omega) hdb hc;refine bZ (aA (aS hdd) ?_);rw [aQ (n:=x*ds[i]) (by omega),aQ (n:=x*ds[i]+cI a.subs[i] p) (by omega),aQ (by omega)];have hi01:i=0∨i=1:=by omega
    refine hr _ ⟨i+1,by dsimp only;omega,by omega,by dsimp only;omega,?_,fun h=>by omega,fun h=>?_,hx⟩ (by dsimp only;omega)
    ·dsimp only;rcases hi01 with rfl|rfl
     ·rw [hx2 rfl];omega
     have:=hx3 rfl
     have:=vBP this hdb.2 (by omega) (by omega);omega
    dsimp only
    have:i=0:=by omega
    subst this;rw [hx2 rfl];omega
   rw [if_neg hc] at hx;rw [decide_eq_false hc];refine b8 (Ev.some ?_);rw [hx];rfl
  have hie:i=a.subs.length:=by omega
  have hdr:l3 (a.subs.drop i) (ds.drop i) p x=x:=by
   rw [hie,vBq];unfold l3;rfl
  rw [hdr] at hx;rw [hx,if_neg (by omega),aQ (by omega)]
 rw [if_neg hl,decide_eq_false (show¬(a.subs.length:Int)=(ds.length:Int) by omega)];obtain⟨n,rfl⟩: ∃j,n=j+1:=⟨n-1,by omega⟩
 simp only [aN];rw [decide_eq_true (show(0:Int)<(a.subs.length:Int) by omega)];rfl
theorem w6{n:Nat}(hn:6000≤n){p:Prog}(hl:p.arrays.length≤4)(hd:jV p.arrays){a:Access}{d:Int}(ha:gN a d=true){k:Nat}{q:List Int}(hq:q5 k q):eQ n p a q=some (cV p.arrays a q 0):=by
 obtain⟨a0,a1,a2⟩:=uH ha;refine Ev.eq ?_;unfold eQ;refine Ev.loop (fun x:Int×Int=> ∃i:Nat,x.2=i∧i≤p.arrays.length∧0≤x.1∧x.1≤36*i∧cV p.arrays a q 0=cV (p.arrays.drop i) a q x.1) (fun x=>p.arrays.length-x.2.toNat) ?_ n _ ⟨0,rfl,by omega,by simp,by simp,rfl⟩ (by simp;omega);rintro again ⟨x,z⟩ ⟨i,hz,hi,hx0,hx1,hx⟩ hr;dsimp only at hz hx0 hx1 hx⊢;subst hz;refine aH (fun hlt=>?_) fun hge=>Ev.some ?_
 ·have hy:=cP (show i<p.arrays.length by omega);have hdy:=hd _ (cN hy);have hsz:=aHx hdy;rw [kZ hy] at hx;simp only [cV] at hx;refine aA (aS hy) (dI (fun hne=>?_) fun he=>?_)
  ·rw [if_neg hne] at hx;refine aA (aIT hn hdy) ?_;rw [aQ (n:=x+szL p.arrays[i].dims) (by omega),aQ (by omega)];exact hr _ ⟨i+1,by dsimp only;omega,by omega,by dsimp only;omega,by dsimp only;omega,hx⟩ (by dsimp only;omega)
  rw [if_pos he] at hx;refine dI (fun hne=>Ev.some ?_) fun hle=>?_
  ·rw [hx,if_neg (by omega)]
  have hle':a.subs.length=p.arrays[i].dims.length:=by omega
  rw [if_pos hle'] at hx;exact Ev.of (aKL hn a1 a2 hdy hle' hq x (by omega)) hx.symm
 have hie:i=p.arrays.length:=by omega
 rw [hx,hie,vBq];rfl
theorem aBB{n:Nat}(hn:6000≤n){list:List Arr}(hl:list.length≤4)(hd:jV list){a:Access}{d:Int}(ha:gN a d=true){k:Nat}{q:List Int}(hq:q5 k q):uZ n list a q=some (cV list a q 0):=by
 obtain⟨a0,a1,a2⟩:=uH ha;refine Ev.eq ?_;unfold uZ;refine Ev.loop (fun x:Int×Int=> ∃i:Nat,x.2=i∧i≤list.length∧0≤x.1∧x.1≤36*i∧cV list a q 0=cV (list.drop i) a q x.1) (fun x=>list.length-x.2.toNat) ?_ n _ ⟨0,rfl,by omega,by simp,by simp,rfl⟩ (by simp;omega);rintro again ⟨x,z⟩ ⟨i,hz,hi,hx0,hx1,hx⟩ hr;dsimp only at hz hx0 hx1 hx⊢;subst hz;refine aH (fun hlt=>?_) fun hge=>Ev.some ?_
 ·have hy:=cP (show i<list.length by omega);have hdy:=hd _ (cN hy);have hsz:=aHx hdy;rw [kZ hy] at hx;simp only [cV] at hx;refine aA (aS hy) (dI (fun hne=>?_) fun he=>?_)
  ·rw [if_neg hne] at hx;refine aA (M9 hn hdy) ?_;rw [aQ (n:=x+szL list[i].dims) (by omega),aQ (by omega)];exact hr _ ⟨i+1,by dsimp only;omega,by omega,by dsimp only;omega,by dsimp only;omega,hx⟩ (by dsimp only;omega)
  rw [if_pos he] at hx;exact Ev.of (aJ2 hn a0 a1 a2 hdy hq x (by omega)) hx.symm
 have hie:i=list.length:=by omega
 rw [hx,hie,vBq];rfl
def b9:Nat→Expr→List Access
 |0,_=>[]
 |L+1,e=>(if e.kind=3 then [e.read] else [])++e.kids.flatMap (b9 L)
theorem J4{d:Int}: ∀{L:Nat} {e:Expr},dO L e d=true→ ∀a∈b9 L e,gN a d=true
 |0,e,h,a,ha=>by cases h
 |L+1,e,h,a,ha=>by
  obtain⟨h1,h2,h3⟩:=gU h;simp only [b9,List.mem_append,List.mem_flatMap] at ha;rcases ha with ha|⟨k,hk,ha⟩
  ·split at ha
   ·rename_i hk3;simp at ha;subst ha;unfold fV at h2;rw [if_neg (by omega),if_pos hk3] at h2;simp only [Bool.and_eq_true] at h2;exact h2.2.2
   simp at ha
  exact J4 (h3 k hk) a ha
theorem wU: ∀(L:Nat) (e:Expr),((b9 L e).length:Int)≤uL L e
 |0,e=>by simp [b9,uL]
 |L+1,e=>by
  have h: ∀(l:List Expr),((l.flatMap (b9 L)).length:Int)≤(l.map (uL L)).sum:=by
   intro l;induction l with
   |nil=>simp
   |cons k l ih=>
    have:=wU L k;simp only [List.flatMap_cons,List.length_append,List.map_cons,List.sum_cons];omega
  have:=h e.kids;simp only [b9,uL,List.length_append];split
  ·rw [vBi];omega
  rw [List.length_nil];omega
theorem yO{d:Int}: ∀(L n:Nat) (e:Expr),6000+L≤n→L≤5→dO L e d=true→i_reads (n+1) e=some (b9 L e)
 |0,n,e,_,_,h=>by cases h
 |L+1,n,e,hn,hL,h=>by
  obtain⟨h1,h2,h3⟩:=gU h;have hk2:=mS e.kind;unfold i_reads;refine Ev.eq (aH (fun h3k=>Ev.some ?_) fun hn3=>?_)
  ·have:e.kids=[]:=by
    have hz:iG e.kind=0:=by unfold iG;rw [if_pos (Or.inr (Or.inr h3k))]
    exact vAz (by omega)
   simp [b9,h3k,this]
  obtain⟨n,rfl⟩: ∃j,n=j+1:=⟨n-1,by omega⟩
  have hcb: ∀k∈e.kids,((b9 L k).length:Int)≤100:=fun k hk=>by
   have h5:=aDg (h3 k hk);have h6:(2:Int)^L≤40:=by
    match L,hL with
    |0,_=>decide
    |1,_=>decide
    |2,_=>decide
    |3,_=>decide
    |4,_=>decide
   have:=wU L k;omega
  refine Ev.loop (fun x:List Access×Int=> ∃i:Nat,x.2=i∧i≤e.kids.length∧x.1=(e.kids.take i).flatMap (b9 L)∧(x.1.length:Int)≤100*i) (fun x=>e.kids.length-x.2.toNat) ?_ (n+1) _ ⟨0,rfl,by omega,by simp,by simp⟩ (by simp;omega);rintro again ⟨x,k⟩ ⟨i,hk,hi,hx,hxl⟩ hr;dsimp only at hk hx hxl⊢;subst hk;refine aH (fun hlt=>?_) fun hge=>Ev.some ?_
  ·have hk3:=cP (show i<e.kids.length by omega);have hm:=cN hk3;have hb:=hcb _ hm;refine aA (aS hk3) (aA (yO (d:=d) L n _ (by omega) (by omega) (h3 _ hm)) (aA (bU (by omega)) ?_));rw [aQ (by omega)];refine hr _ ⟨i+1,by dsimp only;omega,by omega,?_,by dsimp only;rw [pU];omega⟩ (by dsimp only;omega);dsimp only;rw [xX,hk3,vAY,hx];simp
  have:i=e.kids.length:=by omega
  rw [hx,this,q7];simp [b9,hn3]
theorem aAo(n:Nat){a:Affine}(h:a.coefs.length≤1000):fQ n a=some a:=by
 unfold fQ;refine Ev.eq (aH (fun h0=>Ev.some ?_) fun h0=>aA (d5 _ h) (Ev.some rfl));obtain⟨cs,c⟩:=a
 have:cs=[]:=vAz (by simpa using h0);subst this;rfl
theorem yV{n:Nat}(hn:5000≤n){a:Access}(h:Q7 a.subs):fR n a=some a:=by
 obtain⟨h0,h1⟩:=h;refine Ev.eq ?_;unfold fR;refine Ev.loop (fun x:List Affine×Int=> ∃i:Nat,x.2=i∧i≤a.subs.length∧x.1=a.subs.take i) (fun x=>a.subs.length-x.2.toNat) ?_ n _ ⟨0,rfl,by omega,by simp⟩ (by simp;omega);rintro again ⟨x,k⟩ ⟨i,hk,hi,hx⟩ hr;dsimp only at hk hx⊢;subst hk;refine aH (fun hlt=>?_) fun hge=>Ev.some ?_
 ·have hs:=cP (show i<a.subs.length by omega);have hl:x.length=i:=by rw [hx,uI];omega
  refine aA (aS hs) (aA (aAo n (h1 _ (cN hs))) (aA (bU (by simp;omega)) ?_));rw [aQ (by omega)];refine hr _ ⟨i+1,by dsimp only;omega,by omega,?_⟩ (by dsimp only;omega);dsimp only;rw [xX,hs,hx];rfl
 have:i=a.subs.length:=by omega
 rw [hx,this,q7]
theorem aNx{l:List Affine}(h1:l.length≤2)(h2: ∀a∈l,bO a=true):Q7 l:=⟨by omega,fun a ha=>by have:=(hJ (h2 a ha)).1;unfold SmA;omega⟩
theorem U7{d:Int}: ∀(L n:Nat) (e:Expr) (out:List Access),6000+L≤n→L≤5→dO L e d=true→(out.length:Int)≤1000+200*(6-(L:Int))→s_l3Reads (n+1) out e=some (out++b9 L e)
 |0,n,e,out,_,_,h,_=>by cases h
 |L+1,n,e,out,hn,hL,h,ho=>by
  obtain⟨h1,h2,h3⟩:=gU h;have hk2:=mS e.kind;unfold s_l3Reads;refine Ev.eq (Ev.jn (fun z=>z=out++(if e.kind=3 then [e.read] else [])) (fun j hj=>aH (fun h3k=>?_) fun hn3=>hj _ (by rw [if_neg hn3];simp)) fun z hz=>?_)
  ·have ha:=J4 h e.read (by simp [b9,h3k]);obtain⟨_,b1,b2⟩:=uH ha;exact aA (yV (by omega) (aNx b1 b2)) (aA (bU (by simp;omega)) (hj _ (by rw [if_pos h3k])))
  subst hz;obtain⟨n,rfl⟩: ∃j,n=j+1:=⟨n-1,by omega⟩
  by_cases h3k:e.kind=3
  ·have hnil:e.kids=[]:=by
    have hz:iG e.kind=0:=by unfold iG;rw [if_pos (Or.inr (Or.inr h3k))]
    exact vAz (by omega)
   rw [hnil];refine Ev.some ?_;simp [b9,h3k,hnil]
  have hcb: ∀k∈e.kids,((b9 L k).length:Int)≤100:=fun k hk=>by
   have h5:=aDg (h3 k hk);have h6:(2:Int)^L≤40:=by
    match L,hL with
    |0,_=>decide
    |1,_=>decide
    |2,_=>decide
    |3,_=>decide
    |4,_=>decide
   have:=wU L k;omega
  rw [if_neg h3k,vBn];refine Ev.loop (fun x:List Access×Int=> ∃i:Nat,x.2=i∧i≤e.kids.length∧x.1=out++(e.kids.take i).flatMap (b9 L)∧(x.1.length:Int)≤out.length+100*i) (fun x=>e.kids.length-x.2.toNat) ?_ (n+1) _ ⟨0,rfl,by omega,by simp,by simp⟩ (by simp;omega);rintro again ⟨x,k⟩ ⟨i,hk,hi,hx,hxl⟩ hr;dsimp only at hk hx hxl⊢;subst hk;refine aH (fun hlt=>?_) fun hge=>Ev.some ?_
  ·have hk3:=cP (show i<e.kids.length by omega);have hm:=cN hk3;have hb:=hcb _ hm;refine aA (aS hk3) (aA (U7 (d:=d) L n _ x (by omega) (by omega) (h3 _ hm) (by omega)) ?_);rw [aQ (by omega)];refine hr _ ⟨i+1,by dsimp only;omega,by omega,?_,by dsimp only;rw [pU];omega⟩ (by dsimp only;omega);dsimp only;rw [xX,hk3,vAY,hx];simp
  have:i=e.kids.length:=by omega
  rw [hx,this,q7];simp [b9,h3k]
theorem aKj{nest:List Loop}(hf:Fit nest): ∀(ls:List Loop) (k:Nat) (p q:List Int),nest.drop k=ls→k≤nest.length→q5 k p→q∈pts ls p→q5 nest.length q
 | [],k,p,q,hd,hk,hp,hq=>by
  have:=F0 hd hk;simp only [pts,List.mem_singleton] at hq;subst hq;subst this;exact hp
 |l::ls,k,p,q,hd,hk,hp,hq=>by obtain⟨d1,d2,d3⟩:=w8 hd;obtain⟨s1,s2⟩:=hf.2 k l d1;have hf1:=hf.1;simp only [pts,List.mem_flatMap] at hq;obtain⟨v,hv,hq⟩:=hq;exact aKj hf ls (k+1) _ q d2 (by omega) (R4 s1 s2 hp (by omega) (aMJ.1 hv)) hq
theorem aFx{nest:List Loop}{ps:List (List Int)}(h:NP nest=some ps):Fit nest∧ps.length≤120∧(∀q∈ps,q5 nest.length q)∧ps=pts nest []∧wk nest []≤1200:=by
 unfold NP at h;split at h
 ·rename_i hc;cases h;have hf:=aC0 hc.1;exact⟨hf,hc.2.2,fun q hq=>aKj hf nest 0 [] q rfl (by omega) pt0 hq,rfl,hc.2.1⟩
 cases h
def dY(list:List Arr)(s:Stmt)(q:List Int):Bool:=decide (0≤cV list s.write q 0)&&(b9 5 s.value).all fun a=>decide (0≤cV list a q 0)
theorem jY{s:Stmt}{d:Int}(h:fN s d=true):gN s.write d=true∧dO 5 s.value d=true∧(∀a∈b9 5 s.value,gN a d=true)∧(b9 5 s.value).length≤12:=by
 simp only [fN,Bool.and_eq_true,decide_eq_true_eq] at h;obtain⟨_,h1,h2,h3⟩:=h
 have:=wU 5 s.value;exact⟨h1,h2,J4 h2,by omega⟩
theorem aEA{n:Nat}(hn:7000≤n){p:Prog}(hl:p.arrays.length≤4)(hd:jV p.arrays){s:Stmt}{d:Int}(hs:fN s d=true){k:Nat}{q:List Int}(hq:q5 k q):iY n p s q=some (dY p.arrays s q):=by
 obtain⟨h1,h2,h3,h4⟩:=jY hs;obtain⟨n,rfl⟩: ∃j,n=j+1:=⟨n-1,by omega⟩
 refine Ev.eq ?_;unfold iY;generalize hT:dY p.arrays s q=T;unfold dY at hT;refine Ev.jn (fun z=>z=T) (fun j hj=>aA (w6 (by omega) hl hd h1 hq) (aH (fun h=>?_) fun h=>hj _ ?_)) fun z hz=>Ev.some hz
 ·have hc:=P9 (n:=n+1) (f:=fun q0=>eP (n+1) q0 p q) (p:=fun a=>decide (cV p.arrays a q 0<0)) (l:=b9 5 s.value)
   (fun a ha=>by unfold eP;rw [w6 (by omega) hl hd (h3 a ha) hq];rfl) (by omega) (by omega)
  refine aA (yO (d:=d) 5 n s.value (by omega) (by omega) h2) (aA hc (hj _ ?_));rw [←hT,decide_eq_true h,vAV,vBd];congr 1;apply congrArg fun f=>List.any (b9 5 s.value) f;funext a;rw [ltd]
 rw [←hT,decide_eq_false h];rfl
theorem A7{n:Nat}(hn:7000≤n){list:List Arr}(hl:list.length≤4)(hd:jV list){s:Stmt}{d:Int}(hs:fN s d=true){k:Nat}{q:List Int}(hq:q5 k q):
  oE n list s q=some (if dY list s q=true then((b9 5 s.value).map fun a=>cV list a q 0,cV list s.write q 0,true) else([],0,false)):=by
 obtain⟨h1,h2,h3,h4⟩:=jY hs;obtain⟨n,rfl⟩: ∃j,n=j+1:=⟨n-1,by omega⟩
 refine Ev.eq ?_;unfold oE;refine aA (U7 (d:=d) 5 n s.value [] (by omega) (by omega) h2 (by simp)) ?_;rw [List.nil_append];generalize hR:b9 5 s.value=R at*;have hco:dY list s q=(decide (0≤cV list s.write q 0)&&R.all fun a=>decide (0≤cV list a q 0)):=by unfold dY;rw [hR]
 refine Ev.loop (fun x:List Int×Int=> ∃i:Nat,x.2=i∧i≤R.length∧x.1=(R.take i).map (fun a=>cV list a q 0)∧ ∀(t:Nat) a,t<i→R[t]? =some a→0≤cV list a q 0) (fun x=>R.length-x.2.toNat) ?_ (n+1) _ ⟨0,rfl,by omega,by simp,fun t a h=>by omega⟩ (by dsimp only;omega);rintro again ⟨x,z⟩ ⟨i,hz,hi,hx,ha⟩ hr;dsimp only at hz hx ha⊢;subst hz;refine aH (fun hlt=>?_) fun hge=>?_
 ·have hg:=cP (show i<R.length by omega);have hm:=cN hg;refine aA (aS hg) (aA (aBB (by omega) hl hd (h3 _ hm) hq) (aH (fun hneg=>Ev.some ?_) fun hpos=>?_))
  ·rw [if_neg];rw [hco];intro h;rw [vBu] at h
   have:=vAF.1 h.2 _ hm;rw [decide_eq_true_eq] at this;omega
  have hl2:x.length≤12:=by rw [hx,qL,uI];omega
  refine aA (bU (by simp;omega)) ?_;rw [aQ (by omega)];refine hr _ ⟨i+1,by dsimp only;omega,by omega,?_,fun t a ht hta=>?_⟩ (by dsimp only;omega)
  ·dsimp only;rw [xX,hg,vAN,hx];rfl
  by_cases hti:t=i
  ·subst hti;rw [hg] at hta;cases hta;omega
  exact ha t a (by omega) hta
 have hie:i=R.length:=by omega
 have hall:R.all (fun a=>decide (0≤cV list a q 0))=true:=vAF.2 (fun a hm=>by
  obtain⟨t,ht⟩:=vAM hm
  have:=(cH.1 ht).1;exact decide_eq_true (ha t a (by omega) ht))
 rw [hco,hall,Bool.and_true];refine aA (aBB (by omega) hl hd h1 hq) (aH (fun hneg=>Ev.some ?_) fun hpos=>Ev.some ?_)
 ·rw [if_neg (by rw [decide_eq_true_eq];omega)]
 rw [if_pos (by rw [decide_eq_true_eq];omega),hx,hie,q7]
def ptV(q:List Int):Bool:=decide (q.length≤4)&&q.all fun x=>decide (-9999≤x∧x≤9999)
theorem aCT{n:Nat}(hn:5000≤n){q:List Int}(h:q.length≤1000):w5 n q=some (ptV q):=by
 unfold w5 ptV;have hc:=tP (n:=n) (f:=fun q0=>mT n q0) (p:=fun x=> !decide (-9999≤x∧x≤9999)) (l:=q) (fun x _=>by unfold mT;rw [e9];rfl) (by omega) (by omega);simp only [jn,Option.bind];rw [hc];have e:(q.any fun x=> !decide (-9999≤x∧x≤9999))= !(q.all fun x=>decide (-9999≤x∧x≤9999)):=by rw [vBd];simp
 rw [e,show decide ((q.length:Int)≤4)=decide (q.length≤4) from decide_eq_decide.2 (by omega)];cases decide (q.length≤4)<;>simp
theorem aCG{n:Nat}(hn:5000≤n){q:List Int}(h:q.length≤1000):wQ n q=some (ptV q):=by
 refine Ev.eq ?_;unfold wQ;refine nY (l:=q) (p:=fun _ x=>decide (-9999≤x∧x≤9999)) (by omega) (by omega) (fun again i x hx hgo hno=>?_) (fun again hall=>?_) (fun⟨i,x,hx,hp⟩=>?_)
 ·have hi:=(cH.1 hx).1;rw [decide_eq_true (show(i:Int)<(q.length:Int) by omega)];refine b8 (aA (aS hx) (aA (uU n x 9999 (by omega)) ?_));cases hp:decide (-9999≤x∧x≤9999) with
  |true=>show Ev (again _) _;rw [aQ (by omega)];exact hgo hp
  |false=>exact Ev.some (hno hp)
 ·rw [decide_eq_false (show¬(q.length:Int)<(q.length:Int) by omega)];refine Ev.some ?_;unfold ptV;rw [vAF.2 (fun c hc=>by obtain⟨i,hi⟩:=vAM hc;exact hall i c hi),Bool.and_true];exact decide_eq_decide.2 (by omega)
 unfold ptV;rw [vAJ.2 ⟨x,cN hx,by rw [hp];simp⟩,vBj]
theorem aFn{α:Type}(p q:α→Bool): ∀l:List α,(l.all p&&l.all q)=l.all (fun x=>p x&&q x)
 | []=>rfl
 |x::l=>by simp only [List.all_cons,←aFn p q l];cases p x<;>cases q x<;>cases l.all p<;>cases l.all q<;>rfl
def H6(part:Part):Bool:=decide (1≤part.body.length∧part.body.length≤4)&&part.body.all fun s=>fN s (part.nest.length:Int)
def dM(part:Part):List (List Int):=(NP part.nest).getD []
def cQ(list:List Arr)(part:Part):Bool:=(NP part.nest).isSome&&(H6 part&&part.body.all fun s=>(dM part).all fun q=>dY list s q&&ptV q)
def aDw(x:Part):Prop:=SmN x.nest∧x.body.length≤1000∧ ∀s∈x.body,SmS s
def SmP(p:Prog):Prop:=SmR p.arrays∧p.parts.length≤1000∧ ∀x∈p.parts,aDw x
theorem gE{list:List Arr}{x:Part}(h:cQ list x=true):NP x.nest=some (dM x)∧(1≤x.body.length∧x.body.length≤4)∧(∀s∈x.body,fN s (x.nest.length:Int)=true)∧ ∀s∈x.body,∀q∈dM x,dY list s q=true∧ptV q=true:=by
 simp only [cQ,H6,Bool.and_eq_true,decide_eq_true_eq,List.all_eq_true] at h;refine⟨?_,h.2.1.1,h.2.1.2,h.2.2⟩;unfold dM;cases hn:NP x.nest with
 |none=>rw [hn] at h;simp at h
 |some ps=>rfl
theorem aHk{list:List Arr}(h:iM list=true):list.length≤4∧jV list:=by
 simp only [iM,Bool.and_eq_true,decide_eq_true_eq] at h;refine⟨h.2,fun x hx=>?_⟩;obtain⟨i,hi⟩:=vAM hx
 have:=Z0 h.1 hi;simp only [aBn,Bool.and_eq_true] at this;exact this.2.2
theorem uY{n:Nat}(hn:7000≤n){list:List Arr}(hl:list.length≤4)(hd:jV list){x:Part}(hx:aDw x):
  rC n list x=some (if cQ list x=true then(((dM x).length:Int)*(x.body.length:Int),true) else(0,false)):=by
 obtain⟨h1,h2,h3⟩:=hx;refine Ev.eq ?_;unfold rC;generalize hT:(if cQ list x=true then(((dM x).length:Int)*(x.body.length:Int),true) else((0:Int),false))=T;refine aA (P5 (by omega) h1) ?_;have hbad:cQ list x=false→((0:Int),false)=T:=fun h=>by rw [←hT,h];rfl
 refine Ev.jn (fun z=>z= !((NP x.nest).isSome&&decide (1≤x.body.length∧x.body.length≤4))) (fun j hj=>?_) fun z hz=>?_
 ·cases hN:NP x.nest with
  |none=>exact b8 (hj _ (by rw [hN];rfl))
  |some ps=>
   refine bZ (aH (fun h=>hj _ ?_) fun h=>hj _ ?_)
   ·rw [hN,decide_eq_false (by omega)];rfl
   rw [hN];by_cases h4:x.body.length≤4
   ·rw [decide_eq_false (show¬(4:Int)<(x.body.length:Int) by omega),decide_eq_true (by omega)];rfl
   rw [decide_eq_true (show(4:Int)<(x.body.length:Int) by omega),decide_eq_false (by omega)];rfl
 subst hz;cases hN:NP x.nest with
 |none=>exact Ev.some (hbad (by unfold cQ;rw [hN];rfl))
 |some ps=>
  obtain⟨hf,hp1,hp2,hp3,hp4⟩:=aFx hN;have hpp:dM x=ps:=by unfold dM;rw [hN];rfl
  by_cases hb:1≤x.body.length∧x.body.length≤4
  ·rw [decide_eq_true hb];refine bZ ?_;have hok:cQ list x=x.body.all (fun s=>fN s (x.nest.length:Int)&&ps.all fun q=>dY list s q&&ptV q):=by
    unfold cQ H6;rw [hN,hpp,decide_eq_true hb,Option.isSome_some,vAV,vAV];exact aFn _ _ _
   refine Ev.loop (fun y:Int=> ∃i:Nat,y=i∧i≤x.body.length∧ ∀(t:Nat) s,t<i→x.body[t]? =some s→(fN s (x.nest.length:Int)&&ps.all fun q=>dY list s q&&ptV q)=true) (fun y=>x.body.length-y.toNat) ?_ n _ ⟨0,rfl,by omega,fun t s h=>by omega⟩ (by simp;omega);rintro again y ⟨i,rfl,hi,ha⟩ hr;refine aH (fun hlt=>?_) fun hge=>Ev.some ?_
   ·have hg:=cP (show i<x.body.length by omega);have hm:=cN hg;refine aA (aS hg) (aA (u7 (by omega) (h3 _ hm) _) ?_);cases hsv:fN x.body[i] (x.nest.length:Int) with
    |false=>
     refine b8 (Ev.some (hbad ?_));rw [hok];exact vAJ.2 ⟨_,hm,by rw [hsv];simp⟩
    |true=>
     refine bZ ?_;show Ev (aN (fun again9 (x8:Int)=>bif decide (x8<(ps.length:Int)) then _ else _) n 0) _;refine Ev.loop (fun y:Int=> ∃k:Nat,y=k∧k≤ps.length∧ ∀(t:Nat) q,t<k→ps[t]? =some q→(dY list x.body[i] q&&ptV q)=true) (fun y=>ps.length-y.toNat) ?_ n _ ⟨0,rfl,by omega,fun t s h=>by omega⟩ (by simp;omega);rintro again9 y ⟨k,rfl,hk,hak⟩ hr9;refine aH (fun hlt9=>?_) fun hge9=>?_
     ·have hgk:=cP (show k<ps.length by omega);have hmk:=cN hgk;have hq:=hp2 _ hmk;have hql:ps[k].length≤1000:=by have:=hq.1;have:=hq.2.1;omega
      refine aA (aS hgk) (aA (A7 (by omega) hl hd hsv hq) (Ev.jn (fun z=>z= !(dY list x.body[i] ps[k]&&ptV ps[k])) (fun j hj=>?_) fun z hz=>?_))
      ·cases hc:dY list x.body[i] ps[k] with
       |false=>
        rw [hc] at hj;exact b8 (hj _ rfl)
       |true=>
        rw [hc] at hj;exact bZ (aA (aCG (by omega) hql) (hj _ rfl))
      subst hz;cases hc:(dY list x.body[i] ps[k]&&ptV ps[k]) with
      |false=>
       refine Ev.some (hbad ?_);rw [hok];refine vAJ.2 ⟨_,hm,?_⟩;rw [hsv,vAV];rw [vAJ.2 ⟨_,hmk,by rw [hc];simp⟩];simp
      |true=>
       show Ev (again9 _) _;rw [aQ (by omega)];refine hr9 _ ⟨k+1,by omega,by omega,fun t q ht htq=>?_⟩ (by omega);by_cases htk:t=k
       ·subst htk;rw [hgk] at htq;cases htq;exact hc
       exact hak t q (by omega) htq
     rw [aQ (by omega)];refine hr _ ⟨i+1,by omega,by omega,fun t s ht hts=>?_⟩ (by omega);by_cases hti:t=i
     ·subst hti;rw [hg] at hts;cases hts;rw [hsv,vAV];refine vAF.2 fun q hq=>?_;obtain⟨t',ht'⟩:=vAM hq
      have:=(cH.1 ht').1;exact hak t' q (by omega) ht'
     exact ha t s (by omega) hts
   have hall:cQ list x=true:=by
    rw [hok];refine vAF.2 fun s hs=>?_;obtain⟨t,ht⟩:=vAM hs
    have:=(cH.1 ht).1;exact ha t s (by omega) ht
   rw [←hT,hall,if_pos rfl,hpp];show(wr ((ps.length:Int)*(x.body.length:Int)),true)=_;have hb1:(0:Int)≤(ps.length:Int)*(x.body.length:Int):=vBr (by omega) (by omega);have hb2:(ps.length:Int)*(x.body.length:Int)≤120*4:=vBP (by omega) (by omega) (by omega) (by omega);rw [aQ (by omega)]
  rw [decide_eq_false hb];refine Ev.some (hbad ?_);unfold cQ H6;rw [decide_eq_false hb];simp
def f9(x:Part):Int:=((dM x).length:Int)*(x.body.length:Int)
def instP(i:Nat)(x:Part):List Inst:=(dM x).flatMap fun q=>(List.range x.body.length).map fun(k:Nat)=>(⟨(i:Int),(k:Int),q⟩:Inst)
def insts(ps:List Part):List Inst:=ps.zipIdx.flatMap fun y=>instP y.2 y.1
def sM(p:Prog):Bool:=iM p.arrays&&(decide (p.parts.length≤4)&&p.parts.all (cQ p.arrays))
def bV(p:Prog):Bool:=sM p&&decide ((p.parts.map f9).sum≤120)
theorem insts_snoc(l:List Part)(x:Part):insts (l++[x])=insts l++instP l.length x:=by unfold insts;rw [List.zipIdx_append,vAY];simp
theorem insts_take{l:List Part}{i:Nat}{x:Part}(h:l[i]? =some x):insts (l.take (i+1))=insts (l.take i)++instP i x:=by have hi:=(cH.1 h).1;rw [xX,h];show insts (l.take i++[x])=_;rw [insts_snoc,uI,Nat.min_eq_left (Nat.le_of_lt hi)]
theorem E8{α β:Type}(f:α→List β)(m:Nat)(h: ∀x,(f x).length=m): ∀l:List α,(l.flatMap f).length=l.length*m
 | []=>by simp
 |x::l=>by rw [vBE,pU,h,E8 f m h l,List.length_cons,oP];omega
theorem instP_len(i:Nat)(x:Part):((instP i x).length:Int)=f9 x:=by unfold instP f9;rw [E8 _ x.body.length fun q=>by simp];exact Int.natCast_mul _ _
theorem aDY{l:List Part}{i:Nat}{x:Part}(h:l[i]? =some x):((l.take (i+1)).map f9).sum=((l.take i).map f9).sum+f9 x:=by rw [xX,h];simp
theorem insts_len: ∀(l:List Part) (i:Nat),i≤l.length→((insts (l.take i)).length:Int)=((l.take i).map f9).sum
 |l,0,_=>by simp [insts]
 |l,i+1,h=>by
  have hg:=cP (show i<l.length by omega);rw [insts_take hg,pU,aDY hg]
  have:=insts_len l i (by omega)
  have:=instP_len i l[i];omega
theorem insts_len'(l:List Part):((insts l).length:Int)=(l.map f9).sum:=by
 have:=insts_len l l.length (jQ _)
 rwa [q7] at this
theorem L8{list:List Arr}{x:Part}(h:cQ list x=true):0≤f9 x∧f9 x≤480:=by
 obtain⟨h1,h2,_⟩:=gE h;obtain⟨_,h3,_⟩:=aFx h1;unfold f9;refine⟨vBr (by omega) (by omega),?_⟩
 have:=vBP (show((dM x).length:Int)≤120 by omega) (show(x.body.length:Int)≤4 by omega) (by omega) (by omega);omega
theorem kN{n:Nat}(hn:7000≤n){p:Prog}(hp:SmP p):eM n p=some (bV p):=by
 obtain⟨h1,h2,h3⟩:=hp;refine Ev.eq ?_;unfold eM;generalize hT:bV p=T;unfold bV sM at hT;refine Ev.jn (fun z=>z= !(iM p.arrays&&decide (p.parts.length≤4))) (fun j hj=>aA (aA4 (by omega) h1) ?_) fun z hz=>?_
 ·cases ha:iM p.arrays with
  |false=>exact b8 (hj _ (by rw [ha];rfl))
  |true=>
   refine bZ (hj _ ?_);rw [ha];by_cases h4:p.parts.length≤4
   ·rw [decide_eq_false (show¬(4:Int)<(p.parts.length:Int) by omega),decide_eq_true h4];rfl
   rw [decide_eq_true (show(4:Int)<(p.parts.length:Int) by omega),decide_eq_false h4];rfl
 subst hz;cases hb:(iM p.arrays&&decide (p.parts.length≤4)) with
 |false=>
  refine Ev.some ?_;rw [←hT,←vBc,hb];rfl
 |true=>
  have hT':T=(p.parts.all (cQ p.arrays)&&decide ((p.parts.map f9).sum≤120)):=by rw [←hT,←vBc,hb];rfl
  rw [vBu,decide_eq_true_eq] at hb;obtain⟨hl,hd⟩:=aHk hb.1;refine bZ ?_;refine Ev.loop (fun x:Int×Int=> ∃i:Nat,x.2=i∧i≤p.parts.length∧x.1=((p.parts.take i).map f9).sum∧0≤x.1∧x.1≤480*i∧ ∀(t:Nat) y,t<i→p.parts[t]? =some y→cQ p.arrays y=true) (fun x=>p.parts.length-x.2.toNat) ?_ n _ ⟨0,rfl,by omega,by simp,by simp,by simp,fun t y h=>by omega⟩ (by dsimp only;omega);rintro again ⟨x,z⟩ ⟨i,hz,hi,hx,hx0,hx1,ha⟩ hr;dsimp only at hz hx hx0 hx1 ha⊢;subst hz;refine aH (fun hlt=>?_) fun hge=>Ev.some ?_
  ·have hg:=cP (show i<p.parts.length by omega);have hm:=cN hg;refine aA (aS hg) (aA (uY (by omega) hl hd (h3 _ hm)) ?_);cases hpo:cQ p.arrays p.parts[i] with
   |false=>
    rw [if_neg (by simp)];refine Ev.some ?_;rw [hT',vAJ.2 ⟨_,hm,by rw [hpo];simp⟩];rfl
   |true=>
    rw [if_pos rfl];have hcb:=L8 hpo;show Ev (again (wr (x+f9 p.parts[i]),wr ((i:Int)+1))) _;rw [aQ (n:=x+f9 p.parts[i]) (by omega),aQ (by omega)];refine hr _ ⟨i+1,by dsimp only;omega,by omega,by dsimp only;rw [aDY hg];omega,by dsimp only;omega,by dsimp only;omega,fun t y ht hty=>?_⟩ (by dsimp only;omega);by_cases hti:t=i
    ·subst hti;rw [hg] at hty;cases hty;exact hpo
    exact ha t y (by omega) hty
  have hie:i=p.parts.length:=by omega
  have hall:p.parts.all (cQ p.arrays)=true:=vAF.2 (fun y hy=>by
   obtain⟨t,ht⟩:=vAM hy
   have:=(cH.1 ht).1;exact ha t y (by omega) ht)
  rw [hT',hall,vAV,hx,hie,q7]
theorem vF{α:Type}(f:Nat→α)(k:Nat):(List.range (k+1)).map f=(List.range k).map f++[f k]:=by rw [vBF,vAN];rfl
theorem vU{n:Nat}(hn:7000≤n){p:Prog}(hp:SmP p):dN n p=some (if sM p=true then(insts p.parts,decide ((insts p.parts).length≤120)) else([],false)):=by
 obtain⟨h1,h2,h3⟩:=hp;refine Ev.eq ?_;unfold dN;generalize hT:(if sM p=true then(insts p.parts,decide ((insts p.parts).length≤120)) else([],false))=T;have hbad:sM p=false→(([]:List Inst),false)=T:=fun h=>by rw [←hT,h];rfl
 refine Ev.jn (fun z=>z= !(iM p.arrays&&decide (p.parts.length≤4))) (fun j hj=>aA (aBb (by omega) h1) ?_) fun z hz=>?_
 ·cases ha:iM p.arrays with
  |false=>exact b8 (hj _ (by rw [ha];rfl))
  |true=>
   refine bZ (hj _ ?_);rw [ha];by_cases h4:p.parts.length≤4
   ·rw [decide_eq_false (show¬(4:Int)<(p.parts.length:Int) by omega),decide_eq_true h4];rfl
   rw [decide_eq_true (show(4:Int)<(p.parts.length:Int) by omega),decide_eq_false h4];rfl
 subst hz;cases hb:(iM p.arrays&&decide (p.parts.length≤4)) with
 |false=>exact Ev.some (hbad (by unfold sM;rw [←vBc,hb];rfl))
 |true=>
  have hall':sM p=p.parts.all (cQ p.arrays):=by unfold sM;rw [←vBc,hb];rfl
  rw [vBu,decide_eq_true_eq] at hb;obtain⟨hl,hd⟩:=aHk hb.1;refine bZ ?_;refine Ev.loop (fun x:List Inst×Int=> ∃i:Nat,x.2=i∧i≤p.parts.length∧x.1=insts (p.parts.take i)∧x.1.length≤480*i∧ ∀(t:Nat) y,t<i→p.parts[t]? =some y→cQ p.arrays y=true) (fun x=>p.parts.length-x.2.toNat) ?_ n _ ⟨0,rfl,by omega,by simp [insts],by simp,fun t y h=>by omega⟩ (by dsimp only;omega);rintro again ⟨x,z⟩ ⟨i,hz,hi,hx,hxl,ha⟩ hr;dsimp only at hz hx hxl ha⊢;subst hz;refine aH (fun hlt=>?_) fun hge=>Ev.some ?_
  ·have hg:=cP (show i<p.parts.length by omega);have hm:=cN hg;obtain⟨s1,s2,s3⟩:=h3 _ hm;generalize hP:p.parts[i]=P at*;have hpb:cQ p.arrays P=false→sM p=false:=fun h=>by rw [hall'];exact vAJ.2 ⟨_,hm,by rw [h];simp⟩
   refine aA (aS hg) (aA (P8 (by omega) s1) (Ev.jn (fun z=>z= !((NP P.nest).isSome&&H6 P)) (fun j hj=>?_) fun z hz=>?_))
   ·cases hN:NP P.nest with
    |none=>exact b8 (hj _ (by rw [hN];rfl))
    |some ps=>
     refine bZ ?_;have hw:cU n (P.body.length:Int) 1 4=some (decide (1≤P.body.length∧P.body.length≤4)):=by
      rw [e9];congr 1;exact decide_eq_decide.2 (by omega)
     refine aA hw ?_;have hc:=aBe (n:=n) (f:=fun q0=>dR n q0 P) (p:=fun s=> !fN s (P.nest.length:Int)) (l:=P.body) (fun s hs=>by unfold dR;rw [Z4 (by omega) (s3 s hs)];rfl) (by omega) (by omega);have e:(P.body.any fun s=> !fN s (P.nest.length:Int))= !(P.body.all fun s=>fN s (P.nest.length:Int)):=by rw [vBd];simp
     cases hw2:decide (1≤P.body.length∧P.body.length≤4) with
     |false=>exact b8 (hj _ (by unfold H6;rw [hN,hw2];rfl))
     |true=>exact bZ (aA hc (hj _ (by unfold H6;rw [hN,hw2,e];rfl)))
   subst hz;cases hN:NP P.nest with
   |none=>exact Ev.some (hbad (hpb (by unfold cQ;rw [hN];rfl)))
   |some ps=>
    obtain⟨hf,hp1,hp2,hp3,hp4⟩:=aFx hN;have hpp:dM P=ps:=by unfold dM;rw [hN];rfl
    cases hbv:H6 P with
    |false=>exact Ev.some (hbad (hpb (by unfold cQ;rw [hbv];simp)))
    |true=>
     have hbv':=hbv;simp only [H6,Bool.and_eq_true,decide_eq_true_eq,List.all_eq_true] at hbv';obtain⟨⟨hb1,hb2⟩,hb3⟩:=hbv';have hok:cQ p.arrays P=P.body.all (fun s=>ps.all fun q=>dY p.arrays s q&&ptV q):=by
      unfold cQ;rw [hN,hbv,hpp];rfl
     let row:List Int→List Inst:=fun q=>(List.range P.body.length).map fun(k:Nat)=>(⟨(i:Int),(k:Int),q⟩:Inst)
     have hrl: ∀q,(row q).length=P.body.length:=fun q=>by simp [row]
     have hinst:instP i P=ps.flatMap row:=by unfold instP;rw [hpp]
     refine bZ ?_;rw [show(aGJ (some ps)).1=ps from rfl];refine Ev.loop (fun y:List Inst×Int=> ∃k:Nat,y.2=k∧k≤ps.length∧y.1=x++(ps.take k).flatMap row∧ ∀(t:Nat) q,t<k→ps[t]? =some q→ptV q=true∧ ∀s∈P.body,dY p.arrays s q=true) (fun y=>ps.length-y.2.toNat) ?_ n _ ⟨0,rfl,by omega,by simp,fun t q h=>by omega⟩ (by dsimp only;omega);rintro again17 ⟨y,z⟩ ⟨k,hz,hk,hy,hak⟩ hr17;dsimp only at hz hy hak⊢;subst hz;refine aH (fun hlt2=>?_) fun hge2=>?_
     ·have hgk:=cP (show k<ps.length by omega);have hmk:=cN hgk;generalize hQ:ps[k]=Q at*;have hq:=hp2 _ hmk;have hql:Q.length≤4:=by have:=hq.1;have:=hq.2.1;omega
      refine aA (aS hgk) (aA (aCT (by omega) (by omega)) ?_);have hyl:y.length≤480*4+480:=by
       rw [hy,pU,E8 row _ hrl,uI]
       have:min k ps.length*P.body.length≤120*4:=vBC (by omega) hb2;omega
      cases hpv:ptV Q with
      |false=>
       refine b8 (Ev.some (hbad (hpb ?_)));rw [hok];obtain⟨s0,hs0⟩: ∃s0,s0∈P.body:=List.exists_mem_of_length_pos (by omega);refine vAJ.2 ⟨s0,hs0,?_⟩;rw [vAJ.2 ⟨Q,hmk,by rw [hpv];simp⟩];simp
      |true=>
       refine bZ ?_;refine Ev.loop (fun u:List Inst×Int=> ∃m:Nat,u.2=m∧m≤P.body.length∧u.1=y++(List.range m).map (fun(k:Nat)=>(⟨(i:Int),(k:Int),Q⟩:Inst))∧ ∀(t:Nat) s,t<m→P.body[t]? =some s→dY p.arrays s Q=true) (fun u=>P.body.length-u.2.toNat) ?_ n _ ⟨0,rfl,by omega,by simp,fun t s h=>by omega⟩ (by dsimp only;omega);rintro again23 ⟨u,z⟩ ⟨m,hz,hmm,hu,ham⟩ hr23;dsimp only at hz hu ham⊢;subst hz;refine aH (fun hlt3=>?_) fun hge3=>?_
       ·have hgm:=cP (show m<P.body.length by omega);have hmem:=cN hgm;refine aA (aS hgm) (aA (aEA (by omega) hl hd (hb3 _ hmem) hq) ?_);cases hco:dY p.arrays P.body[m] Q with
        |false=>
         refine b8 (Ev.some (hbad (hpb ?_)));rw [hok];refine vAJ.2 ⟨_,hmem,?_⟩;rw [vAJ.2 ⟨Q,hmk,by rw [hco];simp⟩];simp
        |true=>
         have hcl:m_ownClone Q=some Q:=by unfold m_ownClone;rw [if_pos (by omega)]
         have hul:u.length≤480*4+480+4:=by rw [hu];simp;omega
         refine bZ (aA hcl (aA (bU (by simp;omega)) ?_));rw [aQ (by omega)];refine hr23 _ ⟨m+1,by dsimp only;omega,by omega,?_,fun t s ht hts=>?_⟩ (by dsimp only;omega)
         ·dsimp only;rw [hu,vF,vAL]
         by_cases htm:t=m
         ·subst htm;rw [hgm] at hts;cases hts;exact hco
         exact ham t s (by omega) hts
       have hme:m=P.body.length:=by omega
       rw [aQ (by omega)];refine hr17 _ ⟨k+1,by dsimp only;omega,by omega,?_,fun t q ht htq=>?_⟩ (by dsimp only;omega)
       ·dsimp only;rw [xX,hgk,vAY,←vAL,←hy,hu,hme];simp [row]
       by_cases htk:t=k
       ·subst htk;rw [hgk] at htq;cases htq;refine⟨hpv,fun s hs=>?_⟩;obtain⟨t',ht'⟩:=vAM hs
        have:=(cH.1 ht').1;exact ham t' s (by omega) ht'
       exact hak t q (by omega) htq
     have hke:k=ps.length:=by omega
     have hpo:cQ p.arrays P=true:=by
      rw [hok];refine vAF.2 fun s hs=>vAF.2 fun q hq=>?_;obtain⟨t,ht⟩:=vAM hq
      have:=(cH.1 ht).1;obtain⟨g1,g2⟩:=hak t q (by omega) ht;rw [g1,g2 s hs];rfl
     have hcb:=L8 hpo;have hil:=instP_len i P;rw [aQ (by omega)];refine hr _ ⟨i+1,by dsimp only;omega,by omega,?_,?_,fun t y ht hty=>?_⟩ (by dsimp only;omega)
     ·dsimp only;rw [insts_take hg,hinst,hy,hke,q7,hx]
     ·dsimp only;rw [hy,hke,q7,pU,←hinst];omega
     by_cases hti:t=i
     ·subst hti;rw [hg] at hty;cases hty;exact hpo
     exact ha t y (by omega) hty
  have hie:i=p.parts.length:=by omega
  have hall:sM p=true:=by
   rw [hall'];exact vAF.2 (fun y hy=>by
    obtain⟨t,ht⟩:=vAM hy
    have:=(cH.1 ht).1;exact ha t y (by omega) ht)
  rw [←hT,if_pos hall,hx,hie,q7];congr 1;exact decide_eq_decide.2 (by omega)
theorem kY{n:Nat}(hn:7000≤n){p:Prog}(hp:SmP p):iI n p=some (bV p):=by
 unfold iI;rw [vU hn hp];unfold bV;cases h:sM p with
 |false=>rfl
 |true=>
  rw [if_pos rfl];show some (decide _)=_;rw [vAV];congr 1
  have:=insts_len' p.parts;exact decide_eq_decide.2 (by omega)
theorem fX{p:Prog}(h:bV p=true):p.arrays.length≤4∧jV p.arrays∧p.parts.length≤4∧(∀x∈p.parts,cQ p.arrays x=true)∧(insts p.parts).length≤120:=by
 simp only [bV,sM,Bool.and_eq_true,decide_eq_true_eq,List.all_eq_true] at h;obtain⟨⟨h1,h2,h3⟩,h4⟩:=h;obtain⟨a,b⟩:=aHk h1
 have:=insts_len' p.parts;exact⟨a,b,h2,h3,by omega⟩
theorem u6{n:Nat}(hn:7000≤n){p:Prog}(hv:bV p=true):jF n p=some (insts p.parts):=by
 obtain⟨hl,hd,h4,hpo,hil⟩:=fX hv;refine Ev.eq ?_;unfold jF;refine Ev.loop (fun x:List Inst×Int=> ∃i:Nat,x.2=i∧i≤p.parts.length∧x.1=insts (p.parts.take i)∧x.1.length≤480*i) (fun x=>p.parts.length-x.2.toNat) ?_ n _ ⟨0,rfl,by omega,by simp [insts],by simp⟩ (by dsimp only;omega);rintro again ⟨x,z⟩ ⟨i,hz,hi,hx,hxl⟩ hr;dsimp only at hz hx hxl⊢;subst hz;refine aH (fun hlt=>?_) fun hge=>Ev.some ?_
 ·have hg:=cP (show i<p.parts.length by omega);have hm:=cN hg;have hpP:=hpo _ hm;generalize hP:p.parts[i]=P at*;obtain⟨q1,q2,q3,q4⟩:=gE hpP;obtain⟨hf,hp1,hp2,hp3,hp4⟩:=aFx q1;generalize hpp:dM P=ps at*;have hcb:=L8 hpP;have hil':=instP_len i P;let row:List Int→List Inst:=fun q=>(List.range P.body.length).map fun(k:Nat)=>(⟨(i:Int),(k:Int),q⟩:Inst)
  have hrl: ∀q,(row q).length=P.body.length:=fun q=>by simp [row]
  have hinst:instP i P=ps.flatMap row:=by unfold instP;rw [hpp]
  refine aA (aS hg) (aM (uV hf P.nest n 0 [] [] (by have:=hf.1;omega) rfl (by omega) pt0 hp4 (by simp)) fun r ⟨r1,r2⟩=>?_);have hr1:r=ps:=by rw [r1 (by rw [←hp3];simpa using hp1),hp3];rfl
  subst hr1;refine Ev.loop (fun y:List Inst×Int=> ∃k:Nat,y.2=k∧k≤r.length∧y.1=x++(r.take k).flatMap row) (fun y=>r.length-y.2.toNat) ?_ n _ ⟨0,rfl,by omega,by simp⟩ (by dsimp only;omega);rintro again10 ⟨y,z⟩ ⟨k,hz,hk,hy⟩ hr10;dsimp only at hz hy⊢;subst hz;refine aH (fun hlt2=>?_) fun hge2=>?_
  ·have hgk:=cP (show k<r.length by omega);have hmk:=cN hgk;generalize hQ:r[k]=Q at*;have hq:=hp2 _ hmk;have hql:Q.length≤4:=by have:=hq.1;have:=hq.2.1;omega
   have hyl:y.length≤480*4+480:=by
    rw [hy,pU,E8 row _ hrl,uI]
    have:min k r.length*P.body.length≤120*4:=vBC (by omega) q2.2;omega
   refine Ev.loop (fun u:List Inst×Int=> ∃m:Nat,u.2=m∧m≤P.body.length∧u.1=y++(List.range m).map (fun(k:Nat)=>(⟨(i:Int),(k:Int),Q⟩:Inst))) (fun u=>P.body.length-u.2.toNat) ?_ n _ ⟨0,rfl,by omega,by simp⟩ (by dsimp only;omega);rintro again14 ⟨u,z⟩ ⟨m,hz,hmm,hu⟩ hr14;dsimp only at hz hu⊢;subst hz;refine aH (fun hlt3=>?_) fun hge3=>?_
   ·have hul:u.length≤480*4+480+4:=by rw [hu];simp;omega
    refine aA (aS hgk) (aA (d5 _ (by omega)) (aA (bU (by simp;omega)) ?_));rw [aQ (by omega)];refine hr14 _ ⟨m+1,by dsimp only;omega,by omega,?_⟩ (by dsimp only;omega);dsimp only;rw [hu,vF,vAL]
   have hme:m=P.body.length:=by omega
   rw [aQ (by omega)];refine hr10 _ ⟨k+1,by dsimp only;omega,by omega,?_⟩ (by dsimp only;omega);dsimp only;rw [xX,hgk,vAY,←vAL,←hy,hu,hme];simp [row]
  have hke:k=r.length:=by omega
  rw [aQ (by omega)];refine hr _ ⟨i+1,by dsimp only;omega,by omega,?_,?_⟩ (by dsimp only;omega)
  ·dsimp only;rw [insts_take hg,hinst,hy,hke,q7,hx]
  dsimp only;rw [hy,hke,q7,pU,←hinst];omega
 have hie:i=p.parts.length:=by omega
 rw [hx,hie,q7]
def qK:Nat→List Arr→List Int→Expr→List Int→Int
 |0,_,_,_,_=>0
 |L+1,list,m,e,q=>
  if e.kind=1 then e.num
  else if e.kind=2 then cI e.index q%1000
  else if e.kind=3 then m.getD (cV list e.read q 0).toNat 0
  else match e.kids with
   | [a,b]=>if e.kind=4 then(qK L list m a q+qK L list m b q)%1000 else if e.kind=5 then(qK L list m a q-qK L list m b q)%1000 else(qK L list m a q*qK L list m b q)%1000
   |_=>0
def aAX(list:List Arr)(m:List Int):Prop:=(m.length:Int)=xK list∧ ∀x∈m,0≤x∧x≤999
theorem aON{list:List Arr}{m:List Int}(h:aAX list m)(i:Nat):0≤m.getD i 0∧m.getD i 0≤999:=by
 rw [M7];cases hi:m[i]? with
 |none=>simp
 |some x=>exact h.2 x (cN hi)
theorem aN8{list:List Arr}{m:List Int}(hm:aAX list m){d:Int}{q:List Int}: ∀{L:Nat} {e:Expr},dO L e d=true→0≤qK L list m e q∧qK L list m e q≤999
 |0,e,h=>by cases h
 |L+1,e,h=>by
  obtain⟨h1,h2,h3⟩:=gU h;simp only [qK];split
  ·rename_i k1;unfold fV at h2;rw [if_neg (by omega),if_neg (by omega),if_pos k1] at h2;simp only [Bool.and_eq_true,decide_eq_true_eq] at h2;omega
  split
  ·omega
  split
  ·exact aON hm _
  split
  ·split
   ·omega
   split<;>omega
  omega
def eZ(p:Prog)(x:Inst):Prop:= ∃(i k:Nat) (P:Part) (s:Stmt),x.part=i∧x.stmt=k∧p.parts[i]? =some P∧P.body[k]? =some s∧x.point∈dM P
def qO(p:Prog)(x:Inst):Option Stmt:=(p.parts[x.part.toNat]?).bind fun P=>P.body[x.stmt.toNat]?
def runI(p:Prog)(m:List Int)(x:Inst):List Int:=match qO p x with
 |some s=>m.set (cV p.arrays s.write x.point 0).toNat (qK 5 p.arrays m s.value x.point)
 |none=>m
theorem inst_d{p:Prog}(hv:bV p=true){x:Inst}(hx:eZ p x): ∃(i k:Nat) (P:Part) (s:Stmt) (d:Int),x.part=i∧x.stmt=k∧p.parts[i]? =some P∧P.body[k]? =some s∧qO p x=some s∧fN s d=true∧q5 P.nest.length x.point∧dY p.arrays s x.point=true:=by obtain⟨hl,hd,h4,hpo,hil⟩:=fX hv;obtain⟨i,k,P,s,e1,e2,e3,e4,e5⟩:=hx;obtain⟨q1,q2,q3,q4⟩:=gE (hpo P (cN e3));obtain⟨hf,hp1,hp2,hp3,hp4⟩:=aFx q1;have hs:=cN e4;exact⟨i,k,P,s,_,e1,e2,e3,e4,by unfold qO;rw [e1,e2,vAG,e3];exact(by rw [vAG];exact e4),q3 s hs,hp2 _ e5,(q4 s hs _ e5).1⟩
theorem aDh{list:List Arr}{s:Stmt}{q:List Int}(h:dY list s q=true):0≤cV list s.write q 0∧ ∀a∈b9 5 s.value,0≤cV list a q 0:=by simp only [dY,Bool.and_eq_true,decide_eq_true_eq,List.all_eq_true] at h;exact h
theorem aHU{α:Type}{l:List α}{c:Int}(h0:0≤c)(h:c.toNat<l.length):ix l c=some l[c.toNat]:=by unfold ix;rw [if_pos h0,List.getElem?_eq_getElem h]
theorem aHB{p:Prog}(hv:bV p=true){m:List Int}(hm:aAX p.arrays m){x:Inst}(hx:eZ p x):aAX p.arrays (runI p m x):=by
 obtain⟨i,k,P,s,d,e1,e2,e3,e4,e5,e6,e7,e8⟩:=inst_d hv hx;unfold runI;rw [e5];refine⟨by rw [vAW];exact hm.1,fun v hv'=>?_⟩;rcases vBm hv' with h|h
 ·exact hm.2 v h
 rw [h];exact aN8 hm (jY e6).2.1
theorem insts_mem{ps:List Part}{x:Inst}(h:x∈insts ps): ∃(i k:Nat) (P:Part) (s:Stmt),x.part=i∧x.stmt=k∧ps[i]? =some P∧P.body[k]? =some s∧x.point∈dM P:=by unfold insts at h;rw [vBN] at h;obtain⟨⟨P,i⟩,h1,h2⟩:=h;unfold instP at h2;rw [vBN] at h2;obtain⟨q,h3,h4⟩:=h2;rw [I6] at h4;obtain⟨k,h5,rfl⟩:=h4;have hk:=vBR.1 h5;exact⟨i,k,P,P.body[k],rfl,rfl,vBb.1 h1,cP hk,h3⟩
def m5(p:Prog)(m:List Int)(l:List Inst):List Int:=l.foldl (runI p) m
end Go.Lift
