/- Valid statements. -/
import Derived.Test.YtcihigfifglboaaGreatWCore1
set_option maxRecDepth 110000000
set_option linter.unusedVariables false
namespace Go.Lift
open Go
def SmE:Nat→Expr→Prop
 |0,_=>True
 |L+1,e=>e.kids.length≤1100000∧SmA e.index∧xJ e.read.subs∧ ∀k∈e.kids,SmE L k
def cO:Nat→Expr→Int→Bool
 |0,_,_=>false
 |L+1,e,d=>decide (eJ e.kind=e.kids.length)&&(fP e d&&e.kids.all fun k=>cO L k d)
def oP:Nat→Expr→Int
 |0,_=>1
 |L+1,e=>1+(e.kids.map (oP L)).sum
theorem tD(k:Int):eJ k≤2:=by unfold eJ;split;omega;split<;>omega
theorem sV(d:Int): ∀(L n:Nat) (e:Expr),5500000+L≤n→L≤1100000→SmE L e→s_l3Shape (n+1) e d (L:Int)=some (cO L e d)
 |0,n,e,_,_,_=>by unfold s_l3Shape;rfl
 |L+1,n,e,hn,hL,he=>by
  obtain⟨e1,e2,e3,e4⟩:=he;unfold s_l3Shape;refine Ev.eq ?_;refine Ev.jn (fun z=>z= !(decide (eJ e.kind=e.kids.length)&&fP e d)) (fun j hj=>aI (fun h=>by omega) fun h=>aB (U8 n _) (dR (fun h=>hj _ ?_) fun h=>aB (aAH (by omega) e2 e3 d) (hj _ ?_))) fun z hz=>?_
  ·rw [decide_eq_false h];rfl
  ·rw [decide_eq_true h];rfl
  subst hz;unfold cO;cases hb:(decide (eJ e.kind=e.kids.length)&&fP e d) with
  |false=>exact Ev.some (by rw [←vAZ,hb];rfl)
  |true=>
   rw [←vAZ,hb,S6];refine bA ?_;obtain⟨n,rfl⟩: ∃j,n=j+1:=⟨n-1,by omega⟩
   have ew:wr (((L+1:Nat):Int)-1)=(L:Int):=by rw [aK (by omega)];omega
   rw [ew];refine iR (l:=e.kids) (p:=fun _ k=>cO L k d) (by omega) (by omega) (fun again i x hx hgo hno=>?_) (fun again hall=>?_) (fun⟨i,x,hx,hp⟩=>?_)
   ·have hi:=(bV.1 hx).1;rw [decide_eq_true (show(i:Int)<(e.kids.length:Int) by omega)];refine bY (aB (aQ hx) (aB (sV d L n x (by omega) (by omega) (e4 x (cM hx))) ?_));cases hs:cO L x d with
    |true=>show Ev (again _) _;rw [aK (by omega)];exact hgo hs
    |false=>exact Ev.some (hno hs)
   ·rw [decide_eq_false (show¬(e.kids.length:Int)<(e.kids.length:Int) by omega)];refine Ev.some ?_;exact(H3.2 fun c hc=>by obtain⟨i,hi⟩:=vAz hc;exact hall i c hi).symm
   exact(U0.2 ⟨x,cM hx,by rw [hp];simp⟩).symm
theorem qR: ∀(L:Nat) (e:Expr),1≤oP L e
 |0,_=>yK _
 |L+1,e=>by have:=mM (oP L) e.kids fun k _=>qR L k;simp only [oP];omega
theorem aAE{α:Type}(f:α→Int)(M:Int): ∀(l:List α),(∀x∈l,f x≤M)→(l.map f).sum≤l.length*M
 | [],_=>by simp
 |x::l,h=>by have h1:=aAE f M l fun y hy=>h y (by simp [hy]);have h2:=h x (by simp);simp only [List.map_cons,List.sum_cons,List.length_cons,Int.natCast_add,Int.add_mul];omega
theorem jL{L:Nat}{e:Expr}{d:Int}(h:cO (L+1) e d=true):eJ e.kind=e.kids.length∧fP e d=true∧ ∀k∈e.kids,cO L k d=true:=by simp only [cO,Bool.and_eq_true,decide_eq_true_eq,List.all_eq_true] at h;exact⟨h.1,h.2.1,h.2.2⟩
theorem Q5: ∀{L:Nat} {e:Expr} {d:Int},cO L e d=true→oP L e+1≤2^L
 |0,e,d,h=>by cases h
 |L+1,e,d,h=>by
  obtain⟨h1,_,h2⟩:=jL h;have h3:=aAE (oP L) ((2:Int)^L-1) e.kids fun k hk=>by have:=Q5 (h2 k hk);omega
  have h4:=tD e.kind;have h5:(e.kids.length:Int)*((2:Int)^L-1)≤2*((2:Int)^L-1):=by
   refine Int.mul_le_mul_of_nonneg_right (by omega) ?_
   have:(0:Int)<2^L:=Int.pow_pos (by omega);omega
  simp only [oP];rw [Int.pow_succ];omega
theorem sX{d:Int}: ∀(L n:Nat) (e:Expr),5500000+L≤n→L≤5→cO L e d=true→s_l3Count (n+1) e (L:Int)=some (oP L e)
 |0,n,e,_,_,h=>by cases h
 |L+1,n,e,hn,hL,h=>by
  obtain⟨h1,_,h2⟩:=jL h;have h4:=tD e.kind;have hb: ∀k∈e.kids,oP L k≤40:=fun k hk=>by
   have h5:=Q5 (h2 k hk);have h6:(2:Int)^L≤40:=by
    match L,hL with
    |0,_=>decide
    |1,_=>decide
    |2,_=>decide
    |3,_=>decide
    |4,_=>decide
   omega
  unfold s_l3Count;refine Ev.eq ?_;obtain⟨n,rfl⟩: ∃j,n=j+1:=⟨n-1,by omega⟩
  have ew:wr (((L+1:Nat):Int)-1)=(L:Int):=by rw [aK (by omega)];omega
  rw [ew];refine Ev.loop (fun x:Int×Int=> ∃i:Nat,x.2=i∧i≤e.kids.length∧x.1=1+((e.kids.take i).map (oP L)).sum) (fun x=>e.kids.length-x.2.toNat) ?_ (n+1) _ ⟨0,rfl,by omega,by simp⟩ (by simp;omega);rintro again ⟨x,k⟩ ⟨i,hk,hi,hx⟩ hr;dsimp only at hk hx⊢;subst hk;refine Ev.jn (fun z=>z=decide (i<e.kids.length)) (fun j hj=>aI (fun h=>hj _ ?_) fun h=>hj _ ?_) fun z hz=>?_
  ·rw [decide_eq_true (show(0:Int)<((L+1:Nat):Int) by omega),decide_eq_true (by omega)]
  ·rw [decide_eq_false (by omega)]
  subst hz;refine aI (fun hlt=>?_) fun hge=>Ev.some ?_
  ·have hk2:=cN hlt;have hm:=cM hk2;refine aB (aQ hk2) (aB (sX (d:=d) L n _ (by omega) (by omega) (h2 _ hm)) ?_);have hs:=aAE (oP L) 40 (e.kids.take i) fun y hy=>hb y (vAv hy);have hs2:=mM (oP L) (e.kids.take i) fun y _=>qR L y;have hb2:=hb _ hm;have hb3:=qR L e.kids[i];have hl:((e.kids.take i).length:Int)≤2:=by simp;omega
   rw [aK (n:=x+oP L e.kids[i]) (by omega),aK (by omega)];refine hr _ ⟨i+1,by dsimp only;omega,by omega,?_⟩ (by dsimp only;omega);dsimp only;rw [vAG,hk2,vBg,List.sum_append,hx];simp;omega
  have:i=e.kids.length:=by omega
  rw [hx,this,wI];rfl
def V3(e:Expr):Bool:=(decide (e.kind=1)||decide (e.num=0))&&((decide (e.kind=2)||iX e.index)&&(decide (e.kind=3)||oD e.read))
theorem mN(d:Int): ∀(L n:Nat) (e:Expr) (c:Int),5500000+L≤n→L≤5→SmE L e→0≤c→c≤12→
  Ev (i_exprScan (n+1) e d (6-(L:Int)) c) (fun r=>r.1=(cO L e d&&decide (c+oP L e≤12))∧(r.1=true→r.2=c+oP L e))
 |0,n,e,c,hn,hL,he,h0,h1=>by
  unfold i_exprScan;refine Ev.jn (fun z=>z=true) (fun j hj=>aI (fun h=>hj _ rfl) fun h=>hj _ (by decide)) fun z hz=>?_;subst hz;exact Ev.some ⟨rfl,fun h=>by cases h⟩
 |L+1,n,e,c,hn,hL,he,h0,h1=>by
  obtain⟨e1,e2,e3,e4⟩:=he;have hcp:=qR (L+1) e;unfold i_exprScan;have ew:wr (c+1)=c+1:=aK (by omega);have ed:wr (6-(((L+1:Nat)):Int)+1)=6-(L:Int):=by rw [aK (by omega)];omega
  rw [ew,ed];refine Ev.jn (fun z=>z=decide (12<c+1)) (fun j hj=>aI (fun h=>hj _ (decide_eq_true h).symm) fun h=>hj _ ?_) fun z hz=>?_
  ·rw [decide_eq_false h,decide_eq_false (by omega)]
  subst hz;refine aI (fun h=>Ev.some ⟨?_,fun h=>by cases h⟩) fun hc=>?_
  ·rw [decide_eq_false (show¬c+oP (L+1) e≤12 by omega),Bool.and_false]
  refine Ev.jn (fun z=>z= !V3 e) (fun j hj=>?_) fun z hz=>?_
  ·rw [E4,E5];unfold V3 at hj;simp only [Option.bind];by_cases k1:e.kind=1
   ·have k2: ¬e.kind=2:=by omega
    have k3: ¬e.kind=3:=by omega
    rw [decide_eq_true k1,decide_eq_false k2,decide_eq_false k3] at*;simp only [Bool.not_true,Bool.not_false,cond_true,cond_false,Bool.true_or,Bool.true_and,Bool.false_or] at*;cases ha:iX e.index with
    |false=>exact hj _ (by rw [ha];rfl)
    |true=>exact hj _ (by rw [ha];rfl)
   rw [decide_eq_false k1] at*;simp only [Bool.not_false,cond_true,Bool.false_or] at*;by_cases hnum:e.num=0
   ·rw [decide_eq_true hnum] at*;simp only [Bool.not_true,cond_false,Bool.true_and] at*;by_cases k2:e.kind=2
    ·have k3: ¬e.kind=3:=by omega
     rw [decide_eq_true k2,decide_eq_false k3] at*;simp only [Bool.not_true,Bool.not_false,cond_true,cond_false,Bool.true_or,Bool.true_and,Bool.false_or] at*;exact hj _ rfl
    rw [decide_eq_false k2] at*;simp only [Bool.not_false,cond_true,Bool.false_or] at*;cases ha:iX e.index with
    |false=>exact hj _ (by rw [ha];rfl)
    |true=>
     by_cases k3:e.kind=3
     ·rw [decide_eq_true k3] at*;exact hj _ (by rw [ha];rfl)
     rw [decide_eq_false k3] at*;exact hj _ (by rw [ha];rfl)
   rw [decide_eq_false hnum] at*;exact hj _ rfl
  subst hz;cases hp:V3 e with
  |false=>
   refine Ev.some ⟨?_,fun h=>by cases h⟩
   have:fP e d=false:=by
    unfold V3 at hp;unfold fP;by_cases k2:e.kind=2
    ·have k1: ¬e.kind=1:=by omega
     have k3: ¬e.kind=3:=by omega
     rw [if_pos k2];rw [decide_eq_true k2,decide_eq_false k1,decide_eq_false k3] at hp;revert hp;cases decide (e.num=0)<;>cases oD e.read<;>simp
    rw [if_neg k2];by_cases k3:e.kind=3
    ·have k1: ¬e.kind=1:=by omega
     rw [if_pos k3];rw [decide_eq_false k2,decide_eq_false k1,decide_eq_true k3] at hp;revert hp;cases decide (e.num=0)<;>cases iX e.index<;>simp
    rw [if_neg k3];rw [decide_eq_false k2,decide_eq_false k3] at hp;by_cases k1:e.kind=1
    ·rw [if_pos k1];rw [decide_eq_true k1] at hp;revert hp;cases iX e.index<;>cases oD e.read<;>simp
    rw [if_neg k1];rw [decide_eq_false k1] at hp;revert hp;cases decide (e.num=0)<;>cases iX e.index<;>cases oD e.read<;>simp
   unfold cO;rw [this];simp
  |true=>
   refine bA ?_;unfold V3 at hp;simp only [Bool.and_eq_true,Bool.or_eq_true,decide_eq_true_eq] at hp;obtain⟨p1,p2,p3⟩:=hp;have leafP: ∀(b:Bool),fP e d=b→eJ e.kind=0→ ∀(z:Bool),z=(b&&decide ((e.kids.length:Int)=0))→z=(cO (L+1) e d&&decide (c+oP (L+1) e≤12))∧(z=true→c+1=c+oP (L+1) e):=by
    intro b hb hk z hz;unfold cO;rw [hb,hk];by_cases h:e.kids.length=0
    ·have hnil:e.kids=[]:=vAx h;have hcn:oP (L+1) e=1:=by simp [oP,hnil]
     rw [hcn,decide_eq_true (show c+1≤12 by omega)];rw [decide_eq_true (show(e.kids.length:Int)=0 by omega)] at hz;rw [hz,hnil];simp
    rw [decide_eq_false (show¬(e.kids.length:Int)=0 by omega)] at hz;rw [hz,decide_eq_false (show¬(0:Int)=(e.kids.length:Int) by omega)];simp
   by_cases k1:e.kind=1
   ·have k2: ¬e.kind=2:=by omega
    have k3: ¬e.kind=3:=by omega
    rw [decide_eq_true k1];have hown:fP e d=decide (0≤e.num∧e.num≤99):=by
     unfold fP;rw [if_neg k2,if_neg k3,if_pos k1];rcases p2 with h|h
     ·exact absurd h k2
     rcases p3 with h'|h'
     ·exact absurd h' k3
     rw [h,h'];simp
    refine bY (Ev.jn (fun z=>z=(decide (0≤e.num∧e.num≤99)&&decide ((e.kids.length:Int)=0))) (fun j hj=>aB (dC n _ _ _) ?_) fun z hz=>Ev.some ?_)
    ·cases hw:decide (0≤e.num∧e.num≤99) with
     |true=>exact hj _ (by rw [hw];rfl)
     |false=>exact hj _ (by rw [hw];rfl)
    exact leafP _ hown (by unfold eJ;rw [if_pos (Or.inl k1)]) _ hz
   rw [decide_eq_false k1];refine bA ?_;have hnum:e.num=0:=by
    rcases p1 with h|h
    ·exact absurd h k1
    exact h
   by_cases k2:e.kind=2
   ·have k3: ¬e.kind=3:=by omega
    rw [decide_eq_true k2];have hown:fP e d=bH e.index d:=by
     unfold fP;rw [if_pos k2,decide_eq_true hnum];rcases p3 with h'|h'
     ·exact absurd h' k3
     rw [h'];simp
    refine bY (Ev.jn (fun z=>z=(bH e.index d&&decide ((e.kids.length:Int)=0))) (fun j hj=>aB (m5 (by omega) _ e2) ?_) fun z hz=>Ev.some ?_)
    ·unfold bH at hj;cases hw:eN e.index with
     |false=>exact hj _ (by rw [hw];rfl)
     |true=>
      refine aB (z6 (by omega) e2) (aI (fun h=>hj _ ?_) fun h=>hj _ ?_)
      ·rw [hw,decide_eq_true h];rfl
      rw [hw,decide_eq_false h];rfl
    exact leafP _ hown (by unfold eJ;rw [if_pos (Or.inr (Or.inl k2))]) _ hz
   rw [decide_eq_false k2];refine bA ?_;have hnaff:iX e.index=true:=by
    rcases p2 with h|h
    ·exact absurd h k2
    exact h
   by_cases k3:e.kind=3
   ·rw [decide_eq_true k3];have hown:fP e d=gG e.read d:=by
     unfold fP;rw [if_neg k2,if_pos k3,decide_eq_true hnum,hnaff];simp
    refine bY (Ev.jn (fun z=>z=(gG e.read d&&decide ((e.kids.length:Int)=0))) (fun j hj=>aB (q7 (by omega) e3 d) ?_) fun z hz=>Ev.some ?_)
    ·cases hw:gG e.read d with
     |false=>exact hj _ (by rw [hw];rfl)
     |true=>exact hj _ (by rw [hw];rfl)
    exact leafP _ hown (by unfold eJ;rw [if_pos (Or.inr (Or.inr k3))]) _ hz
   rw [decide_eq_false k3];refine bA ?_;have hown:fP e d=true:=by
    unfold fP;rw [if_neg k2,if_neg k3,if_neg k1,decide_eq_true hnum,hnaff];rcases p3 with h'|h'
    ·exact absurd h' k3
    rw [h'];rfl
   have hop:O6 n e.kind=some (decide (4≤e.kind∧e.kind≤6)):=by unfold O6;rw [dC];rfl
   have hkn:(eJ e.kind=2↔(4≤e.kind∧e.kind≤6))∧(eJ e.kind=2∨eJ e.kind= -1):=by
    unfold eJ;rw [if_neg (by omega)];split<;>omega
   refine Ev.jn (fun z=>z= !(decide (4≤e.kind∧e.kind≤6)&&decide ((e.kids.length:Int)=2))) (fun j hj=>aB hop ?_) fun z hz=>?_
   ·cases hw:decide (4≤e.kind∧e.kind≤6) with
    |false=>exact hj _ (by rw [hw];rfl)
    |true=>exact hj _ (by rw [hw];rfl)
   subst hz;by_cases hk:(4≤e.kind∧e.kind≤6)∧(e.kids.length:Int)=2
   ·rw [decide_eq_true hk.1,decide_eq_true hk.2];refine bA ?_;obtain⟨a,b,hab⟩: ∃a b,e.kids=[a,b]:=by
     have:e.kids.length=2:=by omega
     match hq:e.kids,this with
     | [a,b],_=>exact⟨a,b,rfl⟩
    have hsh:cO (L+1) e d=(cO L a d&&cO L b d):=by
     show(decide (eJ e.kind=e.kids.length)&&(fP e d&&e.kids.all fun k=>cO L k d))=_;rw [hown,hab,decide_eq_true (show eJ e.kind=(([a,b]:List Expr).length:Int) by rw [hkn.1.2 hk.1];rfl)];simp
    have hcn:oP (L+1) e=1+(oP L a+oP L b):=by simp [oP,hab]
    have ca:=qR L a;have cb:=qR L b;rw [hsh,hcn];obtain⟨n,rfl⟩: ∃j,n=j+1:=⟨n-1,by omega⟩
    refine Ev.jn (fun z:Int×Bool=>z.2=(cO L a d&&cO L b d&&decide (c+(1+(oP L a+oP L b))≤12))∧(z.2=true→z.1=c+(1+(oP L a+oP L b)))) (fun j hj=>?_) fun z hz=>Ev.some hz;refine aB (x:=a) (by rw [hab];rfl) (fX (mN d L n a (c+1) (by omega) (by omega) (e4 a (by rw [hab];simp)) (by omega) (by omega)) fun r ⟨r1,r2⟩=>?_);cases hr:r.1 with
    |false=>
     refine hj _ ⟨?_,fun h=>by cases h⟩;rw [hr] at r1;show false=_;by_cases hsa:cO L a d=true
     ·rw [hsa,S6] at r1
      have:=of_decide_eq_false r1.symm;rw [decide_eq_false (show¬c+(1+(oP L a+oP L b))≤12 by omega),Bool.and_false]
     rw [Bool.eq_false_iff.2 hsa];rfl
    |true=>
     have r2:=r2 hr;rw [hr] at r1;have r1:=r1.symm;rw [Bool.and_eq_true,decide_eq_true_eq] at r1;refine aB (x:=b) (by rw [hab];rfl) ?_;rw [r2];refine fX (mN d L n b (c+1+oP L a) (by omega) (by omega) (e4 b (by rw [hab];simp)) (by omega) (by omega)) fun q ⟨q1,q2⟩=>hj _ ⟨?_,fun h=>?_⟩
     ·show q.1=_;rw [q1,r1.1,S6];congr 1;exact decide_eq_decide.2 (by omega)
     show q.2=_;rw [q2 h];omega
   have hf:cO (L+1) e d=false:=by
    unfold cO;rw [decide_eq_false (show¬eJ e.kind=(e.kids.length:Int) by
     intro h;rcases hkn.2 with h2|h2
     ·exact hk ⟨hkn.1.1 h2,by omega⟩
     omega)]
    rfl
   have:(decide (4≤e.kind∧e.kind≤6)&&decide ((e.kids.length:Int)=2))=false:=by
    by_cases g:4≤e.kind∧e.kind≤6
    ·rw [decide_eq_false (show¬(e.kids.length:Int)=2 from fun h=>hk ⟨g,h⟩),Bool.and_false]
    rw [decide_eq_false g];rfl
   rw [this,hf];exact Ev.some ⟨rfl,fun h=>by cases h⟩
def gK(s:Stmt)(d:Int):Bool:=decide (0≤d∧d≤4)&&(gG s.write d&&(cO 5 s.value d&&decide (oP 5 s.value≤12)))
def SmS(s:Stmt):Prop:=xJ s.write.subs∧SmE 5 s.value
theorem z8{n:Nat}(hn:6600000≤n){s:Stmt}(h:SmS s)(d:Int):mD n s d=some (gK s d):=by
 obtain⟨n,rfl⟩: ∃j,n=j+1:=⟨n-1,by omega⟩
 refine Ev.eq ?_;unfold mD;generalize hT:gK s d=T;unfold gK at hT;refine Ev.jn (fun z:Int×Bool=>z.2=T) (fun j hj=>aB (dC _ _ _ _) ?_) fun z hz=>Ev.some hz;cases h1:decide (0≤d∧d≤4) with
 |false=>exact hj (0,false) (by rw [←hT,h1];rfl)
 |true=>
  refine bY (aB (q7 (by omega) h.1 d) ?_);cases h2:gG s.write d with
  |false=>exact hj (0,false) (by rw [←hT,h1,h2];rfl)
  |true=>
   refine bY (fX (mN d 5 n s.value 0 (by omega) (by omega) h.2 (by omega) (by omega)) fun r ⟨r1,r2⟩=>hj _ ?_);rw [←hT,h1,h2];show r.1=_;rw [r1];simp
theorem yV{n:Nat}(hn:6600000≤n){s:Stmt}(h:SmS s)(d:Int):l5 n s d=some (gK s d):=by
 obtain⟨n,rfl⟩: ∃j,n=j+1:=⟨n-1,by omega⟩
 refine Ev.eq ?_;unfold l5;generalize hT:gK s d=T;generalize hB:(decide (0≤d∧d≤4)&&(gG s.write d&&cO 5 s.value d))=B;have hTB:T=(B&&decide (oP 5 s.value≤12)):=by rw [←hT,←hB];unfold gK;simp only [Bool.and_assoc]
 refine Ev.jn (fun z=>z= !B) (fun j hj=>aI (fun h=>hj _ ?_) fun h0=>aI (fun h=>hj _ ?_) fun h4=>aB (qY (by omega) h.1 d) ?_) fun z hz=>?_
 ·rw [←hB,decide_eq_false (show¬(0≤d∧d≤4) by omega)];rfl
 ·rw [←hB,decide_eq_false (show¬(0≤d∧d≤4) by omega)];rfl
 ·rw [decide_eq_true (show 0≤d∧d≤4 by omega)] at hB;cases h2:gG s.write d with
  |false=>exact bY (hj _ (by rw [←hB,h2];rfl))
  |true=>exact bA (aB (sV d 5 n s.value (by omega) (by omega) h.2) (hj _ (by rw [←hB,h2];rfl)))
 subst hz;cases hb:B with
 |false=>exact Ev.some (by rw [hTB,hb];rfl)
 |true=>
  rw [hb] at hB;simp only [Bool.and_eq_true] at hB;refine bA (aB (sX (d:=d) 5 n s.value (by omega) (by omega) hB.2.2) (Ev.some ?_));rw [hTB,hb];rfl
def gC(ds:List Int):Bool:=decide (1≤ds.length∧ds.length≤2)&&ds.all fun d=>decide (1≤d∧d≤6)
def rM(list:List Arr)(i:Nat)(x:Arr):Bool:=match i with
 |0=>true
 |i+1=>match list[i]? with
  |some y=>Op.bytesLess y.name x.name
  |none=>false
def H1(list:List Arr)(i:Nat)(x:Arr):Bool:=lD x.name&&(rM list i x&&gC x.dims)
def fB(list:List Arr):Bool:=zY (H1 list) list&&decide (list.length≤4)
def SmR(list:List Arr):Prop:=list.length≤1100000∧ ∀x∈list,x.dims.length≤1100000
theorem wQ{list:List Arr}{i:Nat}{x y:Arr}(h:list[i]? =some y):rM list (i+1) x=Op.bytesLess y.name x.name:=by simp only [rM,h]
theorem aFf(ds:List Int):(ds.any fun d=> !decide (1≤d∧d≤6))= !(ds.all fun d=>decide (1≤d∧d≤6)):=by rw [vAR];simp
theorem E6{n:Nat}(hn:6600000≤n){list:List Arr}(h:SmR list):nQ n list=some (fB list):=by
 obtain⟨h0,h1⟩:=h;refine Ev.eq ?_;unfold nQ;refine iR (l:=list) (p:=H1 list) (by omega) (by omega) (fun again i x hx hgo hno=>?_) (fun again hall=>?_) (fun⟨i,x,hx,hp⟩=>?_)
 ·have hi:=(bV.1 hx).1;have hm:=h1 x (cM hx);rw [decide_eq_true (show(i:Int)<(list.length:Int) by omega)];have hd:bG n x.dims (fun q0=>dH n q0)=some (!(x.dims.all fun d=>decide (1≤d∧d≤6))):=by
   rw [←aFf];exact jW (fun d _=>by unfold dH;rw [dC];rfl) (by omega) (by omega)
  refine bY (aB (aQ hx) (Ev.jn (fun z=>z= !H1 list i x) (fun j hj=>aB (tJ n _) ?_) fun z hz=>?_))
  ·unfold H1 gC at hj;cases g1:lD x.name with
   |false=>exact bY (hj _ (by rw [g1];rfl))
   |true=>
    rw [g1] at hj;refine bA ?_;rw [nP];have hlast:rM list i x=true→Ev (Option.bind (some (decide (1≤x.dims.length∧x.dims.length≤2))) fun x6=>bif !x6 then j true else Option.bind (bG n x.dims fun q0=>dH n q0) fun x7=>j x7) (fun r=>r=fB list):=by
     intro hp;rw [hp] at hj;show Ev (bif _ then _ else _) _;cases g2:decide (1≤x.dims.length∧x.dims.length≤2) with
     |false=>exact bY (hj _ (by rw [g2];rfl))
     |true=>exact bA (aB hd (hj _ (by rw [g2];rfl)))
    cases i with
    |zero=>exact aI (fun h=>absurd h (by decide)) (fun _=>hlast rfl)
    |succ i=>
     have hy:=cN (show i<list.length by omega);have e:wr (((i+1:Nat):Int)-1)=(i:Int):=by rw [aK (by omega)];omega
     rw [e];refine aI (fun _=>aB (aQ hy) ?_) fun h=>absurd (show(0:Int)<((i+1:Nat):Int) by omega) h;have hpp:=wQ (x:=x) hy;cases g3:Op.bytesLess list[i].name x.name with
     |false=>exact bY (hj _ (by rw [hpp,g3];rfl))
     |true=>exact bA (hlast (by rw [hpp,g3]))
  subst hz;cases hb:H1 list i x with
  |true=>show Ev (again _) _;rw [aK (by omega)];exact hgo hb
  |false=>exact Ev.some (hno hb)
 ·rw [decide_eq_false (show¬(list.length:Int)<(list.length:Int) by omega)];refine Ev.some ?_;unfold fB;rw [mB hall,S6];exact decide_eq_decide.2 (by omega)
 unfold fB;rw [jR hx hp];rfl
theorem aEh(s:List UInt8):(!Op.bytesLess s [68]&& !s==[68])= !(Op.bytesLess s [68]||s==[68]):=by cases Op.bytesLess s [68]<;>cases (s==[68])<;>rfl
theorem E1{n:Nat}(hn:6600000≤n){list:List Arr}(h:SmR list):nF n list=some (fB list):=by
 obtain⟨h0,h1⟩:=h;refine Ev.eq ?_;unfold nF;refine iR (l:=list) (p:=H1 list) (by omega) (by omega) (fun again i x hx hgo hno=>?_) (fun again hall=>?_) (fun⟨i,x,hx,hp⟩=>?_)
 ·have hi:=(bV.1 hx).1;have hm:=h1 x (cM hx);rw [decide_eq_true (show(i:Int)<(list.length:Int) by omega)];refine bY (aB (aQ hx) (Ev.jn (fun z=>z= !(lD x.name&&(rM list i x&&decide (1≤x.dims.length∧x.dims.length≤2)))) (fun j hj=>?_) fun z hz=>?_))
  ·refine dR (fun hl=>hj _ ?_) fun hl=>?_
   ·rw [rP (by omega)];rfl
   obtain⟨b,hb⟩:=aHG (show x.name.length=1 by omega);rw [aEh];have hless: ∀(y:Arr),Op.bytesLess y.name x.name=Op.bytesLess y.name [b]:=fun y=>by rw [hb]
   have hnm:lD x.name=decide (65≤b.toNat∧b.toNat≤68):=by rw [hb];rfl
   have l1:Op.bytesLess x.name [65]=decide (b.toNat<65):=by rw [hb];exact zP b
   have l2:(Op.bytesLess x.name [68]||x.name==[68])=decide (b.toNat≤68):=by rw [hb];exact zO b
   rw [l1,l2];rw [hnm] at hj;refine aI (fun g1=>hj _ ?_) fun g1=>dR (fun g2=>hj _ ?_) fun g2=>?_
   ·rw [decide_eq_false (show¬(65≤b.toNat∧b.toNat≤68) by omega)];rfl
   ·rw [decide_eq_false (show¬(65≤b.toNat∧b.toNat≤68) by omega)];rfl
   rw [decide_eq_true (show 65≤b.toNat∧b.toNat≤68 by omega)] at hj;have hlast:rM list i x=true→Ev (bif decide ((x.dims.length:Int)<1) then j true else j (decide ((2:Int)<(x.dims.length:Int)))) (fun r=>r=fB list):=by
    intro hp;rw [hp] at hj;refine aI (fun h=>hj _ ?_) fun h=>hj _ ?_
    ·rw [decide_eq_false (show¬(1≤x.dims.length∧x.dims.length≤2) by omega)];rfl
    by_cases h2:x.dims.length≤2
    ·rw [decide_eq_false (show¬(2:Int)<(x.dims.length:Int) by omega),decide_eq_true (show 1≤x.dims.length∧x.dims.length≤2 by omega)];rfl
    rw [decide_eq_true (show(2:Int)<(x.dims.length:Int) by omega),decide_eq_false (show¬(1≤x.dims.length∧x.dims.length≤2) by omega)];rfl
   cases i with
   |zero=>exact aI (fun h=>absurd h (by decide)) (fun _=>hlast rfl)
   |succ i=>
    have hy:=cN (show i<list.length by omega);have e:wr (((i+1:Nat):Int)-1)=(i:Int):=by rw [aK (by omega)];omega
    rw [e];refine aI (fun _=>aB (aQ hy) ?_) fun h=>absurd (show(0:Int)<((i+1:Nat):Int) by omega) h;have hpp:=wQ (x:=x) hy;cases g3:Op.bytesLess list[i].name x.name with
    |false=>exact bY (hj _ (by rw [hpp,g3];rfl))
    |true=>exact bA (hlast (by rw [hpp,g3]))
  subst hz;cases hb:(lD x.name&&(rM list i x&&decide (1≤x.dims.length∧x.dims.length≤2))) with
  |false=>
   refine Ev.some (hno ?_);unfold H1 gC;rw [←vAZ,←vAZ];rw [←vAZ] at hb;rw [hb];rfl
  |true=>
   have hap:H1 list i x=x.dims.all (fun d=>decide (1≤d∧d≤6)):=by
    unfold H1 gC;rw [←vAZ,←vAZ];rw [←vAZ] at hb;rw [hb];rfl
   refine bA ?_;refine Ev.loop (fun y:Int=> ∃k:Nat,y=k∧k≤x.dims.length∧ ∀(t:Nat) d,t<k→x.dims[t]? =some d→decide (1≤d∧d≤6)=true) (fun y=>x.dims.length-y.toNat) ?_ n _ ⟨0,rfl,by omega,fun t d h=>by omega⟩ (by simp;omega);rintro again8 y ⟨k,rfl,hk,ha⟩ hr;refine aI (fun hlt=>?_) fun hge=>?_
   ·have hd:=cN (show k<x.dims.length by omega);have ek:wr ((k:Int)+1)=((k+1:Nat):Int):=by rw [aK (by omega)];omega
    refine Ev.jn (fun z=>z= !decide (1≤x.dims[k]∧x.dims[k]≤6)) (fun j hj=>aB (aQ hd) (aI (fun h=>hj _ ?_) fun h=>hj _ ?_)) fun z hz=>?_
    ·rw [decide_eq_false (by omega)];rfl
    ·by_cases h6:x.dims[k]≤6
     ·rw [decide_eq_false (show¬(6:Int)<x.dims[k] by omega),decide_eq_true (show 1≤x.dims[k]∧x.dims[k]≤6 by omega)];rfl
     rw [decide_eq_true (show(6:Int)<x.dims[k] by omega),decide_eq_false (show¬(1≤x.dims[k]∧x.dims[k]≤6) by omega)];rfl
    subst hz;cases hb2:decide (1≤x.dims[k]∧x.dims[k]≤6) with
    |false=>
     refine Ev.some (hno ?_);rw [hap];exact U0.2 ⟨_,cM hd,by rw [hb2];simp⟩
    |true=>
     rw [ek];refine hr _ ⟨k+1,rfl,by omega,fun t d ht hd2=>?_⟩ (by omega);by_cases htk:t=k
     ·subst htk;rw [hd] at hd2;cases hd2;exact hb2
     exact ha t d (by omega) hd2
   have e:wr ((i:Int)+1)=(i:Int)+1:=aK (by omega);rw [e];refine hgo ?_;rw [hap];refine H3.2 fun d hd=>?_;obtain⟨t,ht⟩:=vAz hd
   have:=(bV.1 ht).1;exact ha t d (by omega) ht
 ·rw [decide_eq_false (show¬(list.length:Int)<(list.length:Int) by omega)];refine Ev.some ?_;unfold fB;rw [mB hall,S6];exact decide_eq_decide.2 (by omega)
 unfold fB;rw [jR hx hp];rfl
def E0:List Int→Int
 | []=>1
 |d::ds=>d*E0 ds
theorem aBh{ds:List Int}(h:gC ds=true):(∃a,ds=[a]∧1≤a∧a≤6)∨ ∃a b,ds=[a,b]∧(1≤a∧a≤6)∧1≤b∧b≤6:=by
 simp only [gC,Bool.and_eq_true,decide_eq_true_eq,List.all_eq_true] at h;obtain⟨⟨h1,h2⟩,h3⟩:=h
 match ds,h1,h2,h3 with
 | [a],_,_,h3=>exact .inl ⟨a,rfl,h3 a (by simp)⟩
 | [a,b],_,_,h3=>exact .inr ⟨a,b,rfl,h3 a (by simp),h3 b (by simp)⟩
theorem aIC{a b:Int}(ha:1≤a∧a≤6)(hb:1≤b∧b≤6):1≤a*b∧a*b≤36:=by
 constructor
 ·have:=vBj ha.1 hb.1 (by omega) (by omega);omega
 have:=vBj ha.2 hb.2 (by omega) (by omega);omega
theorem U3{ds:List Int}(h:gC ds=true):1≤E0 ds∧E0 ds≤36:=by
 rcases aBh h with ⟨a,rfl,h1⟩|⟨a,b,rfl,h1,h2⟩
 ·simp [E0];omega
 have:=aIC h1 h2;simp [E0];omega
theorem o5{n:Nat}(hn:6600000≤n){x:Arr}(h:gC x.dims=true):o6 n x=some (E0 x.dims):=by
 obtain⟨n,rfl⟩: ∃j,n=j+3:=⟨n-3,by omega⟩
 unfold o6;rcases aBh h with ⟨a,e,h1⟩|⟨a,b,e,h1,h2⟩
 ·rw [e];have e1:wr a=a:=aK (by omega);simp [aO,ix,E0,e1,show wr 1=1 from aK (by omega)]
 rw [e]
 have:=aIC h1 h2;have e1:wr a=a:=aK (by omega);have e2:wr (a*b)=a*b:=aK (by omega);simp [aO,ix,E0,e1,e2,show wr 1=1 from aK (by omega),show wr 2=2 from aK (by omega)]
theorem aCN{n:Nat}(hn:6600000≤n){x:Arr}(h:gC x.dims=true):jV n x=some (E0 x.dims):=o5 hn h
def lW:List Affine→List Int→List Int→Int→Int
 |s::ss,d::ds,p,acc=>if 0≤dV s p∧dV s p<d then lW ss ds p (acc*d+dV s p) else-1
 |_,_,_,acc=>acc
def cC:List Arr→Access→List Int→Int→Int
 | [],_,_,_=> -1
 |x::xs,a,p,base=>if x.name=a.array then(if a.subs.length=x.dims.length then(if lW a.subs x.dims p 0<0 then-1 else base+lW a.subs x.dims p 0) else-1) else cC xs a p (base+E0 x.dims)
def eK(xs:List Arr):Prop:= ∀x∈xs,gC x.dims=true
theorem aIJ{ds:List Int}(hd:gC ds=true){ss:List Affine}(hl:ss.length=ds.length)(p:List Int):lW ss ds p 0= -1∨(0≤lW ss ds p 0∧lW ss ds p 0<E0 ds):=by
 rcases aBh hd with ⟨a,rfl,h1⟩|⟨a,b,rfl,h1,h2⟩
 ·match ss,hl with
  | [s],_=>
   simp only [lW,E0,Int.zero_mul,Int.zero_add,Int.mul_one];split<;>omega
 match ss,hl with
 | [s,t],_=>
  simp only [lW,E0,Int.zero_mul,Int.zero_add,Int.mul_one];split
  ·rename_i hs;split
   ·rename_i ht;refine .inr ⟨?_,?_⟩
    ·have:=vBd hs.1 (show 0≤b by omega);omega
    have:=Int.mul_le_mul_of_nonneg_right (show dV s p≤a-1 by omega) (show 0≤b by omega);rw [Int.sub_mul] at this;omega
   exact .inl rfl
  exact .inl rfl
def kW(xs:List Arr):Int:=(xs.map fun x=>E0 x.dims).sum
theorem xY: ∀{xs:List Arr},eK xs→ ∀(a:Access) (p:List Int) (base:Int),0≤base→cC xs a p base= -1∨(base≤cC xs a p base∧cC xs a p base<base+kW xs)
 | [],_,a,p,base,_=> .inl rfl
 |x::xs,hd,a,p,base,hb=>by
  have hx:=hd x (by simp);have hs:=U3 hx;have hxs:eK xs:=fun y hy=>hd y (by simp [hy]);have ht:0≤kW xs:=by
   have:=mM (fun x:Arr=>E0 x.dims) xs fun y hy=>(U3 (hxs y hy)).1;unfold kW;omega
  have e:kW (x::xs)=E0 x.dims+kW xs:=by simp [kW]
  rw [e];simp only [cC];split
  ·split
   ·rename_i hl;rcases aIJ hx hl p with h|h
    ·rw [if_pos (by omega)];exact .inl rfl
    rw [if_neg (by omega)];exact .inr ⟨by omega,by omega⟩
   exact .inl rfl
  rcases xY hxs a p (base+E0 x.dims) (by omega) with h|h
  ·exact .inl h
  exact .inr ⟨by omega,by omega⟩
theorem aFg{a:Access}{d:Int}(h:gG a d=true):1≤a.subs.length∧a.subs.length≤2∧ ∀x∈a.subs,eN x=true:=by
 simp only [gG,Bool.and_eq_true,decide_eq_true_eq,List.all_eq_true] at h;refine⟨h.2.2.1,h.2.2.2,fun x hx=>?_⟩
 have:=h.1 x hx;simp only [bH,Bool.and_eq_true] at this;exact this.1
theorem iZ{α:Type}{l:List α}{i:Nat}{x:α}(h:l[i]? =some x):l.drop i=x::l.drop (i+1):=by obtain⟨h1,h2⟩:=bV.1 h;rw [List.drop_eq_getElem_cons h1,h2]
theorem aAa{a d v:Int}(ha:0≤a∧a≤36)(hd:1≤d∧d≤6)(hv:0≤v∧v<d):0≤a*d∧a*d≤216∧0≤a*d+v:=by have h1:=vBd ha.1 (show 0≤d by omega);have h2:=vBj ha.2 hd.2 (by omega) (by omega);omega
theorem aEu{n:Nat}(hn:6600000≤n){a:Access}(h1:a.subs.length≤2)(h2: ∀x∈a.subs,eN x=true){ds:List Int}(hd:gC ds=true)(hl:a.subs.length=ds.length){k:Nat}{p:List Int}(hp:lQ k p)(base:Int)(hb:0≤base∧base≤500000000):
  aO (fun again8 ((x6,x7):Int×Int)=>bif decide (x7<(a.subs.length:Int)) then(Option.bind (ix a.subs x7) fun x9=>Option.bind (bS n x9 p) fun x10=>Option.bind (ix ds x7) fun x11=>Option.bind (bR n x10 0 (wr (x11-1))) fun x12=>bif !x12 then(some (-1)) else(again8 (wr ((wr (x6*x11))+x10),wr (x7+1)))) else(some (wr (base+x6)))) n (0,0)
   =some (if lW a.subs ds p 0<0 then-1 else base+lW a.subs ds p 0):=by
 have hdm: ∀d∈ds,1≤d∧d≤6:=by
  simp only [gC,Bool.and_eq_true,decide_eq_true_eq,List.all_eq_true] at hd;exact fun d h=>hd.2 d h
 refine Ev.eq ?_;refine Ev.loop (fun x:Int×Int=> ∃i:Nat,x.2=i∧i≤a.subs.length∧0≤x.1∧x.1≤36*i∧(i=0→x.1=0)∧(i=1→x.1≤5)∧lW a.subs ds p 0=lW (a.subs.drop i) (ds.drop i) p x.1) (fun x=>a.subs.length-x.2.toNat) ?_ n _ ⟨0,rfl,by omega,by simp,by simp,fun _=>rfl,fun h=>by omega,rfl⟩ (by simp;omega);rintro again ⟨x,z⟩ ⟨i,hz,hi,hx0,hx1,hx2,hx3,hx⟩ hr;dsimp only at hz hx0 hx1 hx2 hx3 hx⊢;subst hz;refine aI (fun hlt=>?_) fun hge=>Ev.some ?_
 ·have hs:=cN (show i<a.subs.length by omega);have hdd:=cN (show i<ds.length by omega);have hdb:=hdm _ (cM hdd);have ew:wr (ds[i]-1)=ds[i]-1:=aK (by omega);rw [iZ hs,iZ hdd] at hx;simp only [lW] at hx;refine aB (aQ hs) (aB (aCP (by omega) (h2 _ (cM hs)) hp) (aB (aQ hdd) (aB (dC _ _ _ _) ?_)));rw [ew];by_cases hc:0≤dV a.subs[i] p∧dV a.subs[i] p<ds[i]
  ·rw [if_pos hc] at hx;rw [decide_eq_true (show 0≤dV a.subs[i] p∧dV a.subs[i] p≤ds[i]-1 by omega)];obtain⟨g1,g2,g3⟩:=aAa (a:=x) (by omega) hdb hc;refine bA ?_;rw [aK (n:=x*ds[i]) (by omega),aK (n:=x*ds[i]+dV a.subs[i] p) (by omega),aK (by omega)];have hi01:i=0∨i=1:=by omega
   refine hr _ ⟨i+1,by dsimp only;omega,by omega,by dsimp only;omega,?_,fun h=>by omega,fun h=>?_,hx⟩ (by dsimp only;omega)
   ·dsimp only;rcases hi01 with rfl|rfl
    ·rw [hx2 rfl];omega
    have:=hx3 rfl
    have:=vBj this hdb.2 (by omega) (by omega);omega
   dsimp only
   have:i=0:=by omega
   subst this;rw [hx2 rfl];omega
  rw [if_neg hc] at hx;rw [decide_eq_false (show¬(0≤dV a.subs[i] p∧dV a.subs[i] p≤ds[i]-1) by omega)];refine bY (Ev.some ?_);rw [hx];rfl
 have hie:i=a.subs.length:=by omega
 have hdr:lW (a.subs.drop i) (ds.drop i) p x=x:=by
  rw [hie,vBp];unfold lW;rfl
 rw [hdr] at hx;rw [hx,if_neg (by omega),aK (by omega)]
theorem aD2{n:Nat}(hn:6600000≤n){a:Access}(h0:1≤a.subs.length)(h1:a.subs.length≤2)(h2: ∀x∈a.subs,eN x=true){ds:List Int}(hd:gC ds=true){k:Nat}{p:List Int}(hp:lQ k p)(base:Int)(hb:0≤base∧base≤500000000):
  aO (fun again8 ((x6,x7):Int×Int)=>bif decide (x7<(a.subs.length:Int)) then(bif !decide ((a.subs.length:Int)=(ds.length:Int)) then(some (-1)) else(Option.bind (ix a.subs x7) fun x9=>Option.bind (eU n x9 p) fun x10=>jn (fun(x13:Bool)=>bif x13 then(some (-1)) else(Option.bind (ix ds x7) fun x14=>again8 (wr ((wr (x6*x14))+x10),wr (x7+1)))) fun j11=>bif decide (x10<0) then(j11 true) else(Option.bind (ix ds x7) fun x12=>j11 (decide (x12≤x10))))) else(some (wr (base+x6)))) n (0,0)
   =some (if a.subs.length=ds.length then(if lW a.subs ds p 0<0 then-1 else base+lW a.subs ds p 0) else-1):=by
 by_cases hl:a.subs.length=ds.length
 ·rw [if_pos hl];rw [decide_eq_true (show(a.subs.length:Int)=(ds.length:Int) by omega)];have hdm: ∀d∈ds,1≤d∧d≤6:=by
   simp only [gC,Bool.and_eq_true,decide_eq_true_eq,List.all_eq_true] at hd;exact fun d h=>hd.2 d h
  refine Ev.eq ?_;refine Ev.loop (fun x:Int×Int=> ∃i:Nat,x.2=i∧i≤a.subs.length∧0≤x.1∧x.1≤36*i∧(i=0→x.1=0)∧(i=1→x.1≤5)∧lW a.subs ds p 0=lW (a.subs.drop i) (ds.drop i) p x.1) (fun x=>a.subs.length-x.2.toNat) ?_ n _ ⟨0,rfl,by omega,by simp,by simp,fun _=>rfl,fun h=>by omega,rfl⟩ (by simp;omega);rintro again ⟨x,z⟩ ⟨i,hz,hi,hx0,hx1,hx2,hx3,hx⟩ hr;dsimp only at hz hx0 hx1 hx2 hx3 hx⊢;subst hz;refine aI (fun hlt=>?_) fun hge=>Ev.some ?_
  ·have hs:=cN (show i<a.subs.length by omega);have hdd:=cN (show i<ds.length by omega);have hdb:=hdm _ (cM hdd);rw [iZ hs,iZ hdd] at hx;simp only [lW] at hx;refine bA (aB (aQ hs) (aB (aCB (by omega) (h2 _ (cM hs)) hp) (Ev.jn (fun z=>z= !decide (0≤dV a.subs[i] p∧dV a.subs[i] p<ds[i])) (fun j hj=>aI (fun h=>hj _ ?_) fun h=>aB (aQ hdd) (hj _ ?_)) fun z hz=>?_)))
   ·rw [decide_eq_false (by omega)];rfl
   ·by_cases hc:ds[i]≤dV a.subs[i] p
    ·rw [decide_eq_true hc,decide_eq_false (by omega)];rfl
    rw [decide_eq_false hc,decide_eq_true (by omega)];rfl
   subst hz;by_cases hc:0≤dV a.subs[i] p∧dV a.subs[i] p<ds[i]
   ·rw [if_pos hc] at hx;rw [decide_eq_true hc];obtain⟨g1,g2,g3⟩:=aAa (a:=x) (by omega) hdb hc;refine bA (aB (aQ hdd) ?_);rw [aK (n:=x*ds[i]) (by omega),aK (n:=x*ds[i]+dV a.subs[i] p) (by omega),aK (by omega)];have hi01:i=0∨i=1:=by omega
    refine hr _ ⟨i+1,by dsimp only;omega,by omega,by dsimp only;omega,?_,fun h=>by omega,fun h=>?_,hx⟩ (by dsimp only;omega)
    ·dsimp only;rcases hi01 with rfl|rfl
     ·rw [hx2 rfl];omega
     have:=hx3 rfl
     have:=vBj this hdb.2 (by omega) (by omega);omega
    dsimp only
    have:i=0:=by omega
    subst this;rw [hx2 rfl];omega
   rw [if_neg hc] at hx;rw [decide_eq_false hc];refine bY (Ev.some ?_);rw [hx];rfl
  have hie:i=a.subs.length:=by omega
  have hdr:lW (a.subs.drop i) (ds.drop i) p x=x:=by
   rw [hie,vBp];unfold lW;rfl
  rw [hdr] at hx;rw [hx,if_neg (by omega),aK (by omega)]
 rw [if_neg hl,decide_eq_false (show¬(a.subs.length:Int)=(ds.length:Int) by omega)];obtain⟨n,rfl⟩: ∃j,n=j+1:=⟨n-1,by omega⟩
 simp only [aO];rw [decide_eq_true (show(0:Int)<(a.subs.length:Int) by omega)];rfl
theorem qO{n:Nat}(hn:6600000≤n){p:Prog}(hl:p.arrays.length≤4)(hd:eK p.arrays){a:Access}{d:Int}(ha:gG a d=true){k:Nat}{q:List Int}(hq:lQ k q):cX n p a q=some (cC p.arrays a q 0):=by
 obtain⟨a0,a1,a2⟩:=aFg ha;refine Ev.eq ?_;unfold cX;refine Ev.loop (fun x:Int×Int=> ∃i:Nat,x.2=i∧i≤p.arrays.length∧0≤x.1∧x.1≤36*i∧cC p.arrays a q 0=cC (p.arrays.drop i) a q x.1) (fun x=>p.arrays.length-x.2.toNat) ?_ n _ ⟨0,rfl,by omega,by simp,by simp,rfl⟩ (by simp;omega);rintro again ⟨x,z⟩ ⟨i,hz,hi,hx0,hx1,hx⟩ hr;dsimp only at hz hx0 hx1 hx⊢;subst hz;refine aI (fun hlt=>?_) fun hge=>Ev.some ?_
 ·have hy:=cN (show i<p.arrays.length by omega);have hdy:=hd _ (cM hy);have hsz:=U3 hdy;rw [iZ hy] at hx;simp only [cC] at hx;refine aB (aQ hy) (dR (fun hne=>?_) fun he=>?_)
  ·rw [if_neg hne] at hx;refine aB (aCN hn hdy) ?_;rw [aK (n:=x+E0 p.arrays[i].dims) (by omega),aK (by omega)];exact hr _ ⟨i+1,by dsimp only;omega,by omega,by dsimp only;omega,by dsimp only;omega,hx⟩ (by dsimp only;omega)
  rw [if_pos he] at hx;refine dR (fun hne=>Ev.some ?_) fun hle=>?_
  ·rw [hx,if_neg (by omega)]
  have hle':a.subs.length=p.arrays[i].dims.length:=by omega
  rw [if_pos hle'] at hx;exact Ev.of (aEu hn a1 a2 hdy hle' hq x (by omega)) hx.symm
 have hie:i=p.arrays.length:=by omega
 rw [hx,hie,vBp];rfl
theorem qD{n:Nat}(hn:6600000≤n){list:List Arr}(hl:list.length≤4)(hd:eK list){a:Access}{d:Int}(ha:gG a d=true){k:Nat}{q:List Int}(hq:lQ k q):kY n list a q=some (cC list a q 0):=by
 obtain⟨a0,a1,a2⟩:=aFg ha;refine Ev.eq ?_;unfold kY;refine Ev.loop (fun x:Int×Int=> ∃i:Nat,x.2=i∧i≤list.length∧0≤x.1∧x.1≤36*i∧cC list a q 0=cC (list.drop i) a q x.1) (fun x=>list.length-x.2.toNat) ?_ n _ ⟨0,rfl,by omega,by simp,by simp,rfl⟩ (by simp;omega);rintro again ⟨x,z⟩ ⟨i,hz,hi,hx0,hx1,hx⟩ hr;dsimp only at hz hx0 hx1 hx⊢;subst hz;refine aI (fun hlt=>?_) fun hge=>Ev.some ?_
 ·have hy:=cN (show i<list.length by omega);have hdy:=hd _ (cM hy);have hsz:=U3 hdy;rw [iZ hy] at hx;simp only [cC] at hx;refine aB (aQ hy) (dR (fun hne=>?_) fun he=>?_)
  ·rw [if_neg hne] at hx;refine aB (o5 hn hdy) ?_;rw [aK (n:=x+E0 list[i].dims) (by omega),aK (by omega)];exact hr _ ⟨i+1,by dsimp only;omega,by omega,by dsimp only;omega,by dsimp only;omega,hx⟩ (by dsimp only;omega)
  rw [if_pos he] at hx;exact Ev.of (aD2 hn a0 a1 a2 hdy hq x (by omega)) hx.symm
 have hie:i=list.length:=by omega
 rw [hx,hie,vBp];rfl
def bM:Nat→Expr→List Access
 |0,_=>[]
 |L+1,e=>(if e.kind=3 then [e.read] else [])++e.kids.flatMap (bM L)
theorem mY{d:Int}: ∀{L:Nat} {e:Expr},cO L e d=true→ ∀a∈bM L e,gG a d=true
 |0,e,h,a,ha=>by cases h
 |L+1,e,h,a,ha=>by
  obtain⟨h1,h2,h3⟩:=jL h;simp only [bM,List.mem_append,List.mem_flatMap] at ha;rcases ha with ha|⟨k,hk,ha⟩
  ·split at ha
   ·rename_i hk3;simp at ha;subst ha;unfold fP at h2;rw [if_neg (by omega),if_pos hk3] at h2;simp only [Bool.and_eq_true] at h2;exact h2.2.2
   simp at ha
  exact mY (h3 k hk) a ha
theorem qG: ∀(L:Nat) (e:Expr),((bM L e).length:Int)≤oP L e
 |0,e=>by simp [bM,oP]
 |L+1,e=>by
  have h: ∀(l:List Expr),((l.flatMap (bM L)).length:Int)≤(l.map (oP L)).sum:=by
   intro l;induction l with
   |nil=>simp
   |cons k l ih=>
    have:=qG L k;simp only [List.flatMap_cons,List.length_append,List.map_cons,List.sum_cons];omega
  have:=h e.kids;simp only [bM,oP,List.length_append];split
  ·rw [List.length_singleton];omega
  rw [List.length_nil];omega
theorem zZ{d:Int}: ∀(L n:Nat) (e:Expr),6600000+L≤n→L≤5→cO L e d=true→i_reads (n+1) e=some (bM L e)
 |0,n,e,_,_,h=>by cases h
 |L+1,n,e,hn,hL,h=>by
  obtain⟨h1,h2,h3⟩:=jL h;have hk2:=tD e.kind;unfold i_reads;refine Ev.eq (aI (fun h3k=>Ev.some ?_) fun hn3=>?_)
  ·have:e.kids=[]:=by
    have hz:eJ e.kind=0:=by unfold eJ;rw [if_pos (Or.inr (Or.inr h3k))]
    exact vAx (by omega)
   simp [bM,h3k,this]
  obtain⟨n,rfl⟩: ∃j,n=j+1:=⟨n-1,by omega⟩
  have hcb: ∀k∈e.kids,((bM L k).length:Int)≤100:=fun k hk=>by
   have h5:=Q5 (h3 k hk);have h6:(2:Int)^L≤40:=by
    match L,hL with
    |0,_=>decide
    |1,_=>decide
    |2,_=>decide
    |3,_=>decide
    |4,_=>decide
   have:=qG L k;omega
  refine Ev.loop (fun x:List Access×Int=> ∃i:Nat,x.2=i∧i≤e.kids.length∧x.1=(e.kids.take i).flatMap (bM L)∧(x.1.length:Int)≤100*i) (fun x=>e.kids.length-x.2.toNat) ?_ (n+1) _ ⟨0,rfl,by omega,by simp,by simp⟩ (by simp;omega);rintro again ⟨x,k⟩ ⟨i,hk,hi,hx,hxl⟩ hr;dsimp only at hk hx hxl⊢;subst hk;refine aI (fun hlt=>?_) fun hge=>Ev.some ?_
  ·have hk3:=cN (show i<e.kids.length by omega);have hm:=cM hk3;have hb:=hcb _ hm;refine aB (aQ hk3) (aB (zZ (d:=d) L n _ (by omega) (by omega) (h3 _ hm)) (aB (jF (by omega)) ?_));rw [aK (by omega)];refine hr _ ⟨i+1,by dsimp only;omega,by omega,?_,by dsimp only;rw [n8];omega⟩ (by dsimp only;omega);dsimp only;rw [vAG,hk3,vAV,hx];simp
  have:i=e.kids.length:=by omega
  rw [hx,this,wI];simp [bM,hn3]
theorem aBi(n:Nat){a:Affine}(h:a.coefs.length≤1100000):gM n a=some a:=by
 unfold gM;refine Ev.eq (aI (fun h0=>Ev.some ?_) fun h0=>aB (gF _ h) (Ev.some rfl));obtain⟨cs,c⟩:=a
 have:cs=[]:=vAx (by simpa using h0);subst this;rfl
theorem aBj{n:Nat}(hn:5500000≤n){a:Access}(h:xJ a.subs):gN n a=some a:=by
 obtain⟨h0,h1⟩:=h;refine Ev.eq ?_;unfold gN;refine Ev.loop (fun x:List Affine×Int=> ∃i:Nat,x.2=i∧i≤a.subs.length∧x.1=a.subs.take i) (fun x=>a.subs.length-x.2.toNat) ?_ n _ ⟨0,rfl,by omega,by simp⟩ (by simp;omega);rintro again ⟨x,k⟩ ⟨i,hk,hi,hx⟩ hr;dsimp only at hk hx⊢;subst hk;refine aI (fun hlt=>?_) fun hge=>Ev.some ?_
 ·have hs:=cN (show i<a.subs.length by omega);have hl:x.length=i:=by rw [hx,D7];omega
  refine aB (aQ hs) (aB (aBi n (h1 _ (cM hs))) (aB (jF (by simp;omega)) ?_));rw [aK (by omega)];refine hr _ ⟨i+1,by dsimp only;omega,by omega,?_⟩ (by dsimp only;omega);dsimp only;rw [vAG,hs,hx];rfl
 have:i=a.subs.length:=by omega
 rw [hx,this,wI]
theorem aGM{l:List Affine}(h1:l.length≤2)(h2: ∀a∈l,eN a=true):xJ l:=⟨by omega,fun a ha=>by have:=(uG (h2 a ha)).1;unfold SmA;omega⟩
theorem yT{d:Int}: ∀(L n:Nat) (e:Expr) (out:List Access),6600000+L≤n→L≤5→cO L e d=true→(out.length:Int)≤1100000+200*(6-(L:Int))→s_l3Reads (n+1) out e=some (out++bM L e)
 |0,n,e,out,_,_,h,_=>by cases h
 |L+1,n,e,out,hn,hL,h,ho=>by
  obtain⟨h1,h2,h3⟩:=jL h;have hk2:=tD e.kind;unfold s_l3Reads;refine Ev.eq (Ev.jn (fun z=>z=out++(if e.kind=3 then [e.read] else [])) (fun j hj=>aI (fun h3k=>?_) fun hn3=>hj _ (by rw [if_neg hn3];simp)) fun z hz=>?_)
  ·have ha:=mY h e.read (by simp [bM,h3k]);obtain⟨_,b1,b2⟩:=aFg ha;exact aB (aBj (by omega) (aGM b1 b2)) (aB (jF (by simp;omega)) (hj _ (by rw [if_pos h3k])))
  subst hz;obtain⟨n,rfl⟩: ∃j,n=j+1:=⟨n-1,by omega⟩
  by_cases h3k:e.kind=3
  ·have hnil:e.kids=[]:=by
    have hz:eJ e.kind=0:=by unfold eJ;rw [if_pos (Or.inr (Or.inr h3k))]
    exact vAx (by omega)
   rw [hnil];refine Ev.some ?_;simp [bM,h3k,hnil]
  have hcb: ∀k∈e.kids,((bM L k).length:Int)≤100:=fun k hk=>by
   have h5:=Q5 (h3 k hk);have h6:(2:Int)^L≤40:=by
    match L,hL with
    |0,_=>decide
    |1,_=>decide
    |2,_=>decide
    |3,_=>decide
    |4,_=>decide
   have:=qG L k;omega
  rw [if_neg h3k,vBz];refine Ev.loop (fun x:List Access×Int=> ∃i:Nat,x.2=i∧i≤e.kids.length∧x.1=out++(e.kids.take i).flatMap (bM L)∧(x.1.length:Int)≤out.length+100*i) (fun x=>e.kids.length-x.2.toNat) ?_ (n+1) _ ⟨0,rfl,by omega,by simp,by simp⟩ (by simp;omega);rintro again ⟨x,k⟩ ⟨i,hk,hi,hx,hxl⟩ hr;dsimp only at hk hx hxl⊢;subst hk;refine aI (fun hlt=>?_) fun hge=>Ev.some ?_
  ·have hk3:=cN (show i<e.kids.length by omega);have hm:=cM hk3;have hb:=hcb _ hm;refine aB (aQ hk3) (aB (yT (d:=d) L n _ x (by omega) (by omega) (h3 _ hm) (by omega)) ?_);rw [aK (by omega)];refine hr _ ⟨i+1,by dsimp only;omega,by omega,?_,by dsimp only;rw [n8];omega⟩ (by dsimp only;omega);dsimp only;rw [vAG,hk3,vAV,hx];simp
  have:i=e.kids.length:=by omega
  rw [hx,this,wI];simp [bM,h3k]
theorem aD8{nest:List Loop}(hf:Fit nest): ∀(ls:List Loop) (k:Nat) (p q:List Int),nest.drop k=ls→k≤nest.length→lQ k p→q∈pts ls p→lQ nest.length q
 | [],k,p,q,hd,hk,hp,hq=>by
  have:=tQ hd hk;simp only [pts,List.mem_singleton] at hq;subst hq;subst this;exact hp
 |l::ls,k,p,q,hd,hk,hp,hq=>by obtain⟨d1,d2,d3⟩:=qQ hd;obtain⟨s1,s2⟩:=hf.2 k l d1;have hf1:=hf.1;simp only [pts,List.mem_flatMap] at hq;obtain⟨v,hv,hq⟩:=hq;exact aD8 hf ls (k+1) _ q d2 (by omega) (xP s1 s2 hp (by omega) (aGe.1 hv)) hq
theorem aFn{nest:List Loop}{ps:List (List Int)}(h:NP nest=some ps):Fit nest∧ps.length≤120∧(∀q∈ps,lQ nest.length q)∧ps=pts nest []∧wk nest []≤1200:=by
 unfold NP at h;split at h
 ·rename_i hc;cases h;have hf:=O9 hc.1;exact⟨hf,hc.2.2,fun q hq=>aD8 hf nest 0 [] q rfl (by omega) pt0 hq,rfl,hc.2.1⟩
 cases h
def cE(list:List Arr)(s:Stmt)(q:List Int):Bool:=decide (0≤cC list s.write q 0)&&(bM 5 s.value).all fun a=>decide (0≤cC list a q 0)
theorem yQ{s:Stmt}{d:Int}(h:gK s d=true):gG s.write d=true∧cO 5 s.value d=true∧(∀a∈bM 5 s.value,gG a d=true)∧(bM 5 s.value).length≤12:=by
 simp only [gK,Bool.and_eq_true,decide_eq_true_eq] at h;obtain⟨_,h1,h2,h3⟩:=h
 have:=qG 5 s.value;exact⟨h1,h2,mY h2,by omega⟩
theorem W3{n:Nat}(hn:7700000≤n){p:Prog}(hl:p.arrays.length≤4)(hd:eK p.arrays){s:Stmt}{d:Int}(hs:gK s d=true){k:Nat}{q:List Int}(hq:lQ k q):fJ n p s q=some (cE p.arrays s q):=by
 obtain⟨h1,h2,h3,h4⟩:=yQ hs;obtain⟨n,rfl⟩: ∃j,n=j+1:=⟨n-1,by omega⟩
 refine Ev.eq ?_;unfold fJ;generalize hT:cE p.arrays s q=T;unfold cE at hT;refine Ev.jn (fun z=>z=T) (fun j hj=>aB (qO (by omega) hl hd h1 hq) (aI (fun h=>?_) fun h=>hj _ ?_)) fun z hz=>Ev.some hz
 ·have hc:=xH (n:=n+1) (f:=fun q0=>cW (n+1) q0 p q) (p:=fun a=>decide (cC p.arrays a q 0<0)) (l:=bM 5 s.value)
   (fun a ha=>by unfold cW;rw [qO (by omega) hl hd (h3 a ha) hq];rfl) (by omega) (by omega)
  refine aB (zZ (d:=d) 5 n s.value (by omega) (by omega) h2) (aB hc (hj _ ?_));rw [←hT,decide_eq_true h,S6,vAR];congr 1;apply congrArg fun f=>List.any (bM 5 s.value) f;funext a;rw [ltd]
 rw [←hT,decide_eq_false h];rfl
theorem N1{n:Nat}(hn:7700000≤n){list:List Arr}(hl:list.length≤4)(hd:eK list){s:Stmt}{d:Int}(hs:gK s d=true){k:Nat}{q:List Int}(hq:lQ k q):
  qB n list s q=some (if cE list s q=true then((bM 5 s.value).map fun a=>cC list a q 0,cC list s.write q 0,true) else([],0,false)):=by
 obtain⟨h1,h2,h3,h4⟩:=yQ hs;obtain⟨n,rfl⟩: ∃j,n=j+1:=⟨n-1,by omega⟩
 refine Ev.eq ?_;unfold qB;refine aB (yT (d:=d) 5 n s.value [] (by omega) (by omega) h2 (by simp)) ?_;rw [List.nil_append];generalize hR:bM 5 s.value=R at*;have hco:cE list s q=(decide (0≤cC list s.write q 0)&&R.all fun a=>decide (0≤cC list a q 0)):=by unfold cE;rw [hR]
 refine Ev.loop (fun x:List Int×Int=> ∃i:Nat,x.2=i∧i≤R.length∧x.1=(R.take i).map (fun a=>cC list a q 0)∧ ∀(t:Nat) a,t<i→R[t]? =some a→0≤cC list a q 0) (fun x=>R.length-x.2.toNat) ?_ (n+1) _ ⟨0,rfl,by omega,by simp,fun t a h=>by omega⟩ (by dsimp only;omega);rintro again ⟨x,z⟩ ⟨i,hz,hi,hx,ha⟩ hr;dsimp only at hz hx ha⊢;subst hz;refine aI (fun hlt=>?_) fun hge=>?_
 ·have hg:=cN (show i<R.length by omega);have hm:=cM hg;refine aB (aQ hg) (aB (qD (by omega) hl hd (h3 _ hm) hq) (aI (fun hneg=>Ev.some ?_) fun hpos=>?_))
  ·rw [if_neg];rw [hco];intro h;rw [Bool.and_eq_true] at h
   have:=H3.1 h.2 _ hm;rw [decide_eq_true_eq] at this;omega
  have hl2:x.length≤12:=by rw [hx,vAP,D7];omega
  refine aB (jF (by simp;omega)) ?_;rw [aK (by omega)];refine hr _ ⟨i+1,by dsimp only;omega,by omega,?_,fun t a ht hta=>?_⟩ (by dsimp only;omega)
  ·dsimp only;rw [vAG,hg,vBg,hx];rfl
  by_cases hti:t=i
  ·subst hti;rw [hg] at hta;cases hta;omega
  exact ha t a (by omega) hta
 have hie:i=R.length:=by omega
 have hall:R.all (fun a=>decide (0≤cC list a q 0))=true:=H3.2 (fun a hm=>by
  obtain⟨t,ht⟩:=vAz hm
  have:=(bV.1 ht).1;exact decide_eq_true (ha t a (by omega) ht))
 rw [hco,hall,Bool.and_true];refine aB (qD (by omega) hl hd h1 hq) (aI (fun hneg=>Ev.some ?_) fun hpos=>Ev.some ?_)
 ·rw [if_neg (by rw [decide_eq_true_eq];omega)]
 rw [if_pos (by rw [decide_eq_true_eq];omega),hx,hie,wI]
def ptV(q:List Int):Bool:=decide (q.length≤4)&&q.all fun x=>decide (-9999≤x∧x≤9999)
theorem O4{n:Nat}(hn:5500000≤n){q:List Int}(h:q.length≤1100000):qM n q=some (ptV q):=by
 unfold qM ptV;have hc:=jW (n:=n) (f:=fun q0=>iY n q0) (p:=fun x=> !decide (-9999≤x∧x≤9999)) (l:=q) (fun x _=>by unfold iY;rw [dC];rfl) (by omega) (by omega);simp only [jn,Option.bind];rw [hc];have e:(q.any fun x=> !decide (-9999≤x∧x≤9999))= !(q.all fun x=>decide (-9999≤x∧x≤9999)):=by rw [vAR];simp
 rw [e,show decide ((q.length:Int)≤4)=decide (q.length≤4) from decide_eq_decide.2 (by omega)];cases decide (q.length≤4)<;>simp
theorem N3{n:Nat}(hn:5500000≤n){q:List Int}(h:q.length≤1100000):qC n q=some (ptV q):=by
 refine Ev.eq ?_;unfold qC;refine iR (l:=q) (p:=fun _ x=>decide (-9999≤x∧x≤9999)) (by omega) (by omega) (fun again i x hx hgo hno=>?_) (fun again hall=>?_) (fun⟨i,x,hx,hp⟩=>?_)
 ·have hi:=(bV.1 hx).1;rw [decide_eq_true (show(i:Int)<(q.length:Int) by omega)];refine bY (aB (aQ hx) (aB (o2 n x 9999 (by omega)) ?_));cases hp:decide (-9999≤x∧x≤9999) with
  |true=>show Ev (again _) _;rw [aK (by omega)];exact hgo hp
  |false=>exact Ev.some (hno hp)
 ·rw [decide_eq_false (show¬(q.length:Int)<(q.length:Int) by omega)];refine Ev.some ?_;unfold ptV;rw [H3.2 (fun c hc=>by obtain⟨i,hi⟩:=vAz hc;exact hall i c hi),Bool.and_true];exact decide_eq_decide.2 (by omega)
 unfold ptV;rw [U0.2 ⟨x,cM hx,by rw [hp];simp⟩,Bool.and_false]
theorem Z9{α:Type}(p q:α→Bool): ∀l:List α,(l.all p&&l.all q)=l.all (fun x=>p x&&q x)
 | []=>rfl
 |x::l=>by simp only [List.all_cons,←Z9 p q l];cases p x<;>cases q x<;>cases l.all p<;>cases l.all q<;>rfl
def uD(part:Part):Bool:=decide (1≤part.body.length∧part.body.length≤4)&&part.body.all fun s=>gK s (part.nest.length:Int)
def dP(part:Part):List (List Int):=(NP part.nest).getD []
def cK(list:List Arr)(part:Part):Bool:=(NP part.nest).isSome&&(uD part&&part.body.all fun s=>(dP part).all fun q=>cE list s q&&ptV q)
def aFh(x:Part):Prop:=SmN x.nest∧x.body.length≤1100000∧ ∀s∈x.body,SmS s
def SmP(p:Prog):Prop:=SmR p.arrays∧p.parts.length≤1100000∧ ∀x∈p.parts,aFh x
theorem zD{list:List Arr}{x:Part}(h:cK list x=true):NP x.nest=some (dP x)∧(1≤x.body.length∧x.body.length≤4)∧(∀s∈x.body,gK s (x.nest.length:Int)=true)∧ ∀s∈x.body,∀q∈dP x,cE list s q=true∧ptV q=true:=by
 simp only [cK,uD,Bool.and_eq_true,decide_eq_true_eq,List.all_eq_true] at h;refine⟨?_,h.2.1.1,h.2.1.2,h.2.2⟩;unfold dP;cases hn:NP x.nest with
 |none=>rw [hn] at h;simp at h
 |some ps=>rfl
theorem aBE{list:List Arr}(h:fB list=true):list.length≤4∧eK list:=by
 simp only [fB,Bool.and_eq_true,decide_eq_true_eq] at h;refine⟨h.2,fun x hx=>?_⟩;obtain⟨i,hi⟩:=vAz hx
 have:=zX h.1 hi;simp only [H1,Bool.and_eq_true] at this;exact this.2.2
theorem U6{n:Nat}(hn:7700000≤n){list:List Arr}(hl:list.length≤4)(hd:eK list){x:Part}(hx:aFh x):
  sU n list x=some (if cK list x=true then(((dP x).length:Int)*(x.body.length:Int),true) else(0,false)):=by
 obtain⟨h1,h2,h3⟩:=hx;refine Ev.eq ?_;unfold sU;generalize hT:(if cK list x=true then(((dP x).length:Int)*(x.body.length:Int),true) else((0:Int),false))=T;refine aB (xA (by omega) h1) ?_;have hbad:cK list x=false→((0:Int),false)=T:=fun h=>by rw [←hT,h];rfl
 refine Ev.jn (fun z=>z= !((NP x.nest).isSome&&decide (1≤x.body.length∧x.body.length≤4))) (fun j hj=>?_) fun z hz=>?_
 ·cases hN:NP x.nest with
  |none=>exact bY (hj _ (by rw [hN];rfl))
  |some ps=>
   refine bA (aI (fun h=>hj _ ?_) fun h=>hj _ ?_)
   ·rw [hN,decide_eq_false (by omega)];rfl
   rw [hN];by_cases h4:x.body.length≤4
   ·rw [decide_eq_false (show¬(4:Int)<(x.body.length:Int) by omega),decide_eq_true (by omega)];rfl
   rw [decide_eq_true (show(4:Int)<(x.body.length:Int) by omega),decide_eq_false (by omega)];rfl
 subst hz;cases hN:NP x.nest with
 |none=>exact Ev.some (hbad (by unfold cK;rw [hN];rfl))
 |some ps=>
  obtain⟨hf,hp1,hp2,hp3,hp4⟩:=aFn hN;have hpp:dP x=ps:=by unfold dP;rw [hN];rfl
  by_cases hb:1≤x.body.length∧x.body.length≤4
  ·rw [decide_eq_true hb];refine bA ?_;have hok:cK list x=x.body.all (fun s=>gK s (x.nest.length:Int)&&ps.all fun q=>cE list s q&&ptV q):=by
    unfold cK uD;rw [hN,hpp,decide_eq_true hb,Option.isSome_some,S6,S6];exact Z9 _ _ _
   refine Ev.loop (fun y:Int=> ∃i:Nat,y=i∧i≤x.body.length∧ ∀(t:Nat) s,t<i→x.body[t]? =some s→(gK s (x.nest.length:Int)&&ps.all fun q=>cE list s q&&ptV q)=true) (fun y=>x.body.length-y.toNat) ?_ n _ ⟨0,rfl,by omega,fun t s h=>by omega⟩ (by simp;omega);rintro again y ⟨i,rfl,hi,ha⟩ hr;refine aI (fun hlt=>?_) fun hge=>Ev.some ?_
   ·have hg:=cN (show i<x.body.length by omega);have hm:=cM hg;refine aB (aQ hg) (aB (yV (by omega) (h3 _ hm) _) ?_);cases hsv:gK x.body[i] (x.nest.length:Int) with
    |false=>
     refine bY (Ev.some (hbad ?_));rw [hok];exact U0.2 ⟨_,hm,by rw [hsv];simp⟩
    |true=>
     refine bA ?_;show Ev (aO (fun again9 (x8:Int)=>bif decide (x8<(ps.length:Int)) then _ else _) n 0) _;refine Ev.loop (fun y:Int=> ∃k:Nat,y=k∧k≤ps.length∧ ∀(t:Nat) q,t<k→ps[t]? =some q→(cE list x.body[i] q&&ptV q)=true) (fun y=>ps.length-y.toNat) ?_ n _ ⟨0,rfl,by omega,fun t s h=>by omega⟩ (by simp;omega);rintro again9 y ⟨k,rfl,hk,hak⟩ hr9;refine aI (fun hlt9=>?_) fun hge9=>?_
     ·have hgk:=cN (show k<ps.length by omega);have hmk:=cM hgk;have hq:=hp2 _ hmk;have hql:ps[k].length≤1100000:=by have:=hq.1;have:=hq.2.1;omega
      refine aB (aQ hgk) (aB (N1 (by omega) hl hd hsv hq) (Ev.jn (fun z=>z= !(cE list x.body[i] ps[k]&&ptV ps[k])) (fun j hj=>?_) fun z hz=>?_))
      ·cases hc:cE list x.body[i] ps[k] with
       |false=>
        rw [hc] at hj;exact bY (hj _ rfl)
       |true=>
        rw [hc] at hj;exact bA (aB (N3 (by omega) hql) (hj _ rfl))
      subst hz;cases hc:(cE list x.body[i] ps[k]&&ptV ps[k]) with
      |false=>
       refine Ev.some (hbad ?_);rw [hok];refine U0.2 ⟨_,hm,?_⟩;rw [hsv,S6];rw [U0.2 ⟨_,hmk,by rw [hc];simp⟩];simp
      |true=>
       show Ev (again9 _) _;rw [aK (by omega)];refine hr9 _ ⟨k+1,by omega,by omega,fun t q ht htq=>?_⟩ (by omega);by_cases htk:t=k
       ·subst htk;rw [hgk] at htq;cases htq;exact hc
       exact hak t q (by omega) htq
     rw [aK (by omega)];refine hr _ ⟨i+1,by omega,by omega,fun t s ht hts=>?_⟩ (by omega);by_cases hti:t=i
     ·subst hti;rw [hg] at hts;cases hts;rw [hsv,S6];refine H3.2 fun q hq=>?_;obtain⟨t',ht'⟩:=vAz hq
      have:=(bV.1 ht').1;exact hak t' q (by omega) ht'
     exact ha t s (by omega) hts
   have hall:cK list x=true:=by
    rw [hok];refine H3.2 fun s hs=>?_;obtain⟨t,ht⟩:=vAz hs
    have:=(bV.1 ht).1;exact ha t s (by omega) ht
   rw [←hT,hall,if_pos rfl,hpp];show(wr ((ps.length:Int)*(x.body.length:Int)),true)=_;have hb1:(0:Int)≤(ps.length:Int)*(x.body.length:Int):=vBd (by omega) (by omega);have hb2:(ps.length:Int)*(x.body.length:Int)≤120*4:=vBj (by omega) (by omega) (by omega) (by omega);rw [aK (by omega)]
  rw [decide_eq_false hb];refine Ev.some (hbad ?_);unfold cK uD;rw [decide_eq_false hb];simp
def d0(x:Part):Int:=((dP x).length:Int)*(x.body.length:Int)
def instP(i:Nat)(x:Part):List Inst:=(dP x).flatMap fun q=>(List.range x.body.length).map fun(k:Nat)=>(⟨(i:Int),(k:Int),q⟩:Inst)
def insts(ps:List Part):List Inst:=ps.zipIdx.flatMap fun y=>instP y.2 y.1
def mL(p:Prog):Bool:=fB p.arrays&&(decide (p.parts.length≤4)&&p.parts.all (cK p.arrays))
def cR(p:Prog):Bool:=mL p&&decide ((p.parts.map d0).sum≤120)
theorem insts_snoc(l:List Part)(x:Part):insts (l++[x])=insts l++instP l.length x:=by unfold insts;rw [List.zipIdx_append,vAV];simp
theorem insts_take{l:List Part}{i:Nat}{x:Part}(h:l[i]? =some x):insts (l.take (i+1))=insts (l.take i)++instP i x:=by have hi:=(bV.1 h).1;rw [vAG,h];show insts (l.take i++[x])=_;rw [insts_snoc,D7,Nat.min_eq_left (Nat.le_of_lt hi)]
theorem tM{α β:Type}(f:α→List β)(m:Nat)(h: ∀x,(f x).length=m): ∀l:List α,(l.flatMap f).length=l.length*m
 | []=>by simp
 |x::l=>by rw [List.flatMap_cons,n8,h,tM f m h l,List.length_cons,kV];omega
theorem instP_len(i:Nat)(x:Part):((instP i x).length:Int)=d0 x:=by unfold instP d0;rw [tM _ x.body.length fun q=>by simp];exact Int.natCast_mul _ _
theorem U4{l:List Part}{i:Nat}{x:Part}(h:l[i]? =some x):((l.take (i+1)).map d0).sum=((l.take i).map d0).sum+d0 x:=by rw [vAG,h];simp
theorem insts_len: ∀(l:List Part) (i:Nat),i≤l.length→((insts (l.take i)).length:Int)=((l.take i).map d0).sum
 |l,0,_=>by simp [insts]
 |l,i+1,h=>by
  have hg:=cN (show i<l.length by omega);rw [insts_take hg,n8,U4 hg]
  have:=insts_len l i (by omega)
  have:=instP_len i l[i];omega
theorem insts_len'(l:List Part):((insts l).length:Int)=(l.map d0).sum:=by
 have:=insts_len l l.length (jJ _)
 rwa [wI] at this
theorem wA{list:List Arr}{x:Part}(h:cK list x=true):0≤d0 x∧d0 x≤480:=by
 obtain⟨h1,h2,_⟩:=zD h;obtain⟨_,h3,_⟩:=aFn h1;unfold d0;refine⟨vBd (by omega) (by omega),?_⟩
 have:=vBj (show((dP x).length:Int)≤120 by omega) (show(x.body.length:Int)≤4 by omega) (by omega) (by omega);omega
theorem l6{n:Nat}(hn:7700000≤n){p:Prog}(hp:SmP p):eV n p=some (cR p):=by
 obtain⟨h1,h2,h3⟩:=hp;refine Ev.eq ?_;unfold eV;generalize hT:cR p=T;unfold cR mL at hT;refine Ev.jn (fun z=>z= !(fB p.arrays&&decide (p.parts.length≤4))) (fun j hj=>aB (E1 (by omega) h1) ?_) fun z hz=>?_
 ·cases ha:fB p.arrays with
  |false=>exact bY (hj _ (by rw [ha];rfl))
  |true=>
   refine bA (hj _ ?_);rw [ha];by_cases h4:p.parts.length≤4
   ·rw [decide_eq_false (show¬(4:Int)<(p.parts.length:Int) by omega),decide_eq_true h4];rfl
   rw [decide_eq_true (show(4:Int)<(p.parts.length:Int) by omega),decide_eq_false h4];rfl
 subst hz;cases hb:(fB p.arrays&&decide (p.parts.length≤4)) with
 |false=>
  refine Ev.some ?_;rw [←hT,←vAZ,hb];rfl
 |true=>
  have hT':T=(p.parts.all (cK p.arrays)&&decide ((p.parts.map d0).sum≤120)):=by rw [←hT,←vAZ,hb];rfl
  rw [Bool.and_eq_true,decide_eq_true_eq] at hb;obtain⟨hl,hd⟩:=aBE hb.1;refine bA ?_;refine Ev.loop (fun x:Int×Int=> ∃i:Nat,x.2=i∧i≤p.parts.length∧x.1=((p.parts.take i).map d0).sum∧0≤x.1∧x.1≤480*i∧ ∀(t:Nat) y,t<i→p.parts[t]? =some y→cK p.arrays y=true) (fun x=>p.parts.length-x.2.toNat) ?_ n _ ⟨0,rfl,by omega,by simp,by simp,by simp,fun t y h=>by omega⟩ (by dsimp only;omega);rintro again ⟨x,z⟩ ⟨i,hz,hi,hx,hx0,hx1,ha⟩ hr;dsimp only at hz hx hx0 hx1 ha⊢;subst hz;refine aI (fun hlt=>?_) fun hge=>Ev.some ?_
  ·have hg:=cN (show i<p.parts.length by omega);have hm:=cM hg;refine aB (aQ hg) (aB (U6 (by omega) hl hd (h3 _ hm)) ?_);cases hpo:cK p.arrays p.parts[i] with
   |false=>
    rw [if_neg (by simp)];refine Ev.some ?_;rw [hT',U0.2 ⟨_,hm,by rw [hpo];simp⟩];rfl
   |true=>
    rw [if_pos rfl];have hcb:=wA hpo;show Ev (again (wr (x+d0 p.parts[i]),wr ((i:Int)+1))) _;rw [aK (n:=x+d0 p.parts[i]) (by omega),aK (by omega)];refine hr _ ⟨i+1,by dsimp only;omega,by omega,by dsimp only;rw [U4 hg];omega,by dsimp only;omega,by dsimp only;omega,fun t y ht hty=>?_⟩ (by dsimp only;omega);by_cases hti:t=i
    ·subst hti;rw [hg] at hty;cases hty;exact hpo
    exact ha t y (by omega) hty
  have hie:i=p.parts.length:=by omega
  have hall:p.parts.all (cK p.arrays)=true:=H3.2 (fun y hy=>by
   obtain⟨t,ht⟩:=vAz hy
   have:=(bV.1 ht).1;exact ha t y (by omega) ht)
  rw [hT',hall,S6,hx,hie,wI]
theorem pC{α:Type}(f:Nat→α)(k:Nat):(List.range (k+1)).map f=(List.range k).map f++[f k]:=by rw [List.range_succ,vBg];rfl
theorem lI{n:Nat}(hn:7700000≤n){p:Prog}(hp:SmP p):bQ n p=some (if mL p=true then(insts p.parts,decide ((insts p.parts).length≤120)) else([],false)):=by
 obtain⟨h1,h2,h3⟩:=hp;refine Ev.eq ?_;unfold bQ;generalize hT:(if mL p=true then(insts p.parts,decide ((insts p.parts).length≤120)) else([],false))=T;have hbad:mL p=false→(([]:List Inst),false)=T:=fun h=>by rw [←hT,h];rfl
 refine Ev.jn (fun z=>z= !(fB p.arrays&&decide (p.parts.length≤4))) (fun j hj=>aB (E6 (by omega) h1) ?_) fun z hz=>?_
 ·cases ha:fB p.arrays with
  |false=>exact bY (hj _ (by rw [ha];rfl))
  |true=>
   refine bA (hj _ ?_);rw [ha];by_cases h4:p.parts.length≤4
   ·rw [decide_eq_false (show¬(4:Int)<(p.parts.length:Int) by omega),decide_eq_true h4];rfl
   rw [decide_eq_true (show(4:Int)<(p.parts.length:Int) by omega),decide_eq_false h4];rfl
 subst hz;cases hb:(fB p.arrays&&decide (p.parts.length≤4)) with
 |false=>exact Ev.some (hbad (by unfold mL;rw [←vAZ,hb];rfl))
 |true=>
  have hall':mL p=p.parts.all (cK p.arrays):=by unfold mL;rw [←vAZ,hb];rfl
  rw [Bool.and_eq_true,decide_eq_true_eq] at hb;obtain⟨hl,hd⟩:=aBE hb.1;refine bA ?_;refine Ev.loop (fun x:List Inst×Int=> ∃i:Nat,x.2=i∧i≤p.parts.length∧x.1=insts (p.parts.take i)∧x.1.length≤480*i∧ ∀(t:Nat) y,t<i→p.parts[t]? =some y→cK p.arrays y=true) (fun x=>p.parts.length-x.2.toNat) ?_ n _ ⟨0,rfl,by omega,by simp [insts],by simp,fun t y h=>by omega⟩ (by dsimp only;omega);rintro again ⟨x,z⟩ ⟨i,hz,hi,hx,hxl,ha⟩ hr;dsimp only at hz hx hxl ha⊢;subst hz;refine aI (fun hlt=>?_) fun hge=>Ev.some ?_
  ·have hg:=cN (show i<p.parts.length by omega);have hm:=cM hg;obtain⟨s1,s2,s3⟩:=h3 _ hm;generalize hP:p.parts[i]=P at*;have hpb:cK p.arrays P=false→mL p=false:=fun h=>by rw [hall'];exact U0.2 ⟨_,hm,by rw [h];simp⟩
   refine aB (aQ hg) (aB (xG (by omega) s1) (Ev.jn (fun z=>z= !((NP P.nest).isSome&&uD P)) (fun j hj=>?_) fun z hz=>?_))
   ·cases hN:NP P.nest with
    |none=>exact bY (hj _ (by rw [hN];rfl))
    |some ps=>
     refine bA ?_;have hw:bR n (P.body.length:Int) 1 4=some (decide (1≤P.body.length∧P.body.length≤4)):=by
      rw [dC];congr 1;exact decide_eq_decide.2 (by omega)
     refine aB hw ?_;have hc:=F0 (n:=n) (f:=fun q0=>cB n q0 P) (p:=fun s=> !gK s (P.nest.length:Int)) (l:=P.body) (fun s hs=>by unfold cB;rw [z8 (by omega) (s3 s hs)];rfl) (by omega) (by omega);have e:(P.body.any fun s=> !gK s (P.nest.length:Int))= !(P.body.all fun s=>gK s (P.nest.length:Int)):=by rw [vAR];simp
     cases hw2:decide (1≤P.body.length∧P.body.length≤4) with
     |false=>exact bY (hj _ (by unfold uD;rw [hN,hw2];rfl))
     |true=>exact bA (aB hc (hj _ (by unfold uD;rw [hN,hw2,e];rfl)))
   subst hz;cases hN:NP P.nest with
   |none=>exact Ev.some (hbad (hpb (by unfold cK;rw [hN];rfl)))
   |some ps=>
    obtain⟨hf,hp1,hp2,hp3,hp4⟩:=aFn hN;have hpp:dP P=ps:=by unfold dP;rw [hN];rfl
    cases hbv:uD P with
    |false=>exact Ev.some (hbad (hpb (by unfold cK;rw [hbv];simp)))
    |true=>
     have hbv':=hbv;simp only [uD,Bool.and_eq_true,decide_eq_true_eq,List.all_eq_true] at hbv';obtain⟨⟨hb1,hb2⟩,hb3⟩:=hbv';have hok:cK p.arrays P=P.body.all (fun s=>ps.all fun q=>cE p.arrays s q&&ptV q):=by
      unfold cK;rw [hN,hbv,hpp];rfl
     let row:List Int→List Inst:=fun q=>(List.range P.body.length).map fun(k:Nat)=>(⟨(i:Int),(k:Int),q⟩:Inst)
     have hrl: ∀q,(row q).length=P.body.length:=fun q=>by simp [row]
     have hinst:instP i P=ps.flatMap row:=by unfold instP;rw [hpp]
     refine bA ?_;rw [show(aBf (some ps)).1=ps from rfl];refine Ev.loop (fun y:List Inst×Int=> ∃k:Nat,y.2=k∧k≤ps.length∧y.1=x++(ps.take k).flatMap row∧ ∀(t:Nat) q,t<k→ps[t]? =some q→ptV q=true∧ ∀s∈P.body,cE p.arrays s q=true) (fun y=>ps.length-y.2.toNat) ?_ n _ ⟨0,rfl,by omega,by simp,fun t q h=>by omega⟩ (by dsimp only;omega);rintro again17 ⟨y,z⟩ ⟨k,hz,hk,hy,hak⟩ hr17;dsimp only at hz hy hak⊢;subst hz;refine aI (fun hlt2=>?_) fun hge2=>?_
     ·have hgk:=cN (show k<ps.length by omega);have hmk:=cM hgk;generalize hQ:ps[k]=Q at*;have hq:=hp2 _ hmk;have hql:Q.length≤4:=by have:=hq.1;have:=hq.2.1;omega
      refine aB (aQ hgk) (aB (O4 (by omega) (by omega)) ?_);have hyl:y.length≤480*4+480:=by
       rw [hy,n8,tM row _ hrl,D7]
       have:min k ps.length*P.body.length≤120*4:=vBx (by omega) hb2;omega
      cases hpv:ptV Q with
      |false=>
       refine bY (Ev.some (hbad (hpb ?_)));rw [hok];obtain⟨s0,hs0⟩: ∃s0,s0∈P.body:=List.exists_mem_of_length_pos (by omega);refine U0.2 ⟨s0,hs0,?_⟩;rw [U0.2 ⟨Q,hmk,by rw [hpv];simp⟩];simp
      |true=>
       refine bA ?_;refine Ev.loop (fun u:List Inst×Int=> ∃m:Nat,u.2=m∧m≤P.body.length∧u.1=y++(List.range m).map (fun(k:Nat)=>(⟨(i:Int),(k:Int),Q⟩:Inst))∧ ∀(t:Nat) s,t<m→P.body[t]? =some s→cE p.arrays s Q=true) (fun u=>P.body.length-u.2.toNat) ?_ n _ ⟨0,rfl,by omega,by simp,fun t s h=>by omega⟩ (by dsimp only;omega);rintro again23 ⟨u,z⟩ ⟨m,hz,hmm,hu,ham⟩ hr23;dsimp only at hz hu ham⊢;subst hz;refine aI (fun hlt3=>?_) fun hge3=>?_
       ·have hgm:=cN (show m<P.body.length by omega);have hmem:=cM hgm;refine aB (aQ hgm) (aB (W3 (by omega) hl hd (hb3 _ hmem) hq) ?_);cases hco:cE p.arrays P.body[m] Q with
        |false=>
         refine bY (Ev.some (hbad (hpb ?_)));rw [hok];refine U0.2 ⟨_,hmem,?_⟩;rw [U0.2 ⟨Q,hmk,by rw [hco];simp⟩];simp
        |true=>
         have hcl:m_ownClone Q=some Q:=by unfold m_ownClone;rw [if_pos (by omega)]
         have hul:u.length≤480*4+480+4:=by rw [hu];simp;omega
         refine bA (aB hcl (aB (jF (by simp;omega)) ?_));rw [aK (by omega)];refine hr23 _ ⟨m+1,by dsimp only;omega,by omega,?_,fun t s ht hts=>?_⟩ (by dsimp only;omega)
         ·dsimp only;rw [hu,pC,vAT]
         by_cases htm:t=m
         ·subst htm;rw [hgm] at hts;cases hts;exact hco
         exact ham t s (by omega) hts
       have hme:m=P.body.length:=by omega
       rw [aK (by omega)];refine hr17 _ ⟨k+1,by dsimp only;omega,by omega,?_,fun t q ht htq=>?_⟩ (by dsimp only;omega)
       ·dsimp only;rw [vAG,hgk,vAV,←vAT,←hy,hu,hme];simp [row]
       by_cases htk:t=k
       ·subst htk;rw [hgk] at htq;cases htq;refine⟨hpv,fun s hs=>?_⟩;obtain⟨t',ht'⟩:=vAz hs
        have:=(bV.1 ht').1;exact ham t' s (by omega) ht'
       exact hak t q (by omega) htq
     have hke:k=ps.length:=by omega
     have hpo:cK p.arrays P=true:=by
      rw [hok];refine H3.2 fun s hs=>H3.2 fun q hq=>?_;obtain⟨t,ht⟩:=vAz hq
      have:=(bV.1 ht).1;obtain⟨g1,g2⟩:=hak t q (by omega) ht;rw [g1,g2 s hs];rfl
     have hcb:=wA hpo;have hil:=instP_len i P;rw [aK (by omega)];refine hr _ ⟨i+1,by dsimp only;omega,by omega,?_,?_,fun t y ht hty=>?_⟩ (by dsimp only;omega)
     ·dsimp only;rw [insts_take hg,hinst,hy,hke,wI,hx]
     ·dsimp only;rw [hy,hke,wI,n8,←hinst];omega
     by_cases hti:t=i
     ·subst hti;rw [hg] at hty;cases hty;exact hpo
     exact ha t y (by omega) hty
  have hie:i=p.parts.length:=by omega
  have hall:mL p=true:=by
   rw [hall'];exact H3.2 (fun y hy=>by
    obtain⟨t,ht⟩:=vAz hy
    have:=(bV.1 ht).1;exact ha t y (by omega) ht)
  rw [←hT,if_pos hall,hx,hie,wI];congr 1;exact decide_eq_decide.2 (by omega)
theorem tK{n:Nat}(hn:7700000≤n){p:Prog}(hp:SmP p):gW n p=some (cR p):=by
 unfold gW;rw [lI hn hp];unfold cR;cases h:mL p with
 |false=>rfl
 |true=>
  rw [if_pos rfl];show some (decide _)=_;rw [S6];congr 1
  have:=insts_len' p.parts;exact decide_eq_decide.2 (by omega)
theorem oO{n:Nat}(hn:7700000≤n){p:Prog}(hp:SmP p):dZ n p=some (if cR p=true then insts p.parts else []):=by
 unfold dZ;rw [lI hn hp];unfold cR;cases h:mL p with
 |false=>rfl
 |true=>
  rw [if_pos rfl,S6]
  have:=insts_len' p.parts;by_cases hl:(insts p.parts).length≤120
  ·rw [decide_eq_true hl,decide_eq_true (by omega),if_pos rfl];rfl
  rw [decide_eq_false hl,decide_eq_false (by omega),if_neg (by simp)];rfl
theorem pD{p:Prog}(h:cR p=true):p.arrays.length≤4∧eK p.arrays∧p.parts.length≤4∧(∀x∈p.parts,cK p.arrays x=true)∧(insts p.parts).length≤120:=by
 simp only [cR,mL,Bool.and_eq_true,decide_eq_true_eq,List.all_eq_true] at h;obtain⟨⟨h1,h2,h3⟩,h4⟩:=h;obtain⟨a,b⟩:=aBE h1
 have:=insts_len' p.parts;exact⟨a,b,h2,h3,by omega⟩
theorem o8{n:Nat}(hn:7700000≤n){p:Prog}(hv:cR p=true):fT n p=some (insts p.parts):=by
 obtain⟨hl,hd,h4,hpo,hil⟩:=pD hv;refine Ev.eq ?_;unfold fT;refine Ev.loop (fun x:List Inst×Int=> ∃i:Nat,x.2=i∧i≤p.parts.length∧x.1=insts (p.parts.take i)∧x.1.length≤480*i) (fun x=>p.parts.length-x.2.toNat) ?_ n _ ⟨0,rfl,by omega,by simp [insts],by simp⟩ (by dsimp only;omega);rintro again ⟨x,z⟩ ⟨i,hz,hi,hx,hxl⟩ hr;dsimp only at hz hx hxl⊢;subst hz;refine aI (fun hlt=>?_) fun hge=>Ev.some ?_
 ·have hg:=cN (show i<p.parts.length by omega);have hm:=cM hg;have hpP:=hpo _ hm;generalize hP:p.parts[i]=P at*;obtain⟨q1,q2,q3,q4⟩:=zD hpP;obtain⟨hf,hp1,hp2,hp3,hp4⟩:=aFn q1;generalize hpp:dP P=ps at*;have hcb:=wA hpP;have hil':=instP_len i P;let row:List Int→List Inst:=fun q=>(List.range P.body.length).map fun(k:Nat)=>(⟨(i:Int),(k:Int),q⟩:Inst)
  have hrl: ∀q,(row q).length=P.body.length:=fun q=>by simp [row]
  have hinst:instP i P=ps.flatMap row:=by unfold instP;rw [hpp]
  refine aB (aQ hg) (fX (o4 hf P.nest n 0 [] [] (by have:=hf.1;omega) rfl (by omega) pt0 hp4 (by simp)) fun r ⟨r1,r2⟩=>?_);have hr1:r=ps:=by rw [r1 (by rw [←hp3];simpa using hp1),hp3];rfl
  subst hr1;refine Ev.loop (fun y:List Inst×Int=> ∃k:Nat,y.2=k∧k≤r.length∧y.1=x++(r.take k).flatMap row) (fun y=>r.length-y.2.toNat) ?_ n _ ⟨0,rfl,by omega,by simp⟩ (by dsimp only;omega);rintro again10 ⟨y,z⟩ ⟨k,hz,hk,hy⟩ hr10;dsimp only at hz hy⊢;subst hz;refine aI (fun hlt2=>?_) fun hge2=>?_
  ·have hgk:=cN (show k<r.length by omega);have hmk:=cM hgk;generalize hQ:r[k]=Q at*;have hq:=hp2 _ hmk;have hql:Q.length≤4:=by have:=hq.1;have:=hq.2.1;omega
   have hyl:y.length≤480*4+480:=by
    rw [hy,n8,tM row _ hrl,D7]
    have:min k r.length*P.body.length≤120*4:=vBx (by omega) q2.2;omega
   refine Ev.loop (fun u:List Inst×Int=> ∃m:Nat,u.2=m∧m≤P.body.length∧u.1=y++(List.range m).map (fun(k:Nat)=>(⟨(i:Int),(k:Int),Q⟩:Inst))) (fun u=>P.body.length-u.2.toNat) ?_ n _ ⟨0,rfl,by omega,by simp⟩ (by dsimp only;omega);rintro again14 ⟨u,z⟩ ⟨m,hz,hmm,hu⟩ hr14;dsimp only at hz hu⊢;subst hz;refine aI (fun hlt3=>?_) fun hge3=>?_
   ·have hul:u.length≤480*4+480+4:=by rw [hu];simp;omega
    refine aB (aQ hgk) (aB (gF _ (by omega)) (aB (jF (by simp;omega)) ?_));rw [aK (by omega)];refine hr14 _ ⟨m+1,by dsimp only;omega,by omega,?_⟩ (by dsimp only;omega);dsimp only;rw [hu,pC,vAT]
   have hme:m=P.body.length:=by omega
   rw [aK (by omega)];refine hr10 _ ⟨k+1,by dsimp only;omega,by omega,?_⟩ (by dsimp only;omega);dsimp only;rw [vAG,hgk,vAV,←vAT,←hy,hu,hme];simp [row]
  have hke:k=r.length:=by omega
  rw [aK (by omega)];refine hr _ ⟨i+1,by dsimp only;omega,by omega,?_,?_⟩ (by dsimp only;omega)
  ·dsimp only;rw [insts_take hg,hinst,hy,hke,wI,hx]
  dsimp only;rw [hy,hke,wI,n8,←hinst];omega
 have hie:i=p.parts.length:=by omega
 rw [hx,hie,wI]
theorem aAD{l:List Arr}{i:Nat}{x:Arr}(h:l[i]? =some x):kW (l.take (i+1))=kW (l.take i)+E0 x.dims:=by unfold kW;rw [List.take_add_one,h];simp
theorem yS{n:Nat}(hn:7700000≤n){p:Prog}(hl:p.arrays.length≤4)(hd:eK p.arrays):qA n p=some (kW p.arrays):=by
 refine Ev.eq ?_;unfold qA;refine Ev.loop (fun x:Int×Int=> ∃i:Nat,x.2=i∧i≤p.arrays.length∧x.1=kW (p.arrays.take i)∧0≤x.1∧x.1≤36*i) (fun x=>p.arrays.length-x.2.toNat) ?_ n _ ⟨0,rfl,by omega,by simp [kW],by simp,by simp⟩ (by dsimp only;omega);rintro again ⟨x,z⟩ ⟨i,hz,hi,hx,hx0,hx1⟩ hr;dsimp only at hz hx hx0 hx1⊢;subst hz;refine aI (fun hlt=>?_) fun hge=>Ev.some ?_
 ·have hg:=cN (show i<p.arrays.length by omega);have hdm:=hd _ (cM hg);have hsz:=U3 hdm;refine aB (aQ hg) (aB (o5 (by omega) hdm) ?_);rw [aK (n:=x+E0 p.arrays[i].dims) (by omega),aK (by omega)];exact hr _ ⟨i+1,by dsimp only;omega,by omega,by dsimp only;rw [aAD hg];omega,by dsimp only;omega,by dsimp only;omega⟩ (by dsimp only;omega)
 have hie:i=p.arrays.length:=by omega
 rw [hx,hie,wI]
theorem aAY{n:Nat}(hn:7700000≤n){p:Prog}(hl:p.arrays.length≤4)(hd:eK p.arrays):jD n p=some (kW p.arrays):=yS hn hl hd
def rR(p:Prog)(m:List Int):Bool:=cR p&&(decide ((m.length:Int)=kW p.arrays)&&m.all fun x=>decide (0≤x∧x≤999))
theorem vV{n:Nat}(hn:7700000≤n){p:Prog}(hp:SmP p){m:List Int}(hm:m.length≤1100000):iN n p m=some (rR p m):=by
 refine Ev.eq ?_;unfold iN;generalize hT:rR p m=T;unfold rR at hT;refine Ev.jn (fun z=>z=T) (fun j hj=>aB (tK hn hp) ?_) fun z hz=>Ev.some hz;cases hv:cR p with
 |false=>exact bA (hj _ (by rw [←hT,hv];rfl))
 |true=>
  obtain⟨hl,hd,_⟩:=pD hv;have hc:=jW (n:=n) (f:=fun q0=>d9 n q0) (p:=fun x=> !decide (0≤x∧x≤999)) (l:=m) (fun x _=>by unfold d9;rw [dC];rfl) (by omega) (by omega);have e:(m.any fun x=> !decide (0≤x∧x≤999))= !(m.all fun x=>decide (0≤x∧x≤999)):=by rw [vAR];simp
  refine bY (aB (aAY hn hl hd) (aI (fun h=>aB hc (hj _ ?_)) fun h=>hj _ ?_))
  ·rw [←hT,hv,decide_eq_true h,e];simp
  rw [←hT,hv,decide_eq_false h];rfl
theorem vA{n:Nat}(hn:7700000≤n){p:Prog}(hp:SmP p){m:List Int}(hm:m.length≤1100000):iM n p m=some (rR p m):=by
 refine Ev.eq ?_;unfold iM;generalize hT:rR p m=T;unfold rR at hT;refine iR (l:=m) (p:=fun _ x=>decide (0≤x∧x≤999)) (by omega) (by omega) (fun again i x hx hgo hno=>?_) (fun again hall=>?_) (fun⟨i,x,hx,hp⟩=>?_)
 ·have hi:=(bV.1 hx).1;rw [decide_eq_true (show(i:Int)<(m.length:Int) by omega)];refine bY (Ev.jn (fun z=>z= !decide (0≤x∧x≤999)) (fun j hj=>aB (aQ hx) (aI (fun h=>hj _ ?_) fun h=>hj _ ?_)) fun z hz=>?_)
  ·rw [decide_eq_false (by omega)];rfl
  ·by_cases h9:x≤999
   ·rw [decide_eq_false (show¬(999:Int)<x by omega),decide_eq_true (by omega)];rfl
   rw [decide_eq_true (show(999:Int)<x by omega),decide_eq_false (by omega)];rfl
  subst hz;cases hb:decide (0≤x∧x≤999) with
  |true=>show Ev (again _) _;rw [aK (by omega)];exact hgo hb
  |false=>exact Ev.some (hno hb)
 ·rw [decide_eq_false (show¬(m.length:Int)<(m.length:Int) by omega)];have hal:m.all (fun x=>decide (0≤x∧x≤999))=true:=H3.2 fun c hc=>by obtain⟨i,hi⟩:=vAz hc;exact hall i c hi
  refine bA (Ev.jn (fun z=>z=T) (fun j hj=>aB (l6 hn hp) ?_) fun z hz=>Ev.some hz);cases hv:cR p with
  |false=>exact bA (hj _ (by rw [←hT,hv];rfl))
  |true=>
   obtain⟨hl,hd,_⟩:=pD hv;refine bY (aB (yS hn hl hd) (hj _ ?_));rw [←hT,hv,hal];simp
 rw [←hT,U0.2 ⟨x,cM hx,by rw [hp];simp⟩];simp
theorem sP(x:Int):Int.tmod x 1000=if 0≤x then x%1000 else-((-x)%1000):=by
 split
 ·rename_i h;exact Int.tmod_eq_emod_of_nonneg h
 rename_i h;have h2:0≤ -x:=by omega
 have e1:Int.tmod x 1000= -(Int.tmod (-x) 1000):=by rw [Int.neg_tmod,Int.neg_neg]
 rw [e1,Int.tmod_eq_emod_of_nonneg h2]
theorem mC(n:Nat)(x:Int):lH n x=some (x%1000):=by
 unfold lH;rw [sP x];congr 1;split
 ·rw [aK (n:=x%1000+999) (by omega),aK (by omega),sP,if_pos (by omega)];omega
 rw [aK (n:= -(-x%1000)+999) (by omega),aK (by omega),sP,if_pos (by omega)];omega
theorem pZ(n:Nat)(x:Int):kX n x=some (x%1000):=by
 unfold kX;rw [sP x];refine Ev.eq (aI (fun h=>Ev.some ?_) fun h=>Ev.some ?_)
 ·split at h
  ·omega
  rename_i h0;rw [if_neg h0,aK (n:= -(-x%1000)+999) (by omega),aK (by omega)];omega
 split at h
 ·rename_i h0;rw [if_pos h0]
 rename_i h0;rw [if_neg h0];omega
def sK:Nat→List Arr→List Int→Expr→List Int→Int
 |0,_,_,_,_=>0
 |L+1,list,m,e,q=>
  if e.kind=1 then e.num
  else if e.kind=2 then dV e.index q%1000
  else if e.kind=3 then m.getD (cC list e.read q 0).toNat 0
  else match e.kids with
   | [a,b]=>if e.kind=4 then(sK L list m a q+sK L list m b q)%1000 else if e.kind=5 then(sK L list m a q-sK L list m b q)%1000 else(sK L list m a q*sK L list m b q)%1000
   |_=>0
def lR(list:List Arr)(m:List Int):Prop:=(m.length:Int)=kW list∧ ∀x∈m,0≤x∧x≤999
theorem aHN{list:List Arr}{m:List Int}(h:lR list m)(i:Nat):0≤m.getD i 0∧m.getD i 0≤999:=by
 rw [vAH];cases hi:m[i]? with
 |none=>simp
 |some x=>exact h.2 x (cM hi)
theorem yI{list:List Arr}{m:List Int}(hm:lR list m){d:Int}{q:List Int}: ∀{L:Nat} {e:Expr},cO L e d=true→0≤sK L list m e q∧sK L list m e q≤999
 |0,e,h=>by cases h
 |L+1,e,h=>by
  obtain⟨h1,h2,h3⟩:=jL h;simp only [sK];split
  ·rename_i k1;unfold fP at h2;rw [if_neg (by omega),if_neg (by omega),if_pos k1] at h2;simp only [Bool.and_eq_true,decide_eq_true_eq] at h2;omega
  split
  ·omega
  split
  ·exact aHN hm _
  split
  ·split
   ·omega
   split<;>omega
  omega
theorem T7{a b:Int}(ha:0≤a∧a≤999)(hb:0≤b∧b≤999):0≤a*b∧a*b≤999000:=by
 constructor
 ·exact vBd ha.1 hb.1
 have:=vBj ha.2 hb.2 (by omega) (by omega);omega
theorem V9{L:Nat}{e:Expr}{d:Int}(h:cO (L+1) e d=true)(k1: ¬e.kind=1)(k2: ¬e.kind=2)(k3: ¬e.kind=3):(e.kind=4∨e.kind=5∨e.kind=6)∧ ∃a b,e.kids=[a,b]:=by
 obtain⟨h1,_,_⟩:=jL h;unfold eJ at h1;rw [if_neg (by omega)] at h1;split at h1
 ·rename_i hk;refine⟨hk,?_⟩
  have:e.kids.length=2:=by omega
  match hq:e.kids,this with
  | [a,b],_=>exact⟨a,b,rfl⟩
 omega
theorem rS{p:Prog}(hl:p.arrays.length≤4)(hd:eK p.arrays){m:List Int}(hm:lR p.arrays m){d:Int}{k:Nat}{q:List Int}(hq:lQ k q): ∀(L n:Nat) (e:Expr),7700000+L≤n→cO L e d=true→(∀a∈bM L e,0≤cC p.arrays a q 0)→
  i_Program_value (n+1) p m e q=some (sK L p.arrays m e q)
 |0,n,e,_,h,_=>by cases h
 |L+1,n,e,hn,h,hr=>by
  obtain⟨h1,h2,h3⟩:=jL h;unfold i_Program_value;refine Ev.eq ?_;simp only [sK];refine aI (fun k1=>Ev.some (by rw [if_pos k1])) fun k1=>?_;rw [if_neg k1];refine aI (fun k2=>?_) fun k2=>?_
  ·rw [if_pos k2];unfold fP at h2;rw [if_pos k2] at h2;simp only [Bool.and_eq_true,bH] at h2;have ha:=h2.2.2.1;exact aB (aCP (by omega) ha hq) (aB (mC _ _) (Ev.some rfl))
  rw [if_neg k2];refine aI (fun k3=>?_) fun k3=>?_
  ·rw [if_pos k3];have hmem:e.read∈bM (L+1) e:=by simp [bM,k3]
   have ha:=mY h _ hmem;have hc0:=hr _ hmem;rcases xY hd e.read q 0 (yK 0) with hc|hc
   ·omega
   have hlt:(cC p.arrays e.read q 0).toNat<m.length:=by have:=hm.1;omega
   have hg:=cN hlt;have hix:ix m (cC p.arrays e.read q 0)=some m[(cC p.arrays e.read q 0).toNat]:=by
    unfold ix;rw [if_pos hc0,hg]
   refine aB (qO (by omega) hl hd ha hq) (aB hix (Ev.some ?_));rw [vAH,hg];rfl
  rw [if_neg k3];obtain⟨hk,a,b,hab⟩:=V9 h k1 k2 k3;obtain⟨n,rfl⟩: ∃j,n=j+1:=⟨n-1,by omega⟩
  have hsa:=h3 a (by rw [hab];simp);have hsb:=h3 b (by rw [hab];simp);have va:=rS hl hd hm hq L n a (by omega) hsa fun x hx=>hr x (by simp only [bM,List.mem_append,List.mem_flatMap];exact .inr ⟨a,by rw [hab];simp,hx⟩);have vb:=rS hl hd hm hq L n b (by omega) hsb fun x hx=>hr x (by simp only [bM,List.mem_append,List.mem_flatMap];exact .inr ⟨b,by rw [hab];simp,hx⟩);have ba:=yI hm (q:=q) hsa;have bb:=yI hm (q:=q) hsb;have bm:=T7 ba bb;rw [hab];refine aB (x:=a) rfl (aB va (aB (x:=b) rfl (aB vb ?_)));dsimp only;refine aI (fun k4=>?_) fun k4=>?_
  ·rw [if_pos k4,aK (by omega)];exact aB (mC _ _) (Ev.some rfl)
  rw [if_neg k4];refine aI (fun k5=>?_) fun k5=>?_
  ·rw [if_pos k5,aK (by omega)];exact aB (mC _ _) (Ev.some rfl)
  rw [if_neg k5,aK (by omega)];exact aB (mC _ _) (Ev.some rfl)
theorem rH{list:List Arr}(hl:list.length≤4)(hd:eK list){m:List Int}(hm:lR list m){d:Int}{k:Nat}{q:List Int}(hq:lQ k q): ∀(L n:Nat) (e:Expr),7700000+L≤n→cO L e d=true→(∀a∈bM L e,0≤cC list a q 0)→
  s_l5Eval (n+1) list m e q=some (sK L list m e q)
 |0,n,e,_,h,_=>by cases h
 |L+1,n,e,hn,h,hr=>by
  obtain⟨h1,h2,h3⟩:=jL h;unfold s_l5Eval;refine Ev.eq ?_;simp only [sK];refine aI (fun k1=>Ev.some (by rw [if_pos k1])) fun k1=>?_;rw [if_neg k1];refine aI (fun k2=>?_) fun k2=>?_
  ·rw [if_pos k2];unfold fP at h2;rw [if_pos k2] at h2;simp only [Bool.and_eq_true,bH] at h2;have ha:=h2.2.2.1;exact aB (aCB (by omega) ha hq) (aB (pZ _ _) (Ev.some rfl))
  rw [if_neg k2];refine aI (fun k3=>?_) fun k3=>?_
  ·rw [if_pos k3];have hmem:e.read∈bM (L+1) e:=by simp [bM,k3]
   have ha:=mY h _ hmem;have hc0:=hr _ hmem;rcases xY hd e.read q 0 (yK 0) with hc|hc
   ·omega
   have hlt:(cC list e.read q 0).toNat<m.length:=by have:=hm.1;omega
   have hg:=cN hlt;have hix:ix m (cC list e.read q 0)=some m[(cC list e.read q 0).toNat]:=by
    unfold ix;rw [if_pos hc0,hg]
   refine aB (qD (by omega) hl hd ha hq) (aB hix (Ev.some ?_));rw [vAH,hg];rfl
  rw [if_neg k3];obtain⟨hk,a,b,hab⟩:=V9 h k1 k2 k3;obtain⟨n,rfl⟩: ∃j,n=j+1:=⟨n-1,by omega⟩
  have hsa:=h3 a (by rw [hab];simp);have hsb:=h3 b (by rw [hab];simp);have va:=rH hl hd hm hq L n a (by omega) hsa fun x hx=>hr x (by simp only [bM,List.mem_append,List.mem_flatMap];exact .inr ⟨a,by rw [hab];simp,hx⟩);have vb:=rH hl hd hm hq L n b (by omega) hsb fun x hx=>hr x (by simp only [bM,List.mem_append,List.mem_flatMap];exact .inr ⟨b,by rw [hab];simp,hx⟩);have ba:=yI hm (q:=q) hsa;have bb:=yI hm (q:=q) hsb;have bm:=T7 ba bb;rw [hab];refine aB (x:=a) rfl (aB va (aB (x:=b) rfl (aB vb ?_)));dsimp only;refine aI (fun k4=>?_) fun k4=>?_
  ·rw [if_pos k4,aK (by omega)];exact aB (pZ _ _) (Ev.some rfl)
  rw [if_neg k4];refine aI (fun k5=>?_) fun k5=>?_
  ·rw [if_pos k5,aK (by omega)];exact aB (pZ _ _) (Ev.some rfl)
  rw [if_neg k5,aK (by omega)];exact aB (pZ _ _) (Ev.some rfl)
def r6(p:Prog)(x:Inst):Prop:= ∃(i k:Nat) (P:Part) (s:Stmt),x.part=i∧x.stmt=k∧p.parts[i]? =some P∧P.body[k]? =some s∧x.point∈dP P
def aAF(p:Prog)(x:Inst):Option Stmt:=(p.parts[x.part.toNat]?).bind fun P=>P.body[x.stmt.toNat]?
def xC(p:Prog)(m:List Int)(x:Inst):List Int:=match aAF p x with
 |some s=>m.set (cC p.arrays s.write x.point 0).toNat (sK 5 p.arrays m s.value x.point)
 |none=>m
theorem inst_d{p:Prog}(hv:cR p=true){x:Inst}(hx:r6 p x): ∃(i k:Nat) (P:Part) (s:Stmt) (d:Int),x.part=i∧x.stmt=k∧p.parts[i]? =some P∧P.body[k]? =some s∧aAF p x=some s∧gK s d=true∧lQ P.nest.length x.point∧cE p.arrays s x.point=true:=by obtain⟨hl,hd,h4,hpo,hil⟩:=pD hv;obtain⟨i,k,P,s,e1,e2,e3,e4,e5⟩:=hx;obtain⟨q1,q2,q3,q4⟩:=zD (hpo P (cM e3));obtain⟨hf,hp1,hp2,hp3,hp4⟩:=aFn q1;have hs:=cM e4;exact⟨i,k,P,s,_,e1,e2,e3,e4,by unfold aAF;rw [e1,e2,vAQ,e3];exact(by rw [vAQ];exact e4),q3 s hs,hp2 _ e5,(q4 s hs _ e5).1⟩
theorem aCk{list:List Arr}{s:Stmt}{q:List Int}(h:cE list s q=true):0≤cC list s.write q 0∧ ∀a∈bM 5 s.value,0≤cC list a q 0:=by simp only [cE,Bool.and_eq_true,decide_eq_true_eq,List.all_eq_true] at h;exact h
theorem T6{p:Prog}(hd:eK p.arrays){m:List Int}(hm:lR p.arrays m){a:Access}{q:List Int}(h:0≤cC p.arrays a q 0):(cC p.arrays a q 0).toNat<m.length:=by
 rcases xY hd a q 0 (yK 0) with hc|hc
 ·omega
 have:=hm.1;omega
theorem sQ{α:Type}{l:List α}{c:Int}(h0:0≤c)(h:c.toNat<l.length)(x:α):gL l c x=some (l.set c.toNat x):=by unfold gL;rw [if_pos ⟨h0,by omega⟩]
theorem zS{α:Type}{l:List α}{c:Int}(h0:0≤c)(h:c.toNat<l.length):ix l c=some l[c.toNat]:=by unfold ix;rw [if_pos h0,List.getElem?_eq_getElem h]
theorem aBU{p:Prog}(hv:cR p=true){m:List Int}(hm:lR p.arrays m){x:Inst}(hx:r6 p x):lR p.arrays (xC p m x):=by
 obtain⟨i,k,P,s,d,e1,e2,e3,e4,e5,e6,e7,e8⟩:=inst_d hv hx;unfold xC;rw [e5];refine⟨by rw [List.length_set];exact hm.1,fun v hv'=>?_⟩;rcases vBc hv' with h|h
 ·exact hm.2 v h
 rw [h];exact yI hm (yQ e6).2.1
theorem aGx{n:Nat}(hn:7810000≤n){p:Prog}(hv:cR p=true){m:List Int}(hm:lR p.arrays m){x:Inst}(hx:r6 p x):jS n p m x=some (xC p m x):=by
 obtain⟨hl,hd,h4,hpo,hil⟩:=pD hv;obtain⟨i,k,P,s,d,e1,e2,e3,e4,e5,e6,e7,e8⟩:=inst_d hv hx;obtain⟨c1,c2⟩:=aCk e8;obtain⟨s1,s2,s3,s4⟩:=yQ e6;obtain⟨n,rfl⟩: ∃j,n=j+1:=⟨n-1,by omega⟩
 have hlt:=T6 hd hm c1;have hst:gU (n+1) p x=some s:=by
  unfold gU;rw [e1,e2,aQ e3];show Option.bind (ix P.body (k:Int)) _=_;rw [aQ e4];rfl
 refine Ev.eq ?_;unfold jS;refine aB hst (aB (qO (by omega) hl hd s1 e7) (aB (rS hl hd hm e7 5 n s.value (by omega) s2 c2) (aB (zS c1 hlt) (aB (sQ c1 hlt _) (Ev.some ?_)))));unfold xC;rw [e5]
theorem aD1{n:Nat}(hn:7810000≤n){p:Prog}(hv:cR p=true){m:List Int}(hm:lR p.arrays m){x:Inst}(hx:r6 p x):xM n p m x=some (xC p m x):=by
 obtain⟨hl,hd,h4,hpo,hil⟩:=pD hv;obtain⟨i,k,P,s,d,e1,e2,e3,e4,e5,e6,e7,e8⟩:=inst_d hv hx;obtain⟨c1,c2⟩:=aCk e8;obtain⟨s1,s2,s3,s4⟩:=yQ e6;obtain⟨n,rfl⟩: ∃j,n=j+1:=⟨n-1,by omega⟩
 have hlt:=T6 hd hm c1;refine Ev.eq ?_;unfold xM;refine aB (x:=P) (by rw [e1];exact aQ e3) (aB (x:=s) (by rw [e2];exact aQ e4) (aB (qD (by omega) hl hd s1 e7) (aB (rH hl hd hm e7 5 n s.value (by omega) s2 c2) (aB (zS c1 hlt) (aB (sQ c1 hlt _) (Ev.some ?_))))));unfold xC;rw [e5]
theorem insts_mem{ps:List Part}{x:Inst}(h:x∈insts ps): ∃(i k:Nat) (P:Part) (s:Stmt),x.part=i∧x.stmt=k∧ps[i]? =some P∧P.body[k]? =some s∧x.point∈dP P:=by unfold insts at h;rw [List.mem_flatMap] at h;obtain⟨⟨P,i⟩,h1,h2⟩:=h;unfold instP at h2;rw [List.mem_flatMap] at h2;obtain⟨q,h3,h4⟩:=h2;rw [vAX] at h4;obtain⟨k,h5,rfl⟩:=h4;have hk:=List.mem_range.1 h5;exact⟨i,k,P,P.body[k],rfl,rfl,vBf.1 h1,cN hk,h3⟩
def nG(p:Prog)(m:List Int)(l:List Inst):List Int:=l.foldl (xC p) m
theorem H7{p:Prog}(hv:cR p=true): ∀{l:List Inst} {m:List Int},(∀x∈l,r6 p x)→lR p.arrays m→lR p.arrays (nG p m l)
 | [],_,_,h=>h
 |x::l,m,hl,h=>H7 hv (l:=l) (fun y hy=>hl y (by simp [hy])) (aBU hv h (hl x (by simp)))
theorem V0(p:Prog)(m:List Int)(l:List Inst)(x:Inst):nG p m (l++[x])=xC p (nG p m l) x:=by unfold nG;rw [List.foldl_append];rfl
theorem aGZ{p:Prog}{m:List Int}(h:rR p m=true):cR p=true∧lR p.arrays m:=by simp only [rR,Bool.and_eq_true,decide_eq_true_eq,List.all_eq_true] at h;exact⟨h.1,h.2.1,h.2.2⟩
end Go.Lift
