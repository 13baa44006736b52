/- Valid statements. -/
import Derived.Test.YtjmaejilmokdgaaGreatFCore1
set_option maxRecDepth 100000
set_option linter.unusedVariables false
namespace Go.Lift
open Go
def SmE:Nat→Expr→Prop
 |0,_=>True
 |L+1,e=>e.kids.length≤1000∧SmA e.index∧L9 e.read.subs∧ ∀k∈e.kids,SmE L k
def dI:Nat→Expr→Int→Bool
 |0,_,_=>false
 |L+1,e,d=>decide (gT e.kind=e.kids.length)&&(fN e d&&e.kids.all fun k=>dI L k d)
def tD:Nat→Expr→Int
 |0,_=>1
 |L+1,e=>1+(e.kids.map (tD L)).sum
theorem nJ(k:Int):gT k≤2:=by unfold gT;split;omega;split<;>omega
theorem yM(d:Int): ∀(L n:Nat) (e:Expr),5000+L≤n→L≤1000→SmE L e→s_l3Shape (n+1) e d (L:Int)=some (dI L e d)
 |0,n,e,_,_,_=>by unfold s_l3Shape;rfl
 |L+1,n,e,hn,hL,he=>by
  obtain⟨e1,e2,e3,e4⟩:=he;unfold s_l3Shape;refine Ev.eq ?_;refine Ev.jn (fun z=>z= !(decide (gT e.kind=e.kids.length)&&fN e d)) (fun j hj=>aH (fun h=>by omega) fun h=>aA (aDl n _) (dH (fun h=>hj _ ?_) fun h=>aA (aE0 (by omega) e2 e3 d) (hj _ ?_))) fun z hz=>?_
  ·rw [decide_eq_false h];rfl
  ·rw [decide_eq_true h];rfl
  subst hz;unfold dI;cases hb:(decide (gT e.kind=e.kids.length)&&fN e d) with
  |false=>exact Ev.some (by rw [←vBh,hb];rfl)
  |true=>
   rw [←vBh,hb,vAX];refine bV ?_;obtain⟨n,rfl⟩: ∃j,n=j+1:=⟨n-1,by omega⟩
   have ew:wr (((L+1:Nat):Int)-1)=(L:Int):=by rw [aK (by omega)];omega
   rw [ew];refine mS (l:=e.kids) (p:=fun _ k=>dI L k d) (by omega) (by omega) (fun again i x hx hgo hno=>?_) (fun again hall=>?_) (fun⟨i,x,hx,hp⟩=>?_)
   ·have hi:=(cI.1 hx).1;rw [decide_eq_true (show(i:Int)<(e.kids.length:Int) by omega)];refine cE (aA (aN hx) (aA (yM d L n x (by omega) (by omega) (e4 x (cK hx))) ?_));cases hs:dI L x d with
    |true=>show Ev (again _) _;rw [aK (by omega)];exact hgo hs
    |false=>exact Ev.some (hno hs)
   ·rw [decide_eq_false (show¬(e.kids.length:Int)<(e.kids.length:Int) by omega)];refine Ev.some ?_;exact(vAH.2 fun c hc=>by obtain⟨i,hi⟩:=vAL hc;exact hall i c hi).symm
   exact(vAM.2 ⟨x,cK hx,by rw [hp];simp⟩).symm
theorem vZ: ∀(L:Nat) (e:Expr),1≤tD L e
 |0,_=>M0 _
 |L+1,e=>by have:=pG (tD L) e.kids fun k _=>vZ L k;simp only [tD];omega
theorem aEY{α:Type}(f:α→Int)(M:Int): ∀(l:List α),(∀x∈l,f x≤M)→(l.map f).sum≤l.length*M
 | [],_=>by simp
 |x::l,h=>by have h1:=aEY f M l fun y hy=>h y (by simp [hy]);have h2:=h x (by simp);simp only [List.map_cons,List.sum_cons,List.length_cons,Int.natCast_add,Int.add_mul];omega
theorem iB{L:Nat}{e:Expr}{d:Int}(h:dI (L+1) e d=true):gT e.kind=e.kids.length∧fN e d=true∧ ∀k∈e.kids,dI L k d=true:=by simp only [dI,Bool.and_eq_true,decide_eq_true_eq,List.all_eq_true] at h;exact⟨h.1,h.2.1,h.2.2⟩
theorem aCz: ∀{L:Nat} {e:Expr} {d:Int},dI L e d=true→tD L e+1≤2^L
 |0,e,d,h=>by cases h
 |L+1,e,d,h=>by
  obtain⟨h1,_,h2⟩:=iB h;have h3:=aEY (tD L) ((2:Int)^L-1) e.kids fun k hk=>by have:=aCz (h2 k hk);omega
  have h4:=nJ e.kind;have h5:(e.kids.length:Int)*((2:Int)^L-1)≤2*((2:Int)^L-1):=by
   refine Int.mul_le_mul_of_nonneg_right (by omega) ?_
   have:(0:Int)<2^L:=Int.pow_pos (by omega);omega
  simp only [tD];rw [Int.pow_succ];omega
theorem yO{d:Int}: ∀(L n:Nat) (e:Expr),5000+L≤n→L≤5→dI L e d=true→s_l3Count (n+1) e (L:Int)=some (tD L e)
 |0,n,e,_,_,h=>by cases h
 |L+1,n,e,hn,hL,h=>by
  obtain⟨h1,_,h2⟩:=iB h;have h4:=nJ e.kind;have hb: ∀k∈e.kids,tD L k≤40:=fun k hk=>by
   have h5:=aCz (h2 k hk);have h6:(2:Int)^L≤40:=by
    match L,hL with
    |0,_=>decide
    |1,_=>decide
    |2,_=>decide
    |3,_=>decide
    |4,_=>decide
   omega
  unfold s_l3Count;refine Ev.eq ?_;obtain⟨n,rfl⟩: ∃j,n=j+1:=⟨n-1,by omega⟩
  have ew:wr (((L+1:Nat):Int)-1)=(L:Int):=by rw [aK (by omega)];omega
  rw [ew];refine Ev.loop (fun x:Int×Int=> ∃i:Nat,x.2=i∧i≤e.kids.length∧x.1=1+((e.kids.take i).map (tD L)).sum) (fun x=>e.kids.length-x.2.toNat) ?_ (n+1) _ ⟨0,rfl,by omega,by simp⟩ (by simp;omega);rintro again ⟨x,k⟩ ⟨i,hk,hi,hx⟩ hr;dsimp only at hk hx⊢;subst hk;refine Ev.jn (fun z=>z=decide (i<e.kids.length)) (fun j hj=>aH (fun h=>hj _ ?_) fun h=>hj _ ?_) fun z hz=>?_
  ·rw [decide_eq_true (show(0:Int)<((L+1:Nat):Int) by omega),decide_eq_true (by omega)]
  ·rw [decide_eq_false (by omega)]
  subst hz;refine aH (fun hlt=>?_) fun hge=>Ev.some ?_
  ·have hk2:=cD hlt;have hm:=cK hk2;refine aA (aN hk2) (aA (yO (d:=d) L n _ (by omega) (by omega) (h2 _ hm)) ?_);have hs:=aEY (tD L) 40 (e.kids.take i) fun y hy=>hb y (vAD hy);have hs2:=pG (tD L) (e.kids.take i) fun y _=>vZ L y;have hb2:=hb _ hm;have hb3:=vZ L e.kids[i];have hl:((e.kids.take i).length:Int)≤2:=by simp;omega
   rw [aK (n:=x+tD L e.kids[i]) (by omega),aK (by omega)];refine hr _ ⟨i+1,by dsimp only;omega,by omega,?_⟩ (by dsimp only;omega);dsimp only;rw [v7,hk2,vAI,List.sum_append,hx];simp;omega
  have:i=e.kids.length:=by omega
  rw [hx,this,oE];rfl
def aDv(e:Expr):Bool:=(decide (e.kind=1)||decide (e.num=0))&&((decide (e.kind=2)||iX e.index)&&(decide (e.kind=3)||l9 e.read))
theorem pM(d:Int): ∀(L n:Nat) (e:Expr) (c:Int),5000+L≤n→L≤5→SmE L e→0≤c→c≤12→
  Ev (i_exprScan (n+1) e d (6-(L:Int)) c) (fun r=>r.1=(dI L e d&&decide (c+tD L e≤12))∧(r.1=true→r.2=c+tD L e))
 |0,n,e,c,hn,hL,he,h0,h1=>by
  unfold i_exprScan;refine Ev.jn (fun z=>z=true) (fun j hj=>aH (fun h=>hj _ rfl) fun h=>hj _ (by decide)) fun z hz=>?_;subst hz;exact Ev.some ⟨rfl,fun h=>by cases h⟩
 |L+1,n,e,c,hn,hL,he,h0,h1=>by
  obtain⟨e1,e2,e3,e4⟩:=he;have hcp:=vZ (L+1) e;unfold i_exprScan;have ew:wr (c+1)=c+1:=aK (by omega);have ed:wr (6-(((L+1:Nat)):Int)+1)=6-(L:Int):=by rw [aK (by omega)];omega
  rw [ew,ed];refine Ev.jn (fun z=>z=decide (12<c+1)) (fun j hj=>aH (fun h=>hj _ (decide_eq_true h).symm) fun h=>hj _ ?_) fun z hz=>?_
  ·rw [decide_eq_false h,decide_eq_false (by omega)]
  subst hz;refine aH (fun h=>Ev.some ⟨?_,fun h=>by cases h⟩) fun hc=>?_
  ·rw [decide_eq_false (show¬c+tD (L+1) e≤12 by omega),vBp]
  refine Ev.jn (fun z=>z= !aDv e) (fun j hj=>?_) fun z hz=>?_
  ·rw [aAs,aAt];unfold aDv at hj;simp only [Option.bind];by_cases k1:e.kind=1
   ·have k2: ¬e.kind=2:=by omega
    have k3: ¬e.kind=3:=by omega
    rw [decide_eq_true k1,decide_eq_false k2,decide_eq_false k3] at*;simp only [Bool.not_true,Bool.not_false,cond_true,cond_false,Bool.true_or,Bool.true_and,Bool.false_or] at*;cases ha:iX e.index with
    |false=>exact hj _ (by rw [ha];rfl)
    |true=>exact hj _ (by rw [ha];rfl)
   rw [decide_eq_false k1] at*;simp only [Bool.not_false,cond_true,Bool.false_or] at*;by_cases hnum:e.num=0
   ·rw [decide_eq_true hnum] at*;simp only [Bool.not_true,cond_false,Bool.true_and] at*;by_cases k2:e.kind=2
    ·have k3: ¬e.kind=3:=by omega
     rw [decide_eq_true k2,decide_eq_false k3] at*;simp only [Bool.not_true,Bool.not_false,cond_true,cond_false,Bool.true_or,Bool.true_and,Bool.false_or] at*;exact hj _ rfl
    rw [decide_eq_false k2] at*;simp only [Bool.not_false,cond_true,Bool.false_or] at*;cases ha:iX e.index with
    |false=>exact hj _ (by rw [ha];rfl)
    |true=>
     by_cases k3:e.kind=3
     ·rw [decide_eq_true k3] at*;exact hj _ (by rw [ha];rfl)
     rw [decide_eq_false k3] at*;exact hj _ (by rw [ha];rfl)
   rw [decide_eq_false hnum] at*;exact hj _ rfl
  subst hz;cases hp:aDv e with
  |false=>
   refine Ev.some ⟨?_,fun h=>by cases h⟩
   have:fN e d=false:=by
    unfold aDv at hp;unfold fN;by_cases k2:e.kind=2
    ·have k1: ¬e.kind=1:=by omega
     have k3: ¬e.kind=3:=by omega
     rw [if_pos k2];rw [decide_eq_true k2,decide_eq_false k1,decide_eq_false k3] at hp;revert hp;cases decide (e.num=0)<;>cases l9 e.read<;>simp
    rw [if_neg k2];by_cases k3:e.kind=3
    ·have k1: ¬e.kind=1:=by omega
     rw [if_pos k3];rw [decide_eq_false k2,decide_eq_false k1,decide_eq_true k3] at hp;revert hp;cases decide (e.num=0)<;>cases iX e.index<;>simp
    rw [if_neg k3];rw [decide_eq_false k2,decide_eq_false k3] at hp;by_cases k1:e.kind=1
    ·rw [if_pos k1];rw [decide_eq_true k1] at hp;revert hp;cases iX e.index<;>cases l9 e.read<;>simp
    rw [if_neg k1];rw [decide_eq_false k1] at hp;revert hp;cases decide (e.num=0)<;>cases iX e.index<;>cases l9 e.read<;>simp
   unfold dI;rw [this];simp
  |true=>
   refine bV ?_;unfold aDv at hp;simp only [Bool.and_eq_true,Bool.or_eq_true,decide_eq_true_eq] at hp;obtain⟨p1,p2,p3⟩:=hp;have leafP: ∀(b:Bool),fN e d=b→gT e.kind=0→ ∀(z:Bool),z=(b&&decide ((e.kids.length:Int)=0))→z=(dI (L+1) e d&&decide (c+tD (L+1) e≤12))∧(z=true→c+1=c+tD (L+1) e):=by
    intro b hb hk z hz;unfold dI;rw [hb,hk];by_cases h:e.kids.length=0
    ·have hnil:e.kids=[]:=vAC h;have hcn:tD (L+1) e=1:=by simp [tD,hnil]
     rw [hcn,decide_eq_true (show c+1≤12 by omega)];rw [decide_eq_true (show(e.kids.length:Int)=0 by omega)] at hz;rw [hz,hnil];simp
    rw [decide_eq_false (show¬(e.kids.length:Int)=0 by omega)] at hz;rw [hz,decide_eq_false (show¬(0:Int)=(e.kids.length:Int) by omega)];simp
   by_cases k1:e.kind=1
   ·have k2: ¬e.kind=2:=by omega
    have k3: ¬e.kind=3:=by omega
    rw [decide_eq_true k1];have hown:fN e d=decide (0≤e.num∧e.num≤99):=by
     unfold fN;rw [if_neg k2,if_neg k3,if_pos k1];rcases p2 with h|h
     ·exact absurd h k2
     rcases p3 with h'|h'
     ·exact absurd h' k3
     rw [h,h'];simp
    refine cE (Ev.jn (fun z=>z=(decide (0≤e.num∧e.num≤99)&&decide ((e.kids.length:Int)=0))) (fun j hj=>aA (d8 n _ _ _) ?_) fun z hz=>Ev.some ?_)
    ·cases hw:decide (0≤e.num∧e.num≤99) with
     |true=>exact hj _ (by rw [hw];rfl)
     |false=>exact hj _ (by rw [hw];rfl)
    exact leafP _ hown (by unfold gT;rw [if_pos (Or.inl k1)]) _ hz
   rw [decide_eq_false k1];refine bV ?_;have hnum:e.num=0:=by
    rcases p1 with h|h
    ·exact absurd h k1
    exact h
   by_cases k2:e.kind=2
   ·have k3: ¬e.kind=3:=by omega
    rw [decide_eq_true k2];have hown:fN e d=b6 e.index d:=by
     unfold fN;rw [if_pos k2,decide_eq_true hnum];rcases p3 with h'|h'
     ·exact absurd h' k3
     rw [h'];simp
    refine cE (Ev.jn (fun z=>z=(b6 e.index d&&decide ((e.kids.length:Int)=0))) (fun j hj=>aA (qM (by omega) _ e2) ?_) fun z hz=>Ev.some ?_)
    ·unfold b6 at hj;cases hw:b8 e.index with
     |false=>exact hj _ (by rw [hw];rfl)
     |true=>
      refine aA (w8 (by omega) e2) (aH (fun h=>hj _ ?_) fun h=>hj _ ?_)
      ·rw [hw,decide_eq_true h];rfl
      rw [hw,decide_eq_false h];rfl
    exact leafP _ hown (by unfold gT;rw [if_pos (Or.inr (Or.inl k2))]) _ hz
   rw [decide_eq_false k2];refine bV ?_;have hnaff:iX e.index=true:=by
    rcases p2 with h|h
    ·exact absurd h k2
    exact h
   by_cases k3:e.kind=3
   ·rw [decide_eq_true k3];have hown:fN e d=gN e.read d:=by
     unfold fN;rw [if_neg k2,if_pos k3,decide_eq_true hnum,hnaff];simp
    refine cE (Ev.jn (fun z=>z=(gN e.read d&&decide ((e.kids.length:Int)=0))) (fun j hj=>aA (wL (by omega) e3 d) ?_) fun z hz=>Ev.some ?_)
    ·cases hw:gN e.read d with
     |false=>exact hj _ (by rw [hw];rfl)
     |true=>exact hj _ (by rw [hw];rfl)
    exact leafP _ hown (by unfold gT;rw [if_pos (Or.inr (Or.inr k3))]) _ hz
   rw [decide_eq_false k3];refine bV ?_;have hown:fN e d=true:=by
    unfold fN;rw [if_neg k2,if_neg k3,if_neg k1,decide_eq_true hnum,hnaff];rcases p3 with h'|h'
    ·exact absurd h' k3
    rw [h'];rfl
   have hop:aCf n e.kind=some (decide (4≤e.kind∧e.kind≤6)):=by unfold aCf;rw [d8];rfl
   have hkn:(gT e.kind=2↔(4≤e.kind∧e.kind≤6))∧(gT e.kind=2∨gT e.kind= -1):=by
    unfold gT;rw [if_neg (by omega)];split<;>omega
   refine Ev.jn (fun z=>z= !(decide (4≤e.kind∧e.kind≤6)&&decide ((e.kids.length:Int)=2))) (fun j hj=>aA hop ?_) fun z hz=>?_
   ·cases hw:decide (4≤e.kind∧e.kind≤6) with
    |false=>exact hj _ (by rw [hw];rfl)
    |true=>exact hj _ (by rw [hw];rfl)
   subst hz;by_cases hk:(4≤e.kind∧e.kind≤6)∧(e.kids.length:Int)=2
   ·rw [decide_eq_true hk.1,decide_eq_true hk.2];refine bV ?_;obtain⟨a,b,hab⟩: ∃a b,e.kids=[a,b]:=by
     have:e.kids.length=2:=by omega
     match hq:e.kids,this with
     | [a,b],_=>exact⟨a,b,rfl⟩
    have hsh:dI (L+1) e d=(dI L a d&&dI L b d):=by
     show(decide (gT e.kind=e.kids.length)&&(fN e d&&e.kids.all fun k=>dI L k d))=_;rw [hown,hab,decide_eq_true (show gT e.kind=(([a,b]:List Expr).length:Int) by rw [hkn.1.2 hk.1];rfl)];simp
    have hcn:tD (L+1) e=1+(tD L a+tD L b):=by simp [tD,hab]
    have ca:=vZ L a;have cb:=vZ L b;rw [hsh,hcn];obtain⟨n,rfl⟩: ∃j,n=j+1:=⟨n-1,by omega⟩
    refine Ev.jn (fun z:Int×Bool=>z.2=(dI L a d&&dI L b d&&decide (c+(1+(tD L a+tD L b))≤12))∧(z.2=true→z.1=c+(1+(tD L a+tD L b)))) (fun j hj=>?_) fun z hz=>Ev.some hz;refine aA (x:=a) (by rw [hab];rfl) (aI (pM d L n a (c+1) (by omega) (by omega) (e4 a (by rw [hab];simp)) (by omega) (by omega)) fun r ⟨r1,r2⟩=>?_);cases hr:r.1 with
    |false=>
     refine hj _ ⟨?_,fun h=>by cases h⟩;rw [hr] at r1;show false=_;by_cases hsa:dI L a d=true
     ·rw [hsa,vAX] at r1
      have:=of_decide_eq_false r1.symm;rw [decide_eq_false (show¬c+(1+(tD L a+tD L b))≤12 by omega),vBp]
     rw [Bool.eq_false_iff.2 hsa];rfl
    |true=>
     have r2:=r2 hr;rw [hr] at r1;have r1:=r1.symm;rw [vBA,decide_eq_true_eq] at r1;refine aA (x:=b) (by rw [hab];rfl) ?_;rw [r2];refine aI (pM d L n b (c+1+tD L a) (by omega) (by omega) (e4 b (by rw [hab];simp)) (by omega) (by omega)) fun q ⟨q1,q2⟩=>hj _ ⟨?_,fun h=>?_⟩
     ·show q.1=_;rw [q1,r1.1,vAX];congr 1;exact decide_eq_decide.2 (by omega)
     show q.2=_;rw [q2 h];omega
   have hf:dI (L+1) e d=false:=by
    unfold dI;rw [decide_eq_false (show¬gT e.kind=(e.kids.length:Int) by
     intro h;rcases hkn.2 with h2|h2
     ·exact hk ⟨hkn.1.1 h2,by omega⟩
     omega)]
    rfl
   have:(decide (4≤e.kind∧e.kind≤6)&&decide ((e.kids.length:Int)=2))=false:=by
    by_cases g:4≤e.kind∧e.kind≤6
    ·rw [decide_eq_false (show¬(e.kids.length:Int)=2 from fun h=>hk ⟨g,h⟩),vBp]
    rw [decide_eq_false g];rfl
   rw [this,hf];exact Ev.some ⟨rfl,fun h=>by cases h⟩
def fM(s:Stmt)(d:Int):Bool:=decide (0≤d∧d≤4)&&(gN s.write d&&(dI 5 s.value d&&decide (tD 5 s.value≤12)))
def SmS(s:Stmt):Prop:=L9 s.write.subs∧SmE 5 s.value
theorem U9{n:Nat}(hn:6000≤n){s:Stmt}(h:SmS s)(d:Int):o4 n s d=some (fM s d):=by
 obtain⟨n,rfl⟩: ∃j,n=j+1:=⟨n-1,by omega⟩
 refine Ev.eq ?_;unfold o4;generalize hT:fM s d=T;unfold fM at hT;refine Ev.jn (fun z:Int×Bool=>z.2=T) (fun j hj=>aA (d8 _ _ _ _) ?_) fun z hz=>Ev.some hz;cases h1:decide (0≤d∧d≤4) with
 |false=>exact hj (0,false) (by rw [←hT,h1];rfl)
 |true=>
  refine cE (aA (wL (by omega) h.1 d) ?_);cases h2:gN s.write d with
  |false=>exact hj (0,false) (by rw [←hT,h1,h2];rfl)
  |true=>
   refine cE (aI (pM d 5 n s.value 0 (by omega) (by omega) h.2 (by omega) (by omega)) fun r ⟨r1,r2⟩=>hj _ ?_);rw [←hT,h1,h2];show r.1=_;rw [r1];simp
theorem tV{n:Nat}(hn:6000≤n){s:Stmt}(h:SmS s)(d:Int):jM n s d=some (fM s d):=by
 obtain⟨n,rfl⟩: ∃j,n=j+1:=⟨n-1,by omega⟩
 refine Ev.eq ?_;unfold jM;generalize hT:fM s d=T;generalize hB:(decide (0≤d∧d≤4)&&(gN s.write d&&dI 5 s.value d))=B;have hTB:T=(B&&decide (tD 5 s.value≤12)):=by rw [←hT,←hB];unfold fM;simp only [Bool.and_assoc]
 refine Ev.jn (fun z=>z= !B) (fun j hj=>aH (fun h=>hj _ ?_) fun h0=>aH (fun h=>hj _ ?_) fun h4=>aA (wH (by omega) h.1 d) ?_) fun z hz=>?_
 ·rw [←hB,decide_eq_false (show¬(0≤d∧d≤4) by omega)];rfl
 ·rw [←hB,decide_eq_false (show¬(0≤d∧d≤4) by omega)];rfl
 ·rw [decide_eq_true (show 0≤d∧d≤4 by omega)] at hB;cases h2:gN s.write d with
  |false=>exact cE (hj _ (by rw [←hB,h2];rfl))
  |true=>exact bV (aA (yM d 5 n s.value (by omega) (by omega) h.2) (hj _ (by rw [←hB,h2];rfl)))
 subst hz;cases hb:B with
 |false=>exact Ev.some (by rw [hTB,hb];rfl)
 |true=>
  rw [hb] at hB;simp only [Bool.and_eq_true] at hB;refine bV (aA (yO (d:=d) 5 n s.value (by omega) (by omega) hB.2.2) (Ev.some ?_));rw [hTB,hb];rfl
def iQ(ds:List Int):Bool:=decide (1≤ds.length∧ds.length≤2)&&ds.all fun d=>decide (1≤d∧d≤6)
def wY(list:List Arr)(i:Nat)(x:Arr):Bool:=match i with
 |0=>true
 |i+1=>match list[i]? with
  |some y=>Op.bytesLess y.name x.name
  |none=>false
def aAK(list:List Arr)(i:Nat)(x:Arr):Bool:=nH x.name&&(wY list i x&&iQ x.dims)
def hJ(list:List Arr):Bool:=U6 (aAK list) list&&decide (list.length≤4)
def SmR(list:List Arr):Prop:=list.length≤1000∧ ∀x∈list,x.dims.length≤1000
theorem I7{list:List Arr}{i:Nat}{x y:Arr}(h:list[i]? =some y):wY list (i+1) x=Op.bytesLess y.name x.name:=by simp only [wY,h]
theorem aKv(ds:List Int):(ds.any fun d=> !decide (1≤d∧d≤6))= !(ds.all fun d=>decide (1≤d∧d≤6)):=by rw [vBf];simp
theorem aAu{n:Nat}(hn:6000≤n){list:List Arr}(h:SmR list):rW n list=some (hJ list):=by
 obtain⟨h0,h1⟩:=h;refine Ev.eq ?_;unfold rW;refine mS (l:=list) (p:=aAK list) (by omega) (by omega) (fun again i x hx hgo hno=>?_) (fun again hall=>?_) (fun⟨i,x,hx,hp⟩=>?_)
 ·have hi:=(cI.1 hx).1;have hm:=h1 x (cK hx);rw [decide_eq_true (show(i:Int)<(list.length:Int) by omega)];have hd:cA n x.dims (fun q0=>eZ n q0)=some (!(x.dims.all fun d=>decide (1≤d∧d≤6))):=by
   rw [←aKv];exact sC (fun d _=>by unfold eZ;rw [d8];rfl) (by omega) (by omega)
  refine cE (aA (aN hx) (Ev.jn (fun z=>z= !aAK list i x) (fun j hj=>aA (zR n _) ?_) fun z hz=>?_))
  ·unfold aAK iQ at hj;cases g1:nH x.name with
   |false=>exact cE (hj _ (by rw [g1];rfl))
   |true=>
    rw [g1] at hj;refine bV ?_;rw [rQ];have hlast:wY list i x=true→Ev (Option.bind (some (decide (1≤x.dims.length∧x.dims.length≤2))) fun x6=>bif !x6 then j true else Option.bind (cA n x.dims fun q0=>eZ n q0) fun x7=>j x7) (fun r=>r=hJ list):=by
     intro hp;rw [hp] at hj;show Ev (bif _ then _ else _) _;cases g2:decide (1≤x.dims.length∧x.dims.length≤2) with
     |false=>exact cE (hj _ (by rw [g2];rfl))
     |true=>exact bV (aA hd (hj _ (by rw [g2];rfl)))
    cases i with
    |zero=>exact aH (fun h=>absurd h (by decide)) (fun _=>hlast rfl)
    |succ i=>
     have hy:=cD (show i<list.length by omega);have e:wr (((i+1:Nat):Int)-1)=(i:Int):=by rw [aK (by omega)];omega
     rw [e];refine aH (fun _=>aA (aN hy) ?_) fun h=>absurd (show(0:Int)<((i+1:Nat):Int) by omega) h;have hpp:=I7 (x:=x) hy;cases g3:Op.bytesLess list[i].name x.name with
     |false=>exact cE (hj _ (by rw [hpp,g3];rfl))
     |true=>exact bV (hlast (by rw [hpp,g3]))
  subst hz;cases hb:aAK list i x with
  |true=>show Ev (again _) _;rw [aK (by omega)];exact hgo hb
  |false=>exact Ev.some (hno hb)
 ·rw [decide_eq_false (show¬(list.length:Int)<(list.length:Int) by omega)];refine Ev.some ?_;unfold hJ;rw [oZ hall,vAX];exact decide_eq_decide.2 (by omega)
 unfold hJ;rw [mI hx hp];rfl
theorem aJf(s:List UInt8):(!Op.bytesLess s [68]&& !s==[68])= !(Op.bytesLess s [68]||s==[68]):=by cases Op.bytesLess s [68]<;>cases (s==[68])<;>rfl
theorem aAl{n:Nat}(hn:6000≤n){list:List Arr}(h:SmR list):rC n list=some (hJ list):=by
 obtain⟨h0,h1⟩:=h;refine Ev.eq ?_;unfold rC;refine mS (l:=list) (p:=aAK list) (by omega) (by omega) (fun again i x hx hgo hno=>?_) (fun again hall=>?_) (fun⟨i,x,hx,hp⟩=>?_)
 ·have hi:=(cI.1 hx).1;have hm:=h1 x (cK hx);rw [decide_eq_true (show(i:Int)<(list.length:Int) by omega)];refine cE (aA (aN hx) (Ev.jn (fun z=>z= !(nH x.name&&(wY list i x&&decide (1≤x.dims.length∧x.dims.length≤2)))) (fun j hj=>?_) fun z hz=>?_))
  ·refine dH (fun hl=>hj _ ?_) fun hl=>?_
   ·rw [w3 (by omega)];rfl
   obtain⟨b,hb⟩:=aNp (show x.name.length=1 by omega);rw [aJf];have hless: ∀(y:Arr),Op.bytesLess y.name x.name=Op.bytesLess y.name [b]:=fun y=>by rw [hb]
   have hnm:nH x.name=decide (65≤b.toNat∧b.toNat≤68):=by rw [hb];rfl
   have l1:Op.bytesLess x.name [65]=decide (b.toNat<65):=by rw [hb];exact T4 b
   have l2:(Op.bytesLess x.name [68]||x.name==[68])=decide (b.toNat≤68):=by rw [hb];exact T3 b
   rw [l1,l2];rw [hnm] at hj;refine aH (fun g1=>hj _ ?_) fun g1=>dH (fun g2=>hj _ ?_) fun g2=>?_
   ·rw [decide_eq_false (show¬(65≤b.toNat∧b.toNat≤68) by omega)];rfl
   ·rw [decide_eq_false (show¬(65≤b.toNat∧b.toNat≤68) by omega)];rfl
   rw [decide_eq_true (show 65≤b.toNat∧b.toNat≤68 by omega)] at hj;have hlast:wY list i x=true→Ev (bif decide ((x.dims.length:Int)<1) then j true else j (decide ((2:Int)<(x.dims.length:Int)))) (fun r=>r=hJ list):=by
    intro hp;rw [hp] at hj;refine aH (fun h=>hj _ ?_) fun h=>hj _ ?_
    ·rw [decide_eq_false (show¬(1≤x.dims.length∧x.dims.length≤2) by omega)];rfl
    by_cases h2:x.dims.length≤2
    ·rw [decide_eq_false (show¬(2:Int)<(x.dims.length:Int) by omega),decide_eq_true (show 1≤x.dims.length∧x.dims.length≤2 by omega)];rfl
    rw [decide_eq_true (show(2:Int)<(x.dims.length:Int) by omega),decide_eq_false (show¬(1≤x.dims.length∧x.dims.length≤2) by omega)];rfl
   cases i with
   |zero=>exact aH (fun h=>absurd h (by decide)) (fun _=>hlast rfl)
   |succ i=>
    have hy:=cD (show i<list.length by omega);have e:wr (((i+1:Nat):Int)-1)=(i:Int):=by rw [aK (by omega)];omega
    rw [e];refine aH (fun _=>aA (aN hy) ?_) fun h=>absurd (show(0:Int)<((i+1:Nat):Int) by omega) h;have hpp:=I7 (x:=x) hy;cases g3:Op.bytesLess list[i].name x.name with
    |false=>exact cE (hj _ (by rw [hpp,g3];rfl))
    |true=>exact bV (hlast (by rw [hpp,g3]))
  subst hz;cases hb:(nH x.name&&(wY list i x&&decide (1≤x.dims.length∧x.dims.length≤2))) with
  |false=>
   refine Ev.some (hno ?_);unfold aAK iQ;rw [←vBh,←vBh];rw [←vBh] at hb;rw [hb];rfl
  |true=>
   have hap:aAK list i x=x.dims.all (fun d=>decide (1≤d∧d≤6)):=by
    unfold aAK iQ;rw [←vBh,←vBh];rw [←vBh] at hb;rw [hb];rfl
   refine bV ?_;refine Ev.loop (fun y:Int=> ∃k:Nat,y=k∧k≤x.dims.length∧ ∀(t:Nat) d,t<k→x.dims[t]? =some d→decide (1≤d∧d≤6)=true) (fun y=>x.dims.length-y.toNat) ?_ n _ ⟨0,rfl,by omega,fun t d h=>by omega⟩ (by simp;omega);rintro again8 y ⟨k,rfl,hk,ha⟩ hr;refine aH (fun hlt=>?_) fun hge=>?_
   ·have hd:=cD (show k<x.dims.length by omega);have ek:wr ((k:Int)+1)=((k+1:Nat):Int):=by rw [aK (by omega)];omega
    refine Ev.jn (fun z=>z= !decide (1≤x.dims[k]∧x.dims[k]≤6)) (fun j hj=>aA (aN hd) (aH (fun h=>hj _ ?_) fun h=>hj _ ?_)) fun z hz=>?_
    ·rw [decide_eq_false (by omega)];rfl
    ·by_cases h6:x.dims[k]≤6
     ·rw [decide_eq_false (show¬(6:Int)<x.dims[k] by omega),decide_eq_true (show 1≤x.dims[k]∧x.dims[k]≤6 by omega)];rfl
     rw [decide_eq_true (show(6:Int)<x.dims[k] by omega),decide_eq_false (show¬(1≤x.dims[k]∧x.dims[k]≤6) by omega)];rfl
    subst hz;cases hb2:decide (1≤x.dims[k]∧x.dims[k]≤6) with
    |false=>
     refine Ev.some (hno ?_);rw [hap];exact vAM.2 ⟨_,cK hd,by rw [hb2];simp⟩
    |true=>
     rw [ek];refine hr _ ⟨k+1,rfl,by omega,fun t d ht hd2=>?_⟩ (by omega);by_cases htk:t=k
     ·subst htk;rw [hd] at hd2;cases hd2;exact hb2
     exact ha t d (by omega) hd2
   have e:wr ((i:Int)+1)=(i:Int)+1:=aK (by omega);rw [e];refine hgo ?_;rw [hap];refine vAH.2 fun d hd=>?_;obtain⟨t,ht⟩:=vAL hd
   have:=(cI.1 ht).1;exact ha t d (by omega) ht
 ·rw [decide_eq_false (show¬(list.length:Int)<(list.length:Int) by omega)];refine Ev.some ?_;unfold hJ;rw [oZ hall,vAX];exact decide_eq_decide.2 (by omega)
 unfold hJ;rw [mI hx hp];rfl
def szL:List Int→Int
 | []=>1
 |d::ds=>d*szL ds
theorem aFN{ds:List Int}(h:iQ ds=true):(∃a,ds=[a]∧1≤a∧a≤6)∨ ∃a b,ds=[a,b]∧(1≤a∧a≤6)∧1≤b∧b≤6:=by
 simp only [iQ,Bool.and_eq_true,decide_eq_true_eq,List.all_eq_true] at h;obtain⟨⟨h1,h2⟩,h3⟩:=h
 match ds,h1,h2,h3 with
 | [a],_,_,h3=>exact .inl ⟨a,rfl,h3 a (by simp)⟩
 | [a,b],_,_,h3=>exact .inr ⟨a,b,rfl,h3 a (by simp),h3 b (by simp)⟩
theorem aOG{a b:Int}(ha:1≤a∧a≤6)(hb:1≤b∧b≤6):1≤a*b∧a*b≤36:=by
 constructor
 ·have:=vBQ ha.1 hb.1 (by omega) (by omega);omega
 have:=vBQ ha.2 hb.2 (by omega) (by omega);omega
theorem aGy{ds:List Int}(h:iQ ds=true):1≤szL ds∧szL ds≤36:=by
 rcases aFN h with ⟨a,rfl,h1⟩|⟨a,b,rfl,h1,h2⟩
 ·simp [szL];omega
 have:=aOG h1 h2;simp [szL];omega
theorem H7{n:Nat}(hn:6000≤n){x:Arr}(h:iQ x.dims=true):yG n x=some (szL x.dims):=by
 obtain⟨n,rfl⟩: ∃j,n=j+3:=⟨n-3,by omega⟩
 unfold yG;rcases aFN h with ⟨a,e,h1⟩|⟨a,b,e,h1,h2⟩
 ·rw [e];have e1:wr a=a:=aK (by omega);simp [aM,ix,szL,e1,show wr 1=1 from aK (by omega)]
 rw [e]
 have:=aOG h1 h2;have e1:wr a=a:=aK (by omega);have e2:wr (a*b)=a*b:=aK (by omega);simp [aM,ix,szL,e1,e2,show wr 1=1 from aK (by omega),show wr 2=2 from aK (by omega)]
theorem aHP{n:Nat}(hn:6000≤n){x:Arr}(h:iQ x.dims=true):rX n x=some (szL x.dims):=H7 hn h
def kZ:List Affine→List Int→List Int→Int→Int
 |s::ss,d::ds,p,acc=>if 0≤cH s p∧cH s p<d then kZ ss ds p (acc*d+cH s p) else-1
 |_,_,_,acc=>acc
def cT:List Arr→Access→List Int→Int→Int
 | [],_,_,_=> -1
 |x::xs,a,p,base=>if x.name=a.array then(if a.subs.length=x.dims.length then(if kZ a.subs x.dims p 0<0 then-1 else base+kZ a.subs x.dims p 0) else-1) else cT xs a p (base+szL x.dims)
def jE(xs:List Arr):Prop:= ∀x∈xs,iQ x.dims=true
theorem aOO{ds:List Int}(hd:iQ ds=true){ss:List Affine}(hl:ss.length=ds.length)(p:List Int):kZ ss ds p 0= -1∨(0≤kZ ss ds p 0∧kZ ss ds p 0<szL ds):=by
 rcases aFN hd with ⟨a,rfl,h1⟩|⟨a,b,rfl,h1,h2⟩
 ·match ss,hl with
  | [s],_=>
   simp only [kZ,szL,Int.zero_mul,Int.zero_add,Int.mul_one];split<;>omega
 match ss,hl with
 | [s,t],_=>
  simp only [kZ,szL,Int.zero_mul,Int.zero_add,Int.mul_one];split
  ·rename_i hs;split
   ·rename_i ht;refine .inr ⟨?_,?_⟩
    ·have:=vBx hs.1 (show 0≤b by omega);omega
    have:=Int.mul_le_mul_of_nonneg_right (show cH s p≤a-1 by omega) (show 0≤b by omega);rw [Int.sub_mul] at this;omega
   exact .inl rfl
  exact .inl rfl
def wF(xs:List Arr):Int:=(xs.map fun x=>szL x.dims).sum
theorem aHi: ∀{xs:List Arr},jE xs→ ∀(a:Access) (p:List Int) (base:Int),0≤base→cT xs a p base= -1∨(base≤cT xs a p base∧cT xs a p base<base+wF xs)
 | [],_,a,p,base,_=> .inl rfl
 |x::xs,hd,a,p,base,hb=>by
  have hx:=hd x (by simp);have hs:=aGy hx;have hxs:jE xs:=fun y hy=>hd y (by simp [hy]);have ht:0≤wF xs:=by
   have:=pG (fun x:Arr=>szL x.dims) xs fun y hy=>(aGy (hxs y hy)).1;unfold wF;omega
  have e:wF (x::xs)=szL x.dims+wF xs:=by simp [wF]
  rw [e];simp only [cT];split
  ·split
   ·rename_i hl;rcases aOO hx hl p with h|h
    ·rw [if_pos (by omega)];exact .inl rfl
    rw [if_neg (by omega)];exact .inr ⟨by omega,by omega⟩
   exact .inl rfl
  rcases aHi hxs a p (base+szL x.dims) (by omega) with h|h
  ·exact .inl h
  exact .inr ⟨by omega,by omega⟩
theorem uS{a:Access}{d:Int}(h:gN a d=true):1≤a.subs.length∧a.subs.length≤2∧ ∀x∈a.subs,b8 x=true:=by
 simp only [gN,Bool.and_eq_true,decide_eq_true_eq,List.all_eq_true] at h;refine⟨h.2.2.1,h.2.2.2,fun x hx=>?_⟩
 have:=h.1 x hx;simp only [b6,Bool.and_eq_true] at this;exact this.1
theorem kI{α:Type}{l:List α}{i:Nat}{x:α}(h:l[i]? =some x):l.drop i=x::l.drop (i+1):=by obtain⟨h1,h2⟩:=cI.1 h;rw [vBi h1,h2]
theorem aEz{a d v:Int}(ha:0≤a∧a≤36)(hd:1≤d∧d≤6)(hv:0≤v∧v<d):0≤a*d∧a*d≤216∧0≤a*d+v:=by have h1:=vBx ha.1 (show 0≤d by omega);have h2:=vBQ ha.2 hd.2 (by omega) (by omega);omega
theorem aJx{n:Nat}(hn:6000≤n){a:Access}(h1:a.subs.length≤2)(h2: ∀x∈a.subs,b8 x=true){ds:List Int}(hd:iQ ds=true)(hl:a.subs.length=ds.length){k:Nat}{p:List Int}(hp:pQ k p)(base:Int)(hb:0≤base∧base≤1000000):
  aM (fun again8 ((x6,x7):Int×Int)=>bif decide (x7<(a.subs.length:Int)) then(Option.bind (ix a.subs x7) fun x9=>Option.bind (cZ n x9 p) fun x10=>Option.bind (ix ds x7) fun x11=>Option.bind (cR n x10 0 (wr (x11-1))) fun x12=>bif !x12 then(some (-1)) else(again8 (wr ((wr (x6*x11))+x10),wr (x7+1)))) else(some (wr (base+x6)))) n (0,0)
   =some (if kZ a.subs ds p 0<0 then-1 else base+kZ a.subs ds p 0):=by
 have hdm: ∀d∈ds,1≤d∧d≤6:=by
  simp only [iQ,Bool.and_eq_true,decide_eq_true_eq,List.all_eq_true] at hd;exact fun d h=>hd.2 d h
 refine Ev.eq ?_;refine Ev.loop (fun x:Int×Int=> ∃i:Nat,x.2=i∧i≤a.subs.length∧0≤x.1∧x.1≤36*i∧(i=0→x.1=0)∧(i=1→x.1≤5)∧kZ a.subs ds p 0=kZ (a.subs.drop i) (ds.drop i) p x.1) (fun x=>a.subs.length-x.2.toNat) ?_ n _ ⟨0,rfl,by omega,by simp,by simp,fun _=>rfl,fun h=>by omega,rfl⟩ (by simp;omega);rintro again ⟨x,z⟩ ⟨i,hz,hi,hx0,hx1,hx2,hx3,hx⟩ hr;dsimp only at hz hx0 hx1 hx2 hx3 hx⊢;subst hz;refine aH (fun hlt=>?_) fun hge=>Ev.some ?_
 ·have hs:=cD (show i<a.subs.length by omega);have hdd:=cD (show i<ds.length by omega);have hdb:=hdm _ (cK hdd);have ew:wr (ds[i]-1)=ds[i]-1:=aK (by omega);rw [kI hs,kI hdd] at hx;simp only [kZ] at hx;refine aA (aN hs) (aA (aJy (by omega) (h2 _ (cK hs)) hp) (aA (aN hdd) (aA (d8 _ _ _ _) ?_)));rw [ew];by_cases hc:0≤cH a.subs[i] p∧cH a.subs[i] p<ds[i]
  ·rw [if_pos hc] at hx;rw [decide_eq_true (show 0≤cH a.subs[i] p∧cH a.subs[i] p≤ds[i]-1 by omega)];obtain⟨g1,g2,g3⟩:=aEz (a:=x) (by omega) hdb hc;refine bV ?_;rw [aK (n:=x*ds[i]) (by omega),aK (n:=x*ds[i]+cH a.subs[i] p) (by omega),aK (by omega)];have hi01:i=0∨i=1:=by omega
   refine hr _ ⟨i+1,by dsimp only;omega,by omega,by dsimp only;omega,?_,fun h=>by omega,fun h=>?_,hx⟩ (by dsimp only;omega)
   ·dsimp only;rcases hi01 with rfl|rfl
    ·rw [hx2 rfl];omega
    have:=hx3 rfl
    have:=vBQ this hdb.2 (by omega) (by omega);omega
   dsimp only
   have:i=0:=by omega
   subst this;rw [hx2 rfl];omega
  rw [if_neg hc] at hx;rw [decide_eq_false (show¬(0≤cH a.subs[i] p∧cH a.subs[i] p≤ds[i]-1) by omega)];refine cE (Ev.some ?_);rw [hx];rfl
 have hie:i=a.subs.length:=by omega
 have hdr:kZ (a.subs.drop i) (ds.drop i) p x=x:=by
  rw [hie,vBw];unfold kZ;rfl
 rw [hdr] at hx;rw [hx,if_neg (by omega),aK (by omega)]
theorem aIW{n:Nat}(hn:6000≤n){a:Access}(h0:1≤a.subs.length)(h1:a.subs.length≤2)(h2: ∀x∈a.subs,b8 x=true){ds:List Int}(hd:iQ ds=true){k:Nat}{p:List Int}(hp:pQ k p)(base:Int)(hb:0≤base∧base≤1000000):
  aM (fun again8 ((x6,x7):Int×Int)=>bif decide (x7<(a.subs.length:Int)) then(bif !decide ((a.subs.length:Int)=(ds.length:Int)) then(some (-1)) else(Option.bind (ix a.subs x7) fun x9=>Option.bind (iU n x9 p) fun x10=>jn (fun(x13:Bool)=>bif x13 then(some (-1)) else(Option.bind (ix ds x7) fun x14=>again8 (wr ((wr (x6*x14))+x10),wr (x7+1)))) fun j11=>bif decide (x10<0) then(j11 true) else(Option.bind (ix ds x7) fun x12=>j11 (decide (x12≤x10))))) else(some (wr (base+x6)))) n (0,0)
   =some (if a.subs.length=ds.length then(if kZ a.subs ds p 0<0 then-1 else base+kZ a.subs ds p 0) else-1):=by
 by_cases hl:a.subs.length=ds.length
 ·rw [if_pos hl];rw [decide_eq_true (show(a.subs.length:Int)=(ds.length:Int) by omega)];have hdm: ∀d∈ds,1≤d∧d≤6:=by
   simp only [iQ,Bool.and_eq_true,decide_eq_true_eq,List.all_eq_true] at hd;exact fun d h=>hd.2 d h
  refine Ev.eq ?_;refine Ev.loop (fun x:Int×Int=> ∃i:Nat,x.2=i∧i≤a.subs.length∧0≤x.1∧x.1≤36*i∧(i=0→x.1=0)∧(i=1→x.1≤5)∧kZ a.subs ds p 0=kZ (a.subs.drop i) (ds.drop i) p x.1) (fun x=>a.subs.length-x.2.toNat) ?_ n _ ⟨0,rfl,by omega,by simp,by simp,fun _=>rfl,fun h=>by omega,rfl⟩ (by simp;omega);rintro again ⟨x,z⟩ ⟨i,hz,hi,hx0,hx1,hx2,hx3,hx⟩ hr;dsimp only at hz hx0 hx1 hx2 hx3 hx⊢;subst hz;refine aH (fun hlt=>?_) fun hge=>Ev.some ?_
  ·have hs:=cD (show i<a.subs.length by omega);have hdd:=cD (show i<ds.length by omega);have hdb:=hdm _ (cK hdd);rw [kI hs,kI hdd] at hx;simp only [kZ] at hx;refine bV (aA (aN hs) (aA (aIX (by omega) (h2 _ (cK hs)) hp) (Ev.jn (fun z=>z= !decide (0≤cH a.subs[i] p∧cH a.subs[i] p<ds[i])) (fun j hj=>aH (fun h=>hj _ ?_) fun h=>aA (aN hdd) (hj _ ?_)) fun z hz=>?_)))
   ·rw [decide_eq_false (by omega)];rfl
   ·by_cases hc:ds[i]≤cH a.subs[i] p
    ·rw [decide_eq_true hc,decide_eq_false (by omega)];rfl
    rw [decide_eq_false hc,decide_eq_true (by omega)];rfl
   subst hz;by_cases hc:0≤cH a.subs[i] p∧cH a.subs[i] p<ds[i]
   ·rw [if_pos hc] at hx;rw [decide_eq_true hc];obtain⟨g1,g2,g3⟩:=aEz (a:=x) (by omega) hdb hc;refine bV (aA (aN hdd) ?_);rw [aK (n:=x*ds[i]) (by omega),aK (n:=x*ds[i]+cH a.subs[i] p) (by omega),aK (by omega)];have hi01:i=0∨i=1:=by omega
    refine hr _ ⟨i+1,by dsimp only;omega,by omega,by dsimp only;omega,?_,fun h=>by omega,fun h=>?_,hx⟩ (by dsimp only;omega)
    ·dsimp only;rcases hi01 with rfl|rfl
     ·rw [hx2 rfl];omega
     have:=hx3 rfl
     have:=vBQ this hdb.2 (by omega) (by omega);omega
    dsimp only
    have:i=0:=by omega
    subst this;rw [hx2 rfl];omega
   rw [if_neg hc] at hx;rw [decide_eq_false hc];refine cE (Ev.some ?_);rw [hx];rfl
  have hie:i=a.subs.length:=by omega
  have hdr:kZ (a.subs.drop i) (ds.drop i) p x=x:=by
   rw [hie,vBw];unfold kZ;rfl
  rw [hdr] at hx;rw [hx,if_neg (by omega),aK (by omega)]
 rw [if_neg hl,decide_eq_false (show¬(a.subs.length:Int)=(ds.length:Int) by omega)];obtain⟨n,rfl⟩: ∃j,n=j+1:=⟨n-1,by omega⟩
 simp only [aM];rw [decide_eq_true (show(0:Int)<(a.subs.length:Int) by omega)];rfl
theorem vT{n:Nat}(hn:6000≤n){p:Prog}(hl:p.arrays.length≤4)(hd:jE p.arrays){a:Access}{d:Int}(ha:gN a d=true){k:Nat}{q:List Int}(hq:pQ k q):eE n p a q=some (cT p.arrays a q 0):=by
 obtain⟨a0,a1,a2⟩:=uS ha;refine Ev.eq ?_;unfold eE;refine Ev.loop (fun x:Int×Int=> ∃i:Nat,x.2=i∧i≤p.arrays.length∧0≤x.1∧x.1≤36*i∧cT p.arrays a q 0=cT (p.arrays.drop i) a q x.1) (fun x=>p.arrays.length-x.2.toNat) ?_ n _ ⟨0,rfl,by omega,by simp,by simp,rfl⟩ (by simp;omega);rintro again ⟨x,z⟩ ⟨i,hz,hi,hx0,hx1,hx⟩ hr;dsimp only at hz hx0 hx1 hx⊢;subst hz;refine aH (fun hlt=>?_) fun hge=>Ev.some ?_
 ·have hy:=cD (show i<p.arrays.length by omega);have hdy:=hd _ (cK hy);have hsz:=aGy hdy;rw [kI hy] at hx;simp only [cT] at hx;refine aA (aN hy) (dH (fun hne=>?_) fun he=>?_)
  ·rw [if_neg hne] at hx;refine aA (aHP hn hdy) ?_;rw [aK (n:=x+szL p.arrays[i].dims) (by omega),aK (by omega)];exact hr _ ⟨i+1,by dsimp only;omega,by omega,by dsimp only;omega,by dsimp only;omega,hx⟩ (by dsimp only;omega)
  rw [if_pos he] at hx;refine dH (fun hne=>Ev.some ?_) fun hle=>?_
  ·rw [hx,if_neg (by omega)]
  have hle':a.subs.length=p.arrays[i].dims.length:=by omega
  rw [if_pos hle'] at hx;exact Ev.of (aJx hn a1 a2 hdy hle' hq x (by omega)) hx.symm
 have hie:i=p.arrays.length:=by omega
 rw [hx,hie,vBw];rfl
theorem aAY{n:Nat}(hn:6000≤n){list:List Arr}(hl:list.length≤4)(hd:jE list){a:Access}{d:Int}(ha:gN a d=true){k:Nat}{q:List Int}(hq:pQ k q):tR n list a q=some (cT list a q 0):=by
 obtain⟨a0,a1,a2⟩:=uS ha;refine Ev.eq ?_;unfold tR;refine Ev.loop (fun x:Int×Int=> ∃i:Nat,x.2=i∧i≤list.length∧0≤x.1∧x.1≤36*i∧cT list a q 0=cT (list.drop i) a q x.1) (fun x=>list.length-x.2.toNat) ?_ n _ ⟨0,rfl,by omega,by simp,by simp,rfl⟩ (by simp;omega);rintro again ⟨x,z⟩ ⟨i,hz,hi,hx0,hx1,hx⟩ hr;dsimp only at hz hx0 hx1 hx⊢;subst hz;refine aH (fun hlt=>?_) fun hge=>Ev.some ?_
 ·have hy:=cD (show i<list.length by omega);have hdy:=hd _ (cK hy);have hsz:=aGy hdy;rw [kI hy] at hx;simp only [cT] at hx;refine aA (aN hy) (dH (fun hne=>?_) fun he=>?_)
  ·rw [if_neg hne] at hx;refine aA (H7 hn hdy) ?_;rw [aK (n:=x+szL list[i].dims) (by omega),aK (by omega)];exact hr _ ⟨i+1,by dsimp only;omega,by omega,by dsimp only;omega,by dsimp only;omega,hx⟩ (by dsimp only;omega)
  rw [if_pos he] at hx;exact Ev.of (aIW hn a0 a1 a2 hdy hq x (by omega)) hx.symm
 have hie:i=list.length:=by omega
 rw [hx,hie,vBw];rfl
def b9:Nat→Expr→List Access
 |0,_=>[]
 |L+1,e=>(if e.kind=3 then [e.read] else [])++e.kids.flatMap (b9 L)
theorem D6{d:Int}: ∀{L:Nat} {e:Expr},dI L e d=true→ ∀a∈b9 L e,gN a d=true
 |0,e,h,a,ha=>by cases h
 |L+1,e,h,a,ha=>by
  obtain⟨h1,h2,h3⟩:=iB h;simp only [b9,List.mem_append,List.mem_flatMap] at ha;rcases ha with ha|⟨k,hk,ha⟩
  ·split at ha
   ·rename_i hk3;simp at ha;subst ha;unfold fN at h2;rw [if_neg (by omega),if_pos hk3] at h2;simp only [Bool.and_eq_true] at h2;exact h2.2.2
   simp at ha
  exact D6 (h3 k hk) a ha
theorem vF: ∀(L:Nat) (e:Expr),((b9 L e).length:Int)≤tD L e
 |0,e=>by simp [b9,tD]
 |L+1,e=>by
  have h: ∀(l:List Expr),((l.flatMap (b9 L)).length:Int)≤(l.map (tD L)).sum:=by
   intro l;induction l with
   |nil=>simp
   |cons k l ih=>
    have:=vF L k;simp only [List.flatMap_cons,List.length_append,List.map_cons,List.sum_cons];omega
  have:=h e.kids;simp only [b9,tD,List.length_append];split
  ·rw [vAZ];omega
  rw [List.length_nil];omega
theorem w7{d:Int}: ∀(L n:Nat) (e:Expr),6000+L≤n→L≤5→dI L e d=true→i_reads (n+1) e=some (b9 L e)
 |0,n,e,_,_,h=>by cases h
 |L+1,n,e,hn,hL,h=>by
  obtain⟨h1,h2,h3⟩:=iB h;have hk2:=nJ e.kind;unfold i_reads;refine Ev.eq (aH (fun h3k=>Ev.some ?_) fun hn3=>?_)
  ·have:e.kids=[]:=by
    have hz:gT e.kind=0:=by unfold gT;rw [if_pos (Or.inr (Or.inr h3k))]
    exact vAC (by omega)
   simp [b9,h3k,this]
  obtain⟨n,rfl⟩: ∃j,n=j+1:=⟨n-1,by omega⟩
  have hcb: ∀k∈e.kids,((b9 L k).length:Int)≤100:=fun k hk=>by
   have h5:=aCz (h3 k hk);have h6:(2:Int)^L≤40:=by
    match L,hL with
    |0,_=>decide
    |1,_=>decide
    |2,_=>decide
    |3,_=>decide
    |4,_=>decide
   have:=vF L k;omega
  refine Ev.loop (fun x:List Access×Int=> ∃i:Nat,x.2=i∧i≤e.kids.length∧x.1=(e.kids.take i).flatMap (b9 L)∧(x.1.length:Int)≤100*i) (fun x=>e.kids.length-x.2.toNat) ?_ (n+1) _ ⟨0,rfl,by omega,by simp,by simp⟩ (by simp;omega);rintro again ⟨x,k⟩ ⟨i,hk,hi,hx,hxl⟩ hr;dsimp only at hk hx hxl⊢;subst hk;refine aH (fun hlt=>?_) fun hge=>Ev.some ?_
  ·have hk3:=cD (show i<e.kids.length by omega);have hm:=cK hk3;have hb:=hcb _ hm;refine aA (aN hk3) (aA (w7 (d:=d) L n _ (by omega) (by omega) (h3 _ hm)) (aA (bU (by omega)) ?_));rw [aK (by omega)];refine hr _ ⟨i+1,by dsimp only;omega,by omega,?_,by dsimp only;rw [nY];omega⟩ (by dsimp only;omega);dsimp only;rw [v7,hk3,vBa,hx];simp
  have:i=e.kids.length:=by omega
  rw [hx,this,oE];simp [b9,hn3]
theorem X5(n:Nat){a:Affine}(h:a.coefs.length≤1000):gO n a=some a:=by
 unfold gO;refine Ev.eq (aH (fun h0=>Ev.some ?_) fun h0=>aA (fO _ h) (Ev.some rfl));obtain⟨cs,c⟩:=a
 have:cs=[]:=vAC (by simpa using h0);subst this;rfl
theorem xG{n:Nat}(hn:5000≤n){a:Access}(h:L9 a.subs):fG n a=some a:=by
 obtain⟨h0,h1⟩:=h;refine Ev.eq ?_;unfold fG;refine Ev.loop (fun x:List Affine×Int=> ∃i:Nat,x.2=i∧i≤a.subs.length∧x.1=a.subs.take i) (fun x=>a.subs.length-x.2.toNat) ?_ n _ ⟨0,rfl,by omega,by simp⟩ (by simp;omega);rintro again ⟨x,k⟩ ⟨i,hk,hi,hx⟩ hr;dsimp only at hk hx⊢;subst hk;refine aH (fun hlt=>?_) fun hge=>Ev.some ?_
 ·have hs:=cD (show i<a.subs.length by omega);have hl:x.length=i:=by rw [hx,pS];omega
  refine aA (aN hs) (aA (X5 n (h1 _ (cK hs))) (aA (bU (by simp;omega)) ?_));rw [aK (by omega)];refine hr _ ⟨i+1,by dsimp only;omega,by omega,?_⟩ (by dsimp only;omega);dsimp only;rw [v7,hs,hx];rfl
 have:i=a.subs.length:=by omega
 rw [hx,this,oE]
theorem aMi{l:List Affine}(h1:l.length≤2)(h2: ∀a∈l,b8 a=true):L9 l:=⟨by omega,fun a ha=>by have:=(jG (h2 a ha)).1;unfold SmA;omega⟩
theorem P6{d:Int}: ∀(L n:Nat) (e:Expr) (out:List Access),6000+L≤n→L≤5→dI L e d=true→(out.length:Int)≤1000+200*(6-(L:Int))→s_l3Reads (n+1) out e=some (out++b9 L e)
 |0,n,e,out,_,_,h,_=>by cases h
 |L+1,n,e,out,hn,hL,h,ho=>by
  obtain⟨h1,h2,h3⟩:=iB h;have hk2:=nJ e.kind;unfold s_l3Reads;refine Ev.eq (Ev.jn (fun z=>z=out++(if e.kind=3 then [e.read] else [])) (fun j hj=>aH (fun h3k=>?_) fun hn3=>hj _ (by rw [if_neg hn3];simp)) fun z hz=>?_)
  ·have ha:=D6 h e.read (by simp [b9,h3k]);obtain⟨_,b1,b2⟩:=uS ha;exact aA (xG (by omega) (aMi b1 b2)) (aA (bU (by simp;omega)) (hj _ (by rw [if_pos h3k])))
  subst hz;obtain⟨n,rfl⟩: ∃j,n=j+1:=⟨n-1,by omega⟩
  by_cases h3k:e.kind=3
  ·have hnil:e.kids=[]:=by
    have hz:gT e.kind=0:=by unfold gT;rw [if_pos (Or.inr (Or.inr h3k))]
    exact vAC (by omega)
   rw [hnil];refine Ev.some ?_;simp [b9,h3k,hnil]
  have hcb: ∀k∈e.kids,((b9 L k).length:Int)≤100:=fun k hk=>by
   have h5:=aCz (h3 k hk);have h6:(2:Int)^L≤40:=by
    match L,hL with
    |0,_=>decide
    |1,_=>decide
    |2,_=>decide
    |3,_=>decide
    |4,_=>decide
   have:=vF L k;omega
  rw [if_neg h3k,vBm];refine Ev.loop (fun x:List Access×Int=> ∃i:Nat,x.2=i∧i≤e.kids.length∧x.1=out++(e.kids.take i).flatMap (b9 L)∧(x.1.length:Int)≤out.length+100*i) (fun x=>e.kids.length-x.2.toNat) ?_ (n+1) _ ⟨0,rfl,by omega,by simp,by simp⟩ (by simp;omega);rintro again ⟨x,k⟩ ⟨i,hk,hi,hx,hxl⟩ hr;dsimp only at hk hx hxl⊢;subst hk;refine aH (fun hlt=>?_) fun hge=>Ev.some ?_
  ·have hk3:=cD (show i<e.kids.length by omega);have hm:=cK hk3;have hb:=hcb _ hm;refine aA (aN hk3) (aA (P6 (d:=d) L n _ x (by omega) (by omega) (h3 _ hm) (by omega)) ?_);rw [aK (by omega)];refine hr _ ⟨i+1,by dsimp only;omega,by omega,?_,by dsimp only;rw [nY];omega⟩ (by dsimp only;omega);dsimp only;rw [v7,hk3,vBa,hx];simp
  have:i=e.kids.length:=by omega
  rw [hx,this,oE];simp [b9,h3k]
theorem aJa{nest:List Loop}(hf:Fit nest): ∀(ls:List Loop) (k:Nat) (p q:List Int),nest.drop k=ls→k≤nest.length→pQ k p→q∈pts ls p→pQ nest.length q
 | [],k,p,q,hd,hk,hp,hq=>by
  have:=zY hd hk;simp only [pts,List.mem_singleton] at hq;subst hq;subst this;exact hp
 |l::ls,k,p,q,hd,hk,hp,hq=>by obtain⟨d1,d2,d3⟩:=vW hd;obtain⟨s1,s2⟩:=hf.2 k l d1;have hf1:=hf.1;simp only [pts,List.mem_flatMap] at hq;obtain⟨v,hv,hq⟩:=hq;exact aJa hf ls (k+1) _ q d2 (by omega) (M7 s1 s2 hp (by omega) (aLv.1 hv)) hq
theorem aEF{nest:List Loop}{ps:List (List Int)}(h:NP nest=some ps):Fit nest∧ps.length≤120∧(∀q∈ps,pQ nest.length q)∧ps=pts nest []∧wk nest []≤1200:=by
 unfold NP at h;split at h
 ·rename_i hc;cases h;have hf:=aCk hc.1;exact⟨hf,hc.2.2,fun q hq=>aJa hf nest 0 [] q rfl (by omega) pt0 hq,rfl,hc.2.1⟩
 cases h
def dO(list:List Arr)(s:Stmt)(q:List Int):Bool:=decide (0≤cT list s.write q 0)&&(b9 5 s.value).all fun a=>decide (0≤cT list a q 0)
theorem jT{s:Stmt}{d:Int}(h:fM s d=true):gN s.write d=true∧dI 5 s.value d=true∧(∀a∈b9 5 s.value,gN a d=true)∧(b9 5 s.value).length≤12:=by
 simp only [fM,Bool.and_eq_true,decide_eq_true_eq] at h;obtain⟨_,h1,h2,h3⟩:=h
 have:=vF 5 s.value;exact⟨h1,h2,D6 h2,by omega⟩
theorem aDJ{n:Nat}(hn:7000≤n){p:Prog}(hl:p.arrays.length≤4)(hd:jE p.arrays){s:Stmt}{d:Int}(hs:fM s d=true){k:Nat}{q:List Int}(hq:pQ k q):iH n p s q=some (dO p.arrays s q):=by
 obtain⟨h1,h2,h3,h4⟩:=jT hs;obtain⟨n,rfl⟩: ∃j,n=j+1:=⟨n-1,by omega⟩
 refine Ev.eq ?_;unfold iH;generalize hT:dO p.arrays s q=T;unfold dO at hT;refine Ev.jn (fun z=>z=T) (fun j hj=>aA (vT (by omega) hl hd h1 hq) (aH (fun h=>?_) fun h=>hj _ ?_)) fun z hz=>Ev.some hz
 ·have hc:=L4 (n:=n+1) (f:=fun q0=>eD (n+1) q0 p q) (p:=fun a=>decide (cT p.arrays a q 0<0)) (l:=b9 5 s.value)
   (fun a ha=>by unfold eD;rw [vT (by omega) hl hd (h3 a ha) hq];rfl) (by omega) (by omega)
  refine aA (w7 (d:=d) 5 n s.value (by omega) (by omega) h2) (aA hc (hj _ ?_));rw [←hT,decide_eq_true h,vAX,vBf];congr 1;apply congrArg fun f=>List.any (b9 5 s.value) f;funext a;rw [ltd]
 rw [←hT,decide_eq_false h];rfl
theorem yJ{n:Nat}(hn:7000≤n){list:List Arr}(hl:list.length≤4)(hd:jE list){s:Stmt}{d:Int}(hs:fM s d=true){k:Nat}{q:List Int}(hq:pQ k q):
  mX n list s q=some (if dO list s q=true then((b9 5 s.value).map fun a=>cT list a q 0,cT list s.write q 0,true) else([],0,false)):=by
 obtain⟨h1,h2,h3,h4⟩:=jT hs;obtain⟨n,rfl⟩: ∃j,n=j+1:=⟨n-1,by omega⟩
 refine Ev.eq ?_;unfold mX;refine aA (P6 (d:=d) 5 n s.value [] (by omega) (by omega) h2 (by simp)) ?_;rw [List.nil_append];generalize hR:b9 5 s.value=R at*;have hco:dO list s q=(decide (0≤cT list s.write q 0)&&R.all fun a=>decide (0≤cT list a q 0)):=by unfold dO;rw [hR]
 refine Ev.loop (fun x:List Int×Int=> ∃i:Nat,x.2=i∧i≤R.length∧x.1=(R.take i).map (fun a=>cT list a q 0)∧ ∀(t:Nat) a,t<i→R[t]? =some a→0≤cT list a q 0) (fun x=>R.length-x.2.toNat) ?_ (n+1) _ ⟨0,rfl,by omega,by simp,fun t a h=>by omega⟩ (by dsimp only;omega);rintro again ⟨x,z⟩ ⟨i,hz,hi,hx,ha⟩ hr;dsimp only at hz hx ha⊢;subst hz;refine aH (fun hlt=>?_) fun hge=>?_
 ·have hg:=cD (show i<R.length by omega);have hm:=cK hg;refine aA (aN hg) (aA (aAY (by omega) hl hd (h3 _ hm) hq) (aH (fun hneg=>Ev.some ?_) fun hpos=>?_))
  ·rw [if_neg];rw [hco];intro h;rw [vBA] at h
   have:=vAH.1 h.2 _ hm;rw [decide_eq_true_eq] at this;omega
  have hl2:x.length≤12:=by rw [hx,mU,pS];omega
  refine aA (bU (by simp;omega)) ?_;rw [aK (by omega)];refine hr _ ⟨i+1,by dsimp only;omega,by omega,?_,fun t a ht hta=>?_⟩ (by dsimp only;omega)
  ·dsimp only;rw [v7,hg,vAI,hx];rfl
  by_cases hti:t=i
  ·subst hti;rw [hg] at hta;cases hta;omega
  exact ha t a (by omega) hta
 have hie:i=R.length:=by omega
 have hall:R.all (fun a=>decide (0≤cT list a q 0))=true:=vAH.2 (fun a hm=>by
  obtain⟨t,ht⟩:=vAL hm
  have:=(cI.1 ht).1;exact decide_eq_true (ha t a (by omega) ht))
 rw [hco,hall,Bool.and_true];refine aA (aAY (by omega) hl hd h1 hq) (aH (fun hneg=>Ev.some ?_) fun hpos=>Ev.some ?_)
 ·rw [if_neg (by rw [decide_eq_true_eq];omega)]
 rw [if_pos (by rw [decide_eq_true_eq];omega),hx,hie,oE]
def ptV(q:List Int):Bool:=decide (q.length≤4)&&q.all fun x=>decide (-9999≤x∧x≤9999)
theorem aCe{n:Nat}(hn:5000≤n){q:List Int}(h:q.length≤1000):vR n q=some (ptV q):=by
 unfold vR ptV;have hc:=sC (n:=n) (f:=fun q0=>lW n q0) (p:=fun x=> !decide (-9999≤x∧x≤9999)) (l:=q) (fun x _=>by unfold lW;rw [d8];rfl) (by omega) (by omega);simp only [jn,Option.bind];rw [hc];have e:(q.any fun x=> !decide (-9999≤x∧x≤9999))= !(q.all fun x=>decide (-9999≤x∧x≤9999)):=by rw [vBf];simp
 rw [e,show decide ((q.length:Int)≤4)=decide (q.length≤4) from decide_eq_decide.2 (by omega)];cases decide (q.length≤4)<;>simp
theorem aBZ{n:Nat}(hn:5000≤n){q:List Int}(h:q.length≤1000):u9 n q=some (ptV q):=by
 refine Ev.eq ?_;unfold u9;refine mS (l:=q) (p:=fun _ x=>decide (-9999≤x∧x≤9999)) (by omega) (by omega) (fun again i x hx hgo hno=>?_) (fun again hall=>?_) (fun⟨i,x,hx,hp⟩=>?_)
 ·have hi:=(cI.1 hx).1;rw [decide_eq_true (show(i:Int)<(q.length:Int) by omega)];refine cE (aA (aN hx) (aA (tN n x 9999 (by omega)) ?_));cases hp:decide (-9999≤x∧x≤9999) with
  |true=>show Ev (again _) _;rw [aK (by omega)];exact hgo hp
  |false=>exact Ev.some (hno hp)
 ·rw [decide_eq_false (show¬(q.length:Int)<(q.length:Int) by omega)];refine Ev.some ?_;unfold ptV;rw [vAH.2 (fun c hc=>by obtain⟨i,hi⟩:=vAL hc;exact hall i c hi),Bool.and_true];exact decide_eq_decide.2 (by omega)
 unfold ptV;rw [vAM.2 ⟨x,cK hx,by rw [hp];simp⟩,vBp]
theorem aEx{α:Type}(p q:α→Bool): ∀l:List α,(l.all p&&l.all q)=l.all (fun x=>p x&&q x)
 | []=>rfl
 |x::l=>by simp only [List.all_cons,←aEx p q l];cases p x<;>cases q x<;>cases l.all p<;>cases l.all q<;>rfl
def C0(part:Part):Bool:=decide (1≤part.body.length∧part.body.length≤4)&&part.body.all fun s=>fM s (part.nest.length:Int)
def dA(part:Part):List (List Int):=(NP part.nest).getD []
def cP(list:List Arr)(part:Part):Bool:=(NP part.nest).isSome&&(C0 part&&part.body.all fun s=>(dA part).all fun q=>dO list s q&&ptV q)
def aCN(x:Part):Prop:=SmN x.nest∧x.body.length≤1000∧ ∀s∈x.body,SmS s
def SmP(p:Prog):Prop:=SmR p.arrays∧p.parts.length≤1000∧ ∀x∈p.parts,aCN x
theorem iW{list:List Arr}{x:Part}(h:cP list x=true):NP x.nest=some (dA x)∧(1≤x.body.length∧x.body.length≤4)∧(∀s∈x.body,fM s (x.nest.length:Int)=true)∧ ∀s∈x.body,∀q∈dA x,dO list s q=true∧ptV q=true:=by
 simp only [cP,C0,Bool.and_eq_true,decide_eq_true_eq,List.all_eq_true] at h;refine⟨?_,h.2.1.1,h.2.1.2,h.2.2⟩;unfold dA;cases hn:NP x.nest with
 |none=>rw [hn] at h;simp at h
 |some ps=>rfl
theorem aGk{list:List Arr}(h:hJ list=true):list.length≤4∧jE list:=by
 simp only [hJ,Bool.and_eq_true,decide_eq_true_eq] at h;refine⟨h.2,fun x hx=>?_⟩;obtain⟨i,hi⟩:=vAL hx
 have:=U5 h.1 hi;simp only [aAK,Bool.and_eq_true] at this;exact this.2.2
theorem tQ{n:Nat}(hn:7000≤n){list:List Arr}(hl:list.length≤4)(hd:jE list){x:Part}(hx:aCN x):
  pX n list x=some (if cP list x=true then(((dA x).length:Int)*(x.body.length:Int),true) else(0,false)):=by
 obtain⟨h1,h2,h3⟩:=hx;refine Ev.eq ?_;unfold pX;generalize hT:(if cP list x=true then(((dA x).length:Int)*(x.body.length:Int),true) else((0:Int),false))=T;refine aA (K9 (by omega) h1) ?_;have hbad:cP list x=false→((0:Int),false)=T:=fun h=>by rw [←hT,h];rfl
 refine Ev.jn (fun z=>z= !((NP x.nest).isSome&&decide (1≤x.body.length∧x.body.length≤4))) (fun j hj=>?_) fun z hz=>?_
 ·cases hN:NP x.nest with
  |none=>exact cE (hj _ (by rw [hN];rfl))
  |some ps=>
   refine bV (aH (fun h=>hj _ ?_) fun h=>hj _ ?_)
   ·rw [hN,decide_eq_false (by omega)];rfl
   rw [hN];by_cases h4:x.body.length≤4
   ·rw [decide_eq_false (show¬(4:Int)<(x.body.length:Int) by omega),decide_eq_true (by omega)];rfl
   rw [decide_eq_true (show(4:Int)<(x.body.length:Int) by omega),decide_eq_false (by omega)];rfl
 subst hz;cases hN:NP x.nest with
 |none=>exact Ev.some (hbad (by unfold cP;rw [hN];rfl))
 |some ps=>
  obtain⟨hf,hp1,hp2,hp3,hp4⟩:=aEF hN;have hpp:dA x=ps:=by unfold dA;rw [hN];rfl
  by_cases hb:1≤x.body.length∧x.body.length≤4
  ·rw [decide_eq_true hb];refine bV ?_;have hok:cP list x=x.body.all (fun s=>fM s (x.nest.length:Int)&&ps.all fun q=>dO list s q&&ptV q):=by
    unfold cP C0;rw [hN,hpp,decide_eq_true hb,Option.isSome_some,vAX,vAX];exact aEx _ _ _
   refine Ev.loop (fun y:Int=> ∃i:Nat,y=i∧i≤x.body.length∧ ∀(t:Nat) s,t<i→x.body[t]? =some s→(fM s (x.nest.length:Int)&&ps.all fun q=>dO list s q&&ptV q)=true) (fun y=>x.body.length-y.toNat) ?_ n _ ⟨0,rfl,by omega,fun t s h=>by omega⟩ (by simp;omega);rintro again y ⟨i,rfl,hi,ha⟩ hr;refine aH (fun hlt=>?_) fun hge=>Ev.some ?_
   ·have hg:=cD (show i<x.body.length by omega);have hm:=cK hg;refine aA (aN hg) (aA (tV (by omega) (h3 _ hm) _) ?_);cases hsv:fM x.body[i] (x.nest.length:Int) with
    |false=>
     refine cE (Ev.some (hbad ?_));rw [hok];exact vAM.2 ⟨_,hm,by rw [hsv];simp⟩
    |true=>
     refine bV ?_;show Ev (aM (fun again9 (x8:Int)=>bif decide (x8<(ps.length:Int)) then _ else _) n 0) _;refine Ev.loop (fun y:Int=> ∃k:Nat,y=k∧k≤ps.length∧ ∀(t:Nat) q,t<k→ps[t]? =some q→(dO list x.body[i] q&&ptV q)=true) (fun y=>ps.length-y.toNat) ?_ n _ ⟨0,rfl,by omega,fun t s h=>by omega⟩ (by simp;omega);rintro again9 y ⟨k,rfl,hk,hak⟩ hr9;refine aH (fun hlt9=>?_) fun hge9=>?_
     ·have hgk:=cD (show k<ps.length by omega);have hmk:=cK hgk;have hq:=hp2 _ hmk;have hql:ps[k].length≤1000:=by have:=hq.1;have:=hq.2.1;omega
      refine aA (aN hgk) (aA (yJ (by omega) hl hd hsv hq) (Ev.jn (fun z=>z= !(dO list x.body[i] ps[k]&&ptV ps[k])) (fun j hj=>?_) fun z hz=>?_))
      ·cases hc:dO list x.body[i] ps[k] with
       |false=>
        rw [hc] at hj;exact cE (hj _ rfl)
       |true=>
        rw [hc] at hj;exact bV (aA (aBZ (by omega) hql) (hj _ rfl))
      subst hz;cases hc:(dO list x.body[i] ps[k]&&ptV ps[k]) with
      |false=>
       refine Ev.some (hbad ?_);rw [hok];refine vAM.2 ⟨_,hm,?_⟩;rw [hsv,vAX];rw [vAM.2 ⟨_,hmk,by rw [hc];simp⟩];simp
      |true=>
       show Ev (again9 _) _;rw [aK (by omega)];refine hr9 _ ⟨k+1,by omega,by omega,fun t q ht htq=>?_⟩ (by omega);by_cases htk:t=k
       ·subst htk;rw [hgk] at htq;cases htq;exact hc
       exact hak t q (by omega) htq
     rw [aK (by omega)];refine hr _ ⟨i+1,by omega,by omega,fun t s ht hts=>?_⟩ (by omega);by_cases hti:t=i
     ·subst hti;rw [hg] at hts;cases hts;rw [hsv,vAX];refine vAH.2 fun q hq=>?_;obtain⟨t',ht'⟩:=vAL hq
      have:=(cI.1 ht').1;exact hak t' q (by omega) ht'
     exact ha t s (by omega) hts
   have hall:cP list x=true:=by
    rw [hok];refine vAH.2 fun s hs=>?_;obtain⟨t,ht⟩:=vAL hs
    have:=(cI.1 ht).1;exact ha t s (by omega) ht
   rw [←hT,hall,if_pos rfl,hpp];show(wr ((ps.length:Int)*(x.body.length:Int)),true)=_;have hb1:(0:Int)≤(ps.length:Int)*(x.body.length:Int):=vBx (by omega) (by omega);have hb2:(ps.length:Int)*(x.body.length:Int)≤120*4:=vBQ (by omega) (by omega) (by omega) (by omega);rw [aK (by omega)]
  rw [decide_eq_false hb];refine Ev.some (hbad ?_);unfold cP C0;rw [decide_eq_false hb];simp
def fU(x:Part):Int:=((dA x).length:Int)*(x.body.length:Int)
def instP(i:Nat)(x:Part):List Inst:=(dA x).flatMap fun q=>(List.range x.body.length).map fun(k:Nat)=>(⟨(i:Int),(k:Int),q⟩:Inst)
def insts(ps:List Part):List Inst:=ps.zipIdx.flatMap fun y=>instP y.2 y.1
def q6(p:Prog):Bool:=hJ p.arrays&&(decide (p.parts.length≤4)&&p.parts.all (cP p.arrays))
def bO(p:Prog):Bool:=q6 p&&decide ((p.parts.map fU).sum≤120)
theorem insts_snoc(l:List Part)(x:Part):insts (l++[x])=insts l++instP l.length x:=by unfold insts;rw [List.zipIdx_append,vBa];simp
theorem insts_take{l:List Part}{i:Nat}{x:Part}(h:l[i]? =some x):insts (l.take (i+1))=insts (l.take i)++instP i x:=by have hi:=(cI.1 h).1;rw [v7,h];show insts (l.take i++[x])=_;rw [insts_snoc,pS,Nat.min_eq_left (Nat.le_of_lt hi)]
theorem zU{α β:Type}(f:α→List β)(m:Nat)(h: ∀x,(f x).length=m): ∀l:List α,(l.flatMap f).length=l.length*m
 | []=>by simp
 |x::l=>by rw [vBI,nY,h,zU f m h l,vBX,nA];omega
theorem instP_len(i:Nat)(x:Part):((instP i x).length:Int)=fU x:=by unfold instP fU;rw [zU _ x.body.length fun q=>by simp];exact Int.natCast_mul _ _
theorem aDe{l:List Part}{i:Nat}{x:Part}(h:l[i]? =some x):((l.take (i+1)).map fU).sum=((l.take i).map fU).sum+fU x:=by rw [v7,h];simp
theorem insts_len: ∀(l:List Part) (i:Nat),i≤l.length→((insts (l.take i)).length:Int)=((l.take i).map fU).sum
 |l,0,_=>by simp [insts]
 |l,i+1,h=>by
  have hg:=cD (show i<l.length by omega);rw [insts_take hg,nY,aDe hg]
  have:=insts_len l i (by omega)
  have:=instP_len i l[i];omega
theorem insts_len'(l:List Part):((insts l).length:Int)=(l.map fU).sum:=by
 have:=insts_len l l.length (iR _)
 rwa [oE] at this
theorem G5{list:List Arr}{x:Part}(h:cP list x=true):0≤fU x∧fU x≤480:=by
 obtain⟨h1,h2,_⟩:=iW h;obtain⟨_,h3,_⟩:=aEF h1;unfold fU;refine⟨vBx (by omega) (by omega),?_⟩
 have:=vBQ (show((dA x).length:Int)≤120 by omega) (show(x.body.length:Int)≤4 by omega) (by omega) (by omega);omega
theorem jV{n:Nat}(hn:7000≤n){p:Prog}(hp:SmP p):d9 n p=some (bO p):=by
 obtain⟨h1,h2,h3⟩:=hp;refine Ev.eq ?_;unfold d9;generalize hT:bO p=T;unfold bO q6 at hT;refine Ev.jn (fun z=>z= !(hJ p.arrays&&decide (p.parts.length≤4))) (fun j hj=>aA (aAl (by omega) h1) ?_) fun z hz=>?_
 ·cases ha:hJ p.arrays with
  |false=>exact cE (hj _ (by rw [ha];rfl))
  |true=>
   refine bV (hj _ ?_);rw [ha];by_cases h4:p.parts.length≤4
   ·rw [decide_eq_false (show¬(4:Int)<(p.parts.length:Int) by omega),decide_eq_true h4];rfl
   rw [decide_eq_true (show(4:Int)<(p.parts.length:Int) by omega),decide_eq_false h4];rfl
 subst hz;cases hb:(hJ p.arrays&&decide (p.parts.length≤4)) with
 |false=>
  refine Ev.some ?_;rw [←hT,←vBh,hb];rfl
 |true=>
  have hT':T=(p.parts.all (cP p.arrays)&&decide ((p.parts.map fU).sum≤120)):=by rw [←hT,←vBh,hb];rfl
  rw [vBA,decide_eq_true_eq] at hb;obtain⟨hl,hd⟩:=aGk hb.1;refine bV ?_;refine Ev.loop (fun x:Int×Int=> ∃i:Nat,x.2=i∧i≤p.parts.length∧x.1=((p.parts.take i).map fU).sum∧0≤x.1∧x.1≤480*i∧ ∀(t:Nat) y,t<i→p.parts[t]? =some y→cP p.arrays y=true) (fun x=>p.parts.length-x.2.toNat) ?_ n _ ⟨0,rfl,by omega,by simp,by simp,by simp,fun t y h=>by omega⟩ (by dsimp only;omega);rintro again ⟨x,z⟩ ⟨i,hz,hi,hx,hx0,hx1,ha⟩ hr;dsimp only at hz hx hx0 hx1 ha⊢;subst hz;refine aH (fun hlt=>?_) fun hge=>Ev.some ?_
  ·have hg:=cD (show i<p.parts.length by omega);have hm:=cK hg;refine aA (aN hg) (aA (tQ (by omega) hl hd (h3 _ hm)) ?_);cases hpo:cP p.arrays p.parts[i] with
   |false=>
    rw [if_neg (by simp)];refine Ev.some ?_;rw [hT',vAM.2 ⟨_,hm,by rw [hpo];simp⟩];rfl
   |true=>
    rw [if_pos rfl];have hcb:=G5 hpo;show Ev (again (wr (x+fU p.parts[i]),wr ((i:Int)+1))) _;rw [aK (n:=x+fU p.parts[i]) (by omega),aK (by omega)];refine hr _ ⟨i+1,by dsimp only;omega,by omega,by dsimp only;rw [aDe hg];omega,by dsimp only;omega,by dsimp only;omega,fun t y ht hty=>?_⟩ (by dsimp only;omega);by_cases hti:t=i
    ·subst hti;rw [hg] at hty;cases hty;exact hpo
    exact ha t y (by omega) hty
  have hie:i=p.parts.length:=by omega
  have hall:p.parts.all (cP p.arrays)=true:=vAH.2 (fun y hy=>by
   obtain⟨t,ht⟩:=vAL hy
   have:=(cI.1 ht).1;exact ha t y (by omega) ht)
  rw [hT',hall,vAX,hx,hie,oE]
theorem tZ{α:Type}(f:Nat→α)(k:Nat):(List.range (k+1)).map f=(List.range k).map f++[f k]:=by rw [vBq,vAI];rfl
theorem uE{n:Nat}(hn:7000≤n){p:Prog}(hp:SmP p):dB n p=some (if q6 p=true then(insts p.parts,decide ((insts p.parts).length≤120)) else([],false)):=by
 obtain⟨h1,h2,h3⟩:=hp;refine Ev.eq ?_;unfold dB;generalize hT:(if q6 p=true then(insts p.parts,decide ((insts p.parts).length≤120)) else([],false))=T;have hbad:q6 p=false→(([]:List Inst),false)=T:=fun h=>by rw [←hT,h];rfl
 refine Ev.jn (fun z=>z= !(hJ p.arrays&&decide (p.parts.length≤4))) (fun j hj=>aA (aAu (by omega) h1) ?_) fun z hz=>?_
 ·cases ha:hJ p.arrays with
  |false=>exact cE (hj _ (by rw [ha];rfl))
  |true=>
   refine bV (hj _ ?_);rw [ha];by_cases h4:p.parts.length≤4
   ·rw [decide_eq_false (show¬(4:Int)<(p.parts.length:Int) by omega),decide_eq_true h4];rfl
   rw [decide_eq_true (show(4:Int)<(p.parts.length:Int) by omega),decide_eq_false h4];rfl
 subst hz;cases hb:(hJ p.arrays&&decide (p.parts.length≤4)) with
 |false=>exact Ev.some (hbad (by unfold q6;rw [←vBh,hb];rfl))
 |true=>
  have hall':q6 p=p.parts.all (cP p.arrays):=by unfold q6;rw [←vBh,hb];rfl
  rw [vBA,decide_eq_true_eq] at hb;obtain⟨hl,hd⟩:=aGk hb.1;refine bV ?_;refine Ev.loop (fun x:List Inst×Int=> ∃i:Nat,x.2=i∧i≤p.parts.length∧x.1=insts (p.parts.take i)∧x.1.length≤480*i∧ ∀(t:Nat) y,t<i→p.parts[t]? =some y→cP p.arrays y=true) (fun x=>p.parts.length-x.2.toNat) ?_ n _ ⟨0,rfl,by omega,by simp [insts],by simp,fun t y h=>by omega⟩ (by dsimp only;omega);rintro again ⟨x,z⟩ ⟨i,hz,hi,hx,hxl,ha⟩ hr;dsimp only at hz hx hxl ha⊢;subst hz;refine aH (fun hlt=>?_) fun hge=>Ev.some ?_
  ·have hg:=cD (show i<p.parts.length by omega);have hm:=cK hg;obtain⟨s1,s2,s3⟩:=h3 _ hm;generalize hP:p.parts[i]=P at*;have hpb:cP p.arrays P=false→q6 p=false:=fun h=>by rw [hall'];exact vAM.2 ⟨_,hm,by rw [h];simp⟩
   refine aA (aN hg) (aA (L3 (by omega) s1) (Ev.jn (fun z=>z= !((NP P.nest).isSome&&C0 P)) (fun j hj=>?_) fun z hz=>?_))
   ·cases hN:NP P.nest with
    |none=>exact cE (hj _ (by rw [hN];rfl))
    |some ps=>
     refine bV ?_;have hw:cR n (P.body.length:Int) 1 4=some (decide (1≤P.body.length∧P.body.length≤4)):=by
      rw [d8];congr 1;exact decide_eq_decide.2 (by omega)
     refine aA hw ?_;have hc:=aAx (n:=n) (f:=fun q0=>dK n q0 P) (p:=fun s=> !fM s (P.nest.length:Int)) (l:=P.body) (fun s hs=>by unfold dK;rw [U9 (by omega) (s3 s hs)];rfl) (by omega) (by omega);have e:(P.body.any fun s=> !fM s (P.nest.length:Int))= !(P.body.all fun s=>fM s (P.nest.length:Int)):=by rw [vBf];simp
     cases hw2:decide (1≤P.body.length∧P.body.length≤4) with
     |false=>exact cE (hj _ (by unfold C0;rw [hN,hw2];rfl))
     |true=>exact bV (aA hc (hj _ (by unfold C0;rw [hN,hw2,e];rfl)))
   subst hz;cases hN:NP P.nest with
   |none=>exact Ev.some (hbad (hpb (by unfold cP;rw [hN];rfl)))
   |some ps=>
    obtain⟨hf,hp1,hp2,hp3,hp4⟩:=aEF hN;have hpp:dA P=ps:=by unfold dA;rw [hN];rfl
    cases hbv:C0 P with
    |false=>exact Ev.some (hbad (hpb (by unfold cP;rw [hbv];simp)))
    |true=>
     have hbv':=hbv;simp only [C0,Bool.and_eq_true,decide_eq_true_eq,List.all_eq_true] at hbv';obtain⟨⟨hb1,hb2⟩,hb3⟩:=hbv';have hok:cP p.arrays P=P.body.all (fun s=>ps.all fun q=>dO p.arrays s q&&ptV q):=by
      unfold cP;rw [hN,hbv,hpp];rfl
     let row:List Int→List Inst:=fun q=>(List.range P.body.length).map fun(k:Nat)=>(⟨(i:Int),(k:Int),q⟩:Inst)
     have hrl: ∀q,(row q).length=P.body.length:=fun q=>by simp [row]
     have hinst:instP i P=ps.flatMap row:=by unfold instP;rw [hpp]
     refine bV ?_;rw [show(aFL (some ps)).1=ps from rfl];refine Ev.loop (fun y:List Inst×Int=> ∃k:Nat,y.2=k∧k≤ps.length∧y.1=x++(ps.take k).flatMap row∧ ∀(t:Nat) q,t<k→ps[t]? =some q→ptV q=true∧ ∀s∈P.body,dO p.arrays s q=true) (fun y=>ps.length-y.2.toNat) ?_ n _ ⟨0,rfl,by omega,by simp,fun t q h=>by omega⟩ (by dsimp only;omega);rintro again17 ⟨y,z⟩ ⟨k,hz,hk,hy,hak⟩ hr17;dsimp only at hz hy hak⊢;subst hz;refine aH (fun hlt2=>?_) fun hge2=>?_
     ·have hgk:=cD (show k<ps.length by omega);have hmk:=cK hgk;generalize hQ:ps[k]=Q at*;have hq:=hp2 _ hmk;have hql:Q.length≤4:=by have:=hq.1;have:=hq.2.1;omega
      refine aA (aN hgk) (aA (aCe (by omega) (by omega)) ?_);have hyl:y.length≤480*4+480:=by
       rw [hy,nY,zU row _ hrl,pS]
       have:min k ps.length*P.body.length≤120*4:=vBG (by omega) hb2;omega
      cases hpv:ptV Q with
      |false=>
       refine cE (Ev.some (hbad (hpb ?_)));rw [hok];obtain⟨s0,hs0⟩: ∃s0,s0∈P.body:=List.exists_mem_of_length_pos (by omega);refine vAM.2 ⟨s0,hs0,?_⟩;rw [vAM.2 ⟨Q,hmk,by rw [hpv];simp⟩];simp
      |true=>
       refine bV ?_;refine Ev.loop (fun u:List Inst×Int=> ∃m:Nat,u.2=m∧m≤P.body.length∧u.1=y++(List.range m).map (fun(k:Nat)=>(⟨(i:Int),(k:Int),Q⟩:Inst))∧ ∀(t:Nat) s,t<m→P.body[t]? =some s→dO p.arrays s Q=true) (fun u=>P.body.length-u.2.toNat) ?_ n _ ⟨0,rfl,by omega,by simp,fun t s h=>by omega⟩ (by dsimp only;omega);rintro again23 ⟨u,z⟩ ⟨m,hz,hmm,hu,ham⟩ hr23;dsimp only at hz hu ham⊢;subst hz;refine aH (fun hlt3=>?_) fun hge3=>?_
       ·have hgm:=cD (show m<P.body.length by omega);have hmem:=cK hgm;refine aA (aN hgm) (aA (aDJ (by omega) hl hd (hb3 _ hmem) hq) ?_);cases hco:dO p.arrays P.body[m] Q with
        |false=>
         refine cE (Ev.some (hbad (hpb ?_)));rw [hok];refine vAM.2 ⟨_,hmem,?_⟩;rw [vAM.2 ⟨Q,hmk,by rw [hco];simp⟩];simp
        |true=>
         have hcl:m_ownClone Q=some Q:=by unfold m_ownClone;rw [if_pos (by omega)]
         have hul:u.length≤480*4+480+4:=by rw [hu];simp;omega
         refine bV (aA hcl (aA (bU (by simp;omega)) ?_));rw [aK (by omega)];refine hr23 _ ⟨m+1,by dsimp only;omega,by omega,?_,fun t s ht hts=>?_⟩ (by dsimp only;omega)
         ·dsimp only;rw [hu,tZ,vAO]
         by_cases htm:t=m
         ·subst htm;rw [hgm] at hts;cases hts;exact hco
         exact ham t s (by omega) hts
       have hme:m=P.body.length:=by omega
       rw [aK (by omega)];refine hr17 _ ⟨k+1,by dsimp only;omega,by omega,?_,fun t q ht htq=>?_⟩ (by dsimp only;omega)
       ·dsimp only;rw [v7,hgk,vBa,←vAO,←hy,hu,hme];simp [row]
       by_cases htk:t=k
       ·subst htk;rw [hgk] at htq;cases htq;refine⟨hpv,fun s hs=>?_⟩;obtain⟨t',ht'⟩:=vAL hs
        have:=(cI.1 ht').1;exact ham t' s (by omega) ht'
       exact hak t q (by omega) htq
     have hke:k=ps.length:=by omega
     have hpo:cP p.arrays P=true:=by
      rw [hok];refine vAH.2 fun s hs=>vAH.2 fun q hq=>?_;obtain⟨t,ht⟩:=vAL hq
      have:=(cI.1 ht).1;obtain⟨g1,g2⟩:=hak t q (by omega) ht;rw [g1,g2 s hs];rfl
     have hcb:=G5 hpo;have hil:=instP_len i P;rw [aK (by omega)];refine hr _ ⟨i+1,by dsimp only;omega,by omega,?_,?_,fun t y ht hty=>?_⟩ (by dsimp only;omega)
     ·dsimp only;rw [insts_take hg,hinst,hy,hke,oE,hx]
     ·dsimp only;rw [hy,hke,oE,nY,←hinst];omega
     by_cases hti:t=i
     ·subst hti;rw [hg] at hty;cases hty;exact hpo
     exact ha t y (by omega) hty
  have hie:i=p.parts.length:=by omega
  have hall:q6 p=true:=by
   rw [hall'];exact vAH.2 (fun y hy=>by
    obtain⟨t,ht⟩:=vAL hy
    have:=(cI.1 ht).1;exact ha t y (by omega) ht)
  rw [←hT,if_pos hall,hx,hie,oE];congr 1;exact decide_eq_decide.2 (by omega)
theorem kH{n:Nat}(hn:7000≤n){p:Prog}(hp:SmP p):gW n p=some (bO p):=by
 unfold gW;rw [uE hn hp];unfold bO;cases h:q6 p with
 |false=>rfl
 |true=>
  rw [if_pos rfl];show some (decide _)=_;rw [vAX];congr 1
  have:=insts_len' p.parts;exact decide_eq_decide.2 (by omega)
theorem eN{p:Prog}(h:bO p=true):p.arrays.length≤4∧jE p.arrays∧p.parts.length≤4∧(∀x∈p.parts,cP p.arrays x=true)∧(insts p.parts).length≤120:=by
 simp only [bO,q6,Bool.and_eq_true,decide_eq_true_eq,List.all_eq_true] at h;obtain⟨⟨h1,h2,h3⟩,h4⟩:=h;obtain⟨a,b⟩:=aGk h1
 have:=insts_len' p.parts;exact⟨a,b,h2,h3,by omega⟩
theorem tU{n:Nat}(hn:7000≤n){p:Prog}(hv:bO p=true):iT n p=some (insts p.parts):=by
 obtain⟨hl,hd,h4,hpo,hil⟩:=eN hv;refine Ev.eq ?_;unfold iT;refine Ev.loop (fun x:List Inst×Int=> ∃i:Nat,x.2=i∧i≤p.parts.length∧x.1=insts (p.parts.take i)∧x.1.length≤480*i) (fun x=>p.parts.length-x.2.toNat) ?_ n _ ⟨0,rfl,by omega,by simp [insts],by simp⟩ (by dsimp only;omega);rintro again ⟨x,z⟩ ⟨i,hz,hi,hx,hxl⟩ hr;dsimp only at hz hx hxl⊢;subst hz;refine aH (fun hlt=>?_) fun hge=>Ev.some ?_
 ·have hg:=cD (show i<p.parts.length by omega);have hm:=cK hg;have hpP:=hpo _ hm;generalize hP:p.parts[i]=P at*;obtain⟨q1,q2,q3,q4⟩:=iW hpP;obtain⟨hf,hp1,hp2,hp3,hp4⟩:=aEF q1;generalize hpp:dA P=ps at*;have hcb:=G5 hpP;have hil':=instP_len i P;let row:List Int→List Inst:=fun q=>(List.range P.body.length).map fun(k:Nat)=>(⟨(i:Int),(k:Int),q⟩:Inst)
  have hrl: ∀q,(row q).length=P.body.length:=fun q=>by simp [row]
  have hinst:instP i P=ps.flatMap row:=by unfold instP;rw [hpp]
  refine aA (aN hg) (aI (tO hf P.nest n 0 [] [] (by have:=hf.1;omega) rfl (by omega) pt0 hp4 (by simp)) fun r ⟨r1,r2⟩=>?_);have hr1:r=ps:=by rw [r1 (by rw [←hp3];simpa using hp1),hp3];rfl
  subst hr1;refine Ev.loop (fun y:List Inst×Int=> ∃k:Nat,y.2=k∧k≤r.length∧y.1=x++(r.take k).flatMap row) (fun y=>r.length-y.2.toNat) ?_ n _ ⟨0,rfl,by omega,by simp⟩ (by dsimp only;omega);rintro again10 ⟨y,z⟩ ⟨k,hz,hk,hy⟩ hr10;dsimp only at hz hy⊢;subst hz;refine aH (fun hlt2=>?_) fun hge2=>?_
  ·have hgk:=cD (show k<r.length by omega);have hmk:=cK hgk;generalize hQ:r[k]=Q at*;have hq:=hp2 _ hmk;have hql:Q.length≤4:=by have:=hq.1;have:=hq.2.1;omega
   have hyl:y.length≤480*4+480:=by
    rw [hy,nY,zU row _ hrl,pS]
    have:min k r.length*P.body.length≤120*4:=vBG (by omega) q2.2;omega
   refine Ev.loop (fun u:List Inst×Int=> ∃m:Nat,u.2=m∧m≤P.body.length∧u.1=y++(List.range m).map (fun(k:Nat)=>(⟨(i:Int),(k:Int),Q⟩:Inst))) (fun u=>P.body.length-u.2.toNat) ?_ n _ ⟨0,rfl,by omega,by simp⟩ (by dsimp only;omega);rintro again14 ⟨u,z⟩ ⟨m,hz,hmm,hu⟩ hr14;dsimp only at hz hu⊢;subst hz;refine aH (fun hlt3=>?_) fun hge3=>?_
   ·have hul:u.length≤480*4+480+4:=by rw [hu];simp;omega
    refine aA (aN hgk) (aA (fO _ (by omega)) (aA (bU (by simp;omega)) ?_));rw [aK (by omega)];refine hr14 _ ⟨m+1,by dsimp only;omega,by omega,?_⟩ (by dsimp only;omega);dsimp only;rw [hu,tZ,vAO]
   have hme:m=P.body.length:=by omega
   rw [aK (by omega)];refine hr10 _ ⟨k+1,by dsimp only;omega,by omega,?_⟩ (by dsimp only;omega);dsimp only;rw [v7,hgk,vBa,←vAO,←hy,hu,hme];simp [row]
  have hke:k=r.length:=by omega
  rw [aK (by omega)];refine hr _ ⟨i+1,by dsimp only;omega,by omega,?_,?_⟩ (by dsimp only;omega)
  ·dsimp only;rw [insts_take hg,hinst,hy,hke,oE,hx]
  dsimp only;rw [hy,hke,oE,nY,←hinst];omega
 have hie:i=p.parts.length:=by omega
 rw [hx,hie,oE]
def pE:Nat→List Arr→List Int→Expr→List Int→Int
 |0,_,_,_,_=>0
 |L+1,list,m,e,q=>
  if e.kind=1 then e.num
  else if e.kind=2 then cH e.index q%1000
  else if e.kind=3 then m.getD (cT list e.read q 0).toNat 0
  else match e.kids with
   | [a,b]=>if e.kind=4 then(pE L list m a q+pE L list m b q)%1000 else if e.kind=5 then(pE L list m a q-pE L list m b q)%1000 else(pE L list m a q*pE L list m b q)%1000
   |_=>0
def aAd(list:List Arr)(m:List Int):Prop:=(m.length:Int)=wF list∧ ∀x∈m,0≤x∧x≤999
theorem aNC{list:List Arr}{m:List Int}(h:aAd list m)(i:Nat):0≤m.getD i 0∧m.getD i 0≤999:=by
 rw [s8];cases hi:m[i]? with
 |none=>simp
 |some x=>exact h.2 x (cK hi)
theorem aMY{list:List Arr}{m:List Int}(hm:aAd list m){d:Int}{q:List Int}: ∀{L:Nat} {e:Expr},dI L e d=true→0≤pE L list m e q∧pE L list m e q≤999
 |0,e,h=>by cases h
 |L+1,e,h=>by
  obtain⟨h1,h2,h3⟩:=iB h;simp only [pE];split
  ·rename_i k1;unfold fN at h2;rw [if_neg (by omega),if_neg (by omega),if_pos k1] at h2;simp only [Bool.and_eq_true,decide_eq_true_eq] at h2;omega
  split
  ·omega
  split
  ·exact aNC hm _
  split
  ·split
   ·omega
   split<;>omega
  omega
def eI(p:Prog)(x:Inst):Prop:= ∃(i k:Nat) (P:Part) (s:Stmt),x.part=i∧x.stmt=k∧p.parts[i]? =some P∧P.body[k]? =some s∧x.point∈dA P
def pH(p:Prog)(x:Inst):Option Stmt:=(p.parts[x.part.toNat]?).bind fun P=>P.body[x.stmt.toNat]?
def runI(p:Prog)(m:List Int)(x:Inst):List Int:=match pH p x with
 |some s=>m.set (cT p.arrays s.write x.point 0).toNat (pE 5 p.arrays m s.value x.point)
 |none=>m
theorem inst_d{p:Prog}(hv:bO p=true){x:Inst}(hx:eI p x): ∃(i k:Nat) (P:Part) (s:Stmt) (d:Int),x.part=i∧x.stmt=k∧p.parts[i]? =some P∧P.body[k]? =some s∧pH p x=some s∧fM s d=true∧pQ P.nest.length x.point∧dO p.arrays s x.point=true:=by obtain⟨hl,hd,h4,hpo,hil⟩:=eN hv;obtain⟨i,k,P,s,e1,e2,e3,e4,e5⟩:=hx;obtain⟨q1,q2,q3,q4⟩:=iW (hpo P (cK e3));obtain⟨hf,hp1,hp2,hp3,hp4⟩:=aEF q1;have hs:=cK e4;exact⟨i,k,P,s,_,e1,e2,e3,e4,by unfold pH;rw [e1,e2,sZ,e3];exact(by rw [sZ];exact e4),q3 s hs,hp2 _ e5,(q4 s hs _ e5).1⟩
theorem aCA{list:List Arr}{s:Stmt}{q:List Int}(h:dO list s q=true):0≤cT list s.write q 0∧ ∀a∈b9 5 s.value,0≤cT list a q 0:=by simp only [dO,Bool.and_eq_true,decide_eq_true_eq,List.all_eq_true] at h;exact h
theorem aBj{α:Type}{l:List α}{c:Int}(h0:0≤c)(h:c.toNat<l.length):ix l c=some l[c.toNat]:=by unfold ix;rw [if_pos h0,List.getElem?_eq_getElem h]
theorem aGE{p:Prog}(hv:bO p=true){m:List Int}(hm:aAd p.arrays m){x:Inst}(hx:eI p x):aAd p.arrays (runI p m x):=by
 obtain⟨i,k,P,s,d,e1,e2,e3,e4,e5,e6,e7,e8⟩:=inst_d hv hx;unfold runI;rw [e5];refine⟨by rw [vAW];exact hm.1,fun v hv'=>?_⟩;rcases vBo hv' with h|h
 ·exact hm.2 v h
 rw [h];exact aMY hm (jT e6).2.1
theorem insts_mem{ps:List Part}{x:Inst}(h:x∈insts ps): ∃(i k:Nat) (P:Part) (s:Stmt),x.part=i∧x.stmt=k∧ps[i]? =some P∧P.body[k]? =some s∧x.point∈dA P:=by unfold insts at h;rw [vBO] at h;obtain⟨⟨P,i⟩,h1,h2⟩:=h;unfold instP at h2;rw [vBO] at h2;obtain⟨q,h3,h4⟩:=h2;rw [C8] at h4;obtain⟨k,h5,rfl⟩:=h4;have hk:=vBW.1 h5;exact⟨i,k,P,P.body[k],rfl,rfl,vBd.1 h1,cD hk,h3⟩
def l5(p:Prog)(m:List Int)(l:List Inst):List Int:=l.foldl (runI p) m
end Go.Lift
