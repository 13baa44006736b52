/- Valid statements. -/
import Derived.Test.YtjmaejilmokdgaaGreatKCore1
set_option maxRecDepth 100000
set_option linter.unusedVariables false
namespace Go.Lift
open Go
def SmE:Nat→Expr→Prop
 |0,_=>True
 |L+1,e=>e.kids.length≤1000∧SmA e.index∧O5 e.read.subs∧ ∀k∈e.kids,SmE L k
def dW:Nat→Expr→Int→Bool
 |0,_,_=>false
 |L+1,e,d=>decide (iC e.kind=e.kids.length)&&(fU e d&&e.kids.all fun k=>dW L k d)
def tU:Nat→Expr→Int
 |0,_=>1
 |L+1,e=>1+(e.kids.map (tU L)).sum
theorem mK(k:Int):iC k≤2:=by unfold iC;split;omega;split<;>omega
theorem zU(d:Int): ∀(L n:Nat) (e:Expr),5000+L≤n→L≤1000→SmE L e→s_l3Shape (n+1) e d (L:Int)=some (dW L e d)
 |0,n,e,_,_,_=>by unfold s_l3Shape;rfl
 |L+1,n,e,hn,hL,he=>by
  obtain⟨e1,e2,e3,e4⟩:=he;unfold s_l3Shape;refine Ev.eq ?_;refine Ev.jn (fun z=>z= !(decide (iC e.kind=e.kids.length)&&fU e d)) (fun j hj=>aH (fun h=>by omega) fun h=>aA (aDB n _) (dQ (fun h=>hj _ ?_) fun h=>aA (aFe (by omega) e2 e3 d) (hj _ ?_))) fun z hz=>?_
  ·rw [decide_eq_false h];rfl
  ·rw [decide_eq_true h];rfl
  subst hz;unfold dW;cases hb:(decide (iC e.kind=e.kids.length)&&fU e d) with
  |false=>exact Ev.some (by rw [←vBe,hb];rfl)
  |true=>
   rw [←vBe,hb,vBc];refine cE ?_;obtain⟨n,rfl⟩: ∃j,n=j+1:=⟨n-1,by omega⟩
   have ew:wr (((L+1:Nat):Int)-1)=(L:Int):=by rw [aS (by omega)];omega
   rw [ew];refine nN (l:=e.kids) (p:=fun _ k=>dW L k d) (by omega) (by omega) (fun again i x hx hgo hno=>?_) (fun again hall=>?_) (fun⟨i,x,hx,hp⟩=>?_)
   ·have hi:=(cS.1 hx).1;rw [decide_eq_true (show(i:Int)<(e.kids.length:Int) by omega)];refine cD (aA (aN hx) (aA (zU d L n x (by omega) (by omega) (e4 x (cP hx))) ?_));cases hs:dW L x d with
    |true=>show Ev (again _) _;rw [aS (by omega)];exact hgo hs
    |false=>exact Ev.some (hno hs)
   ·rw [decide_eq_false (show¬(e.kids.length:Int)<(e.kids.length:Int) by omega)];refine Ev.some ?_;exact(vAF.2 fun c hc=>by obtain⟨i,hi⟩:=vAJ hc;exact hall i c hi).symm
   exact(vAK.2 ⟨x,cP hx,by rw [hp];simp⟩).symm
theorem wK: ∀(L:Nat) (e:Expr),1≤tU L e
 |0,_=>R4 _
 |L+1,e=>by have:=qE (tU L) e.kids fun k _=>wK L k;simp only [tU];omega
theorem aFc{α:Type}(f:α→Int)(M:Int): ∀(l:List α),(∀x∈l,f x≤M)→(l.map f).sum≤l.length*M
 | [],_=>by simp
 |x::l,h=>by have h1:=aFc f M l fun y hy=>h y (by simp [hy]);have h2:=h x (by simp);simp only [List.map_cons,List.sum_cons,List.length_cons,Int.natCast_add,Int.add_mul];omega
theorem jL{L:Nat}{e:Expr}{d:Int}(h:dW (L+1) e d=true):iC e.kind=e.kids.length∧fU e d=true∧ ∀k∈e.kids,dW L k d=true:=by simp only [dW,Bool.and_eq_true,decide_eq_true_eq,List.all_eq_true] at h;exact⟨h.1,h.2.1,h.2.2⟩
theorem aCP: ∀{L:Nat} {e:Expr} {d:Int},dW L e d=true→tU L e+1≤2^L
 |0,e,d,h=>by cases h
 |L+1,e,d,h=>by
  obtain⟨h1,_,h2⟩:=jL h;have h3:=aFc (tU L) ((2:Int)^L-1) e.kids fun k hk=>by have:=aCP (h2 k hk);omega
  have h4:=mK e.kind;have h5:(e.kids.length:Int)*((2:Int)^L-1)≤2*((2:Int)^L-1):=by
   refine Int.mul_le_mul_of_nonneg_right (by omega) ?_
   have:(0:Int)<2^L:=Int.pow_pos (by omega);omega
  simp only [tU];rw [Int.pow_succ];omega
theorem zW{d:Int}: ∀(L n:Nat) (e:Expr),5000+L≤n→L≤5→dW L e d=true→s_l3Count (n+1) e (L:Int)=some (tU L e)
 |0,n,e,_,_,h=>by cases h
 |L+1,n,e,hn,hL,h=>by
  obtain⟨h1,_,h2⟩:=jL h;have h4:=mK e.kind;have hb: ∀k∈e.kids,tU L k≤40:=fun k hk=>by
   have h5:=aCP (h2 k hk);have h6:(2:Int)^L≤40:=by
    match L,hL with
    |0,_=>decide
    |1,_=>decide
    |2,_=>decide
    |3,_=>decide
    |4,_=>decide
   omega
  unfold s_l3Count;refine Ev.eq ?_;obtain⟨n,rfl⟩: ∃j,n=j+1:=⟨n-1,by omega⟩
  have ew:wr (((L+1:Nat):Int)-1)=(L:Int):=by rw [aS (by omega)];omega
  rw [ew];refine Ev.loop (fun x:Int×Int=> ∃i:Nat,x.2=i∧i≤e.kids.length∧x.1=1+((e.kids.take i).map (tU L)).sum) (fun x=>e.kids.length-x.2.toNat) ?_ (n+1) _ ⟨0,rfl,by omega,by simp⟩ (by simp;omega);rintro again ⟨x,k⟩ ⟨i,hk,hi,hx⟩ hr;dsimp only at hk hx⊢;subst hk;refine Ev.jn (fun z=>z=decide (i<e.kids.length)) (fun j hj=>aH (fun h=>hj _ ?_) fun h=>hj _ ?_) fun z hz=>?_
  ·rw [decide_eq_true (show(0:Int)<((L+1:Nat):Int) by omega),decide_eq_true (by omega)]
  ·rw [decide_eq_false (by omega)]
  subst hz;refine aH (fun hlt=>?_) fun hge=>Ev.some ?_
  ·have hk2:=cO hlt;have hm:=cP hk2;refine aA (aN hk2) (aA (zW (d:=d) L n _ (by omega) (by omega) (h2 _ hm)) ?_);have hs:=aFc (tU L) 40 (e.kids.take i) fun y hy=>hb y (vAD hy);have hs2:=qE (tU L) (e.kids.take i) fun y _=>wK L y;have hb2:=hb _ hm;have hb3:=wK L e.kids[i];have hl:((e.kids.take i).length:Int)≤2:=by simp;omega
   rw [aS (n:=x+tU L e.kids[i]) (by omega),aS (by omega)];refine hr _ ⟨i+1,by dsimp only;omega,by omega,?_⟩ (by dsimp only;omega);dsimp only;rw [yV,hk2,vAO,List.sum_append,hx];simp;omega
  have:i=e.kids.length:=by omega
  rw [hx,this,qS];rfl
def aDM(e:Expr):Bool:=(decide (e.kind=1)||decide (e.num=0))&&((decide (e.kind=2)||jF e.index)&&(decide (e.kind=3)||mX e.read))
theorem qJ(d:Int): ∀(L n:Nat) (e:Expr) (c:Int),5000+L≤n→L≤5→SmE L e→0≤c→c≤12→
  Ev (i_exprScan (n+1) e d (6-(L:Int)) c) (fun r=>r.1=(dW L e d&&decide (c+tU L e≤12))∧(r.1=true→r.2=c+tU L e))
 |0,n,e,c,hn,hL,he,h0,h1=>by
  unfold i_exprScan;refine Ev.jn (fun z=>z=true) (fun j hj=>aH (fun h=>hj _ rfl) fun h=>hj _ (by decide)) fun z hz=>?_;subst hz;exact Ev.some ⟨rfl,fun h=>by cases h⟩
 |L+1,n,e,c,hn,hL,he,h0,h1=>by
  obtain⟨e1,e2,e3,e4⟩:=he;have hcp:=wK (L+1) e;unfold i_exprScan;have ew:wr (c+1)=c+1:=aS (by omega);have ed:wr (6-(((L+1:Nat)):Int)+1)=6-(L:Int):=by rw [aS (by omega)];omega
  rw [ew,ed];refine Ev.jn (fun z=>z=decide (12<c+1)) (fun j hj=>aH (fun h=>hj _ (decide_eq_true h).symm) fun h=>hj _ ?_) fun z hz=>?_
  ·rw [decide_eq_false h,decide_eq_false (by omega)]
  subst hz;refine aH (fun h=>Ev.some ⟨?_,fun h=>by cases h⟩) fun hc=>?_
  ·rw [decide_eq_false (show¬c+tU (L+1) e≤12 by omega),vBq]
  refine Ev.jn (fun z=>z= !aDM e) (fun j hj=>?_) fun z hz=>?_
  ·rw [aAK,aAL];unfold aDM at hj;simp only [Option.bind];by_cases k1:e.kind=1
   ·have k2: ¬e.kind=2:=by omega
    have k3: ¬e.kind=3:=by omega
    rw [decide_eq_true k1,decide_eq_false k2,decide_eq_false k3] at*;simp only [Bool.not_true,Bool.not_false,cond_true,cond_false,Bool.true_or,Bool.true_and,Bool.false_or] at*;cases ha:jF e.index with
    |false=>exact hj _ (by rw [ha];rfl)
    |true=>exact hj _ (by rw [ha];rfl)
   rw [decide_eq_false k1] at*;simp only [Bool.not_false,cond_true,Bool.false_or] at*;by_cases hnum:e.num=0
   ·rw [decide_eq_true hnum] at*;simp only [Bool.not_true,cond_false,Bool.true_and] at*;by_cases k2:e.kind=2
    ·have k3: ¬e.kind=3:=by omega
     rw [decide_eq_true k2,decide_eq_false k3] at*;simp only [Bool.not_true,Bool.not_false,cond_true,cond_false,Bool.true_or,Bool.true_and,Bool.false_or] at*;exact hj _ rfl
    rw [decide_eq_false k2] at*;simp only [Bool.not_false,cond_true,Bool.false_or] at*;cases ha:jF e.index with
    |false=>exact hj _ (by rw [ha];rfl)
    |true=>
     by_cases k3:e.kind=3
     ·rw [decide_eq_true k3] at*;exact hj _ (by rw [ha];rfl)
     rw [decide_eq_false k3] at*;exact hj _ (by rw [ha];rfl)
   rw [decide_eq_false hnum] at*;exact hj _ rfl
  subst hz;cases hp:aDM e with
  |false=>
   refine Ev.some ⟨?_,fun h=>by cases h⟩
   have:fU e d=false:=by
    unfold aDM at hp;unfold fU;by_cases k2:e.kind=2
    ·have k1: ¬e.kind=1:=by omega
     have k3: ¬e.kind=3:=by omega
     rw [if_pos k2];rw [decide_eq_true k2,decide_eq_false k1,decide_eq_false k3] at hp;revert hp;cases decide (e.num=0)<;>cases mX e.read<;>simp
    rw [if_neg k2];by_cases k3:e.kind=3
    ·have k1: ¬e.kind=1:=by omega
     rw [if_pos k3];rw [decide_eq_false k2,decide_eq_false k1,decide_eq_true k3] at hp;revert hp;cases decide (e.num=0)<;>cases jF e.index<;>simp
    rw [if_neg k3];rw [decide_eq_false k2,decide_eq_false k3] at hp;by_cases k1:e.kind=1
    ·rw [if_pos k1];rw [decide_eq_true k1] at hp;revert hp;cases jF e.index<;>cases mX e.read<;>simp
    rw [if_neg k1];rw [decide_eq_false k1] at hp;revert hp;cases decide (e.num=0)<;>cases jF e.index<;>cases mX e.read<;>simp
   unfold dW;rw [this];simp
  |true=>
   refine cE ?_;unfold aDM at hp;simp only [Bool.and_eq_true,Bool.or_eq_true,decide_eq_true_eq] at hp;obtain⟨p1,p2,p3⟩:=hp;have leafP: ∀(b:Bool),fU e d=b→iC e.kind=0→ ∀(z:Bool),z=(b&&decide ((e.kids.length:Int)=0))→z=(dW (L+1) e d&&decide (c+tU (L+1) e≤12))∧(z=true→c+1=c+tU (L+1) e):=by
    intro b hb hk z hz;unfold dW;rw [hb,hk];by_cases h:e.kids.length=0
    ·have hnil:e.kids=[]:=vAy h;have hcn:tU (L+1) e=1:=by simp [tU,hnil]
     rw [hcn,decide_eq_true (show c+1≤12 by omega)];rw [decide_eq_true (show(e.kids.length:Int)=0 by omega)] at hz;rw [hz,hnil];simp
    rw [decide_eq_false (show¬(e.kids.length:Int)=0 by omega)] at hz;rw [hz,decide_eq_false (show¬(0:Int)=(e.kids.length:Int) by omega)];simp
   by_cases k1:e.kind=1
   ·have k2: ¬e.kind=2:=by omega
    have k3: ¬e.kind=3:=by omega
    rw [decide_eq_true k1];have hown:fU e d=decide (0≤e.num∧e.num≤99):=by
     unfold fU;rw [if_neg k2,if_neg k3,if_pos k1];rcases p2 with h|h
     ·exact absurd h k2
     rcases p3 with h'|h'
     ·exact absurd h' k3
     rw [h,h'];simp
    refine cD (Ev.jn (fun z=>z=(decide (0≤e.num∧e.num≤99)&&decide ((e.kids.length:Int)=0))) (fun j hj=>aA (eX n _ _ _) ?_) fun z hz=>Ev.some ?_)
    ·cases hw:decide (0≤e.num∧e.num≤99) with
     |true=>exact hj _ (by rw [hw];rfl)
     |false=>exact hj _ (by rw [hw];rfl)
    exact leafP _ hown (by unfold iC;rw [if_pos (Or.inl k1)]) _ hz
   rw [decide_eq_false k1];refine cE ?_;have hnum:e.num=0:=by
    rcases p1 with h|h
    ·exact absurd h k1
    exact h
   by_cases k2:e.kind=2
   ·have k3: ¬e.kind=3:=by omega
    rw [decide_eq_true k2];have hown:fU e d=bZ e.index d:=by
     unfold fU;rw [if_pos k2,decide_eq_true hnum];rcases p3 with h'|h'
     ·exact absurd h' k3
     rw [h'];simp
    refine cD (Ev.jn (fun z=>z=(bZ e.index d&&decide ((e.kids.length:Int)=0))) (fun j hj=>aA (rG (by omega) _ e2) ?_) fun z hz=>Ev.some ?_)
    ·unfold bZ at hj;cases hw:bX e.index with
     |false=>exact hj _ (by rw [hw];rfl)
     |true=>
      refine aA (W7 (by omega) e2) (aH (fun h=>hj _ ?_) fun h=>hj _ ?_)
      ·rw [hw,decide_eq_true h];rfl
      rw [hw,decide_eq_false h];rfl
    exact leafP _ hown (by unfold iC;rw [if_pos (Or.inr (Or.inl k2))]) _ hz
   rw [decide_eq_false k2];refine cE ?_;have hnaff:jF e.index=true:=by
    rcases p2 with h|h
    ·exact absurd h k2
    exact h
   by_cases k3:e.kind=3
   ·rw [decide_eq_true k3];have hown:fU e d=gS e.read d:=by
     unfold fU;rw [if_neg k2,if_pos k3,decide_eq_true hnum,hnaff];simp
    refine cD (Ev.jn (fun z=>z=(gS e.read d&&decide ((e.kids.length:Int)=0))) (fun j hj=>aA (w5 (by omega) e3 d) ?_) fun z hz=>Ev.some ?_)
    ·cases hw:gS e.read d with
     |false=>exact hj _ (by rw [hw];rfl)
     |true=>exact hj _ (by rw [hw];rfl)
    exact leafP _ hown (by unfold iC;rw [if_pos (Or.inr (Or.inr k3))]) _ hz
   rw [decide_eq_false k3];refine cE ?_;have hown:fU e d=true:=by
    unfold fU;rw [if_neg k2,if_neg k3,if_neg k1,decide_eq_true hnum,hnaff];rcases p3 with h'|h'
    ·exact absurd h' k3
    rw [h'];rfl
   have hop:aCv n e.kind=some (decide (4≤e.kind∧e.kind≤6)):=by unfold aCv;rw [eX];rfl
   have hkn:(iC e.kind=2↔(4≤e.kind∧e.kind≤6))∧(iC e.kind=2∨iC e.kind= -1):=by
    unfold iC;rw [if_neg (by omega)];split<;>omega
   refine Ev.jn (fun z=>z= !(decide (4≤e.kind∧e.kind≤6)&&decide ((e.kids.length:Int)=2))) (fun j hj=>aA hop ?_) fun z hz=>?_
   ·cases hw:decide (4≤e.kind∧e.kind≤6) with
    |false=>exact hj _ (by rw [hw];rfl)
    |true=>exact hj _ (by rw [hw];rfl)
   subst hz;by_cases hk:(4≤e.kind∧e.kind≤6)∧(e.kids.length:Int)=2
   ·rw [decide_eq_true hk.1,decide_eq_true hk.2];refine cE ?_;obtain⟨a,b,hab⟩: ∃a b,e.kids=[a,b]:=by
     have:e.kids.length=2:=by omega
     match hq:e.kids,this with
     | [a,b],_=>exact⟨a,b,rfl⟩
    have hsh:dW (L+1) e d=(dW L a d&&dW L b d):=by
     show(decide (iC e.kind=e.kids.length)&&(fU e d&&e.kids.all fun k=>dW L k d))=_;rw [hown,hab,decide_eq_true (show iC e.kind=(([a,b]:List Expr).length:Int) by rw [hkn.1.2 hk.1];rfl)];simp
    have hcn:tU (L+1) e=1+(tU L a+tU L b):=by simp [tU,hab]
    have ca:=wK L a;have cb:=wK L b;rw [hsh,hcn];obtain⟨n,rfl⟩: ∃j,n=j+1:=⟨n-1,by omega⟩
    refine Ev.jn (fun z:Int×Bool=>z.2=(dW L a d&&dW L b d&&decide (c+(1+(tU L a+tU L b))≤12))∧(z.2=true→z.1=c+(1+(tU L a+tU L b)))) (fun j hj=>?_) fun z hz=>Ev.some hz;refine aA (x:=a) (by rw [hab];rfl) (aL (qJ d L n a (c+1) (by omega) (by omega) (e4 a (by rw [hab];simp)) (by omega) (by omega)) fun r ⟨r1,r2⟩=>?_);cases hr:r.1 with
    |false=>
     refine hj _ ⟨?_,fun h=>by cases h⟩;rw [hr] at r1;show false=_;by_cases hsa:dW L a d=true
     ·rw [hsa,vBc] at r1
      have:=of_decide_eq_false r1.symm;rw [decide_eq_false (show¬c+(1+(tU L a+tU L b))≤12 by omega),vBq]
     rw [Bool.eq_false_iff.2 hsa];rfl
    |true=>
     have r2:=r2 hr;rw [hr] at r1;have r1:=r1.symm;rw [vBI,decide_eq_true_eq] at r1;refine aA (x:=b) (by rw [hab];rfl) ?_;rw [r2];refine aL (qJ d L n b (c+1+tU L a) (by omega) (by omega) (e4 b (by rw [hab];simp)) (by omega) (by omega)) fun q ⟨q1,q2⟩=>hj _ ⟨?_,fun h=>?_⟩
     ·show q.1=_;rw [q1,r1.1,vBc];congr 1;exact decide_eq_decide.2 (by omega)
     show q.2=_;rw [q2 h];omega
   have hf:dW (L+1) e d=false:=by
    unfold dW;rw [decide_eq_false (show¬iC e.kind=(e.kids.length:Int) by
     intro h;rcases hkn.2 with h2|h2
     ·exact hk ⟨hkn.1.1 h2,by omega⟩
     omega)]
    rfl
   have:(decide (4≤e.kind∧e.kind≤6)&&decide ((e.kids.length:Int)=2))=false:=by
    by_cases g:4≤e.kind∧e.kind≤6
    ·rw [decide_eq_false (show¬(e.kids.length:Int)=2 from fun h=>hk ⟨g,h⟩),vBq]
    rw [decide_eq_false g];rfl
   rw [this,hf];exact Ev.some ⟨rfl,fun h=>by cases h⟩
def fN(s:Stmt)(d:Int):Bool:=decide (0≤d∧d≤4)&&(gS s.write d&&(dW 5 s.value d&&decide (tU 5 s.value≤12)))
def SmS(s:Stmt):Prop:=O5 s.write.subs∧SmE 5 s.value
theorem W9{n:Nat}(hn:6000≤n){s:Stmt}(h:SmS s)(d:Int):pQ n s d=some (fN s d):=by
 obtain⟨n,rfl⟩: ∃j,n=j+1:=⟨n-1,by omega⟩
 refine Ev.eq ?_;unfold pQ;generalize hT:fN s d=T;unfold fN at hT;refine Ev.jn (fun z:Int×Bool=>z.2=T) (fun j hj=>aA (eX _ _ _ _) ?_) fun z hz=>Ev.some hz;cases h1:decide (0≤d∧d≤4) with
 |false=>exact hj (0,false) (by rw [←hT,h1];rfl)
 |true=>
  refine cD (aA (w5 (by omega) h.1 d) ?_);cases h2:gS s.write d with
  |false=>exact hj (0,false) (by rw [←hT,h1,h2];rfl)
  |true=>
   refine cD (aL (qJ d 5 n s.value 0 (by omega) (by omega) h.2 (by omega) (by omega)) fun r ⟨r1,r2⟩=>hj _ ?_);rw [←hT,h1,h2];show r.1=_;rw [r1];simp
theorem uJ{n:Nat}(hn:6000≤n){s:Stmt}(h:SmS s)(d:Int):jZ n s d=some (fN s d):=by
 obtain⟨n,rfl⟩: ∃j,n=j+1:=⟨n-1,by omega⟩
 refine Ev.eq ?_;unfold jZ;generalize hT:fN s d=T;generalize hB:(decide (0≤d∧d≤4)&&(gS s.write d&&dW 5 s.value d))=B;have hTB:T=(B&&decide (tU 5 s.value≤12)):=by rw [←hT,←hB];unfold fN;simp only [Bool.and_assoc]
 refine Ev.jn (fun z=>z= !B) (fun j hj=>aH (fun h=>hj _ ?_) fun h0=>aH (fun h=>hj _ ?_) fun h4=>aA (wW (by omega) h.1 d) ?_) fun z hz=>?_
 ·rw [←hB,decide_eq_false (show¬(0≤d∧d≤4) by omega)];rfl
 ·rw [←hB,decide_eq_false (show¬(0≤d∧d≤4) by omega)];rfl
 ·rw [decide_eq_true (show 0≤d∧d≤4 by omega)] at hB;cases h2:gS s.write d with
  |false=>exact cD (hj _ (by rw [←hB,h2];rfl))
  |true=>exact cE (aA (zU d 5 n s.value (by omega) (by omega) h.2) (hj _ (by rw [←hB,h2];rfl)))
 subst hz;cases hb:B with
 |false=>exact Ev.some (by rw [hTB,hb];rfl)
 |true=>
  rw [hb] at hB;simp only [Bool.and_eq_true] at hB;refine cE (aA (zW (d:=d) 5 n s.value (by omega) (by omega) hB.2.2) (Ev.some ?_));rw [hTB,hb];rfl
def jA(ds:List Int):Bool:=decide (1≤ds.length∧ds.length≤2)&&ds.all fun d=>decide (1≤d∧d≤6)
def xJ(list:List Arr)(i:Nat)(x:Arr):Bool:=match i with
 |0=>true
 |i+1=>match list[i]? with
  |some y=>Op.bytesLess y.name x.name
  |none=>false
def aAY(list:List Arr)(i:Nat)(x:Arr):Bool:=oO x.name&&(xJ list i x&&jA x.dims)
def iJ(list:List Arr):Bool:=W6 (aAY list) list&&decide (list.length≤4)
def SmR(list:List Arr):Prop:=list.length≤1000∧ ∀x∈list,x.dims.length≤1000
theorem L2{list:List Arr}{i:Nat}{x y:Arr}(h:list[i]? =some y):xJ list (i+1) x=Op.bytesLess y.name x.name:=by simp only [xJ,h]
theorem aKF(ds:List Int):(ds.any fun d=> !decide (1≤d∧d≤6))= !(ds.all fun d=>decide (1≤d∧d≤6)):=by rw [vBd];simp
theorem aAM{n:Nat}(hn:6000≤n){list:List Arr}(h:SmR list):sS n list=some (iJ list):=by
 obtain⟨h0,h1⟩:=h;refine Ev.eq ?_;unfold sS;refine nN (l:=list) (p:=aAY list) (by omega) (by omega) (fun again i x hx hgo hno=>?_) (fun again hall=>?_) (fun⟨i,x,hx,hp⟩=>?_)
 ·have hi:=(cS.1 hx).1;have hm:=h1 x (cP hx);rw [decide_eq_true (show(i:Int)<(list.length:Int) by omega)];have hd:b6 n x.dims (fun q0=>fC n q0)=some (!(x.dims.all fun d=>decide (1≤d∧d≤6))):=by
   rw [←aKF];exact sZ (fun d _=>by unfold fC;rw [eX];rfl) (by omega) (by omega)
  refine cD (aA (aN hx) (Ev.jn (fun z=>z= !aAY list i x) (fun j hj=>aA (C4 n _) ?_) fun z hz=>?_))
  ·unfold aAY jA at hj;cases g1:oO x.name with
   |false=>exact cD (hj _ (by rw [g1];rfl))
   |true=>
    rw [g1] at hj;refine cE ?_;rw [sO];have hlast:xJ list i x=true→Ev (Option.bind (some (decide (1≤x.dims.length∧x.dims.length≤2))) fun x6=>bif !x6 then j true else Option.bind (b6 n x.dims fun q0=>fC n q0) fun x7=>j x7) (fun r=>r=iJ list):=by
     intro hp;rw [hp] at hj;show Ev (bif _ then _ else _) _;cases g2:decide (1≤x.dims.length∧x.dims.length≤2) with
     |false=>exact cD (hj _ (by rw [g2];rfl))
     |true=>exact cE (aA hd (hj _ (by rw [g2];rfl)))
    cases i with
    |zero=>exact aH (fun h=>absurd h (by decide)) (fun _=>hlast rfl)
    |succ i=>
     have hy:=cO (show i<list.length by omega);have e:wr (((i+1:Nat):Int)-1)=(i:Int):=by rw [aS (by omega)];omega
     rw [e];refine aH (fun _=>aA (aN hy) ?_) fun h=>absurd (show(0:Int)<((i+1:Nat):Int) by omega) h;have hpp:=L2 (x:=x) hy;cases g3:Op.bytesLess list[i].name x.name with
     |false=>exact cD (hj _ (by rw [hpp,g3];rfl))
     |true=>exact cE (hlast (by rw [hpp,g3]))
  subst hz;cases hb:aAY list i x with
  |true=>show Ev (again _) _;rw [aS (by omega)];exact hgo hb
  |false=>exact Ev.some (hno hb)
 ·rw [decide_eq_false (show¬(list.length:Int)<(list.length:Int) by omega)];refine Ev.some ?_;unfold iJ;rw [pP hall,vBc];exact decide_eq_decide.2 (by omega)
 unfold iJ;rw [nD hx hp];rfl
theorem aJp(s:List UInt8):(!Op.bytesLess s [68]&& !s==[68])= !(Op.bytesLess s [68]||s==[68]):=by cases Op.bytesLess s [68]<;>cases (s==[68])<;>rfl
theorem aAF{n:Nat}(hn:6000≤n){list:List Arr}(h:SmR list):sE n list=some (iJ list):=by
 obtain⟨h0,h1⟩:=h;refine Ev.eq ?_;unfold sE;refine nN (l:=list) (p:=aAY list) (by omega) (by omega) (fun again i x hx hgo hno=>?_) (fun again hall=>?_) (fun⟨i,x,hx,hp⟩=>?_)
 ·have hi:=(cS.1 hx).1;have hm:=h1 x (cP hx);rw [decide_eq_true (show(i:Int)<(list.length:Int) by omega)];refine cD (aA (aN hx) (Ev.jn (fun z=>z= !(oO x.name&&(xJ list i x&&decide (1≤x.dims.length∧x.dims.length≤2)))) (fun j hj=>?_) fun z hz=>?_))
  ·refine dQ (fun hl=>hj _ ?_) fun hl=>?_
   ·rw [xN (by omega)];rfl
   obtain⟨b,hb⟩:=aNj (show x.name.length=1 by omega);rw [aJp];have hless: ∀(y:Arr),Op.bytesLess y.name x.name=Op.bytesLess y.name [b]:=fun y=>by rw [hb]
   have hnm:oO x.name=decide (65≤b.toNat∧b.toNat≤68):=by rw [hb];rfl
   have l1:Op.bytesLess x.name [65]=decide (b.toNat<65):=by rw [hb];exact V5 b
   have l2:(Op.bytesLess x.name [68]||x.name==[68])=decide (b.toNat≤68):=by rw [hb];exact V4 b
   rw [l1,l2];rw [hnm] at hj;refine aH (fun g1=>hj _ ?_) fun g1=>dQ (fun g2=>hj _ ?_) fun g2=>?_
   ·rw [decide_eq_false (show¬(65≤b.toNat∧b.toNat≤68) by omega)];rfl
   ·rw [decide_eq_false (show¬(65≤b.toNat∧b.toNat≤68) by omega)];rfl
   rw [decide_eq_true (show 65≤b.toNat∧b.toNat≤68 by omega)] at hj;have hlast:xJ list i x=true→Ev (bif decide ((x.dims.length:Int)<1) then j true else j (decide ((2:Int)<(x.dims.length:Int)))) (fun r=>r=iJ list):=by
    intro hp;rw [hp] at hj;refine aH (fun h=>hj _ ?_) fun h=>hj _ ?_
    ·rw [decide_eq_false (show¬(1≤x.dims.length∧x.dims.length≤2) by omega)];rfl
    by_cases h2:x.dims.length≤2
    ·rw [decide_eq_false (show¬(2:Int)<(x.dims.length:Int) by omega),decide_eq_true (show 1≤x.dims.length∧x.dims.length≤2 by omega)];rfl
    rw [decide_eq_true (show(2:Int)<(x.dims.length:Int) by omega),decide_eq_false (show¬(1≤x.dims.length∧x.dims.length≤2) by omega)];rfl
   cases i with
   |zero=>exact aH (fun h=>absurd h (by decide)) (fun _=>hlast rfl)
   |succ i=>
    have hy:=cO (show i<list.length by omega);have e:wr (((i+1:Nat):Int)-1)=(i:Int):=by rw [aS (by omega)];omega
    rw [e];refine aH (fun _=>aA (aN hy) ?_) fun h=>absurd (show(0:Int)<((i+1:Nat):Int) by omega) h;have hpp:=L2 (x:=x) hy;cases g3:Op.bytesLess list[i].name x.name with
    |false=>exact cD (hj _ (by rw [hpp,g3];rfl))
    |true=>exact cE (hlast (by rw [hpp,g3]))
  subst hz;cases hb:(oO x.name&&(xJ list i x&&decide (1≤x.dims.length∧x.dims.length≤2))) with
  |false=>
   refine Ev.some (hno ?_);unfold aAY jA;rw [←vBe,←vBe];rw [←vBe] at hb;rw [hb];rfl
  |true=>
   have hap:aAY list i x=x.dims.all (fun d=>decide (1≤d∧d≤6)):=by
    unfold aAY jA;rw [←vBe,←vBe];rw [←vBe] at hb;rw [hb];rfl
   refine cE ?_;refine Ev.loop (fun y:Int=> ∃k:Nat,y=k∧k≤x.dims.length∧ ∀(t:Nat) d,t<k→x.dims[t]? =some d→decide (1≤d∧d≤6)=true) (fun y=>x.dims.length-y.toNat) ?_ n _ ⟨0,rfl,by omega,fun t d h=>by omega⟩ (by simp;omega);rintro again8 y ⟨k,rfl,hk,ha⟩ hr;refine aH (fun hlt=>?_) fun hge=>?_
   ·have hd:=cO (show k<x.dims.length by omega);have ek:wr ((k:Int)+1)=((k+1:Nat):Int):=by rw [aS (by omega)];omega
    refine Ev.jn (fun z=>z= !decide (1≤x.dims[k]∧x.dims[k]≤6)) (fun j hj=>aA (aN hd) (aH (fun h=>hj _ ?_) fun h=>hj _ ?_)) fun z hz=>?_
    ·rw [decide_eq_false (by omega)];rfl
    ·by_cases h6:x.dims[k]≤6
     ·rw [decide_eq_false (show¬(6:Int)<x.dims[k] by omega),decide_eq_true (show 1≤x.dims[k]∧x.dims[k]≤6 by omega)];rfl
     rw [decide_eq_true (show(6:Int)<x.dims[k] by omega),decide_eq_false (show¬(1≤x.dims[k]∧x.dims[k]≤6) by omega)];rfl
    subst hz;cases hb2:decide (1≤x.dims[k]∧x.dims[k]≤6) with
    |false=>
     refine Ev.some (hno ?_);rw [hap];exact vAK.2 ⟨_,cP hd,by rw [hb2];simp⟩
    |true=>
     rw [ek];refine hr _ ⟨k+1,rfl,by omega,fun t d ht hd2=>?_⟩ (by omega);by_cases htk:t=k
     ·subst htk;rw [hd] at hd2;cases hd2;exact hb2
     exact ha t d (by omega) hd2
   have e:wr ((i:Int)+1)=(i:Int)+1:=aS (by omega);rw [e];refine hgo ?_;rw [hap];refine vAF.2 fun d hd=>?_;obtain⟨t,ht⟩:=vAJ hd
   have:=(cS.1 ht).1;exact ha t d (by omega) ht
 ·rw [decide_eq_false (show¬(list.length:Int)<(list.length:Int) by omega)];refine Ev.some ?_;unfold iJ;rw [pP hall,vBc];exact decide_eq_decide.2 (by omega)
 unfold iJ;rw [nD hx hp];rfl
def szL:List Int→Int
 | []=>1
 |d::ds=>d*szL ds
theorem aF3{ds:List Int}(h:jA ds=true):(∃a,ds=[a]∧1≤a∧a≤6)∨ ∃a b,ds=[a,b]∧(1≤a∧a≤6)∧1≤b∧b≤6:=by
 simp only [jA,Bool.and_eq_true,decide_eq_true_eq,List.all_eq_true] at h;obtain⟨⟨h1,h2⟩,h3⟩:=h
 match ds,h1,h2,h3 with
 | [a],_,_,h3=>exact .inl ⟨a,rfl,h3 a (by simp)⟩
 | [a,b],_,_,h3=>exact .inr ⟨a,b,rfl,h3 a (by simp),h3 b (by simp)⟩
theorem aOj{a b:Int}(ha:1≤a∧a≤6)(hb:1≤b∧b≤6):1≤a*b∧a*b≤36:=by
 constructor
 ·have:=vBJ ha.1 hb.1 (by omega) (by omega);omega
 have:=vBJ ha.2 hb.2 (by omega) (by omega);omega
theorem aGR{ds:List Int}(h:jA ds=true):1≤szL ds∧szL ds≤36:=by
 rcases aF3 h with ⟨a,rfl,h1⟩|⟨a,b,rfl,h1,h2⟩
 ·simp [szL];omega
 have:=aOj h1 h2;simp [szL];omega
theorem K7{n:Nat}(hn:6000≤n){x:Arr}(h:jA x.dims=true):zP n x=some (szL x.dims):=by
 obtain⟨n,rfl⟩: ∃j,n=j+3:=⟨n-3,by omega⟩
 unfold zP;rcases aF3 h with ⟨a,e,h1⟩|⟨a,b,e,h1,h2⟩
 ·rw [e];have e1:wr a=a:=aS (by omega);simp [aM,ix,szL,e1,show wr 1=1 from aS (by omega)]
 rw [e]
 have:=aOj h1 h2;have e1:wr a=a:=aS (by omega);have e2:wr (a*b)=a*b:=aS (by omega);simp [aM,ix,szL,e1,e2,show wr 1=1 from aS (by omega),show wr 2=2 from aS (by omega)]
theorem aH4{n:Nat}(hn:6000≤n){x:Arr}(h:jA x.dims=true):sV n x=some (szL x.dims):=K7 hn h
def pG:List Affine→List Int→List Int→Int→Int
 |s::ss,d::ds,p,acc=>if 0≤fS s p∧fS s p<d then pG ss ds p (acc*d+fS s p) else-1
 |_,_,_,acc=>acc
def dM:List Arr→Access→List Int→Int→Int
 | [],_,_,_=> -1
 |x::xs,a,p,base=>if x.name=a.array then(if a.subs.length=x.dims.length then(if pG a.subs x.dims p 0<0 then-1 else base+pG a.subs x.dims p 0) else-1) else dM xs a p (base+szL x.dims)
def jO(xs:List Arr):Prop:= ∀x∈xs,jA x.dims=true
theorem aOq{ds:List Int}(hd:jA ds=true){ss:List Affine}(hl:ss.length=ds.length)(p:List Int):pG ss ds p 0= -1∨(0≤pG ss ds p 0∧pG ss ds p 0<szL ds):=by
 rcases aF3 hd with ⟨a,rfl,h1⟩|⟨a,b,rfl,h1,h2⟩
 ·match ss,hl with
  | [s],_=>
   simp only [pG,szL,Int.zero_mul,Int.zero_add,Int.mul_one];split<;>omega
 match ss,hl with
 | [s,t],_=>
  simp only [pG,szL,Int.zero_mul,Int.zero_add,Int.mul_one];split
  ·rename_i hs;split
   ·rename_i ht;refine .inr ⟨?_,?_⟩
    ·have:=vBp hs.1 (show 0≤b by omega);omega
    have:=Int.mul_le_mul_of_nonneg_right (show fS s p≤a-1 by omega) (show 0≤b by omega);rw [Int.sub_mul] at this;omega
   exact .inl rfl
  exact .inl rfl
def wU(xs:List Arr):Int:=(xs.map fun x=>szL x.dims).sum
theorem aHr: ∀{xs:List Arr},jO xs→ ∀(a:Access) (p:List Int) (base:Int),0≤base→dM xs a p base= -1∨(base≤dM xs a p base∧dM xs a p base<base+wU xs)
 | [],_,a,p,base,_=> .inl rfl
 |x::xs,hd,a,p,base,hb=>by
  have hx:=hd x (by simp);have hs:=aGR hx;have hxs:jO xs:=fun y hy=>hd y (by simp [hy]);have ht:0≤wU xs:=by
   have:=qE (fun x:Arr=>szL x.dims) xs fun y hy=>(aGR (hxs y hy)).1;unfold wU;omega
  have e:wU (x::xs)=szL x.dims+wU xs:=by simp [wU]
  rw [e];simp only [dM];split
  ·split
   ·rename_i hl;rcases aOq hx hl p with h|h
    ·rw [if_pos (by omega)];exact .inl rfl
    rw [if_neg (by omega)];exact .inr ⟨by omega,by omega⟩
   exact .inl rfl
  rcases aHr hxs a p (base+szL x.dims) (by omega) with h|h
  ·exact .inl h
  exact .inr ⟨by omega,by omega⟩
theorem xB{a:Access}{d:Int}(h:gS a d=true):1≤a.subs.length∧a.subs.length≤2∧ ∀x∈a.subs,bX x=true:=by
 simp only [gS,Bool.and_eq_true,decide_eq_true_eq,List.all_eq_true] at h;refine⟨h.2.2.1,h.2.2.2,fun x hx=>?_⟩
 have:=h.1 x hx;simp only [bZ,Bool.and_eq_true] at this;exact this.1
theorem mM{α:Type}{l:List α}{i:Nat}{x:α}(h:l[i]? =some x):l.drop i=x::l.drop (i+1):=by obtain⟨h1,h2⟩:=cS.1 h;rw [vBf h1,h2]
theorem aEM{a d v:Int}(ha:0≤a∧a≤36)(hd:1≤d∧d≤6)(hv:0≤v∧v<d):0≤a*d∧a*d≤216∧0≤a*d+v:=by have h1:=vBp ha.1 (show 0≤d by omega);have h2:=vBJ ha.2 hd.2 (by omega) (by omega);omega
theorem aJL{n:Nat}(hn:6000≤n){a:Access}(h1:a.subs.length≤2)(h2: ∀x∈a.subs,bX x=true){ds:List Int}(hd:jA ds=true)(hl:a.subs.length=ds.length){k:Nat}{p:List Int}(hp:qQ k p)(base:Int)(hb:0≤base∧base≤1000000):
  aM (fun again8 ((x6,x7):Int×Int)=>bif decide (x7<(a.subs.length:Int)) then(Option.bind (ix a.subs x7) fun x9=>Option.bind (dI n x9 p) fun x10=>Option.bind (ix ds x7) fun x11=>Option.bind (cQ n x10 0 (wr (x11-1))) fun x12=>bif !x12 then(some (-1)) else(again8 (wr ((wr (x6*x11))+x10),wr (x7+1)))) else(some (wr (base+x6)))) n (0,0)
   =some (if pG a.subs ds p 0<0 then-1 else base+pG a.subs ds p 0):=by
 have hdm: ∀d∈ds,1≤d∧d≤6:=by
  simp only [jA,Bool.and_eq_true,decide_eq_true_eq,List.all_eq_true] at hd;exact fun d h=>hd.2 d h
 refine Ev.eq ?_;refine Ev.loop (fun x:Int×Int=> ∃i:Nat,x.2=i∧i≤a.subs.length∧0≤x.1∧x.1≤36*i∧(i=0→x.1=0)∧(i=1→x.1≤5)∧pG a.subs ds p 0=pG (a.subs.drop i) (ds.drop i) p x.1) (fun x=>a.subs.length-x.2.toNat) ?_ n _ ⟨0,rfl,by omega,by simp,by simp,fun _=>rfl,fun h=>by omega,rfl⟩ (by simp;omega);rintro again ⟨x,z⟩ ⟨i,hz,hi,hx0,hx1,hx2,hx3,hx⟩ hr;dsimp only at hz hx0 hx1 hx2 hx3 hx⊢;subst hz;refine aH (fun hlt=>?_) fun hge=>Ev.some ?_
 ·have hs:=cO (show i<a.subs.length by omega);have hdd:=cO (show i<ds.length by omega);have hdb:=hdm _ (cP hdd);have ew:wr (ds[i]-1)=ds[i]-1:=aS (by omega);rw [mM hs,mM hdd] at hx;simp only [pG] at hx;refine aA (aN hs) (aA (aJM (by omega) (h2 _ (cP hs)) hp) (aA (aN hdd) (aA (eX _ _ _ _) ?_)));rw [ew];by_cases hc:0≤fS a.subs[i] p∧fS a.subs[i] p<ds[i]
  ·rw [if_pos hc] at hx;rw [decide_eq_true (show 0≤fS a.subs[i] p∧fS a.subs[i] p≤ds[i]-1 by omega)];obtain⟨g1,g2,g3⟩:=aEM (a:=x) (by omega) hdb hc;refine cE ?_;rw [aS (n:=x*ds[i]) (by omega),aS (n:=x*ds[i]+fS a.subs[i] p) (by omega),aS (by omega)];have hi01:i=0∨i=1:=by omega
   refine hr _ ⟨i+1,by dsimp only;omega,by omega,by dsimp only;omega,?_,fun h=>by omega,fun h=>?_,hx⟩ (by dsimp only;omega)
   ·dsimp only;rcases hi01 with rfl|rfl
    ·rw [hx2 rfl];omega
    have:=hx3 rfl
    have:=vBJ this hdb.2 (by omega) (by omega);omega
   dsimp only
   have:i=0:=by omega
   subst this;rw [hx2 rfl];omega
  rw [if_neg hc] at hx;rw [decide_eq_false (show¬(0≤fS a.subs[i] p∧fS a.subs[i] p≤ds[i]-1) by omega)];refine cD (Ev.some ?_);rw [hx];rfl
 have hie:i=a.subs.length:=by omega
 have hdr:pG (a.subs.drop i) (ds.drop i) p x=x:=by
  rw [hie,vBn];unfold pG;rfl
 rw [hdr] at hx;rw [hx,if_neg (by omega),aS (by omega)]
theorem aJa{n:Nat}(hn:6000≤n){a:Access}(h0:1≤a.subs.length)(h1:a.subs.length≤2)(h2: ∀x∈a.subs,bX x=true){ds:List Int}(hd:jA ds=true){k:Nat}{p:List Int}(hp:qQ k p)(base:Int)(hb:0≤base∧base≤1000000):
  aM (fun again8 ((x6,x7):Int×Int)=>bif decide (x7<(a.subs.length:Int)) then(bif !decide ((a.subs.length:Int)=(ds.length:Int)) then(some (-1)) else(Option.bind (ix a.subs x7) fun x9=>Option.bind (jE n x9 p) fun x10=>jn (fun(x13:Bool)=>bif x13 then(some (-1)) else(Option.bind (ix ds x7) fun x14=>again8 (wr ((wr (x6*x14))+x10),wr (x7+1)))) fun j11=>bif decide (x10<0) then(j11 true) else(Option.bind (ix ds x7) fun x12=>j11 (decide (x12≤x10))))) else(some (wr (base+x6)))) n (0,0)
   =some (if a.subs.length=ds.length then(if pG a.subs ds p 0<0 then-1 else base+pG a.subs ds p 0) else-1):=by
 by_cases hl:a.subs.length=ds.length
 ·rw [if_pos hl];rw [decide_eq_true (show(a.subs.length:Int)=(ds.length:Int) by omega)];have hdm: ∀d∈ds,1≤d∧d≤6:=by
   simp only [jA,Bool.and_eq_true,decide_eq_true_eq,List.all_eq_true] at hd;exact fun d h=>hd.2 d h
  refine Ev.eq ?_;refine Ev.loop (fun x:Int×Int=> ∃i:Nat,x.2=i∧i≤a.subs.length∧0≤x.1∧x.1≤36*i∧(i=0→x.1=0)∧(i=1→x.1≤5)∧pG a.subs ds p 0=pG (a.subs.drop i) (ds.drop i) p x.1) (fun x=>a.subs.length-x.2.toNat) ?_ n _ ⟨0,rfl,by omega,by simp,by simp,fun _=>rfl,fun h=>by omega,rfl⟩ (by simp;omega);rintro again ⟨x,z⟩ ⟨i,hz,hi,hx0,hx1,hx2,hx3,hx⟩ hr;dsimp only at hz hx0 hx1 hx2 hx3 hx⊢;subst hz;refine aH (fun hlt=>?_) fun hge=>Ev.some ?_
  ·have hs:=cO (show i<a.subs.length by omega);have hdd:=cO (show i<ds.length by omega);have hdb:=hdm _ (cP hdd);rw [mM hs,mM hdd] at hx;simp only [pG] at hx;refine cE (aA (aN hs) (aA (aJb (by omega) (h2 _ (cP hs)) hp) (Ev.jn (fun z=>z= !decide (0≤fS a.subs[i] p∧fS a.subs[i] p<ds[i])) (fun j hj=>aH (fun h=>hj _ ?_) fun h=>aA (aN hdd) (hj _ ?_)) fun z hz=>?_)))
   ·rw [decide_eq_false (by omega)];rfl
   ·by_cases hc:ds[i]≤fS a.subs[i] p
    ·rw [decide_eq_true hc,decide_eq_false (by omega)];rfl
    rw [decide_eq_false hc,decide_eq_true (by omega)];rfl
   subst hz;by_cases hc:0≤fS a.subs[i] p∧fS a.subs[i] p<ds[i]
   ·rw [if_pos hc] at hx;rw [decide_eq_true hc];obtain⟨g1,g2,g3⟩:=aEM (a:=x) (by omega) hdb hc;refine cE (aA (aN hdd) ?_);rw [aS (n:=x*ds[i]) (by omega),aS (n:=x*ds[i]+fS a.subs[i] p) (by omega),aS (by omega)];have hi01:i=0∨i=1:=by omega
    refine hr _ ⟨i+1,by dsimp only;omega,by omega,by dsimp only;omega,?_,fun h=>by omega,fun h=>?_,hx⟩ (by dsimp only;omega)
    ·dsimp only;rcases hi01 with rfl|rfl
     ·rw [hx2 rfl];omega
     have:=hx3 rfl
     have:=vBJ this hdb.2 (by omega) (by omega);omega
    dsimp only
    have:i=0:=by omega
    subst this;rw [hx2 rfl];omega
   rw [if_neg hc] at hx;rw [decide_eq_false hc];refine cD (Ev.some ?_);rw [hx];rfl
  have hie:i=a.subs.length:=by omega
  have hdr:pG (a.subs.drop i) (ds.drop i) p x=x:=by
   rw [hie,vBn];unfold pG;rfl
  rw [hdr] at hx;rw [hx,if_neg (by omega),aS (by omega)]
 rw [if_neg hl,decide_eq_false (show¬(a.subs.length:Int)=(ds.length:Int) by omega)];obtain⟨n,rfl⟩: ∃j,n=j+1:=⟨n-1,by omega⟩
 simp only [aM];rw [decide_eq_true (show(0:Int)<(a.subs.length:Int) by omega)];rfl
theorem wG{n:Nat}(hn:6000≤n){p:Prog}(hl:p.arrays.length≤4)(hd:jO p.arrays){a:Access}{d:Int}(ha:gS a d=true){k:Nat}{q:List Int}(hq:qQ k q):eO n p a q=some (dM p.arrays a q 0):=by
 obtain⟨a0,a1,a2⟩:=xB ha;refine Ev.eq ?_;unfold eO;refine Ev.loop (fun x:Int×Int=> ∃i:Nat,x.2=i∧i≤p.arrays.length∧0≤x.1∧x.1≤36*i∧dM p.arrays a q 0=dM (p.arrays.drop i) a q x.1) (fun x=>p.arrays.length-x.2.toNat) ?_ n _ ⟨0,rfl,by omega,by simp,by simp,rfl⟩ (by simp;omega);rintro again ⟨x,z⟩ ⟨i,hz,hi,hx0,hx1,hx⟩ hr;dsimp only at hz hx0 hx1 hx⊢;subst hz;refine aH (fun hlt=>?_) fun hge=>Ev.some ?_
 ·have hy:=cO (show i<p.arrays.length by omega);have hdy:=hd _ (cP hy);have hsz:=aGR hdy;rw [mM hy] at hx;simp only [dM] at hx;refine aA (aN hy) (dQ (fun hne=>?_) fun he=>?_)
  ·rw [if_neg hne] at hx;refine aA (aH4 hn hdy) ?_;rw [aS (n:=x+szL p.arrays[i].dims) (by omega),aS (by omega)];exact hr _ ⟨i+1,by dsimp only;omega,by omega,by dsimp only;omega,by dsimp only;omega,hx⟩ (by dsimp only;omega)
  rw [if_pos he] at hx;refine dQ (fun hne=>Ev.some ?_) fun hle=>?_
  ·rw [hx,if_neg (by omega)]
  have hle':a.subs.length=p.arrays[i].dims.length:=by omega
  rw [if_pos hle'] at hx;exact Ev.of (aJL hn a1 a2 hdy hle' hq x (by omega)) hx.symm
 have hie:i=p.arrays.length:=by omega
 rw [hx,hie,vBn];rfl
theorem aBe{n:Nat}(hn:6000≤n){list:List Arr}(hl:list.length≤4)(hd:jO list){a:Access}{d:Int}(ha:gS a d=true){k:Nat}{q:List Int}(hq:qQ k q):uF n list a q=some (dM list a q 0):=by
 obtain⟨a0,a1,a2⟩:=xB ha;refine Ev.eq ?_;unfold uF;refine Ev.loop (fun x:Int×Int=> ∃i:Nat,x.2=i∧i≤list.length∧0≤x.1∧x.1≤36*i∧dM list a q 0=dM (list.drop i) a q x.1) (fun x=>list.length-x.2.toNat) ?_ n _ ⟨0,rfl,by omega,by simp,by simp,rfl⟩ (by simp;omega);rintro again ⟨x,z⟩ ⟨i,hz,hi,hx0,hx1,hx⟩ hr;dsimp only at hz hx0 hx1 hx⊢;subst hz;refine aH (fun hlt=>?_) fun hge=>Ev.some ?_
 ·have hy:=cO (show i<list.length by omega);have hdy:=hd _ (cP hy);have hsz:=aGR hdy;rw [mM hy] at hx;simp only [dM] at hx;refine aA (aN hy) (dQ (fun hne=>?_) fun he=>?_)
  ·rw [if_neg hne] at hx;refine aA (K7 hn hdy) ?_;rw [aS (n:=x+szL list[i].dims) (by omega),aS (by omega)];exact hr _ ⟨i+1,by dsimp only;omega,by omega,by dsimp only;omega,by dsimp only;omega,hx⟩ (by dsimp only;omega)
  rw [if_pos he] at hx;exact Ev.of (aJa hn a0 a1 a2 hdy hq x (by omega)) hx.symm
 have hie:i=list.length:=by omega
 rw [hx,hie,vBn];rfl
def cN:Nat→Expr→List Access
 |0,_=>[]
 |L+1,e=>(if e.kind=3 then [e.read] else [])++e.kids.flatMap (cN L)
theorem H0{d:Int}: ∀{L:Nat} {e:Expr},dW L e d=true→ ∀a∈cN L e,gS a d=true
 |0,e,h,a,ha=>by cases h
 |L+1,e,h,a,ha=>by
  obtain⟨h1,h2,h3⟩:=jL h;simp only [cN,List.mem_append,List.mem_flatMap] at ha;rcases ha with ha|⟨k,hk,ha⟩
  ·split at ha
   ·rename_i hk3;simp at ha;subst ha;unfold fU at h2;rw [if_neg (by omega),if_pos hk3] at h2;simp only [Bool.and_eq_true] at h2;exact h2.2.2
   simp at ha
  exact H0 (h3 k hk) a ha
theorem v6: ∀(L:Nat) (e:Expr),((cN L e).length:Int)≤tU L e
 |0,e=>by simp [cN,tU]
 |L+1,e=>by
  have h: ∀(l:List Expr),((l.flatMap (cN L)).length:Int)≤(l.map (tU L)).sum:=by
   intro l;induction l with
   |nil=>simp
   |cons k l ih=>
    have:=v6 L k;simp only [List.flatMap_cons,List.length_append,List.map_cons,List.sum_cons];omega
  have:=h e.kids;simp only [cN,tU,List.length_append];split
  ·rw [vBh];omega
  rw [List.length_nil];omega
theorem xS{d:Int}: ∀(L n:Nat) (e:Expr),6000+L≤n→L≤5→dW L e d=true→i_reads (n+1) e=some (cN L e)
 |0,n,e,_,_,h=>by cases h
 |L+1,n,e,hn,hL,h=>by
  obtain⟨h1,h2,h3⟩:=jL h;have hk2:=mK e.kind;unfold i_reads;refine Ev.eq (aH (fun h3k=>Ev.some ?_) fun hn3=>?_)
  ·have:e.kids=[]:=by
    have hz:iC e.kind=0:=by unfold iC;rw [if_pos (Or.inr (Or.inr h3k))]
    exact vAy (by omega)
   simp [cN,h3k,this]
  obtain⟨n,rfl⟩: ∃j,n=j+1:=⟨n-1,by omega⟩
  have hcb: ∀k∈e.kids,((cN L k).length:Int)≤100:=fun k hk=>by
   have h5:=aCP (h3 k hk);have h6:(2:Int)^L≤40:=by
    match L,hL with
    |0,_=>decide
    |1,_=>decide
    |2,_=>decide
    |3,_=>decide
    |4,_=>decide
   have:=v6 L k;omega
  refine Ev.loop (fun x:List Access×Int=> ∃i:Nat,x.2=i∧i≤e.kids.length∧x.1=(e.kids.take i).flatMap (cN L)∧(x.1.length:Int)≤100*i) (fun x=>e.kids.length-x.2.toNat) ?_ (n+1) _ ⟨0,rfl,by omega,by simp,by simp⟩ (by simp;omega);rintro again ⟨x,k⟩ ⟨i,hk,hi,hx,hxl⟩ hr;dsimp only at hk hx hxl⊢;subst hk;refine aH (fun hlt=>?_) fun hge=>Ev.some ?_
  ·have hk3:=cO (show i<e.kids.length by omega);have hm:=cP hk3;have hb:=hcb _ hm;refine aA (aN hk3) (aA (xS (d:=d) L n _ (by omega) (by omega) (h3 _ hm)) (aA (bT (by omega)) ?_));rw [aS (by omega)];refine hr _ ⟨i+1,by dsimp only;omega,by omega,?_,by dsimp only;rw [pE];omega⟩ (by dsimp only;omega);dsimp only;rw [yV,hk3,vAX,hx];simp
  have:i=e.kids.length:=by omega
  rw [hx,this,qS];simp [cN,hn3]
theorem xY(n:Nat){a:Affine}(h:a.coefs.length≤1000):eI n a=some a:=by
 unfold eI;refine Ev.eq (aH (fun h0=>Ev.some ?_) fun h0=>aA (eD _ h) (Ev.some rfl));obtain⟨cs,c⟩:=a
 have:cs=[]:=vAy (by simpa using h0);subst this;rfl
theorem xZ{n:Nat}(hn:5000≤n){a:Access}(h:O5 a.subs):fO n a=some a:=by
 obtain⟨h0,h1⟩:=h;refine Ev.eq ?_;unfold fO;refine Ev.loop (fun x:List Affine×Int=> ∃i:Nat,x.2=i∧i≤a.subs.length∧x.1=a.subs.take i) (fun x=>a.subs.length-x.2.toNat) ?_ n _ ⟨0,rfl,by omega,by simp⟩ (by simp;omega);rintro again ⟨x,k⟩ ⟨i,hk,hi,hx⟩ hr;dsimp only at hk hx⊢;subst hk;refine aH (fun hlt=>?_) fun hge=>Ev.some ?_
 ·have hs:=cO (show i<a.subs.length by omega);have hl:x.length=i:=by rw [hx,qC];omega
  refine aA (aN hs) (aA (xY n (h1 _ (cP hs))) (aA (bT (by simp;omega)) ?_));rw [aS (by omega)];refine hr _ ⟨i+1,by dsimp only;omega,by omega,?_⟩ (by dsimp only;omega);dsimp only;rw [yV,hs,hx];rfl
 have:i=a.subs.length:=by omega
 rw [hx,this,qS]
theorem aMj{l:List Affine}(h1:l.length≤2)(h2: ∀a∈l,bX a=true):O5 l:=⟨by omega,fun a ha=>by have:=(gR (h2 a ha)).1;unfold SmA;omega⟩
theorem S4{d:Int}: ∀(L n:Nat) (e:Expr) (out:List Access),6000+L≤n→L≤5→dW L e d=true→(out.length:Int)≤1000+200*(6-(L:Int))→s_l3Reads (n+1) out e=some (out++cN L e)
 |0,n,e,out,_,_,h,_=>by cases h
 |L+1,n,e,out,hn,hL,h,ho=>by
  obtain⟨h1,h2,h3⟩:=jL h;have hk2:=mK e.kind;unfold s_l3Reads;refine Ev.eq (Ev.jn (fun z=>z=out++(if e.kind=3 then [e.read] else [])) (fun j hj=>aH (fun h3k=>?_) fun hn3=>hj _ (by rw [if_neg hn3];simp)) fun z hz=>?_)
  ·have ha:=H0 h e.read (by simp [cN,h3k]);obtain⟨_,b1,b2⟩:=xB ha;exact aA (xZ (by omega) (aMj b1 b2)) (aA (bT (by simp;omega)) (hj _ (by rw [if_pos h3k])))
  subst hz;obtain⟨n,rfl⟩: ∃j,n=j+1:=⟨n-1,by omega⟩
  by_cases h3k:e.kind=3
  ·have hnil:e.kids=[]:=by
    have hz:iC e.kind=0:=by unfold iC;rw [if_pos (Or.inr (Or.inr h3k))]
    exact vAy (by omega)
   rw [hnil];refine Ev.some ?_;simp [cN,h3k,hnil]
  have hcb: ∀k∈e.kids,((cN L k).length:Int)≤100:=fun k hk=>by
   have h5:=aCP (h3 k hk);have h6:(2:Int)^L≤40:=by
    match L,hL with
    |0,_=>decide
    |1,_=>decide
    |2,_=>decide
    |3,_=>decide
    |4,_=>decide
   have:=v6 L k;omega
  rw [if_neg h3k,vBj];refine Ev.loop (fun x:List Access×Int=> ∃i:Nat,x.2=i∧i≤e.kids.length∧x.1=out++(e.kids.take i).flatMap (cN L)∧(x.1.length:Int)≤out.length+100*i) (fun x=>e.kids.length-x.2.toNat) ?_ (n+1) _ ⟨0,rfl,by omega,by simp,by simp⟩ (by simp;omega);rintro again ⟨x,k⟩ ⟨i,hk,hi,hx,hxl⟩ hr;dsimp only at hk hx hxl⊢;subst hk;refine aH (fun hlt=>?_) fun hge=>Ev.some ?_
  ·have hk3:=cO (show i<e.kids.length by omega);have hm:=cP hk3;have hb:=hcb _ hm;refine aA (aN hk3) (aA (S4 (d:=d) L n _ x (by omega) (by omega) (h3 _ hm) (by omega)) ?_);rw [aS (by omega)];refine hr _ ⟨i+1,by dsimp only;omega,by omega,?_,by dsimp only;rw [pE];omega⟩ (by dsimp only;omega);dsimp only;rw [yV,hk3,vAX,hx];simp
  have:i=e.kids.length:=by omega
  rw [hx,this,qS];simp [cN,h3k]
theorem aJk{nest:List Loop}(hf:Fit nest): ∀(ls:List Loop) (k:Nat) (p q:List Int),nest.drop k=ls→k≤nest.length→qQ k p→q∈pts ls p→qQ nest.length q
 | [],k,p,q,hd,hk,hp,hq=>by
  have:=D0 hd hk;simp only [pts,List.mem_singleton] at hq;subst hq;subst this;exact hp
 |l::ls,k,p,q,hd,hk,hp,hq=>by obtain⟨d1,d2,d3⟩:=wI hd;obtain⟨s1,s2⟩:=hf.2 k l d1;have hf1:=hf.1;simp only [pts,List.mem_flatMap] at hq;obtain⟨v,hv,hq⟩:=hq;exact aJk hf ls (k+1) _ q d2 (by omega) (P6 s1 s2 hp (by omega) (aLE.1 hv)) hq
theorem aGH{nest:List Loop}{ps:List (List Int)}(h:NP nest=some ps):Fit nest∧ps.length≤120∧(∀q∈ps,qQ nest.length q)∧ps=pts nest []∧wk nest []≤1200:=by
 unfold NP at h;split at h
 ·rename_i hc;cases h;have hf:=aCB hc.1;exact⟨hf,hc.2.2,fun q hq=>aJk hf nest 0 [] q rfl (by omega) pt0 hq,rfl,hc.2.1⟩
 cases h
def dY(list:List Arr)(s:Stmt)(q:List Int):Bool:=decide (0≤dM list s.write q 0)&&(cN 5 s.value).all fun a=>decide (0≤dM list a q 0)
theorem oD{s:Stmt}{d:Int}(h:fN s d=true):gS s.write d=true∧dW 5 s.value d=true∧(∀a∈cN 5 s.value,gS a d=true)∧(cN 5 s.value).length≤12:=by
 simp only [fN,Bool.and_eq_true,decide_eq_true_eq] at h;obtain⟨_,h1,h2,h3⟩:=h
 have:=v6 5 s.value;exact⟨h1,h2,H0 h2,by omega⟩
theorem aDX{n:Nat}(hn:7000≤n){p:Prog}(hl:p.arrays.length≤4)(hd:jO p.arrays){s:Stmt}{d:Int}(hs:fN s d=true){k:Nat}{q:List Int}(hq:qQ k q):iT n p s q=some (dY p.arrays s q):=by
 obtain⟨h1,h2,h3,h4⟩:=oD hs;obtain⟨n,rfl⟩: ∃j,n=j+1:=⟨n-1,by omega⟩
 refine Ev.eq ?_;unfold iT;generalize hT:dY p.arrays s q=T;unfold dY at hT;refine Ev.jn (fun z=>z=T) (fun j hj=>aA (wG (by omega) hl hd h1 hq) (aH (fun h=>?_) fun h=>hj _ ?_)) fun z hz=>Ev.some hz
 ·have hc:=N7 (n:=n+1) (f:=fun q0=>eN (n+1) q0 p q) (p:=fun a=>decide (dM p.arrays a q 0<0)) (l:=cN 5 s.value)
   (fun a ha=>by unfold eN;rw [wG (by omega) hl hd (h3 a ha) hq];rfl) (by omega) (by omega)
  refine aA (xS (d:=d) 5 n s.value (by omega) (by omega) h2) (aA hc (hj _ ?_));rw [←hT,decide_eq_true h,vBc,vBd];congr 1;apply congrArg fun f=>List.any (cN 5 s.value) f;funext a;rw [ltd]
 rw [←hT,decide_eq_false h];rfl
theorem zR{n:Nat}(hn:7000≤n){list:List Arr}(hl:list.length≤4)(hd:jO list){s:Stmt}{d:Int}(hs:fN s d=true){k:Nat}{q:List Int}(hq:qQ k q):
  nR n list s q=some (if dY list s q=true then((cN 5 s.value).map fun a=>dM list a q 0,dM list s.write q 0,true) else([],0,false)):=by
 obtain⟨h1,h2,h3,h4⟩:=oD hs;obtain⟨n,rfl⟩: ∃j,n=j+1:=⟨n-1,by omega⟩
 refine Ev.eq ?_;unfold nR;refine aA (S4 (d:=d) 5 n s.value [] (by omega) (by omega) h2 (by simp)) ?_;rw [List.nil_append];generalize hR:cN 5 s.value=R at*;have hco:dY list s q=(decide (0≤dM list s.write q 0)&&R.all fun a=>decide (0≤dM list a q 0)):=by unfold dY;rw [hR]
 refine Ev.loop (fun x:List Int×Int=> ∃i:Nat,x.2=i∧i≤R.length∧x.1=(R.take i).map (fun a=>dM list a q 0)∧ ∀(t:Nat) a,t<i→R[t]? =some a→0≤dM list a q 0) (fun x=>R.length-x.2.toNat) ?_ (n+1) _ ⟨0,rfl,by omega,by simp,fun t a h=>by omega⟩ (by dsimp only;omega);rintro again ⟨x,z⟩ ⟨i,hz,hi,hx,ha⟩ hr;dsimp only at hz hx ha⊢;subst hz;refine aH (fun hlt=>?_) fun hge=>?_
 ·have hg:=cO (show i<R.length by omega);have hm:=cP hg;refine aA (aN hg) (aA (aBe (by omega) hl hd (h3 _ hm) hq) (aH (fun hneg=>Ev.some ?_) fun hpos=>?_))
  ·rw [if_neg];rw [hco];intro h;rw [vBI] at h
   have:=vAF.1 h.2 _ hm;rw [decide_eq_true_eq] at this;omega
  have hl2:x.length≤12:=by rw [hx,qB,qC];omega
  refine aA (bT (by simp;omega)) ?_;rw [aS (by omega)];refine hr _ ⟨i+1,by dsimp only;omega,by omega,?_,fun t a ht hta=>?_⟩ (by dsimp only;omega)
  ·dsimp only;rw [yV,hg,vAO,hx];rfl
  by_cases hti:t=i
  ·subst hti;rw [hg] at hta;cases hta;omega
  exact ha t a (by omega) hta
 have hie:i=R.length:=by omega
 have hall:R.all (fun a=>decide (0≤dM list a q 0))=true:=vAF.2 (fun a hm=>by
  obtain⟨t,ht⟩:=vAJ hm
  have:=(cS.1 ht).1;exact decide_eq_true (ha t a (by omega) ht))
 rw [hco,hall,Bool.and_true];refine aA (aBe (by omega) hl hd h1 hq) (aH (fun hneg=>Ev.some ?_) fun hpos=>Ev.some ?_)
 ·rw [if_neg (by rw [decide_eq_true_eq];omega)]
 rw [if_pos (by rw [decide_eq_true_eq];omega),hx,hie,qS]
def ptV(q:List Int):Bool:=decide (q.length≤4)&&q.all fun x=>decide (-9999≤x∧x≤9999)
theorem aCu{n:Nat}(hn:5000≤n){q:List Int}(h:q.length≤1000):wF n q=some (ptV q):=by
 unfold wF ptV;have hc:=sZ (n:=n) (f:=fun q0=>mL n q0) (p:=fun x=> !decide (-9999≤x∧x≤9999)) (l:=q) (fun x _=>by unfold mL;rw [eX];rfl) (by omega) (by omega);simp only [jn,Option.bind];rw [hc];have e:(q.any fun x=> !decide (-9999≤x∧x≤9999))= !(q.all fun x=>decide (-9999≤x∧x≤9999)):=by rw [vBd];simp
 rw [e,show decide ((q.length:Int)≤4)=decide (q.length≤4) from decide_eq_decide.2 (by omega)];cases decide (q.length≤4)<;>simp
theorem aCf{n:Nat}(hn:5000≤n){q:List Int}(h:q.length≤1000):vV n q=some (ptV q):=by
 refine Ev.eq ?_;unfold vV;refine nN (l:=q) (p:=fun _ x=>decide (-9999≤x∧x≤9999)) (by omega) (by omega) (fun again i x hx hgo hno=>?_) (fun again hall=>?_) (fun⟨i,x,hx,hp⟩=>?_)
 ·have hi:=(cS.1 hx).1;rw [decide_eq_true (show(i:Int)<(q.length:Int) by omega)];refine cD (aA (aN hx) (aA (uA n x 9999 (by omega)) ?_));cases hp:decide (-9999≤x∧x≤9999) with
  |true=>show Ev (again _) _;rw [aS (by omega)];exact hgo hp
  |false=>exact Ev.some (hno hp)
 ·rw [decide_eq_false (show¬(q.length:Int)<(q.length:Int) by omega)];refine Ev.some ?_;unfold ptV;rw [vAF.2 (fun c hc=>by obtain⟨i,hi⟩:=vAJ hc;exact hall i c hi),Bool.and_true];exact decide_eq_decide.2 (by omega)
 unfold ptV;rw [vAK.2 ⟨x,cP hx,by rw [hp];simp⟩,vBq]
theorem aEJ{α:Type}(p q:α→Bool): ∀l:List α,(l.all p&&l.all q)=l.all (fun x=>p x&&q x)
 | []=>rfl
 |x::l=>by simp only [List.all_cons,←aEJ p q l];cases p x<;>cases q x<;>cases l.all p<;>cases l.all q<;>rfl
def F6(part:Part):Bool:=decide (1≤part.body.length∧part.body.length≤4)&&part.body.all fun s=>fN s (part.nest.length:Int)
def fK(part:Part):List (List Int):=(NP part.nest).getD []
def cW(list:List Arr)(part:Part):Bool:=(NP part.nest).isSome&&(F6 part&&part.body.all fun s=>(fK part).all fun q=>dY list s q&&ptV q)
def aC3(x:Part):Prop:=SmN x.nest∧x.body.length≤1000∧ ∀s∈x.body,SmS s
def SmP(p:Prog):Prop:=SmR p.arrays∧p.parts.length≤1000∧ ∀x∈p.parts,aC3 x
theorem hJ{list:List Arr}{x:Part}(h:cW list x=true):NP x.nest=some (fK x)∧(1≤x.body.length∧x.body.length≤4)∧(∀s∈x.body,fN s (x.nest.length:Int)=true)∧ ∀s∈x.body,∀q∈fK x,dY list s q=true∧ptV q=true:=by
 simp only [cW,F6,Bool.and_eq_true,decide_eq_true_eq,List.all_eq_true] at h;refine⟨?_,h.2.1.1,h.2.1.2,h.2.2⟩;unfold fK;cases hn:NP x.nest with
 |none=>rw [hn] at h;simp at h
 |some ps=>rfl
theorem aGC{list:List Arr}(h:iJ list=true):list.length≤4∧jO list:=by
 simp only [iJ,Bool.and_eq_true,decide_eq_true_eq] at h;refine⟨h.2,fun x hx=>?_⟩;obtain⟨i,hi⟩:=vAJ hx
 have:=W5 h.1 hi;simp only [aAY,Bool.and_eq_true] at this;exact this.2.2
theorem uE{n:Nat}(hn:7000≤n){list:List Arr}(hl:list.length≤4)(hd:jO list){x:Part}(hx:aC3 x):
  qX n list x=some (if cW list x=true then(((fK x).length:Int)*(x.body.length:Int),true) else(0,false)):=by
 obtain⟨h1,h2,h3⟩:=hx;refine Ev.eq ?_;unfold qX;generalize hT:(if cW list x=true then(((fK x).length:Int)*(x.body.length:Int),true) else((0:Int),false))=T;refine aA (N3 (by omega) h1) ?_;have hbad:cW list x=false→((0:Int),false)=T:=fun h=>by rw [←hT,h];rfl
 refine Ev.jn (fun z=>z= !((NP x.nest).isSome&&decide (1≤x.body.length∧x.body.length≤4))) (fun j hj=>?_) fun z hz=>?_
 ·cases hN:NP x.nest with
  |none=>exact cD (hj _ (by rw [hN];rfl))
  |some ps=>
   refine cE (aH (fun h=>hj _ ?_) fun h=>hj _ ?_)
   ·rw [hN,decide_eq_false (by omega)];rfl
   rw [hN];by_cases h4:x.body.length≤4
   ·rw [decide_eq_false (show¬(4:Int)<(x.body.length:Int) by omega),decide_eq_true (by omega)];rfl
   rw [decide_eq_true (show(4:Int)<(x.body.length:Int) by omega),decide_eq_false (by omega)];rfl
 subst hz;cases hN:NP x.nest with
 |none=>exact Ev.some (hbad (by unfold cW;rw [hN];rfl))
 |some ps=>
  obtain⟨hf,hp1,hp2,hp3,hp4⟩:=aGH hN;have hpp:fK x=ps:=by unfold fK;rw [hN];rfl
  by_cases hb:1≤x.body.length∧x.body.length≤4
  ·rw [decide_eq_true hb];refine cE ?_;have hok:cW list x=x.body.all (fun s=>fN s (x.nest.length:Int)&&ps.all fun q=>dY list s q&&ptV q):=by
    unfold cW F6;rw [hN,hpp,decide_eq_true hb,Option.isSome_some,vBc,vBc];exact aEJ _ _ _
   refine Ev.loop (fun y:Int=> ∃i:Nat,y=i∧i≤x.body.length∧ ∀(t:Nat) s,t<i→x.body[t]? =some s→(fN s (x.nest.length:Int)&&ps.all fun q=>dY list s q&&ptV q)=true) (fun y=>x.body.length-y.toNat) ?_ n _ ⟨0,rfl,by omega,fun t s h=>by omega⟩ (by simp;omega);rintro again y ⟨i,rfl,hi,ha⟩ hr;refine aH (fun hlt=>?_) fun hge=>Ev.some ?_
   ·have hg:=cO (show i<x.body.length by omega);have hm:=cP hg;refine aA (aN hg) (aA (uJ (by omega) (h3 _ hm) _) ?_);cases hsv:fN x.body[i] (x.nest.length:Int) with
    |false=>
     refine cD (Ev.some (hbad ?_));rw [hok];exact vAK.2 ⟨_,hm,by rw [hsv];simp⟩
    |true=>
     refine cE ?_;show Ev (aM (fun again9 (x8:Int)=>bif decide (x8<(ps.length:Int)) then _ else _) n 0) _;refine Ev.loop (fun y:Int=> ∃k:Nat,y=k∧k≤ps.length∧ ∀(t:Nat) q,t<k→ps[t]? =some q→(dY list x.body[i] q&&ptV q)=true) (fun y=>ps.length-y.toNat) ?_ n _ ⟨0,rfl,by omega,fun t s h=>by omega⟩ (by simp;omega);rintro again9 y ⟨k,rfl,hk,hak⟩ hr9;refine aH (fun hlt9=>?_) fun hge9=>?_
     ·have hgk:=cO (show k<ps.length by omega);have hmk:=cP hgk;have hq:=hp2 _ hmk;have hql:ps[k].length≤1000:=by have:=hq.1;have:=hq.2.1;omega
      refine aA (aN hgk) (aA (zR (by omega) hl hd hsv hq) (Ev.jn (fun z=>z= !(dY list x.body[i] ps[k]&&ptV ps[k])) (fun j hj=>?_) fun z hz=>?_))
      ·cases hc:dY list x.body[i] ps[k] with
       |false=>
        rw [hc] at hj;exact cD (hj _ rfl)
       |true=>
        rw [hc] at hj;exact cE (aA (aCf (by omega) hql) (hj _ rfl))
      subst hz;cases hc:(dY list x.body[i] ps[k]&&ptV ps[k]) with
      |false=>
       refine Ev.some (hbad ?_);rw [hok];refine vAK.2 ⟨_,hm,?_⟩;rw [hsv,vBc];rw [vAK.2 ⟨_,hmk,by rw [hc];simp⟩];simp
      |true=>
       show Ev (again9 _) _;rw [aS (by omega)];refine hr9 _ ⟨k+1,by omega,by omega,fun t q ht htq=>?_⟩ (by omega);by_cases htk:t=k
       ·subst htk;rw [hgk] at htq;cases htq;exact hc
       exact hak t q (by omega) htq
     rw [aS (by omega)];refine hr _ ⟨i+1,by omega,by omega,fun t s ht hts=>?_⟩ (by omega);by_cases hti:t=i
     ·subst hti;rw [hg] at hts;cases hts;rw [hsv,vBc];refine vAF.2 fun q hq=>?_;obtain⟨t',ht'⟩:=vAJ hq
      have:=(cS.1 ht').1;exact hak t' q (by omega) ht'
     exact ha t s (by omega) hts
   have hall:cW list x=true:=by
    rw [hok];refine vAF.2 fun s hs=>?_;obtain⟨t,ht⟩:=vAJ hs
    have:=(cS.1 ht).1;exact ha t s (by omega) ht
   rw [←hT,hall,if_pos rfl,hpp];show(wr ((ps.length:Int)*(x.body.length:Int)),true)=_;have hb1:(0:Int)≤(ps.length:Int)*(x.body.length:Int):=vBp (by omega) (by omega);have hb2:(ps.length:Int)*(x.body.length:Int)≤120*4:=vBJ (by omega) (by omega) (by omega) (by omega);rw [aS (by omega)]
  rw [decide_eq_false hb];refine Ev.some (hbad ?_);unfold cW F6;rw [decide_eq_false hb];simp
def fX(x:Part):Int:=((fK x).length:Int)*(x.body.length:Int)
def instP(i:Nat)(x:Part):List Inst:=(fK x).flatMap fun q=>(List.range x.body.length).map fun(k:Nat)=>(⟨(i:Int),(k:Int),q⟩:Inst)
def insts(ps:List Part):List Inst:=ps.zipIdx.flatMap fun y=>instP y.2 y.1
def rZ(p:Prog):Bool:=iJ p.arrays&&(decide (p.parts.length≤4)&&p.parts.all (cW p.arrays))
def cF(p:Prog):Bool:=rZ p&&decide ((p.parts.map fX).sum≤120)
theorem insts_snoc(l:List Part)(x:Part):insts (l++[x])=insts l++instP l.length x:=by unfold insts;rw [List.zipIdx_append,vAX];simp
theorem insts_take{l:List Part}{i:Nat}{x:Part}(h:l[i]? =some x):insts (l.take (i+1))=insts (l.take i)++instP i x:=by have hi:=(cS.1 h).1;rw [yV,h];show insts (l.take i++[x])=_;rw [insts_snoc,qC,Nat.min_eq_left (Nat.le_of_lt hi)]
theorem C7{α β:Type}(f:α→List β)(m:Nat)(h: ∀x,(f x).length=m): ∀l:List α,(l.flatMap f).length=l.length*m
 | []=>by simp
 |x::l=>by rw [List.flatMap_cons,pE,h,C7 f m h l,List.length_cons,nZ];omega
theorem instP_len(i:Nat)(x:Part):((instP i x).length:Int)=fX x:=by unfold instP fX;rw [C7 _ x.body.length fun q=>by simp];exact Int.natCast_mul _ _
theorem aDv{l:List Part}{i:Nat}{x:Part}(h:l[i]? =some x):((l.take (i+1)).map fX).sum=((l.take i).map fX).sum+fX x:=by rw [yV,h];simp
theorem insts_len: ∀(l:List Part) (i:Nat),i≤l.length→((insts (l.take i)).length:Int)=((l.take i).map fX).sum
 |l,0,_=>by simp [insts]
 |l,i+1,h=>by
  have hg:=cO (show i<l.length by omega);rw [insts_take hg,pE,aDv hg]
  have:=insts_len l i (by omega)
  have:=instP_len i l[i];omega
theorem insts_len'(l:List Part):((insts l).length:Int)=(l.map fX).sum:=by
 have:=insts_len l l.length (jW _)
 rwa [qS] at this
theorem J6{list:List Arr}{x:Part}(h:cW list x=true):0≤fX x∧fX x≤480:=by
 obtain⟨h1,h2,_⟩:=hJ h;obtain⟨_,h3,_⟩:=aGH h1;unfold fX;refine⟨vBp (by omega) (by omega),?_⟩
 have:=vBJ (show((fK x).length:Int)≤120 by omega) (show(x.body.length:Int)≤4 by omega) (by omega) (by omega);omega
theorem kH{n:Nat}(hn:7000≤n){p:Prog}(hp:SmP p):eJ n p=some (cF p):=by
 obtain⟨h1,h2,h3⟩:=hp;refine Ev.eq ?_;unfold eJ;generalize hT:cF p=T;unfold cF rZ at hT;refine Ev.jn (fun z=>z= !(iJ p.arrays&&decide (p.parts.length≤4))) (fun j hj=>aA (aAF (by omega) h1) ?_) fun z hz=>?_
 ·cases ha:iJ p.arrays with
  |false=>exact cD (hj _ (by rw [ha];rfl))
  |true=>
   refine cE (hj _ ?_);rw [ha];by_cases h4:p.parts.length≤4
   ·rw [decide_eq_false (show¬(4:Int)<(p.parts.length:Int) by omega),decide_eq_true h4];rfl
   rw [decide_eq_true (show(4:Int)<(p.parts.length:Int) by omega),decide_eq_false h4];rfl
 subst hz;cases hb:(iJ p.arrays&&decide (p.parts.length≤4)) with
 |false=>
  refine Ev.some ?_;rw [←hT,←vBe,hb];rfl
 |true=>
  have hT':T=(p.parts.all (cW p.arrays)&&decide ((p.parts.map fX).sum≤120)):=by rw [←hT,←vBe,hb];rfl
  rw [vBI,decide_eq_true_eq] at hb;obtain⟨hl,hd⟩:=aGC hb.1;refine cE ?_;refine Ev.loop (fun x:Int×Int=> ∃i:Nat,x.2=i∧i≤p.parts.length∧x.1=((p.parts.take i).map fX).sum∧0≤x.1∧x.1≤480*i∧ ∀(t:Nat) y,t<i→p.parts[t]? =some y→cW p.arrays y=true) (fun x=>p.parts.length-x.2.toNat) ?_ n _ ⟨0,rfl,by omega,by simp,by simp,by simp,fun t y h=>by omega⟩ (by dsimp only;omega);rintro again ⟨x,z⟩ ⟨i,hz,hi,hx,hx0,hx1,ha⟩ hr;dsimp only at hz hx hx0 hx1 ha⊢;subst hz;refine aH (fun hlt=>?_) fun hge=>Ev.some ?_
  ·have hg:=cO (show i<p.parts.length by omega);have hm:=cP hg;refine aA (aN hg) (aA (uE (by omega) hl hd (h3 _ hm)) ?_);cases hpo:cW p.arrays p.parts[i] with
   |false=>
    rw [if_neg (by simp)];refine Ev.some ?_;rw [hT',vAK.2 ⟨_,hm,by rw [hpo];simp⟩];rfl
   |true=>
    rw [if_pos rfl];have hcb:=J6 hpo;show Ev (again (wr (x+fX p.parts[i]),wr ((i:Int)+1))) _;rw [aS (n:=x+fX p.parts[i]) (by omega),aS (by omega)];refine hr _ ⟨i+1,by dsimp only;omega,by omega,by dsimp only;rw [aDv hg];omega,by dsimp only;omega,by dsimp only;omega,fun t y ht hty=>?_⟩ (by dsimp only;omega);by_cases hti:t=i
    ·subst hti;rw [hg] at hty;cases hty;exact hpo
    exact ha t y (by omega) hty
  have hie:i=p.parts.length:=by omega
  have hall:p.parts.all (cW p.arrays)=true:=vAF.2 (fun y hy=>by
   obtain⟨t,ht⟩:=vAJ hy
   have:=(cS.1 ht).1;exact ha t y (by omega) ht)
  rw [hT',hall,vBc,hx,hie,qS]
theorem uO{α:Type}(f:Nat→α)(k:Nat):(List.range (k+1)).map f=(List.range k).map f++[f k]:=by rw [vBA,vAO];rfl
theorem uX{n:Nat}(hn:7000≤n){p:Prog}(hp:SmP p):dL n p=some (if rZ p=true then(insts p.parts,decide ((insts p.parts).length≤120)) else([],false)):=by
 obtain⟨h1,h2,h3⟩:=hp;refine Ev.eq ?_;unfold dL;generalize hT:(if rZ p=true then(insts p.parts,decide ((insts p.parts).length≤120)) else([],false))=T;have hbad:rZ p=false→(([]:List Inst),false)=T:=fun h=>by rw [←hT,h];rfl
 refine Ev.jn (fun z=>z= !(iJ p.arrays&&decide (p.parts.length≤4))) (fun j hj=>aA (aAM (by omega) h1) ?_) fun z hz=>?_
 ·cases ha:iJ p.arrays with
  |false=>exact cD (hj _ (by rw [ha];rfl))
  |true=>
   refine cE (hj _ ?_);rw [ha];by_cases h4:p.parts.length≤4
   ·rw [decide_eq_false (show¬(4:Int)<(p.parts.length:Int) by omega),decide_eq_true h4];rfl
   rw [decide_eq_true (show(4:Int)<(p.parts.length:Int) by omega),decide_eq_false h4];rfl
 subst hz;cases hb:(iJ p.arrays&&decide (p.parts.length≤4)) with
 |false=>exact Ev.some (hbad (by unfold rZ;rw [←vBe,hb];rfl))
 |true=>
  have hall':rZ p=p.parts.all (cW p.arrays):=by unfold rZ;rw [←vBe,hb];rfl
  rw [vBI,decide_eq_true_eq] at hb;obtain⟨hl,hd⟩:=aGC hb.1;refine cE ?_;refine Ev.loop (fun x:List Inst×Int=> ∃i:Nat,x.2=i∧i≤p.parts.length∧x.1=insts (p.parts.take i)∧x.1.length≤480*i∧ ∀(t:Nat) y,t<i→p.parts[t]? =some y→cW p.arrays y=true) (fun x=>p.parts.length-x.2.toNat) ?_ n _ ⟨0,rfl,by omega,by simp [insts],by simp,fun t y h=>by omega⟩ (by dsimp only;omega);rintro again ⟨x,z⟩ ⟨i,hz,hi,hx,hxl,ha⟩ hr;dsimp only at hz hx hxl ha⊢;subst hz;refine aH (fun hlt=>?_) fun hge=>Ev.some ?_
  ·have hg:=cO (show i<p.parts.length by omega);have hm:=cP hg;obtain⟨s1,s2,s3⟩:=h3 _ hm;generalize hP:p.parts[i]=P at*;have hpb:cW p.arrays P=false→rZ p=false:=fun h=>by rw [hall'];exact vAK.2 ⟨_,hm,by rw [h];simp⟩
   refine aA (aN hg) (aA (N6 (by omega) s1) (Ev.jn (fun z=>z= !((NP P.nest).isSome&&F6 P)) (fun j hj=>?_) fun z hz=>?_))
   ·cases hN:NP P.nest with
    |none=>exact cD (hj _ (by rw [hN];rfl))
    |some ps=>
     refine cE ?_;have hw:cQ n (P.body.length:Int) 1 4=some (decide (1≤P.body.length∧P.body.length≤4)):=by
      rw [eX];congr 1;exact decide_eq_decide.2 (by omega)
     refine aA hw ?_;have hc:=aAQ (n:=n) (f:=fun q0=>dR n q0 P) (p:=fun s=> !fN s (P.nest.length:Int)) (l:=P.body) (fun s hs=>by unfold dR;rw [W9 (by omega) (s3 s hs)];rfl) (by omega) (by omega);have e:(P.body.any fun s=> !fN s (P.nest.length:Int))= !(P.body.all fun s=>fN s (P.nest.length:Int)):=by rw [vBd];simp
     cases hw2:decide (1≤P.body.length∧P.body.length≤4) with
     |false=>exact cD (hj _ (by unfold F6;rw [hN,hw2];rfl))
     |true=>exact cE (aA hc (hj _ (by unfold F6;rw [hN,hw2,e];rfl)))
   subst hz;cases hN:NP P.nest with
   |none=>exact Ev.some (hbad (hpb (by unfold cW;rw [hN];rfl)))
   |some ps=>
    obtain⟨hf,hp1,hp2,hp3,hp4⟩:=aGH hN;have hpp:fK P=ps:=by unfold fK;rw [hN];rfl
    cases hbv:F6 P with
    |false=>exact Ev.some (hbad (hpb (by unfold cW;rw [hbv];simp)))
    |true=>
     have hbv':=hbv;simp only [F6,Bool.and_eq_true,decide_eq_true_eq,List.all_eq_true] at hbv';obtain⟨⟨hb1,hb2⟩,hb3⟩:=hbv';have hok:cW p.arrays P=P.body.all (fun s=>ps.all fun q=>dY p.arrays s q&&ptV q):=by
      unfold cW;rw [hN,hbv,hpp];rfl
     let row:List Int→List Inst:=fun q=>(List.range P.body.length).map fun(k:Nat)=>(⟨(i:Int),(k:Int),q⟩:Inst)
     have hrl: ∀q,(row q).length=P.body.length:=fun q=>by simp [row]
     have hinst:instP i P=ps.flatMap row:=by unfold instP;rw [hpp]
     refine cE ?_;rw [show(aF1 (some ps)).1=ps from rfl];refine Ev.loop (fun y:List Inst×Int=> ∃k:Nat,y.2=k∧k≤ps.length∧y.1=x++(ps.take k).flatMap row∧ ∀(t:Nat) q,t<k→ps[t]? =some q→ptV q=true∧ ∀s∈P.body,dY p.arrays s q=true) (fun y=>ps.length-y.2.toNat) ?_ n _ ⟨0,rfl,by omega,by simp,fun t q h=>by omega⟩ (by dsimp only;omega);rintro again17 ⟨y,z⟩ ⟨k,hz,hk,hy,hak⟩ hr17;dsimp only at hz hy hak⊢;subst hz;refine aH (fun hlt2=>?_) fun hge2=>?_
     ·have hgk:=cO (show k<ps.length by omega);have hmk:=cP hgk;generalize hQ:ps[k]=Q at*;have hq:=hp2 _ hmk;have hql:Q.length≤4:=by have:=hq.1;have:=hq.2.1;omega
      refine aA (aN hgk) (aA (aCu (by omega) (by omega)) ?_);have hyl:y.length≤480*4+480:=by
       rw [hy,pE,C7 row _ hrl,qC]
       have:min k ps.length*P.body.length≤120*4:=vBy (by omega) hb2;omega
      cases hpv:ptV Q with
      |false=>
       refine cD (Ev.some (hbad (hpb ?_)));rw [hok];obtain⟨s0,hs0⟩: ∃s0,s0∈P.body:=List.exists_mem_of_length_pos (by omega);refine vAK.2 ⟨s0,hs0,?_⟩;rw [vAK.2 ⟨Q,hmk,by rw [hpv];simp⟩];simp
      |true=>
       refine cE ?_;refine Ev.loop (fun u:List Inst×Int=> ∃m:Nat,u.2=m∧m≤P.body.length∧u.1=y++(List.range m).map (fun(k:Nat)=>(⟨(i:Int),(k:Int),Q⟩:Inst))∧ ∀(t:Nat) s,t<m→P.body[t]? =some s→dY p.arrays s Q=true) (fun u=>P.body.length-u.2.toNat) ?_ n _ ⟨0,rfl,by omega,by simp,fun t s h=>by omega⟩ (by dsimp only;omega);rintro again23 ⟨u,z⟩ ⟨m,hz,hmm,hu,ham⟩ hr23;dsimp only at hz hu ham⊢;subst hz;refine aH (fun hlt3=>?_) fun hge3=>?_
       ·have hgm:=cO (show m<P.body.length by omega);have hmem:=cP hgm;refine aA (aN hgm) (aA (aDX (by omega) hl hd (hb3 _ hmem) hq) ?_);cases hco:dY p.arrays P.body[m] Q with
        |false=>
         refine cD (Ev.some (hbad (hpb ?_)));rw [hok];refine vAK.2 ⟨_,hmem,?_⟩;rw [vAK.2 ⟨Q,hmk,by rw [hco];simp⟩];simp
        |true=>
         have hcl:m_ownClone Q=some Q:=by unfold m_ownClone;rw [if_pos (by omega)]
         have hul:u.length≤480*4+480+4:=by rw [hu];simp;omega
         refine cE (aA hcl (aA (bT (by simp;omega)) ?_));rw [aS (by omega)];refine hr23 _ ⟨m+1,by dsimp only;omega,by omega,?_,fun t s ht hts=>?_⟩ (by dsimp only;omega)
         ·dsimp only;rw [hu,uO,vAR]
         by_cases htm:t=m
         ·subst htm;rw [hgm] at hts;cases hts;exact hco
         exact ham t s (by omega) hts
       have hme:m=P.body.length:=by omega
       rw [aS (by omega)];refine hr17 _ ⟨k+1,by dsimp only;omega,by omega,?_,fun t q ht htq=>?_⟩ (by dsimp only;omega)
       ·dsimp only;rw [yV,hgk,vAX,←vAR,←hy,hu,hme];simp [row]
       by_cases htk:t=k
       ·subst htk;rw [hgk] at htq;cases htq;refine⟨hpv,fun s hs=>?_⟩;obtain⟨t',ht'⟩:=vAJ hs
        have:=(cS.1 ht').1;exact ham t' s (by omega) ht'
       exact hak t q (by omega) htq
     have hke:k=ps.length:=by omega
     have hpo:cW p.arrays P=true:=by
      rw [hok];refine vAF.2 fun s hs=>vAF.2 fun q hq=>?_;obtain⟨t,ht⟩:=vAJ hq
      have:=(cS.1 ht).1;obtain⟨g1,g2⟩:=hak t q (by omega) ht;rw [g1,g2 s hs];rfl
     have hcb:=J6 hpo;have hil:=instP_len i P;rw [aS (by omega)];refine hr _ ⟨i+1,by dsimp only;omega,by omega,?_,?_,fun t y ht hty=>?_⟩ (by dsimp only;omega)
     ·dsimp only;rw [insts_take hg,hinst,hy,hke,qS,hx]
     ·dsimp only;rw [hy,hke,qS,pE,←hinst];omega
     by_cases hti:t=i
     ·subst hti;rw [hg] at hty;cases hty;exact hpo
     exact ha t y (by omega) hty
  have hie:i=p.parts.length:=by omega
  have hall:rZ p=true:=by
   rw [hall'];exact vAF.2 (fun y hy=>by
    obtain⟨t,ht⟩:=vAJ hy
    have:=(cS.1 ht).1;exact ha t y (by omega) ht)
  rw [←hT,if_pos hall,hx,hie,qS];congr 1;exact decide_eq_decide.2 (by omega)
theorem kT{n:Nat}(hn:7000≤n){p:Prog}(hp:SmP p):iE n p=some (cF p):=by
 unfold iE;rw [uX hn hp];unfold cF;cases h:rZ p with
 |false=>rfl
 |true=>
  rw [if_pos rfl];show some (decide _)=_;rw [vBc];congr 1
  have:=insts_len' p.parts;exact decide_eq_decide.2 (by omega)
theorem iZ{p:Prog}(h:cF p=true):p.arrays.length≤4∧jO p.arrays∧p.parts.length≤4∧(∀x∈p.parts,cW p.arrays x=true)∧(insts p.parts).length≤120:=by
 simp only [cF,rZ,Bool.and_eq_true,decide_eq_true_eq,List.all_eq_true] at h;obtain⟨⟨h1,h2,h3⟩,h4⟩:=h;obtain⟨a,b⟩:=aGC h1
 have:=insts_len' p.parts;exact⟨a,b,h2,h3,by omega⟩
theorem uI{n:Nat}(hn:7000≤n){p:Prog}(hv:cF p=true):jD n p=some (insts p.parts):=by
 obtain⟨hl,hd,h4,hpo,hil⟩:=iZ hv;refine Ev.eq ?_;unfold jD;refine Ev.loop (fun x:List Inst×Int=> ∃i:Nat,x.2=i∧i≤p.parts.length∧x.1=insts (p.parts.take i)∧x.1.length≤480*i) (fun x=>p.parts.length-x.2.toNat) ?_ n _ ⟨0,rfl,by omega,by simp [insts],by simp⟩ (by dsimp only;omega);rintro again ⟨x,z⟩ ⟨i,hz,hi,hx,hxl⟩ hr;dsimp only at hz hx hxl⊢;subst hz;refine aH (fun hlt=>?_) fun hge=>Ev.some ?_
 ·have hg:=cO (show i<p.parts.length by omega);have hm:=cP hg;have hpP:=hpo _ hm;generalize hP:p.parts[i]=P at*;obtain⟨q1,q2,q3,q4⟩:=hJ hpP;obtain⟨hf,hp1,hp2,hp3,hp4⟩:=aGH q1;generalize hpp:fK P=ps at*;have hcb:=J6 hpP;have hil':=instP_len i P;let row:List Int→List Inst:=fun q=>(List.range P.body.length).map fun(k:Nat)=>(⟨(i:Int),(k:Int),q⟩:Inst)
  have hrl: ∀q,(row q).length=P.body.length:=fun q=>by simp [row]
  have hinst:instP i P=ps.flatMap row:=by unfold instP;rw [hpp]
  refine aA (aN hg) (aL (uB hf P.nest n 0 [] [] (by have:=hf.1;omega) rfl (by omega) pt0 hp4 (by simp)) fun r ⟨r1,r2⟩=>?_);have hr1:r=ps:=by rw [r1 (by rw [←hp3];simpa using hp1),hp3];rfl
  subst hr1;refine Ev.loop (fun y:List Inst×Int=> ∃k:Nat,y.2=k∧k≤r.length∧y.1=x++(r.take k).flatMap row) (fun y=>r.length-y.2.toNat) ?_ n _ ⟨0,rfl,by omega,by simp⟩ (by dsimp only;omega);rintro again10 ⟨y,z⟩ ⟨k,hz,hk,hy⟩ hr10;dsimp only at hz hy⊢;subst hz;refine aH (fun hlt2=>?_) fun hge2=>?_
  ·have hgk:=cO (show k<r.length by omega);have hmk:=cP hgk;generalize hQ:r[k]=Q at*;have hq:=hp2 _ hmk;have hql:Q.length≤4:=by have:=hq.1;have:=hq.2.1;omega
   have hyl:y.length≤480*4+480:=by
    rw [hy,pE,C7 row _ hrl,qC]
    have:min k r.length*P.body.length≤120*4:=vBy (by omega) q2.2;omega
   refine Ev.loop (fun u:List Inst×Int=> ∃m:Nat,u.2=m∧m≤P.body.length∧u.1=y++(List.range m).map (fun(k:Nat)=>(⟨(i:Int),(k:Int),Q⟩:Inst))) (fun u=>P.body.length-u.2.toNat) ?_ n _ ⟨0,rfl,by omega,by simp⟩ (by dsimp only;omega);rintro again14 ⟨u,z⟩ ⟨m,hz,hmm,hu⟩ hr14;dsimp only at hz hu⊢;subst hz;refine aH (fun hlt3=>?_) fun hge3=>?_
   ·have hul:u.length≤480*4+480+4:=by rw [hu];simp;omega
    refine aA (aN hgk) (aA (eD _ (by omega)) (aA (bT (by simp;omega)) ?_));rw [aS (by omega)];refine hr14 _ ⟨m+1,by dsimp only;omega,by omega,?_⟩ (by dsimp only;omega);dsimp only;rw [hu,uO,vAR]
   have hme:m=P.body.length:=by omega
   rw [aS (by omega)];refine hr10 _ ⟨k+1,by dsimp only;omega,by omega,?_⟩ (by dsimp only;omega);dsimp only;rw [yV,hgk,vAX,←vAR,←hy,hu,hme];simp [row]
  have hke:k=r.length:=by omega
  rw [aS (by omega)];refine hr _ ⟨i+1,by dsimp only;omega,by omega,?_,?_⟩ (by dsimp only;omega)
  ·dsimp only;rw [insts_take hg,hinst,hy,hke,qS,hx]
  dsimp only;rw [hy,hke,qS,pE,←hinst];omega
 have hie:i=p.parts.length:=by omega
 rw [hx,hie,qS]
def wN:Nat→List Arr→List Int→Expr→List Int→Int
 |0,_,_,_,_=>0
 |L+1,list,m,e,q=>
  if e.kind=1 then e.num
  else if e.kind=2 then fS e.index q%1000
  else if e.kind=3 then m.getD (dM list e.read q 0).toNat 0
  else match e.kids with
   | [a,b]=>if e.kind=4 then(wN L list m a q+wN L list m b q)%1000 else if e.kind=5 then(wN L list m a q-wN L list m b q)%1000 else(wN L list m a q*wN L list m b q)%1000
   |_=>0
def aAw(list:List Arr)(m:List Int):Prop:=(m.length:Int)=wU list∧ ∀x∈m,0≤x∧x≤999
theorem aNt{list:List Arr}{m:List Int}(h:aAw list m)(i:Nat):0≤m.getD i 0∧m.getD i 0≤999:=by
 rw [N1];cases hi:m[i]? with
 |none=>simp
 |some x=>exact h.2 x (cP hi)
theorem aMX{list:List Arr}{m:List Int}(hm:aAw list m){d:Int}{q:List Int}: ∀{L:Nat} {e:Expr},dW L e d=true→0≤wN L list m e q∧wN L list m e q≤999
 |0,e,h=>by cases h
 |L+1,e,h=>by
  obtain⟨h1,h2,h3⟩:=jL h;simp only [wN];split
  ·rename_i k1;unfold fU at h2;rw [if_neg (by omega),if_neg (by omega),if_pos k1] at h2;simp only [Bool.and_eq_true,decide_eq_true_eq] at h2;omega
  split
  ·omega
  split
  ·exact aNt hm _
  split
  ·split
   ·omega
   split<;>omega
  omega
def fI(p:Prog)(x:Inst):Prop:= ∃(i k:Nat) (P:Part) (s:Stmt),x.part=i∧x.stmt=k∧p.parts[i]? =some P∧P.body[k]? =some s∧x.point∈fK P
def G4(p:Prog)(x:Inst):Option Stmt:=(p.parts[x.part.toNat]?).bind fun P=>P.body[x.stmt.toNat]?
def uM(p:Prog)(m:List Int)(x:Inst):List Int:=match G4 p x with
 |some s=>m.set (dM p.arrays s.write x.point 0).toNat (wN 5 p.arrays m s.value x.point)
 |none=>m
theorem inst_d{p:Prog}(hv:cF p=true){x:Inst}(hx:fI p x): ∃(i k:Nat) (P:Part) (s:Stmt) (d:Int),x.part=i∧x.stmt=k∧p.parts[i]? =some P∧P.body[k]? =some s∧G4 p x=some s∧fN s d=true∧qQ P.nest.length x.point∧dY p.arrays s x.point=true:=by obtain⟨hl,hd,h4,hpo,hil⟩:=iZ hv;obtain⟨i,k,P,s,e1,e2,e3,e4,e5⟩:=hx;obtain⟨q1,q2,q3,q4⟩:=hJ (hpo P (cP e3));obtain⟨hf,hp1,hp2,hp3,hp4⟩:=aGH q1;have hs:=cP e4;exact⟨i,k,P,s,_,e1,e2,e3,e4,by unfold G4;rw [e1,e2,P0,e3];exact(by rw [P0];exact e4),q3 s hs,hp2 _ e5,(q4 s hs _ e5).1⟩
theorem aCQ{list:List Arr}{s:Stmt}{q:List Int}(h:dY list s q=true):0≤dM list s.write q 0∧ ∀a∈cN 5 s.value,0≤dM list a q 0:=by simp only [dY,Bool.and_eq_true,decide_eq_true_eq,List.all_eq_true] at h;exact h
theorem aHc{α:Type}{l:List α}{c:Int}(h0:0≤c)(h:c.toNat<l.length):ix l c=some l[c.toNat]:=by unfold ix;rw [if_pos h0,List.getElem?_eq_getElem h]
theorem aGX{p:Prog}(hv:cF p=true){m:List Int}(hm:aAw p.arrays m){x:Inst}(hx:fI p x):aAw p.arrays (uM p m x):=by
 obtain⟨i,k,P,s,d,e1,e2,e3,e4,e5,e6,e7,e8⟩:=inst_d hv hx;unfold uM;rw [e5];refine⟨by rw [vAL];exact hm.1,fun v hv'=>?_⟩;rcases vAZ hv' with h|h
 ·exact hm.2 v h
 rw [h];exact aMX hm (oD e6).2.1
theorem insts_mem{ps:List Part}{x:Inst}(h:x∈insts ps): ∃(i k:Nat) (P:Part) (s:Stmt),x.part=i∧x.stmt=k∧ps[i]? =some P∧P.body[k]? =some s∧x.point∈fK P:=by unfold insts at h;rw [List.mem_flatMap] at h;obtain⟨⟨P,i⟩,h1,h2⟩:=h;unfold instP at h2;rw [List.mem_flatMap] at h2;obtain⟨q,h3,h4⟩:=h2;rw [vAV] at h4;obtain⟨k,h5,rfl⟩:=h4;have hk:=vBL.1 h5;exact⟨i,k,P,P.body[k],rfl,rfl,vBo.1 h1,cO hk,h3⟩
def mT(p:Prog)(m:List Int)(l:List Inst):List Int:=l.foldl (uM p) m
end Go.Lift
