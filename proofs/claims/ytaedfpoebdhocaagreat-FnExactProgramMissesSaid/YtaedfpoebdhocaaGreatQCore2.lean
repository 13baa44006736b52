/- Valid statements. -/
import Derived.Test.YtaedfpoebdhocaaGreatQCore1
set_option maxRecDepth 110000000
set_option linter.unusedVariables false
namespace Go.Lift
open Go
def SmE:Nat→Expr→Prop
 |0,_=>True
 |L+1,e=>e.kids.length≤1100000∧SmA e.index∧u7 e.read.subs∧ ∀k∈e.kids,SmE L k
def cW:Nat→Expr→Int→Bool
 |0,_,_=>false
 |L+1,e,d=>decide (eC e.kind=e.kids.length)&&(fZ e d&&e.kids.all fun k=>cW L k d)
def mR:Nat→Expr→Int
 |0,_=>1
 |L+1,e=>1+(e.kids.map (mR L)).sum
theorem qV(k:Int):eC k≤2:=by unfold eC;split;omega;split<;>omega
theorem qI(d:Int): ∀(L n:Nat) (e:Expr),5500000+L≤n→L≤1100000→SmE L e→s_l3Shape (n+1) e d (L:Int)=some (cW L e d)
 |0,n,e,_,_,_=>by unfold s_l3Shape;rfl
 |L+1,n,e,hn,hL,he=>by
  obtain⟨e1,e2,e3,e4⟩:=he;unfold s_l3Shape;refine Ev.eq ?_;refine Ev.jn (fun z=>z= !(decide (eC e.kind=e.kids.length)&&fZ e d)) (fun j hj=>aF (fun h=>by omega) fun h=>aA (M4 n _) (d8 (fun h=>hj _ ?_) fun h=>aA (V3 (by omega) e2 e3 d) (hj _ ?_))) fun z hz=>?_
  ·rw [decide_eq_false h];rfl
  ·rw [decide_eq_true h];rfl
  subst hz;unfold cW;cases hb:(decide (eC e.kind=e.kids.length)&&fZ e d) with
  |false=>exact Ev.some (by rw [←vAX,hb];rfl)
  |true=>
   rw [←vAX,hb,U9];refine bE ?_;obtain⟨n,rfl⟩: ∃j,n=j+1:=⟨n-1,by omega⟩
   have ew:wr (((L+1:Nat):Int)-1)=(L:Int):=by rw [aM (by omega)];omega
   rw [ew];refine iP (l:=e.kids) (p:=fun _ k=>cW L k d) (by omega) (by omega) (fun again i x hx hgo hno=>?_) (fun again hall=>?_) (fun⟨i,x,hx,hp⟩=>?_)
   ·have hi:=(bP.1 hx).1;rw [decide_eq_true (show(i:Int)<(e.kids.length:Int) by omega)];refine cQ (aA (aI hx) (aA (qI d L n x (by omega) (by omega) (e4 x (cK hx))) ?_));cases hs:cW L x d with
    |true=>show Ev (again _) _;rw [aM (by omega)];exact hgo hs
    |false=>exact Ev.some (hno hs)
   ·rw [decide_eq_false (show¬(e.kids.length:Int)<(e.kids.length:Int) by omega)];refine Ev.some ?_;exact(K3.2 fun c hc=>by obtain⟨i,hi⟩:=vAz hc;exact hall i c hi).symm
   exact(T3.2 ⟨x,cK hx,by rw [hp];simp⟩).symm
theorem n9: ∀(L:Nat) (e:Expr),1≤mR L e
 |0,_=>v2 _
 |L+1,e=>by have:=kL (mR L) e.kids fun k _=>n9 L k;simp only [mR];omega
theorem V0{α:Type}(f:α→Int)(M:Int): ∀(l:List α),(∀x∈l,f x≤M)→(l.map f).sum≤l.length*M
 | [],_=>by simp
 |x::l,h=>by have h1:=V0 f M l fun y hy=>h y (by simp [hy]);have h2:=h x (by simp);simp only [List.map_cons,List.sum_cons,List.length_cons,Int.natCast_add,Int.add_mul];omega
theorem qD{L:Nat}{e:Expr}{d:Int}(h:cW (L+1) e d=true):eC e.kind=e.kids.length∧fZ e d=true∧ ∀k∈e.kids,cW L k d=true:=by simp only [cW,Bool.and_eq_true,decide_eq_true_eq,List.all_eq_true] at h;exact⟨h.1,h.2.1,h.2.2⟩
theorem I1: ∀{L:Nat} {e:Expr} {d:Int},cW L e d=true→mR L e+1≤2^L
 |0,e,d,h=>by cases h
 |L+1,e,d,h=>by
  obtain⟨h1,_,h2⟩:=qD h;have h3:=V0 (mR L) ((2:Int)^L-1) e.kids fun k hk=>by have:=I1 (h2 k hk);omega
  have h4:=qV e.kind;have h5:(e.kids.length:Int)*((2:Int)^L-1)≤2*((2:Int)^L-1):=by
   refine Int.mul_le_mul_of_nonneg_right (by omega) ?_
   have:(0:Int)<2^L:=Int.pow_pos (by omega);omega
  simp only [mR];rw [Int.pow_succ];omega
theorem qK{d:Int}: ∀(L n:Nat) (e:Expr),5500000+L≤n→L≤5→cW L e d=true→s_l3Count (n+1) e (L:Int)=some (mR L e)
 |0,n,e,_,_,h=>by cases h
 |L+1,n,e,hn,hL,h=>by
  obtain⟨h1,_,h2⟩:=qD h;have h4:=qV e.kind;have hb: ∀k∈e.kids,mR L k≤40:=fun k hk=>by
   have h5:=I1 (h2 k hk);have h6:(2:Int)^L≤40:=by
    match L,hL with
    |0,_=>decide
    |1,_=>decide
    |2,_=>decide
    |3,_=>decide
    |4,_=>decide
   omega
  unfold s_l3Count;refine Ev.eq ?_;obtain⟨n,rfl⟩: ∃j,n=j+1:=⟨n-1,by omega⟩
  have ew:wr (((L+1:Nat):Int)-1)=(L:Int):=by rw [aM (by omega)];omega
  rw [ew];refine Ev.loop (fun x:Int×Int=> ∃i:Nat,x.2=i∧i≤e.kids.length∧x.1=1+((e.kids.take i).map (mR L)).sum) (fun x=>e.kids.length-x.2.toNat) ?_ (n+1) _ ⟨0,rfl,by omega,by simp⟩ (by simp;omega);rintro again ⟨x,k⟩ ⟨i,hk,hi,hx⟩ hr;dsimp only at hk hx⊢;subst hk;refine Ev.jn (fun z=>z=decide (i<e.kids.length)) (fun j hj=>aF (fun h=>hj _ ?_) fun h=>hj _ ?_) fun z hz=>?_
  ·rw [decide_eq_true (show(0:Int)<((L+1:Nat):Int) by omega),decide_eq_true (by omega)]
  ·rw [decide_eq_false (by omega)]
  subst hz;refine aF (fun hlt=>?_) fun hge=>Ev.some ?_
  ·have hk2:=cE hlt;have hm:=cK hk2;refine aA (aI hk2) (aA (qK (d:=d) L n _ (by omega) (by omega) (h2 _ hm)) ?_);have hs:=V0 (mR L) 40 (e.kids.take i) fun y hy=>hb y (L6 hy);have hs2:=kL (mR L) (e.kids.take i) fun y _=>n9 L y;have hb2:=hb _ hm;have hb3:=n9 L e.kids[i];have hl:((e.kids.take i).length:Int)≤2:=by simp;omega
   rw [aM (n:=x+mR L e.kids[i]) (by omega),aM (by omega)];refine hr _ ⟨i+1,by dsimp only;omega,by omega,?_⟩ (by dsimp only;omega);dsimp only;rw [K1,hk2,vBb,List.sum_append,hx];simp;omega
  have:i=e.kids.length:=by omega
  rw [hx,this,pM];rfl
def M8(e:Expr):Bool:=(decide (e.kind=1)||decide (e.num=0))&&((decide (e.kind=2)||hJ e.index)&&(decide (e.kind=3)||mN e.read))
theorem kN(d:Int): ∀(L n:Nat) (e:Expr) (c:Int),5500000+L≤n→L≤5→SmE L e→0≤c→c≤12→
  Ev (i_exprScan (n+1) e d (6-(L:Int)) c) (fun r=>r.1=(cW L e d&&decide (c+mR L e≤12))∧(r.1=true→r.2=c+mR L e))
 |0,n,e,c,hn,hL,he,h0,h1=>by
  unfold i_exprScan;refine Ev.jn (fun z=>z=true) (fun j hj=>aF (fun h=>hj _ rfl) fun h=>hj _ (by decide)) fun z hz=>?_;subst hz;exact Ev.some ⟨rfl,fun h=>by cases h⟩
 |L+1,n,e,c,hn,hL,he,h0,h1=>by
  obtain⟨e1,e2,e3,e4⟩:=he;have hcp:=n9 (L+1) e;unfold i_exprScan;have ew:wr (c+1)=c+1:=aM (by omega);have ed:wr (6-(((L+1:Nat)):Int)+1)=6-(L:Int):=by rw [aM (by omega)];omega
  rw [ew,ed];refine Ev.jn (fun z=>z=decide (12<c+1)) (fun j hj=>aF (fun h=>hj _ (decide_eq_true h).symm) fun h=>hj _ ?_) fun z hz=>?_
  ·rw [decide_eq_false h,decide_eq_false (by omega)]
  subst hz;refine aF (fun h=>Ev.some ⟨?_,fun h=>by cases h⟩) fun hc=>?_
  ·rw [decide_eq_false (show¬c+mR (L+1) e≤12 by omega),Bool.and_false]
  refine Ev.jn (fun z=>z= !M8 e) (fun j hj=>?_) fun z hz=>?_
  ·rw [y0,zA];unfold M8 at hj;simp only [Option.bind];by_cases k1:e.kind=1
   ·have k2: ¬e.kind=2:=by omega
    have k3: ¬e.kind=3:=by omega
    rw [decide_eq_true k1,decide_eq_false k2,decide_eq_false k3] at*;simp only [Bool.not_true,Bool.not_false,cond_true,cond_false,Bool.true_or,Bool.true_and,Bool.false_or] at*;cases ha:hJ e.index with
    |false=>exact hj _ (by rw [ha];rfl)
    |true=>exact hj _ (by rw [ha];rfl)
   rw [decide_eq_false k1] at*;simp only [Bool.not_false,cond_true,Bool.false_or] at*;by_cases hnum:e.num=0
   ·rw [decide_eq_true hnum] at*;simp only [Bool.not_true,cond_false,Bool.true_and] at*;by_cases k2:e.kind=2
    ·have k3: ¬e.kind=3:=by omega
     rw [decide_eq_true k2,decide_eq_false k3] at*;simp only [Bool.not_true,Bool.not_false,cond_true,cond_false,Bool.true_or,Bool.true_and,Bool.false_or] at*;exact hj _ rfl
    rw [decide_eq_false k2] at*;simp only [Bool.not_false,cond_true,Bool.false_or] at*;cases ha:hJ e.index with
    |false=>exact hj _ (by rw [ha];rfl)
    |true=>
     by_cases k3:e.kind=3
     ·rw [decide_eq_true k3] at*;exact hj _ (by rw [ha];rfl)
     rw [decide_eq_false k3] at*;exact hj _ (by rw [ha];rfl)
   rw [decide_eq_false hnum] at*;exact hj _ rfl
  subst hz;cases hp:M8 e with
  |false=>
   refine Ev.some ⟨?_,fun h=>by cases h⟩
   have:fZ e d=false:=by
    unfold M8 at hp;unfold fZ;by_cases k2:e.kind=2
    ·have k1: ¬e.kind=1:=by omega
     have k3: ¬e.kind=3:=by omega
     rw [if_pos k2];rw [decide_eq_true k2,decide_eq_false k1,decide_eq_false k3] at hp;revert hp;cases decide (e.num=0)<;>cases mN e.read<;>simp
    rw [if_neg k2];by_cases k3:e.kind=3
    ·have k1: ¬e.kind=1:=by omega
     rw [if_pos k3];rw [decide_eq_false k2,decide_eq_false k1,decide_eq_true k3] at hp;revert hp;cases decide (e.num=0)<;>cases hJ e.index<;>simp
    rw [if_neg k3];rw [decide_eq_false k2,decide_eq_false k3] at hp;by_cases k1:e.kind=1
    ·rw [if_pos k1];rw [decide_eq_true k1] at hp;revert hp;cases hJ e.index<;>cases mN e.read<;>simp
    rw [if_neg k1];rw [decide_eq_false k1] at hp;revert hp;cases decide (e.num=0)<;>cases hJ e.index<;>cases mN e.read<;>simp
   unfold cW;rw [this];simp
  |true=>
   refine bE ?_;unfold M8 at hp;simp only [Bool.and_eq_true,Bool.or_eq_true,decide_eq_true_eq] at hp;obtain⟨p1,p2,p3⟩:=hp;have leafP: ∀(b:Bool),fZ e d=b→eC e.kind=0→ ∀(z:Bool),z=(b&&decide ((e.kids.length:Int)=0))→z=(cW (L+1) e d&&decide (c+mR (L+1) e≤12))∧(z=true→c+1=c+mR (L+1) e):=by
    intro b hb hk z hz;unfold cW;rw [hb,hk];by_cases h:e.kids.length=0
    ·have hnil:e.kids=[]:=vAw h;have hcn:mR (L+1) e=1:=by simp [mR,hnil]
     rw [hcn,decide_eq_true (show c+1≤12 by omega)];rw [decide_eq_true (show(e.kids.length:Int)=0 by omega)] at hz;rw [hz,hnil];simp
    rw [decide_eq_false (show¬(e.kids.length:Int)=0 by omega)] at hz;rw [hz,decide_eq_false (show¬(0:Int)=(e.kids.length:Int) by omega)];simp
   by_cases k1:e.kind=1
   ·have k2: ¬e.kind=2:=by omega
    have k3: ¬e.kind=3:=by omega
    rw [decide_eq_true k1];have hown:fZ e d=decide (0≤e.num∧e.num≤99):=by
     unfold fZ;rw [if_neg k2,if_neg k3,if_pos k1];rcases p2 with h|h
     ·exact absurd h k2
     rcases p3 with h'|h'
     ·exact absurd h' k3
     rw [h,h'];simp
    refine cQ (Ev.jn (fun z=>z=(decide (0≤e.num∧e.num≤99)&&decide ((e.kids.length:Int)=0))) (fun j hj=>aA (dW n _ _ _) ?_) fun z hz=>Ev.some ?_)
    ·cases hw:decide (0≤e.num∧e.num≤99) with
     |true=>exact hj _ (by rw [hw];rfl)
     |false=>exact hj _ (by rw [hw];rfl)
    exact leafP _ hown (by unfold eC;rw [if_pos (Or.inl k1)]) _ hz
   rw [decide_eq_false k1];refine bE ?_;have hnum:e.num=0:=by
    rcases p1 with h|h
    ·exact absurd h k1
    exact h
   by_cases k2:e.kind=2
   ·have k3: ¬e.kind=3:=by omega
    rw [decide_eq_true k2];have hown:fZ e d=bD e.index d:=by
     unfold fZ;rw [if_pos k2,decide_eq_true hnum];rcases p3 with h'|h'
     ·exact absurd h' k3
     rw [h'];simp
    refine cQ (Ev.jn (fun z=>z=(bD e.index d&&decide ((e.kids.length:Int)=0))) (fun j hj=>aA (lG (by omega) _ e2) ?_) fun z hz=>Ev.some ?_)
    ·unfold bD at hj;cases hw:d7 e.index with
     |false=>exact hj _ (by rw [hw];rfl)
     |true=>
      refine aA (xD (by omega) e2) (aF (fun h=>hj _ ?_) fun h=>hj _ ?_)
      ·rw [hw,decide_eq_true h];rfl
      rw [hw,decide_eq_false h];rfl
    exact leafP _ hown (by unfold eC;rw [if_pos (Or.inr (Or.inl k2))]) _ hz
   rw [decide_eq_false k2];refine bE ?_;have hnaff:hJ e.index=true:=by
    rcases p2 with h|h
    ·exact absurd h k2
    exact h
   by_cases k3:e.kind=3
   ·rw [decide_eq_true k3];have hown:fZ e d=fS e.read d:=by
     unfold fZ;rw [if_neg k2,if_pos k3,decide_eq_true hnum,hnaff];simp
    refine cQ (Ev.jn (fun z=>z=(fS e.read d&&decide ((e.kids.length:Int)=0))) (fun j hj=>aA (oL (by omega) e3 d) ?_) fun z hz=>Ev.some ?_)
    ·cases hw:fS e.read d with
     |false=>exact hj _ (by rw [hw];rfl)
     |true=>exact hj _ (by rw [hw];rfl)
    exact leafP _ hown (by unfold eC;rw [if_pos (Or.inr (Or.inr k3))]) _ hz
   rw [decide_eq_false k3];refine bE ?_;have hown:fZ e d=true:=by
    unfold fZ;rw [if_neg k2,if_neg k3,if_neg k1,decide_eq_true hnum,hnaff];rcases p3 with h'|h'
    ·exact absurd h' k3
    rw [h'];rfl
   have hop:G1 n e.kind=some (decide (4≤e.kind∧e.kind≤6)):=by unfold G1;rw [dW];rfl
   have hkn:(eC e.kind=2↔(4≤e.kind∧e.kind≤6))∧(eC e.kind=2∨eC e.kind= -1):=by
    unfold eC;rw [if_neg (by omega)];split<;>omega
   refine Ev.jn (fun z=>z= !(decide (4≤e.kind∧e.kind≤6)&&decide ((e.kids.length:Int)=2))) (fun j hj=>aA hop ?_) fun z hz=>?_
   ·cases hw:decide (4≤e.kind∧e.kind≤6) with
    |false=>exact hj _ (by rw [hw];rfl)
    |true=>exact hj _ (by rw [hw];rfl)
   subst hz;by_cases hk:(4≤e.kind∧e.kind≤6)∧(e.kids.length:Int)=2
   ·rw [decide_eq_true hk.1,decide_eq_true hk.2];refine bE ?_;obtain⟨a,b,hab⟩: ∃a b,e.kids=[a,b]:=by
     have:e.kids.length=2:=by omega
     match hq:e.kids,this with
     | [a,b],_=>exact⟨a,b,rfl⟩
    have hsh:cW (L+1) e d=(cW L a d&&cW L b d):=by
     show(decide (eC e.kind=e.kids.length)&&(fZ e d&&e.kids.all fun k=>cW L k d))=_;rw [hown,hab,decide_eq_true (show eC e.kind=(([a,b]:List Expr).length:Int) by rw [hkn.1.2 hk.1];rfl)];simp
    have hcn:mR (L+1) e=1+(mR L a+mR L b):=by simp [mR,hab]
    have ca:=n9 L a;have cb:=n9 L b;rw [hsh,hcn];obtain⟨n,rfl⟩: ∃j,n=j+1:=⟨n-1,by omega⟩
    refine Ev.jn (fun z:Int×Bool=>z.2=(cW L a d&&cW L b d&&decide (c+(1+(mR L a+mR L b))≤12))∧(z.2=true→z.1=c+(1+(mR L a+mR L b)))) (fun j hj=>?_) fun z hz=>Ev.some hz;refine aA (x:=a) (by rw [hab];rfl) (eJ (kN d L n a (c+1) (by omega) (by omega) (e4 a (by rw [hab];simp)) (by omega) (by omega)) fun r ⟨r1,r2⟩=>?_);cases hr:r.1 with
    |false=>
     refine hj _ ⟨?_,fun h=>by cases h⟩;rw [hr] at r1;show false=_;by_cases hsa:cW L a d=true
     ·rw [hsa,U9] at r1
      have:=of_decide_eq_false r1.symm;rw [decide_eq_false (show¬c+(1+(mR L a+mR L b))≤12 by omega),Bool.and_false]
     rw [Bool.eq_false_iff.2 hsa];rfl
    |true=>
     have r2:=r2 hr;rw [hr] at r1;have r1:=r1.symm;rw [Bool.and_eq_true,decide_eq_true_eq] at r1;refine aA (x:=b) (by rw [hab];rfl) ?_;rw [r2];refine eJ (kN d L n b (c+1+mR L a) (by omega) (by omega) (e4 b (by rw [hab];simp)) (by omega) (by omega)) fun q ⟨q1,q2⟩=>hj _ ⟨?_,fun h=>?_⟩
     ·show q.1=_;rw [q1,r1.1,U9];congr 1;exact decide_eq_decide.2 (by omega)
     show q.2=_;rw [q2 h];omega
   have hf:cW (L+1) e d=false:=by
    unfold cW;rw [decide_eq_false (show¬eC e.kind=(e.kids.length:Int) by
     intro h;rcases hkn.2 with h2|h2
     ·exact hk ⟨hkn.1.1 h2,by omega⟩
     omega)]
    rfl
   have:(decide (4≤e.kind∧e.kind≤6)&&decide ((e.kids.length:Int)=2))=false:=by
    by_cases g:4≤e.kind∧e.kind≤6
    ·rw [decide_eq_false (show¬(e.kids.length:Int)=2 from fun h=>hk ⟨g,h⟩),Bool.and_false]
    rw [decide_eq_false g];rfl
   rw [this,hf];exact Ev.some ⟨rfl,fun h=>by cases h⟩
def fU(s:Stmt)(d:Int):Bool:=decide (0≤d∧d≤4)&&(fS s.write d&&(cW 5 s.value d&&decide (mR 5 s.value≤12)))
def SmS(s:Stmt):Prop:=u7 s.write.subs∧SmE 5 s.value
theorem xF{n:Nat}(hn:6600000≤n){s:Stmt}(h:SmS s)(d:Int):kD n s d=some (fU s d):=by
 obtain⟨n,rfl⟩: ∃j,n=j+1:=⟨n-1,by omega⟩
 refine Ev.eq ?_;unfold kD;generalize hT:fU s d=T;unfold fU at hT;refine Ev.jn (fun z:Int×Bool=>z.2=T) (fun j hj=>aA (dW _ _ _ _) ?_) fun z hz=>Ev.some hz;cases h1:decide (0≤d∧d≤4) with
 |false=>exact hj (0,false) (by rw [←hT,h1];rfl)
 |true=>
  refine cQ (aA (oL (by omega) h.1 d) ?_);cases h2:fS s.write d with
  |false=>exact hj (0,false) (by rw [←hT,h1,h2];rfl)
  |true=>
   refine cQ (eJ (kN d 5 n s.value 0 (by omega) (by omega) h.2 (by omega) (by omega)) fun r ⟨r1,r2⟩=>hj _ ?_);rw [←hT,h1,h2];show r.1=_;rw [r1];simp
theorem wG{n:Nat}(hn:6600000≤n){s:Stmt}(h:SmS s)(d:Int):jW n s d=some (fU s d):=by
 obtain⟨n,rfl⟩: ∃j,n=j+1:=⟨n-1,by omega⟩
 refine Ev.eq ?_;unfold jW;generalize hT:fU s d=T;generalize hB:(decide (0≤d∧d≤4)&&(fS s.write d&&cW 5 s.value d))=B;have hTB:T=(B&&decide (mR 5 s.value≤12)):=by rw [←hT,←hB];unfold fU;simp only [Bool.and_assoc]
 refine Ev.jn (fun z=>z= !B) (fun j hj=>aF (fun h=>hj _ ?_) fun h0=>aF (fun h=>hj _ ?_) fun h4=>aA (oH (by omega) h.1 d) ?_) fun z hz=>?_
 ·rw [←hB,decide_eq_false (show¬(0≤d∧d≤4) by omega)];rfl
 ·rw [←hB,decide_eq_false (show¬(0≤d∧d≤4) by omega)];rfl
 ·rw [decide_eq_true (show 0≤d∧d≤4 by omega)] at hB;cases h2:fS s.write d with
  |false=>exact cQ (hj _ (by rw [←hB,h2];rfl))
  |true=>exact bE (aA (qI d 5 n s.value (by omega) (by omega) h.2) (hj _ (by rw [←hB,h2];rfl)))
 subst hz;cases hb:B with
 |false=>exact Ev.some (by rw [hTB,hb];rfl)
 |true=>
  rw [hb] at hB;simp only [Bool.and_eq_true] at hB;refine bE (aA (qK (d:=d) 5 n s.value (by omega) (by omega) hB.2.2) (Ev.some ?_));rw [hTB,hb];rfl
def fN(ds:List Int):Bool:=decide (1≤ds.length∧ds.length≤2)&&ds.all fun d=>decide (1≤d∧d≤6)
def o6(list:List Arr)(i:Nat)(x:Arr):Bool:=match i with
 |0=>true
 |i+1=>match list[i]? with
  |some y=>Op.bytesLess y.name x.name
  |none=>false
def zN(list:List Arr)(i:Nat)(x:Arr):Bool:=jI x.name&&(o6 list i x&&fN x.dims)
def eI(list:List Arr):Bool:=xC (zN list) list&&decide (list.length≤4)
def SmR(list:List Arr):Prop:=list.length≤1100000∧ ∀x∈list,x.dims.length≤1100000
theorem uF{list:List Arr}{i:Nat}{x y:Arr}(h:list[i]? =some y):o6 list (i+1) x=Op.bytesLess y.name x.name:=by simp only [o6,h]
theorem aDY(ds:List Int):(ds.any fun d=> !decide (1≤d∧d≤6))= !(ds.all fun d=>decide (1≤d∧d≤6)):=by rw [vAT];simp
theorem zB{n:Nat}(hn:6600000≤n){list:List Arr}(h:SmR list):mA n list=some (eI list):=by
 obtain⟨h0,h1⟩:=h;refine Ev.eq ?_;unfold mA;refine iP (l:=list) (p:=zN list) (by omega) (by omega) (fun again i x hx hgo hno=>?_) (fun again hall=>?_) (fun⟨i,x,hx,hp⟩=>?_)
 ·have hi:=(bP.1 hx).1;have hm:=h1 x (cK hx);rw [decide_eq_true (show(i:Int)<(list.length:Int) by omega)];have hd:bC n x.dims (fun q0=>cZ n q0)=some (!(x.dims.all fun d=>decide (1≤d∧d≤6))):=by
   rw [←aDY];exact mF (fun d _=>by unfold cZ;rw [dW];rfl) (by omega) (by omega)
  refine cQ (aA (aI hx) (Ev.jn (fun z=>z= !zN list i x) (fun j hj=>aA (q7 n _) ?_) fun z hz=>?_))
  ·unfold zN fN at hj;cases g1:jI x.name with
   |false=>exact cQ (hj _ (by rw [g1];rfl))
   |true=>
    rw [g1] at hj;refine bE ?_;rw [l9];have hlast:o6 list i x=true→Ev (Option.bind (some (decide (1≤x.dims.length∧x.dims.length≤2))) fun x6=>bif !x6 then j true else Option.bind (bC n x.dims fun q0=>cZ n q0) fun x7=>j x7) (fun r=>r=eI list):=by
     intro hp;rw [hp] at hj;show Ev (bif _ then _ else _) _;cases g2:decide (1≤x.dims.length∧x.dims.length≤2) with
     |false=>exact cQ (hj _ (by rw [g2];rfl))
     |true=>exact bE (aA hd (hj _ (by rw [g2];rfl)))
    cases i with
    |zero=>exact aF (fun h=>absurd h (by decide)) (fun _=>hlast rfl)
    |succ i=>
     have hy:=cE (show i<list.length by omega);have e:wr (((i+1:Nat):Int)-1)=(i:Int):=by rw [aM (by omega)];omega
     rw [e];refine aF (fun _=>aA (aI hy) ?_) fun h=>absurd (show(0:Int)<((i+1:Nat):Int) by omega) h;have hpp:=uF (x:=x) hy;cases g3:Op.bytesLess list[i].name x.name with
     |false=>exact cQ (hj _ (by rw [hpp,g3];rfl))
     |true=>exact bE (hlast (by rw [hpp,g3]))
  subst hz;cases hb:zN list i x with
  |true=>show Ev (again _) _;rw [aM (by omega)];exact hgo hb
  |false=>exact Ev.some (hno hb)
 ·rw [decide_eq_false (show¬(list.length:Int)<(list.length:Int) by omega)];refine Ev.some ?_;unfold eI;rw [kC hall,U9];exact decide_eq_decide.2 (by omega)
 unfold eI;rw [iK hx hp];rfl
theorem aC0(s:List UInt8):(!Op.bytesLess s [68]&& !s==[68])= !(Op.bytesLess s [68]||s==[68]):=by cases Op.bytesLess s [68]<;>cases (s==[68])<;>rfl
theorem yW{n:Nat}(hn:6600000≤n){list:List Arr}(h:SmR list):lW n list=some (eI list):=by
 obtain⟨h0,h1⟩:=h;refine Ev.eq ?_;unfold lW;refine iP (l:=list) (p:=zN list) (by omega) (by omega) (fun again i x hx hgo hno=>?_) (fun again hall=>?_) (fun⟨i,x,hx,hp⟩=>?_)
 ·have hi:=(bP.1 hx).1;have hm:=h1 x (cK hx);rw [decide_eq_true (show(i:Int)<(list.length:Int) by omega)];refine cQ (aA (aI hx) (Ev.jn (fun z=>z= !(jI x.name&&(o6 list i x&&decide (1≤x.dims.length∧x.dims.length≤2)))) (fun j hj=>?_) fun z hz=>?_))
  ·refine d8 (fun hl=>hj _ ?_) fun hl=>?_
   ·rw [o9 (by omega)];rfl
   obtain⟨b,hb⟩:=aGo (show x.name.length=1 by omega);rw [aC0];have hless: ∀(y:Arr),Op.bytesLess y.name x.name=Op.bytesLess y.name [b]:=fun y=>by rw [hb]
   have hnm:jI x.name=decide (65≤b.toNat∧b.toNat≤68):=by rw [hb];rfl
   have l1:Op.bytesLess x.name [65]=decide (b.toNat<65):=by rw [hb];exact w3 b
   have l2:(Op.bytesLess x.name [68]||x.name==[68])=decide (b.toNat≤68):=by rw [hb];exact wZ b
   rw [l1,l2];rw [hnm] at hj;refine aF (fun g1=>hj _ ?_) fun g1=>d8 (fun g2=>hj _ ?_) fun g2=>?_
   ·rw [decide_eq_false (show¬(65≤b.toNat∧b.toNat≤68) by omega)];rfl
   ·rw [decide_eq_false (show¬(65≤b.toNat∧b.toNat≤68) by omega)];rfl
   rw [decide_eq_true (show 65≤b.toNat∧b.toNat≤68 by omega)] at hj;have hlast:o6 list i x=true→Ev (bif decide ((x.dims.length:Int)<1) then j true else j (decide ((2:Int)<(x.dims.length:Int)))) (fun r=>r=eI list):=by
    intro hp;rw [hp] at hj;refine aF (fun h=>hj _ ?_) fun h=>hj _ ?_
    ·rw [decide_eq_false (show¬(1≤x.dims.length∧x.dims.length≤2) by omega)];rfl
    by_cases h2:x.dims.length≤2
    ·rw [decide_eq_false (show¬(2:Int)<(x.dims.length:Int) by omega),decide_eq_true (show 1≤x.dims.length∧x.dims.length≤2 by omega)];rfl
    rw [decide_eq_true (show(2:Int)<(x.dims.length:Int) by omega),decide_eq_false (show¬(1≤x.dims.length∧x.dims.length≤2) by omega)];rfl
   cases i with
   |zero=>exact aF (fun h=>absurd h (by decide)) (fun _=>hlast rfl)
   |succ i=>
    have hy:=cE (show i<list.length by omega);have e:wr (((i+1:Nat):Int)-1)=(i:Int):=by rw [aM (by omega)];omega
    rw [e];refine aF (fun _=>aA (aI hy) ?_) fun h=>absurd (show(0:Int)<((i+1:Nat):Int) by omega) h;have hpp:=uF (x:=x) hy;cases g3:Op.bytesLess list[i].name x.name with
    |false=>exact cQ (hj _ (by rw [hpp,g3];rfl))
    |true=>exact bE (hlast (by rw [hpp,g3]))
  subst hz;cases hb:(jI x.name&&(o6 list i x&&decide (1≤x.dims.length∧x.dims.length≤2))) with
  |false=>
   refine Ev.some (hno ?_);unfold zN fN;rw [←vAX,←vAX];rw [←vAX] at hb;rw [hb];rfl
  |true=>
   have hap:zN list i x=x.dims.all (fun d=>decide (1≤d∧d≤6)):=by
    unfold zN fN;rw [←vAX,←vAX];rw [←vAX] at hb;rw [hb];rfl
   refine bE ?_;refine Ev.loop (fun y:Int=> ∃k:Nat,y=k∧k≤x.dims.length∧ ∀(t:Nat) d,t<k→x.dims[t]? =some d→decide (1≤d∧d≤6)=true) (fun y=>x.dims.length-y.toNat) ?_ n _ ⟨0,rfl,by omega,fun t d h=>by omega⟩ (by simp;omega);rintro again8 y ⟨k,rfl,hk,ha⟩ hr;refine aF (fun hlt=>?_) fun hge=>?_
   ·have hd:=cE (show k<x.dims.length by omega);have ek:wr ((k:Int)+1)=((k+1:Nat):Int):=by rw [aM (by omega)];omega
    refine Ev.jn (fun z=>z= !decide (1≤x.dims[k]∧x.dims[k]≤6)) (fun j hj=>aA (aI hd) (aF (fun h=>hj _ ?_) fun h=>hj _ ?_)) fun z hz=>?_
    ·rw [decide_eq_false (by omega)];rfl
    ·by_cases h6:x.dims[k]≤6
     ·rw [decide_eq_false (show¬(6:Int)<x.dims[k] by omega),decide_eq_true (show 1≤x.dims[k]∧x.dims[k]≤6 by omega)];rfl
     rw [decide_eq_true (show(6:Int)<x.dims[k] by omega),decide_eq_false (show¬(1≤x.dims[k]∧x.dims[k]≤6) by omega)];rfl
    subst hz;cases hb2:decide (1≤x.dims[k]∧x.dims[k]≤6) with
    |false=>
     refine Ev.some (hno ?_);rw [hap];exact T3.2 ⟨_,cK hd,by rw [hb2];simp⟩
    |true=>
     rw [ek];refine hr _ ⟨k+1,rfl,by omega,fun t d ht hd2=>?_⟩ (by omega);by_cases htk:t=k
     ·subst htk;rw [hd] at hd2;cases hd2;exact hb2
     exact ha t d (by omega) hd2
   have e:wr ((i:Int)+1)=(i:Int)+1:=aM (by omega);rw [e];refine hgo ?_;rw [hap];refine K3.2 fun d hd=>?_;obtain⟨t,ht⟩:=vAz hd
   have:=(bP.1 ht).1;exact ha t d (by omega) ht
 ·rw [decide_eq_false (show¬(list.length:Int)<(list.length:Int) by omega)];refine Ev.some ?_;unfold eI;rw [kC hall,U9];exact decide_eq_decide.2 (by omega)
 unfold eI;rw [iK hx hp];rfl
def D8:List Int→Int
 | []=>1
 |d::ds=>d*D8 ds
theorem Z3{ds:List Int}(h:fN ds=true):(∃a,ds=[a]∧1≤a∧a≤6)∨ ∃a b,ds=[a,b]∧(1≤a∧a≤6)∧1≤b∧b≤6:=by
 simp only [fN,Bool.and_eq_true,decide_eq_true_eq,List.all_eq_true] at h;obtain⟨⟨h1,h2⟩,h3⟩:=h
 match ds,h1,h2,h3 with
 | [a],_,_,h3=>exact .inl ⟨a,rfl,h3 a (by simp)⟩
 | [a,b],_,_,h3=>exact .inr ⟨a,b,rfl,h3 a (by simp),h3 b (by simp)⟩
theorem aHj{a b:Int}(ha:1≤a∧a≤6)(hb:1≤b∧b≤6):1≤a*b∧a*b≤36:=by
 constructor
 ·have:=vBr ha.1 hb.1 (by omega) (by omega);omega
 have:=vBr ha.2 hb.2 (by omega) (by omega);omega
theorem aAM{ds:List Int}(h:fN ds=true):1≤D8 ds∧D8 ds≤36:=by
 rcases Z3 h with ⟨a,rfl,h1⟩|⟨a,b,rfl,h1,h2⟩
 ·simp [D8];omega
 have:=aHj h1 h2;simp [D8];omega
theorem t8{n:Nat}(hn:6600000≤n){x:Arr}(h:fN x.dims=true):qF n x=some (D8 x.dims):=by
 obtain⟨n,rfl⟩: ∃j,n=j+3:=⟨n-3,by omega⟩
 unfold qF;rcases Z3 h with ⟨a,e,h1⟩|⟨a,b,e,h1,h2⟩
 ·rw [e];have e1:wr a=a:=aM (by omega);simp [aH,ix,D8,e1,show wr 1=1 from aM (by omega)]
 rw [e]
 have:=aHj h1 h2;have e1:wr a=a:=aM (by omega);have e2:wr (a*b)=a*b:=aM (by omega);simp [aH,ix,D8,e1,e2,show wr 1=1 from aM (by omega),show wr 2=2 from aM (by omega)]
theorem aBG{n:Nat}(hn:6600000≤n){x:Arr}(h:fN x.dims=true):mB n x=some (D8 x.dims):=t8 hn h
def jT:List Affine→List Int→List Int→Int→Int
 |s::ss,d::ds,p,acc=>if 0≤dK s p∧dK s p<d then jT ss ds p (acc*d+dK s p) else-1
 |_,_,_,acc=>acc
def b7:List Arr→Access→List Int→Int→Int
 | [],_,_,_=> -1
 |x::xs,a,p,base=>if x.name=a.array then(if a.subs.length=x.dims.length then(if jT a.subs x.dims p 0<0 then-1 else base+jT a.subs x.dims p 0) else-1) else b7 xs a p (base+D8 x.dims)
def gS(xs:List Arr):Prop:= ∀x∈xs,fN x.dims=true
theorem aHp{ds:List Int}(hd:fN ds=true){ss:List Affine}(hl:ss.length=ds.length)(p:List Int):jT ss ds p 0= -1∨(0≤jT ss ds p 0∧jT ss ds p 0<D8 ds):=by
 rcases Z3 hd with ⟨a,rfl,h1⟩|⟨a,b,rfl,h1,h2⟩
 ·match ss,hl with
  | [s],_=>
   simp only [jT,D8,Int.zero_mul,Int.zero_add,Int.mul_one];split<;>omega
 match ss,hl with
 | [s,t],_=>
  simp only [jT,D8,Int.zero_mul,Int.zero_add,Int.mul_one];split
  ·rename_i hs;split
   ·rename_i ht;refine .inr ⟨?_,?_⟩
    ·have:=vBe hs.1 (show 0≤b by omega);omega
    have:=Int.mul_le_mul_of_nonneg_right (show dK s p≤a-1 by omega) (show 0≤b by omega);rw [Int.sub_mul] at this;omega
   exact .inl rfl
  exact .inl rfl
def qA(xs:List Arr):Int:=(xs.map fun x=>D8 x.dims).sum
theorem aBa: ∀{xs:List Arr},gS xs→ ∀(a:Access) (p:List Int) (base:Int),0≤base→b7 xs a p base= -1∨(base≤b7 xs a p base∧b7 xs a p base<base+qA xs)
 | [],_,a,p,base,_=> .inl rfl
 |x::xs,hd,a,p,base,hb=>by
  have hx:=hd x (by simp);have hs:=aAM hx;have hxs:gS xs:=fun y hy=>hd y (by simp [hy]);have ht:0≤qA xs:=by
   have:=kL (fun x:Arr=>D8 x.dims) xs fun y hy=>(aAM (hxs y hy)).1;unfold qA;omega
  have e:qA (x::xs)=D8 x.dims+qA xs:=by simp [qA]
  rw [e];simp only [b7];split
  ·split
   ·rename_i hl;rcases aHp hx hl p with h|h
    ·rw [if_pos (by omega)];exact .inl rfl
    rw [if_neg (by omega)];exact .inr ⟨by omega,by omega⟩
   exact .inl rfl
  rcases aBa hxs a p (base+D8 x.dims) (by omega) with h|h
  ·exact .inl h
  exact .inr ⟨by omega,by omega⟩
theorem aDZ{a:Access}{d:Int}(h:fS a d=true):1≤a.subs.length∧a.subs.length≤2∧ ∀x∈a.subs,d7 x=true:=by
 simp only [fS,Bool.and_eq_true,decide_eq_true_eq,List.all_eq_true] at h;refine⟨h.2.2.1,h.2.2.2,fun x hx=>?_⟩
 have:=h.1 x hx;simp only [bD,Bool.and_eq_true] at this;exact this.1
theorem lK{α:Type}{l:List α}{i:Nat}{x:α}(h:l[i]? =some x):l.drop i=x::l.drop (i+1):=by obtain⟨h1,h2⟩:=bP.1 h;rw [List.drop_eq_getElem_cons h1,h2]
theorem R9{a d v:Int}(ha:0≤a∧a≤36)(hd:1≤d∧d≤6)(hv:0≤v∧v<d):0≤a*d∧a*d≤216∧0≤a*d+v:=by have h1:=vBe ha.1 (show 0≤d by omega);have h2:=vBr ha.2 hd.2 (by omega) (by omega);omega
theorem aDc{n:Nat}(hn:6600000≤n){a:Access}(h1:a.subs.length≤2)(h2: ∀x∈a.subs,d7 x=true){ds:List Int}(hd:fN ds=true)(hl:a.subs.length=ds.length){k:Nat}{p:List Int}(hp:kW k p)(base:Int)(hb:0≤base∧base≤500000000):
  aH (fun again8 ((x6,x7):Int×Int)=>bif decide (x7<(a.subs.length:Int)) then(Option.bind (ix a.subs x7) fun x9=>Option.bind (bQ n x9 p) fun x10=>Option.bind (ix ds x7) fun x11=>Option.bind (bT n x10 0 (wr (x11-1))) fun x12=>bif !x12 then(some (-1)) else(again8 (wr ((wr (x6*x11))+x10),wr (x7+1)))) else(some (wr (base+x6)))) n (0,0)
   =some (if jT a.subs ds p 0<0 then-1 else base+jT a.subs ds p 0):=by
 have hdm: ∀d∈ds,1≤d∧d≤6:=by
  simp only [fN,Bool.and_eq_true,decide_eq_true_eq,List.all_eq_true] at hd;exact fun d h=>hd.2 d h
 refine Ev.eq ?_;refine Ev.loop (fun x:Int×Int=> ∃i:Nat,x.2=i∧i≤a.subs.length∧0≤x.1∧x.1≤36*i∧(i=0→x.1=0)∧(i=1→x.1≤5)∧jT a.subs ds p 0=jT (a.subs.drop i) (ds.drop i) p x.1) (fun x=>a.subs.length-x.2.toNat) ?_ n _ ⟨0,rfl,by omega,by simp,by simp,fun _=>rfl,fun h=>by omega,rfl⟩ (by simp;omega);rintro again ⟨x,z⟩ ⟨i,hz,hi,hx0,hx1,hx2,hx3,hx⟩ hr;dsimp only at hz hx0 hx1 hx2 hx3 hx⊢;subst hz;refine aF (fun hlt=>?_) fun hge=>Ev.some ?_
 ·have hs:=cE (show i<a.subs.length by omega);have hdd:=cE (show i<ds.length by omega);have hdb:=hdm _ (cK hdd);have ew:wr (ds[i]-1)=ds[i]-1:=aM (by omega);rw [lK hs,lK hdd] at hx;simp only [jT] at hx;refine aA (aI hs) (aA (aDd (by omega) (h2 _ (cK hs)) hp) (aA (aI hdd) (aA (dW _ _ _ _) ?_)));rw [ew];by_cases hc:0≤dK a.subs[i] p∧dK a.subs[i] p<ds[i]
  ·rw [if_pos hc] at hx;rw [decide_eq_true (show 0≤dK a.subs[i] p∧dK a.subs[i] p≤ds[i]-1 by omega)];obtain⟨g1,g2,g3⟩:=R9 (a:=x) (by omega) hdb hc;refine bE ?_;rw [aM (n:=x*ds[i]) (by omega),aM (n:=x*ds[i]+dK a.subs[i] p) (by omega),aM (by omega)];have hi01:i=0∨i=1:=by omega
   refine hr _ ⟨i+1,by dsimp only;omega,by omega,by dsimp only;omega,?_,fun h=>by omega,fun h=>?_,hx⟩ (by dsimp only;omega)
   ·dsimp only;rcases hi01 with rfl|rfl
    ·rw [hx2 rfl];omega
    have:=hx3 rfl
    have:=vBr this hdb.2 (by omega) (by omega);omega
   dsimp only
   have:i=0:=by omega
   subst this;rw [hx2 rfl];omega
  rw [if_neg hc] at hx;rw [decide_eq_false (show¬(0≤dK a.subs[i] p∧dK a.subs[i] p≤ds[i]-1) by omega)];refine cQ (Ev.some ?_);rw [hx];rfl
 have hie:i=a.subs.length:=by omega
 have hdr:jT (a.subs.drop i) (ds.drop i) p x=x:=by
  rw [hie,List.drop_length];unfold jT;rfl
 rw [hdr] at hx;rw [hx,if_neg (by omega),aM (by omega)]
theorem aCK{n:Nat}(hn:6600000≤n){a:Access}(h0:1≤a.subs.length)(h1:a.subs.length≤2)(h2: ∀x∈a.subs,d7 x=true){ds:List Int}(hd:fN ds=true){k:Nat}{p:List Int}(hp:kW k p)(base:Int)(hb:0≤base∧base≤500000000):
  aH (fun again8 ((x6,x7):Int×Int)=>bif decide (x7<(a.subs.length:Int)) then(bif !decide ((a.subs.length:Int)=(ds.length:Int)) then(some (-1)) else(Option.bind (ix a.subs x7) fun x9=>Option.bind (eX n x9 p) fun x10=>jn (fun(x13:Bool)=>bif x13 then(some (-1)) else(Option.bind (ix ds x7) fun x14=>again8 (wr ((wr (x6*x14))+x10),wr (x7+1)))) fun j11=>bif decide (x10<0) then(j11 true) else(Option.bind (ix ds x7) fun x12=>j11 (decide (x12≤x10))))) else(some (wr (base+x6)))) n (0,0)
   =some (if a.subs.length=ds.length then(if jT a.subs ds p 0<0 then-1 else base+jT a.subs ds p 0) else-1):=by
 by_cases hl:a.subs.length=ds.length
 ·rw [if_pos hl];rw [decide_eq_true (show(a.subs.length:Int)=(ds.length:Int) by omega)];have hdm: ∀d∈ds,1≤d∧d≤6:=by
   simp only [fN,Bool.and_eq_true,decide_eq_true_eq,List.all_eq_true] at hd;exact fun d h=>hd.2 d h
  refine Ev.eq ?_;refine Ev.loop (fun x:Int×Int=> ∃i:Nat,x.2=i∧i≤a.subs.length∧0≤x.1∧x.1≤36*i∧(i=0→x.1=0)∧(i=1→x.1≤5)∧jT a.subs ds p 0=jT (a.subs.drop i) (ds.drop i) p x.1) (fun x=>a.subs.length-x.2.toNat) ?_ n _ ⟨0,rfl,by omega,by simp,by simp,fun _=>rfl,fun h=>by omega,rfl⟩ (by simp;omega);rintro again ⟨x,z⟩ ⟨i,hz,hi,hx0,hx1,hx2,hx3,hx⟩ hr;dsimp only at hz hx0 hx1 hx2 hx3 hx⊢;subst hz;refine aF (fun hlt=>?_) fun hge=>Ev.some ?_
  ·have hs:=cE (show i<a.subs.length by omega);have hdd:=cE (show i<ds.length by omega);have hdb:=hdm _ (cK hdd);rw [lK hs,lK hdd] at hx;simp only [jT] at hx;refine bE (aA (aI hs) (aA (aCL (by omega) (h2 _ (cK hs)) hp) (Ev.jn (fun z=>z= !decide (0≤dK a.subs[i] p∧dK a.subs[i] p<ds[i])) (fun j hj=>aF (fun h=>hj _ ?_) fun h=>aA (aI hdd) (hj _ ?_)) fun z hz=>?_)))
   ·rw [decide_eq_false (by omega)];rfl
   ·by_cases hc:ds[i]≤dK a.subs[i] p
    ·rw [decide_eq_true hc,decide_eq_false (by omega)];rfl
    rw [decide_eq_false hc,decide_eq_true (by omega)];rfl
   subst hz;by_cases hc:0≤dK a.subs[i] p∧dK a.subs[i] p<ds[i]
   ·rw [if_pos hc] at hx;rw [decide_eq_true hc];obtain⟨g1,g2,g3⟩:=R9 (a:=x) (by omega) hdb hc;refine bE (aA (aI hdd) ?_);rw [aM (n:=x*ds[i]) (by omega),aM (n:=x*ds[i]+dK a.subs[i] p) (by omega),aM (by omega)];have hi01:i=0∨i=1:=by omega
    refine hr _ ⟨i+1,by dsimp only;omega,by omega,by dsimp only;omega,?_,fun h=>by omega,fun h=>?_,hx⟩ (by dsimp only;omega)
    ·dsimp only;rcases hi01 with rfl|rfl
     ·rw [hx2 rfl];omega
     have:=hx3 rfl
     have:=vBr this hdb.2 (by omega) (by omega);omega
    dsimp only
    have:i=0:=by omega
    subst this;rw [hx2 rfl];omega
   rw [if_neg hc] at hx;rw [decide_eq_false hc];refine cQ (Ev.some ?_);rw [hx];rfl
  have hie:i=a.subs.length:=by omega
  have hdr:jT (a.subs.drop i) (ds.drop i) p x=x:=by
   rw [hie,List.drop_length];unfold jT;rfl
  rw [hdr] at hx;rw [hx,if_neg (by omega),aM (by omega)]
 rw [if_neg hl,decide_eq_false (show¬(a.subs.length:Int)=(ds.length:Int) by omega)];obtain⟨n,rfl⟩: ∃j,n=j+1:=⟨n-1,by omega⟩
 simp only [aH];rw [decide_eq_true (show(0:Int)<(a.subs.length:Int) by omega)];rfl
theorem n5{n:Nat}(hn:6600000≤n){p:Prog}(hl:p.arrays.length≤4)(hd:gS p.arrays){a:Access}{d:Int}(ha:fS a d=true){k:Nat}{q:List Int}(hq:kW k q):cO n p a q=some (b7 p.arrays a q 0):=by
 obtain⟨a0,a1,a2⟩:=aDZ ha;refine Ev.eq ?_;unfold cO;refine Ev.loop (fun x:Int×Int=> ∃i:Nat,x.2=i∧i≤p.arrays.length∧0≤x.1∧x.1≤36*i∧b7 p.arrays a q 0=b7 (p.arrays.drop i) a q x.1) (fun x=>p.arrays.length-x.2.toNat) ?_ n _ ⟨0,rfl,by omega,by simp,by simp,rfl⟩ (by simp;omega);rintro again ⟨x,z⟩ ⟨i,hz,hi,hx0,hx1,hx⟩ hr;dsimp only at hz hx0 hx1 hx⊢;subst hz;refine aF (fun hlt=>?_) fun hge=>Ev.some ?_
 ·have hy:=cE (show i<p.arrays.length by omega);have hdy:=hd _ (cK hy);have hsz:=aAM hdy;rw [lK hy] at hx;simp only [b7] at hx;refine aA (aI hy) (d8 (fun hne=>?_) fun he=>?_)
  ·rw [if_neg hne] at hx;refine aA (aBG hn hdy) ?_;rw [aM (n:=x+D8 p.arrays[i].dims) (by omega),aM (by omega)];exact hr _ ⟨i+1,by dsimp only;omega,by omega,by dsimp only;omega,by dsimp only;omega,hx⟩ (by dsimp only;omega)
  rw [if_pos he] at hx;refine d8 (fun hne=>Ev.some ?_) fun hle=>?_
  ·rw [hx,if_neg (by omega)]
  have hle':a.subs.length=p.arrays[i].dims.length:=by omega
  rw [if_pos hle'] at hx;exact Ev.of (aDc hn a1 a2 hdy hle' hq x (by omega)) hx.symm
 have hie:i=p.arrays.length:=by omega
 rw [hx,hie,List.drop_length];rfl
theorem zT{n:Nat}(hn:6600000≤n){list:List Arr}(hl:list.length≤4)(hd:gS list){a:Access}{d:Int}(ha:fS a d=true){k:Nat}{q:List Int}(hq:kW k q):m8 n list a q=some (b7 list a q 0):=by
 obtain⟨a0,a1,a2⟩:=aDZ ha;refine Ev.eq ?_;unfold m8;refine Ev.loop (fun x:Int×Int=> ∃i:Nat,x.2=i∧i≤list.length∧0≤x.1∧x.1≤36*i∧b7 list a q 0=b7 (list.drop i) a q x.1) (fun x=>list.length-x.2.toNat) ?_ n _ ⟨0,rfl,by omega,by simp,by simp,rfl⟩ (by simp;omega);rintro again ⟨x,z⟩ ⟨i,hz,hi,hx0,hx1,hx⟩ hr;dsimp only at hz hx0 hx1 hx⊢;subst hz;refine aF (fun hlt=>?_) fun hge=>Ev.some ?_
 ·have hy:=cE (show i<list.length by omega);have hdy:=hd _ (cK hy);have hsz:=aAM hdy;rw [lK hy] at hx;simp only [b7] at hx;refine aA (aI hy) (d8 (fun hne=>?_) fun he=>?_)
  ·rw [if_neg hne] at hx;refine aA (t8 hn hdy) ?_;rw [aM (n:=x+D8 list[i].dims) (by omega),aM (by omega)];exact hr _ ⟨i+1,by dsimp only;omega,by omega,by dsimp only;omega,by dsimp only;omega,hx⟩ (by dsimp only;omega)
  rw [if_pos he] at hx;exact Ev.of (aCK hn a0 a1 a2 hdy hq x (by omega)) hx.symm
 have hie:i=list.length:=by omega
 rw [hx,hie,List.drop_length];rfl
def bO:Nat→Expr→List Access
 |0,_=>[]
 |L+1,e=>(if e.kind=3 then [e.read] else [])++e.kids.flatMap (bO L)
theorem s8{d:Int}: ∀{L:Nat} {e:Expr},cW L e d=true→ ∀a∈bO L e,fS a d=true
 |0,e,h,a,ha=>by cases h
 |L+1,e,h,a,ha=>by
  obtain⟨h1,h2,h3⟩:=qD h;simp only [bO,List.mem_append,List.mem_flatMap] at ha;rcases ha with ha|⟨k,hk,ha⟩
  ·split at ha
   ·rename_i hk3;simp at ha;subst ha;unfold fZ at h2;rw [if_neg (by omega),if_pos hk3] at h2;simp only [Bool.and_eq_true] at h2;exact h2.2.2
   simp at ha
  exact s8 (h3 k hk) a ha
theorem nW: ∀(L:Nat) (e:Expr),((bO L e).length:Int)≤mR L e
 |0,e=>by simp [bO,mR]
 |L+1,e=>by
  have h: ∀(l:List Expr),((l.flatMap (bO L)).length:Int)≤(l.map (mR L)).sum:=by
   intro l;induction l with
   |nil=>simp
   |cons k l ih=>
    have:=nW L k;simp only [List.flatMap_cons,List.length_append,List.map_cons,List.sum_cons];omega
  have:=h e.kids;simp only [bO,mR,List.length_append];split
  ·rw [vAP];omega
  rw [List.length_nil];omega
theorem pC{d:Int}: ∀(L n:Nat) (e:Expr),6600000+L≤n→L≤5→cW L e d=true→i_reads (n+1) e=some (bO L e)
 |0,n,e,_,_,h=>by cases h
 |L+1,n,e,hn,hL,h=>by
  obtain⟨h1,h2,h3⟩:=qD h;have hk2:=qV e.kind;unfold i_reads;refine Ev.eq (aF (fun h3k=>Ev.some ?_) fun hn3=>?_)
  ·have:e.kids=[]:=by
    have hz:eC e.kind=0:=by unfold eC;rw [if_pos (Or.inr (Or.inr h3k))]
    exact vAw (by omega)
   simp [bO,h3k,this]
  obtain⟨n,rfl⟩: ∃j,n=j+1:=⟨n-1,by omega⟩
  have hcb: ∀k∈e.kids,((bO L k).length:Int)≤100:=fun k hk=>by
   have h5:=I1 (h3 k hk);have h6:(2:Int)^L≤40:=by
    match L,hL with
    |0,_=>decide
    |1,_=>decide
    |2,_=>decide
    |3,_=>decide
    |4,_=>decide
   have:=nW L k;omega
  refine Ev.loop (fun x:List Access×Int=> ∃i:Nat,x.2=i∧i≤e.kids.length∧x.1=(e.kids.take i).flatMap (bO L)∧(x.1.length:Int)≤100*i) (fun x=>e.kids.length-x.2.toNat) ?_ (n+1) _ ⟨0,rfl,by omega,by simp,by simp⟩ (by simp;omega);rintro again ⟨x,k⟩ ⟨i,hk,hi,hx,hxl⟩ hr;dsimp only at hk hx hxl⊢;subst hk;refine aF (fun hlt=>?_) fun hge=>Ev.some ?_
  ·have hk3:=cE (show i<e.kids.length by omega);have hm:=cK hk3;have hb:=hcb _ hm;refine aA (aI hk3) (aA (pC (d:=d) L n _ (by omega) (by omega) (h3 _ hm)) (aA (cG (by omega)) ?_));rw [aM (by omega)];refine hr _ ⟨i+1,by dsimp only;omega,by omega,?_,by dsimp only;rw [kK];omega⟩ (by dsimp only;omega);dsimp only;rw [K1,hk3,vAN,hx];simp
  have:i=e.kids.length:=by omega
  rw [hx,this,pM];simp [bO,hn3]
theorem Z4(n:Nat){a:Affine}(h:a.coefs.length≤1100000):fV n a=some a:=by
 unfold fV;refine Ev.eq (aF (fun h0=>Ev.some ?_) fun h0=>aA (iE _ h) (Ev.some rfl));obtain⟨cs,c⟩:=a
 have:cs=[]:=vAw (by simpa using h0);subst this;rfl
theorem Z5{n:Nat}(hn:5500000≤n){a:Access}(h:u7 a.subs):fW n a=some a:=by
 obtain⟨h0,h1⟩:=h;refine Ev.eq ?_;unfold fW;refine Ev.loop (fun x:List Affine×Int=> ∃i:Nat,x.2=i∧i≤a.subs.length∧x.1=a.subs.take i) (fun x=>a.subs.length-x.2.toNat) ?_ n _ ⟨0,rfl,by omega,by simp⟩ (by simp;omega);rintro again ⟨x,k⟩ ⟨i,hk,hi,hx⟩ hr;dsimp only at hk hx⊢;subst hk;refine aF (fun hlt=>?_) fun hge=>Ev.some ?_
 ·have hs:=cE (show i<a.subs.length by omega);have hl:x.length=i:=by rw [hx,nQ];omega
  refine aA (aI hs) (aA (Z4 n (h1 _ (cK hs))) (aA (cG (by simp;omega)) ?_));rw [aM (by omega)];refine hr _ ⟨i+1,by dsimp only;omega,by omega,?_⟩ (by dsimp only;omega);dsimp only;rw [K1,hs,hx];rfl
 have:i=a.subs.length:=by omega
 rw [hx,this,pM]
theorem aFy{l:List Affine}(h1:l.length≤2)(h2: ∀a∈l,d7 a=true):u7 l:=⟨by omega,fun a ha=>by have:=(r7 (h2 a ha)).1;unfold SmA;omega⟩
theorem wD{d:Int}: ∀(L n:Nat) (e:Expr) (out:List Access),6600000+L≤n→L≤5→cW L e d=true→(out.length:Int)≤1100000+200*(6-(L:Int))→s_l3Reads (n+1) out e=some (out++bO L e)
 |0,n,e,out,_,_,h,_=>by cases h
 |L+1,n,e,out,hn,hL,h,ho=>by
  obtain⟨h1,h2,h3⟩:=qD h;have hk2:=qV e.kind;unfold s_l3Reads;refine Ev.eq (Ev.jn (fun z=>z=out++(if e.kind=3 then [e.read] else [])) (fun j hj=>aF (fun h3k=>?_) fun hn3=>hj _ (by rw [if_neg hn3];simp)) fun z hz=>?_)
  ·have ha:=s8 h e.read (by simp [bO,h3k]);obtain⟨_,b1,b2⟩:=aDZ ha;exact aA (Z5 (by omega) (aFy b1 b2)) (aA (cG (by simp;omega)) (hj _ (by rw [if_pos h3k])))
  subst hz;obtain⟨n,rfl⟩: ∃j,n=j+1:=⟨n-1,by omega⟩
  by_cases h3k:e.kind=3
  ·have hnil:e.kids=[]:=by
    have hz:eC e.kind=0:=by unfold eC;rw [if_pos (Or.inr (Or.inr h3k))]
    exact vAw (by omega)
   rw [hnil];refine Ev.some ?_;simp [bO,h3k,hnil]
  have hcb: ∀k∈e.kids,((bO L k).length:Int)≤100:=fun k hk=>by
   have h5:=I1 (h3 k hk);have h6:(2:Int)^L≤40:=by
    match L,hL with
    |0,_=>decide
    |1,_=>decide
    |2,_=>decide
    |3,_=>decide
    |4,_=>decide
   have:=nW L k;omega
  rw [if_neg h3k,List.append_nil];refine Ev.loop (fun x:List Access×Int=> ∃i:Nat,x.2=i∧i≤e.kids.length∧x.1=out++(e.kids.take i).flatMap (bO L)∧(x.1.length:Int)≤out.length+100*i) (fun x=>e.kids.length-x.2.toNat) ?_ (n+1) _ ⟨0,rfl,by omega,by simp,by simp⟩ (by simp;omega);rintro again ⟨x,k⟩ ⟨i,hk,hi,hx,hxl⟩ hr;dsimp only at hk hx hxl⊢;subst hk;refine aF (fun hlt=>?_) fun hge=>Ev.some ?_
  ·have hk3:=cE (show i<e.kids.length by omega);have hm:=cK hk3;have hb:=hcb _ hm;refine aA (aI hk3) (aA (wD (d:=d) L n _ x (by omega) (by omega) (h3 _ hm) (by omega)) ?_);rw [aM (by omega)];refine hr _ ⟨i+1,by dsimp only;omega,by omega,?_,by dsimp only;rw [kK];omega⟩ (by dsimp only;omega);dsimp only;rw [K1,hk3,vAN,hx];simp
  have:i=e.kids.length:=by omega
  rw [hx,this,pM];simp [bO,h3k]
theorem aCT{nest:List Loop}(hf:Fit nest): ∀(ls:List Loop) (k:Nat) (p q:List Int),nest.drop k=ls→k≤nest.length→kW k p→q∈pts ls p→kW nest.length q
 | [],k,p,q,hd,hk,hp,hq=>by
  have:=rD hd hk;simp only [pts,List.mem_singleton] at hq;subst hq;subst this;exact hp
 |l::ls,k,p,q,hd,hk,hp,hq=>by obtain⟨d1,d2,d3⟩:=n8 hd;obtain⟨s1,s2⟩:=hf.2 k l d1;have hf1:=hf.1;simp only [pts,List.mem_flatMap] at hq;obtain⟨v,hv,hq⟩:=hq;exact aCT hf ls (k+1) _ q d2 (by omega) (vE s1 s2 hp (by omega) (aE1.1 hv)) hq
theorem aD7{nest:List Loop}{ps:List (List Int)}(h:NP nest=some ps):Fit nest∧ps.length≤120∧(∀q∈ps,kW nest.length q)∧ps=pts nest []∧wk nest []≤1200:=by
 unfold NP at h;split at h
 ·rename_i hc;cases h;have hf:=G5 hc.1;exact⟨hf,hc.2.2,fun q hq=>aCT hf nest 0 [] q rfl (by omega) pt0 hq,rfl,hc.2.1⟩
 cases h
def b8(list:List Arr)(s:Stmt)(q:List Int):Bool:=decide (0≤b7 list s.write q 0)&&(bO 5 s.value).all fun a=>decide (0≤b7 list a q 0)
theorem E1{s:Stmt}{d:Int}(h:fU s d=true):fS s.write d=true∧cW 5 s.value d=true∧(∀a∈bO 5 s.value,fS a d=true)∧(bO 5 s.value).length≤12:=by
 simp only [fU,Bool.and_eq_true,decide_eq_true_eq] at h;obtain⟨_,h1,h2,h3⟩:=h
 have:=nW 5 s.value;exact⟨h1,h2,s8 h2,by omega⟩
theorem N9{n:Nat}(hn:7700000≤n){p:Prog}(hl:p.arrays.length≤4)(hd:gS p.arrays){s:Stmt}{d:Int}(hs:fU s d=true){k:Nat}{q:List Int}(hq:kW k q):eP n p s q=some (b8 p.arrays s q):=by
 obtain⟨h1,h2,h3,h4⟩:=E1 hs;obtain⟨n,rfl⟩: ∃j,n=j+1:=⟨n-1,by omega⟩
 refine Ev.eq ?_;unfold eP;generalize hT:b8 p.arrays s q=T;unfold b8 at hT;refine Ev.jn (fun z=>z=T) (fun j hj=>aA (n5 (by omega) hl hd h1 hq) (aF (fun h=>?_) fun h=>hj _ ?_)) fun z hz=>Ev.some hz
 ·have hc:=u5 (n:=n+1) (f:=fun q0=>cN (n+1) q0 p q) (p:=fun a=>decide (b7 p.arrays a q 0<0)) (l:=bO 5 s.value)
   (fun a ha=>by unfold cN;rw [n5 (by omega) hl hd (h3 a ha) hq];rfl) (by omega) (by omega)
  refine aA (pC (d:=d) 5 n s.value (by omega) (by omega) h2) (aA hc (hj _ ?_));rw [←hT,decide_eq_true h,U9,vAT];congr 1;apply congrArg fun f=>List.any (bO 5 s.value) f;funext a;rw [ltd]
 rw [←hT,decide_eq_false h];rfl
theorem qH{n:Nat}(hn:7700000≤n){list:List Arr}(hl:list.length≤4)(hd:gS list){s:Stmt}{d:Int}(hs:fU s d=true){k:Nat}{q:List Int}(hq:kW k q):
  iS n list s q=some (if b8 list s q=true then((bO 5 s.value).map fun a=>b7 list a q 0,b7 list s.write q 0,true) else([],0,false)):=by
 obtain⟨h1,h2,h3,h4⟩:=E1 hs;obtain⟨n,rfl⟩: ∃j,n=j+1:=⟨n-1,by omega⟩
 refine Ev.eq ?_;unfold iS;refine aA (wD (d:=d) 5 n s.value [] (by omega) (by omega) h2 (by simp)) ?_;rw [List.nil_append];generalize hR:bO 5 s.value=R at*;have hco:b8 list s q=(decide (0≤b7 list s.write q 0)&&R.all fun a=>decide (0≤b7 list a q 0)):=by unfold b8;rw [hR]
 refine Ev.loop (fun x:List Int×Int=> ∃i:Nat,x.2=i∧i≤R.length∧x.1=(R.take i).map (fun a=>b7 list a q 0)∧ ∀(t:Nat) a,t<i→R[t]? =some a→0≤b7 list a q 0) (fun x=>R.length-x.2.toNat) ?_ (n+1) _ ⟨0,rfl,by omega,by simp,fun t a h=>by omega⟩ (by dsimp only;omega);rintro again ⟨x,z⟩ ⟨i,hz,hi,hx,ha⟩ hr;dsimp only at hz hx ha⊢;subst hz;refine aF (fun hlt=>?_) fun hge=>?_
 ·have hg:=cE (show i<R.length by omega);have hm:=cK hg;refine aA (aI hg) (aA (zT (by omega) hl hd (h3 _ hm) hq) (aF (fun hneg=>Ev.some ?_) fun hpos=>?_))
  ·rw [if_neg];rw [hco];intro h;rw [Bool.and_eq_true] at h
   have:=K3.1 h.2 _ hm;rw [decide_eq_true_eq] at this;omega
  have hl2:x.length≤12:=by rw [hx,zP,nQ];omega
  refine aA (cG (by simp;omega)) ?_;rw [aM (by omega)];refine hr _ ⟨i+1,by dsimp only;omega,by omega,?_,fun t a ht hta=>?_⟩ (by dsimp only;omega)
  ·dsimp only;rw [K1,hg,vBb,hx];rfl
  by_cases hti:t=i
  ·subst hti;rw [hg] at hta;cases hta;omega
  exact ha t a (by omega) hta
 have hie:i=R.length:=by omega
 have hall:R.all (fun a=>decide (0≤b7 list a q 0))=true:=K3.2 (fun a hm=>by
  obtain⟨t,ht⟩:=vAz hm
  have:=(bP.1 ht).1;exact decide_eq_true (ha t a (by omega) ht))
 rw [hco,hall,Bool.and_true];refine aA (zT (by omega) hl hd h1 hq) (aF (fun hneg=>Ev.some ?_) fun hpos=>Ev.some ?_)
 ·rw [if_neg (by rw [decide_eq_true_eq];omega)]
 rw [if_pos (by rw [decide_eq_true_eq];omega),hx,hie,pM]
def V8(q:List Int):Bool:=decide (q.length≤4)&&q.all fun x=>decide (-9999≤x∧x≤9999)
theorem G0{n:Nat}(hn:5500000≤n){q:List Int}(h:q.length≤1100000):n4 n q=some (V8 q):=by
 unfold n4 V8;have hc:=mF (n:=n) (f:=fun q0=>iA n q0) (p:=fun x=> !decide (-9999≤x∧x≤9999)) (l:=q) (fun x _=>by unfold iA;rw [dW];rfl) (by omega) (by omega);simp only [jn,Option.bind];rw [hc];have e:(q.any fun x=> !decide (-9999≤x∧x≤9999))= !(q.all fun x=>decide (-9999≤x∧x≤9999)):=by rw [vAT];simp
 rw [e,show decide ((q.length:Int)≤4)=decide (q.length≤4) from decide_eq_decide.2 (by omega)];cases decide (q.length≤4)<;>simp
theorem E4{n:Nat}(hn:5500000≤n){q:List Int}(h:q.length≤1100000):nT n q=some (V8 q):=by
 refine Ev.eq ?_;unfold nT;refine iP (l:=q) (p:=fun _ x=>decide (-9999≤x∧x≤9999)) (by omega) (by omega) (fun again i x hx hgo hno=>?_) (fun again hall=>?_) (fun⟨i,x,hx,hp⟩=>?_)
 ·have hi:=(bP.1 hx).1;rw [decide_eq_true (show(i:Int)<(q.length:Int) by omega)];refine cQ (aA (aI hx) (aA (m6 n x 9999 (by omega)) ?_));cases hp:decide (-9999≤x∧x≤9999) with
  |true=>show Ev (again _) _;rw [aM (by omega)];exact hgo hp
  |false=>exact Ev.some (hno hp)
 ·rw [decide_eq_false (show¬(q.length:Int)<(q.length:Int) by omega)];refine Ev.some ?_;unfold V8;rw [K3.2 (fun c hc=>by obtain⟨i,hi⟩:=vAz hc;exact hall i c hi),Bool.and_true];exact decide_eq_decide.2 (by omega)
 unfold V8;rw [T3.2 ⟨x,cK hx,by rw [hp];simp⟩,Bool.and_false]
theorem R8{α:Type}(p q:α→Bool): ∀l:List α,(l.all p&&l.all q)=l.all (fun x=>p x&&q x)
 | []=>rfl
 |x::l=>by simp only [List.all_cons,←R8 p q l];cases p x<;>cases q x<;>cases l.all p<;>cases l.all q<;>rfl
def rZ(part:Part):Bool:=decide (1≤part.body.length∧part.body.length≤4)&&part.body.all fun s=>fU s (part.nest.length:Int)
def dE(part:Part):List (List Int):=(NP part.nest).getD []
def cC(list:List Arr)(part:Part):Bool:=(NP part.nest).isSome&&(rZ part&&part.body.all fun s=>(dE part).all fun q=>b8 list s q&&V8 q)
def aD1(x:Part):Prop:=SmN x.nest∧x.body.length≤1100000∧ ∀s∈x.body,SmS s
def SmP(p:Prog):Prop:=SmR p.arrays∧p.parts.length≤1100000∧ ∀x∈p.parts,aD1 x
theorem wP{list:List Arr}{x:Part}(h:cC list x=true):NP x.nest=some (dE x)∧(1≤x.body.length∧x.body.length≤4)∧(∀s∈x.body,fU s (x.nest.length:Int)=true)∧ ∀s∈x.body,∀q∈dE x,b8 list s q=true∧V8 q=true:=by
 simp only [cC,rZ,Bool.and_eq_true,decide_eq_true_eq,List.all_eq_true] at h;refine⟨?_,h.2.1.1,h.2.1.2,h.2.2⟩;unfold dE;cases hn:NP x.nest with
 |none=>rw [hn] at h;simp at h
 |some ps=>rfl
theorem aAu{list:List Arr}(h:eI list=true):list.length≤4∧gS list:=by
 simp only [eI,Bool.and_eq_true,decide_eq_true_eq] at h;refine⟨h.2,fun x hx=>?_⟩;obtain⟨i,hi⟩:=vAz hx
 have:=xB h.1 hi;simp only [zN,Bool.and_eq_true] at this;exact this.2.2
theorem M2{n:Nat}(hn:7700000≤n){list:List Arr}(hl:list.length≤4)(hd:gS list){x:Part}(hx:aD1 x):
  qG n list x=some (if cC list x=true then(((dE x).length:Int)*(x.body.length:Int),true) else(0,false)):=by
 obtain⟨h1,h2,h3⟩:=hx;refine Ev.eq ?_;unfold qG;generalize hT:(if cC list x=true then(((dE x).length:Int)*(x.body.length:Int),true) else((0:Int),false))=T;refine aA (uW (by omega) h1) ?_;have hbad:cC list x=false→((0:Int),false)=T:=fun h=>by rw [←hT,h];rfl
 refine Ev.jn (fun z=>z= !((NP x.nest).isSome&&decide (1≤x.body.length∧x.body.length≤4))) (fun j hj=>?_) fun z hz=>?_
 ·cases hN:NP x.nest with
  |none=>exact cQ (hj _ (by rw [hN];rfl))
  |some ps=>
   refine bE (aF (fun h=>hj _ ?_) fun h=>hj _ ?_)
   ·rw [hN,decide_eq_false (by omega)];rfl
   rw [hN];by_cases h4:x.body.length≤4
   ·rw [decide_eq_false (show¬(4:Int)<(x.body.length:Int) by omega),decide_eq_true (by omega)];rfl
   rw [decide_eq_true (show(4:Int)<(x.body.length:Int) by omega),decide_eq_false (by omega)];rfl
 subst hz;cases hN:NP x.nest with
 |none=>exact Ev.some (hbad (by unfold cC;rw [hN];rfl))
 |some ps=>
  obtain⟨hf,hp1,hp2,hp3,hp4⟩:=aD7 hN;have hpp:dE x=ps:=by unfold dE;rw [hN];rfl
  by_cases hb:1≤x.body.length∧x.body.length≤4
  ·rw [decide_eq_true hb];refine bE ?_;have hok:cC list x=x.body.all (fun s=>fU s (x.nest.length:Int)&&ps.all fun q=>b8 list s q&&V8 q):=by
    unfold cC rZ;rw [hN,hpp,decide_eq_true hb,Option.isSome_some,U9,U9];exact R8 _ _ _
   refine Ev.loop (fun y:Int=> ∃i:Nat,y=i∧i≤x.body.length∧ ∀(t:Nat) s,t<i→x.body[t]? =some s→(fU s (x.nest.length:Int)&&ps.all fun q=>b8 list s q&&V8 q)=true) (fun y=>x.body.length-y.toNat) ?_ n _ ⟨0,rfl,by omega,fun t s h=>by omega⟩ (by simp;omega);rintro again y ⟨i,rfl,hi,ha⟩ hr;refine aF (fun hlt=>?_) fun hge=>Ev.some ?_
   ·have hg:=cE (show i<x.body.length by omega);have hm:=cK hg;refine aA (aI hg) (aA (wG (by omega) (h3 _ hm) _) ?_);cases hsv:fU x.body[i] (x.nest.length:Int) with
    |false=>
     refine cQ (Ev.some (hbad ?_));rw [hok];exact T3.2 ⟨_,hm,by rw [hsv];simp⟩
    |true=>
     refine bE ?_;show Ev (aH (fun again9 (x8:Int)=>bif decide (x8<(ps.length:Int)) then _ else _) n 0) _;refine Ev.loop (fun y:Int=> ∃k:Nat,y=k∧k≤ps.length∧ ∀(t:Nat) q,t<k→ps[t]? =some q→(b8 list x.body[i] q&&V8 q)=true) (fun y=>ps.length-y.toNat) ?_ n _ ⟨0,rfl,by omega,fun t s h=>by omega⟩ (by simp;omega);rintro again9 y ⟨k,rfl,hk,hak⟩ hr9;refine aF (fun hlt9=>?_) fun hge9=>?_
     ·have hgk:=cE (show k<ps.length by omega);have hmk:=cK hgk;have hq:=hp2 _ hmk;have hql:ps[k].length≤1100000:=by have:=hq.1;have:=hq.2.1;omega
      refine aA (aI hgk) (aA (qH (by omega) hl hd hsv hq) (Ev.jn (fun z=>z= !(b8 list x.body[i] ps[k]&&V8 ps[k])) (fun j hj=>?_) fun z hz=>?_))
      ·cases hc:b8 list x.body[i] ps[k] with
       |false=>
        rw [hc] at hj;exact cQ (hj _ rfl)
       |true=>
        rw [hc] at hj;exact bE (aA (E4 (by omega) hql) (hj _ rfl))
      subst hz;cases hc:(b8 list x.body[i] ps[k]&&V8 ps[k]) with
      |false=>
       refine Ev.some (hbad ?_);rw [hok];refine T3.2 ⟨_,hm,?_⟩;rw [hsv,U9];rw [T3.2 ⟨_,hmk,by rw [hc];simp⟩];simp
      |true=>
       show Ev (again9 _) _;rw [aM (by omega)];refine hr9 _ ⟨k+1,by omega,by omega,fun t q ht htq=>?_⟩ (by omega);by_cases htk:t=k
       ·subst htk;rw [hgk] at htq;cases htq;exact hc
       exact hak t q (by omega) htq
     rw [aM (by omega)];refine hr _ ⟨i+1,by omega,by omega,fun t s ht hts=>?_⟩ (by omega);by_cases hti:t=i
     ·subst hti;rw [hg] at hts;cases hts;rw [hsv,U9];refine K3.2 fun q hq=>?_;obtain⟨t',ht'⟩:=vAz hq
      have:=(bP.1 ht').1;exact hak t' q (by omega) ht'
     exact ha t s (by omega) hts
   have hall:cC list x=true:=by
    rw [hok];refine K3.2 fun s hs=>?_;obtain⟨t,ht⟩:=vAz hs
    have:=(bP.1 ht).1;exact ha t s (by omega) ht
   rw [←hT,hall,if_pos rfl,hpp];show(wr ((ps.length:Int)*(x.body.length:Int)),true)=_;have hb1:(0:Int)≤(ps.length:Int)*(x.body.length:Int):=vBe (by omega) (by omega);have hb2:(ps.length:Int)*(x.body.length:Int)≤120*4:=vBr (by omega) (by omega) (by omega) (by omega);rw [aM (by omega)]
  rw [decide_eq_false hb];refine Ev.some (hbad ?_);unfold cC rZ;rw [decide_eq_false hb];simp
def dN(x:Part):Int:=((dE x).length:Int)*(x.body.length:Int)
def instP(i:Nat)(x:Part):List Inst:=(dE x).flatMap fun q=>(List.range x.body.length).map fun(k:Nat)=>(⟨(i:Int),(k:Int),q⟩:Inst)
def insts(ps:List Part):List Inst:=ps.zipIdx.flatMap fun y=>instP y.2 y.1
def lP(p:Prog):Bool:=eI p.arrays&&(decide (p.parts.length≤4)&&p.parts.all (cC p.arrays))
def dD(p:Prog):Bool:=lP p&&decide ((p.parts.map dN).sum≤120)
theorem insts_snoc(l:List Part)(x:Part):insts (l++[x])=insts l++instP l.length x:=by unfold insts;rw [List.zipIdx_append,vAN];simp
theorem insts_take{l:List Part}{i:Nat}{x:Part}(h:l[i]? =some x):insts (l.take (i+1))=insts (l.take i)++instP i x:=by have hi:=(bP.1 h).1;rw [K1,h];show insts (l.take i++[x])=_;rw [insts_snoc,nQ,vBz (Nat.le_of_lt hi)]
theorem rA{α β:Type}(f:α→List β)(m:Nat)(h: ∀x,(f x).length=m): ∀l:List α,(l.flatMap f).length=l.length*m
 | []=>by simp
 |x::l=>by rw [vBw,kK,h,rA f m h l,vBq,jQ];omega
theorem instP_len(i:Nat)(x:Part):((instP i x).length:Int)=dN x:=by unfold instP dN;rw [rA _ x.body.length fun q=>by simp];exact Int.natCast_mul _ _
theorem M0{l:List Part}{i:Nat}{x:Part}(h:l[i]? =some x):((l.take (i+1)).map dN).sum=((l.take i).map dN).sum+dN x:=by rw [K1,h];simp
theorem insts_len: ∀(l:List Part) (i:Nat),i≤l.length→((insts (l.take i)).length:Int)=((l.take i).map dN).sum
 |l,0,_=>by simp [insts]
 |l,i+1,h=>by
  have hg:=cE (show i<l.length by omega);rw [insts_take hg,kK,M0 hg]
  have:=insts_len l i (by omega)
  have:=instP_len i l[i];omega
theorem insts_len'(l:List Part):((insts l).length:Int)=(l.map dN).sum:=by
 have:=insts_len l l.length (jD _)
 rwa [pM] at this
theorem tT{list:List Arr}{x:Part}(h:cC list x=true):0≤dN x∧dN x≤480:=by
 obtain⟨h1,h2,_⟩:=wP h;obtain⟨_,h3,_⟩:=aD7 h1;unfold dN;refine⟨vBe (by omega) (by omega),?_⟩
 have:=vBr (show((dE x).length:Int)≤120 by omega) (show(x.body.length:Int)≤4 by omega) (by omega) (by omega);omega
theorem qL{n:Nat}(hn:7700000≤n){p:Prog}(hp:SmP p):dH n p=some (dD p):=by
 obtain⟨h1,h2,h3⟩:=hp;refine Ev.eq ?_;unfold dH;generalize hT:dD p=T;unfold dD lP at hT;refine Ev.jn (fun z=>z= !(eI p.arrays&&decide (p.parts.length≤4))) (fun j hj=>aA (yW (by omega) h1) ?_) fun z hz=>?_
 ·cases ha:eI p.arrays with
  |false=>exact cQ (hj _ (by rw [ha];rfl))
  |true=>
   refine bE (hj _ ?_);rw [ha];by_cases h4:p.parts.length≤4
   ·rw [decide_eq_false (show¬(4:Int)<(p.parts.length:Int) by omega),decide_eq_true h4];rfl
   rw [decide_eq_true (show(4:Int)<(p.parts.length:Int) by omega),decide_eq_false h4];rfl
 subst hz;cases hb:(eI p.arrays&&decide (p.parts.length≤4)) with
 |false=>
  refine Ev.some ?_;rw [←hT,←vAX,hb];rfl
 |true=>
  have hT':T=(p.parts.all (cC p.arrays)&&decide ((p.parts.map dN).sum≤120)):=by rw [←hT,←vAX,hb];rfl
  rw [Bool.and_eq_true,decide_eq_true_eq] at hb;obtain⟨hl,hd⟩:=aAu hb.1;refine bE ?_;refine Ev.loop (fun x:Int×Int=> ∃i:Nat,x.2=i∧i≤p.parts.length∧x.1=((p.parts.take i).map dN).sum∧0≤x.1∧x.1≤480*i∧ ∀(t:Nat) y,t<i→p.parts[t]? =some y→cC p.arrays y=true) (fun x=>p.parts.length-x.2.toNat) ?_ n _ ⟨0,rfl,by omega,by simp,by simp,by simp,fun t y h=>by omega⟩ (by dsimp only;omega);rintro again ⟨x,z⟩ ⟨i,hz,hi,hx,hx0,hx1,ha⟩ hr;dsimp only at hz hx hx0 hx1 ha⊢;subst hz;refine aF (fun hlt=>?_) fun hge=>Ev.some ?_
  ·have hg:=cE (show i<p.parts.length by omega);have hm:=cK hg;refine aA (aI hg) (aA (M2 (by omega) hl hd (h3 _ hm)) ?_);cases hpo:cC p.arrays p.parts[i] with
   |false=>
    rw [if_neg (by simp)];refine Ev.some ?_;rw [hT',T3.2 ⟨_,hm,by rw [hpo];simp⟩];rfl
   |true=>
    rw [if_pos rfl];have hcb:=tT hpo;show Ev (again (wr (x+dN p.parts[i]),wr ((i:Int)+1))) _;rw [aM (n:=x+dN p.parts[i]) (by omega),aM (by omega)];refine hr _ ⟨i+1,by dsimp only;omega,by omega,by dsimp only;rw [M0 hg];omega,by dsimp only;omega,by dsimp only;omega,fun t y ht hty=>?_⟩ (by dsimp only;omega);by_cases hti:t=i
    ·subst hti;rw [hg] at hty;cases hty;exact hpo
    exact ha t y (by omega) hty
  have hie:i=p.parts.length:=by omega
  have hall:p.parts.all (cC p.arrays)=true:=K3.2 (fun y hy=>by
   obtain⟨t,ht⟩:=vAz hy
   have:=(bP.1 ht).1;exact ha t y (by omega) ht)
  rw [hT',hall,U9,hx,hie,pM]
theorem nC{α:Type}(f:Nat→α)(k:Nat):(List.range (k+1)).map f=(List.range k).map f++[f k]:=by rw [List.range_succ,vBb];rfl
theorem nG{n:Nat}(hn:7700000≤n){p:Prog}(hp:SmP p):bU n p=some (if lP p=true then(insts p.parts,decide ((insts p.parts).length≤120)) else([],false)):=by
 obtain⟨h1,h2,h3⟩:=hp;refine Ev.eq ?_;unfold bU;generalize hT:(if lP p=true then(insts p.parts,decide ((insts p.parts).length≤120)) else([],false))=T;have hbad:lP p=false→(([]:List Inst),false)=T:=fun h=>by rw [←hT,h];rfl
 refine Ev.jn (fun z=>z= !(eI p.arrays&&decide (p.parts.length≤4))) (fun j hj=>aA (zB (by omega) h1) ?_) fun z hz=>?_
 ·cases ha:eI p.arrays with
  |false=>exact cQ (hj _ (by rw [ha];rfl))
  |true=>
   refine bE (hj _ ?_);rw [ha];by_cases h4:p.parts.length≤4
   ·rw [decide_eq_false (show¬(4:Int)<(p.parts.length:Int) by omega),decide_eq_true h4];rfl
   rw [decide_eq_true (show(4:Int)<(p.parts.length:Int) by omega),decide_eq_false h4];rfl
 subst hz;cases hb:(eI p.arrays&&decide (p.parts.length≤4)) with
 |false=>exact Ev.some (hbad (by unfold lP;rw [←vAX,hb];rfl))
 |true=>
  have hall':lP p=p.parts.all (cC p.arrays):=by unfold lP;rw [←vAX,hb];rfl
  rw [Bool.and_eq_true,decide_eq_true_eq] at hb;obtain⟨hl,hd⟩:=aAu hb.1;refine bE ?_;refine Ev.loop (fun x:List Inst×Int=> ∃i:Nat,x.2=i∧i≤p.parts.length∧x.1=insts (p.parts.take i)∧x.1.length≤480*i∧ ∀(t:Nat) y,t<i→p.parts[t]? =some y→cC p.arrays y=true) (fun x=>p.parts.length-x.2.toNat) ?_ n _ ⟨0,rfl,by omega,by simp [insts],by simp,fun t y h=>by omega⟩ (by dsimp only;omega);rintro again ⟨x,z⟩ ⟨i,hz,hi,hx,hxl,ha⟩ hr;dsimp only at hz hx hxl ha⊢;subst hz;refine aF (fun hlt=>?_) fun hge=>Ev.some ?_
  ·have hg:=cE (show i<p.parts.length by omega);have hm:=cK hg;obtain⟨s1,s2,s3⟩:=h3 _ hm;generalize hP:p.parts[i]=P at*;have hpb:cC p.arrays P=false→lP p=false:=fun h=>by rw [hall'];exact T3.2 ⟨_,hm,by rw [h];simp⟩
   refine aA (aI hg) (aA (uZ (by omega) s1) (Ev.jn (fun z=>z= !((NP P.nest).isSome&&rZ P)) (fun j hj=>?_) fun z hz=>?_))
   ·cases hN:NP P.nest with
    |none=>exact cQ (hj _ (by rw [hN];rfl))
    |some ps=>
     refine bE ?_;have hw:bT n (P.body.length:Int) 1 4=some (decide (1≤P.body.length∧P.body.length≤4)):=by
      rw [dW];congr 1;exact decide_eq_decide.2 (by omega)
     refine aA hw ?_;have hc:=zE (n:=n) (f:=fun q0=>bZ n q0 P) (p:=fun s=> !fU s (P.nest.length:Int)) (l:=P.body) (fun s hs=>by unfold bZ;rw [xF (by omega) (s3 s hs)];rfl) (by omega) (by omega);have e:(P.body.any fun s=> !fU s (P.nest.length:Int))= !(P.body.all fun s=>fU s (P.nest.length:Int)):=by rw [vAT];simp
     cases hw2:decide (1≤P.body.length∧P.body.length≤4) with
     |false=>exact cQ (hj _ (by unfold rZ;rw [hN,hw2];rfl))
     |true=>exact bE (aA hc (hj _ (by unfold rZ;rw [hN,hw2,e];rfl)))
   subst hz;cases hN:NP P.nest with
   |none=>exact Ev.some (hbad (hpb (by unfold cC;rw [hN];rfl)))
   |some ps=>
    obtain⟨hf,hp1,hp2,hp3,hp4⟩:=aD7 hN;have hpp:dE P=ps:=by unfold dE;rw [hN];rfl
    cases hbv:rZ P with
    |false=>exact Ev.some (hbad (hpb (by unfold cC;rw [hbv];simp)))
    |true=>
     have hbv':=hbv;simp only [rZ,Bool.and_eq_true,decide_eq_true_eq,List.all_eq_true] at hbv';obtain⟨⟨hb1,hb2⟩,hb3⟩:=hbv';have hok:cC p.arrays P=P.body.all (fun s=>ps.all fun q=>b8 p.arrays s q&&V8 q):=by
      unfold cC;rw [hN,hbv,hpp];rfl
     let row:List Int→List Inst:=fun q=>(List.range P.body.length).map fun(k:Nat)=>(⟨(i:Int),(k:Int),q⟩:Inst)
     have hrl: ∀q,(row q).length=P.body.length:=fun q=>by simp [row]
     have hinst:instP i P=ps.flatMap row:=by unfold instP;rw [hpp]
     refine bE ?_;rw [show(Z1 (some ps)).1=ps from rfl];refine Ev.loop (fun y:List Inst×Int=> ∃k:Nat,y.2=k∧k≤ps.length∧y.1=x++(ps.take k).flatMap row∧ ∀(t:Nat) q,t<k→ps[t]? =some q→V8 q=true∧ ∀s∈P.body,b8 p.arrays s q=true) (fun y=>ps.length-y.2.toNat) ?_ n _ ⟨0,rfl,by omega,by simp,fun t q h=>by omega⟩ (by dsimp only;omega);rintro again17 ⟨y,z⟩ ⟨k,hz,hk,hy,hak⟩ hr17;dsimp only at hz hy hak⊢;subst hz;refine aF (fun hlt2=>?_) fun hge2=>?_
     ·have hgk:=cE (show k<ps.length by omega);have hmk:=cK hgk;generalize hQ:ps[k]=Q at*;have hq:=hp2 _ hmk;have hql:Q.length≤4:=by have:=hq.1;have:=hq.2.1;omega
      refine aA (aI hgk) (aA (G0 (by omega) (by omega)) ?_);have hyl:y.length≤480*4+480:=by
       rw [hy,kK,rA row _ hrl,nQ]
       have:min k ps.length*P.body.length≤120*4:=vBx (by omega) hb2;omega
      cases hpv:V8 Q with
      |false=>
       refine cQ (Ev.some (hbad (hpb ?_)));rw [hok];obtain⟨s0,hs0⟩: ∃s0,s0∈P.body:=List.exists_mem_of_length_pos (by omega);refine T3.2 ⟨s0,hs0,?_⟩;rw [T3.2 ⟨Q,hmk,by rw [hpv];simp⟩];simp
      |true=>
       refine bE ?_;refine Ev.loop (fun u:List Inst×Int=> ∃m:Nat,u.2=m∧m≤P.body.length∧u.1=y++(List.range m).map (fun(k:Nat)=>(⟨(i:Int),(k:Int),Q⟩:Inst))∧ ∀(t:Nat) s,t<m→P.body[t]? =some s→b8 p.arrays s Q=true) (fun u=>P.body.length-u.2.toNat) ?_ n _ ⟨0,rfl,by omega,by simp,fun t s h=>by omega⟩ (by dsimp only;omega);rintro again23 ⟨u,z⟩ ⟨m,hz,hmm,hu,ham⟩ hr23;dsimp only at hz hu ham⊢;subst hz;refine aF (fun hlt3=>?_) fun hge3=>?_
       ·have hgm:=cE (show m<P.body.length by omega);have hmem:=cK hgm;refine aA (aI hgm) (aA (N9 (by omega) hl hd (hb3 _ hmem) hq) ?_);cases hco:b8 p.arrays P.body[m] Q with
        |false=>
         refine cQ (Ev.some (hbad (hpb ?_)));rw [hok];refine T3.2 ⟨_,hmem,?_⟩;rw [T3.2 ⟨Q,hmk,by rw [hco];simp⟩];simp
        |true=>
         have hcl:m_ownClone Q=some Q:=by unfold m_ownClone;rw [if_pos (by omega)]
         have hul:u.length≤480*4+480+4:=by rw [hu];simp;omega
         refine bE (aA hcl (aA (cG (by simp;omega)) ?_));rw [aM (by omega)];refine hr23 _ ⟨m+1,by dsimp only;omega,by omega,?_,fun t s ht hts=>?_⟩ (by dsimp only;omega)
         ·dsimp only;rw [hu,nC,vAM]
         by_cases htm:t=m
         ·subst htm;rw [hgm] at hts;cases hts;exact hco
         exact ham t s (by omega) hts
       have hme:m=P.body.length:=by omega
       rw [aM (by omega)];refine hr17 _ ⟨k+1,by dsimp only;omega,by omega,?_,fun t q ht htq=>?_⟩ (by dsimp only;omega)
       ·dsimp only;rw [K1,hgk,vAN,←vAM,←hy,hu,hme];simp [row]
       by_cases htk:t=k
       ·subst htk;rw [hgk] at htq;cases htq;refine⟨hpv,fun s hs=>?_⟩;obtain⟨t',ht'⟩:=vAz hs
        have:=(bP.1 ht').1;exact ham t' s (by omega) ht'
       exact hak t q (by omega) htq
     have hke:k=ps.length:=by omega
     have hpo:cC p.arrays P=true:=by
      rw [hok];refine K3.2 fun s hs=>K3.2 fun q hq=>?_;obtain⟨t,ht⟩:=vAz hq
      have:=(bP.1 ht).1;obtain⟨g1,g2⟩:=hak t q (by omega) ht;rw [g1,g2 s hs];rfl
     have hcb:=tT hpo;have hil:=instP_len i P;rw [aM (by omega)];refine hr _ ⟨i+1,by dsimp only;omega,by omega,?_,?_,fun t y ht hty=>?_⟩ (by dsimp only;omega)
     ·dsimp only;rw [insts_take hg,hinst,hy,hke,pM,hx]
     ·dsimp only;rw [hy,hke,pM,kK,←hinst];omega
     by_cases hti:t=i
     ·subst hti;rw [hg] at hty;cases hty;exact hpo
     exact ha t y (by omega) hty
  have hie:i=p.parts.length:=by omega
  have hall:lP p=true:=by
   rw [hall'];exact K3.2 (fun y hy=>by
    obtain⟨t,ht⟩:=vAz hy
    have:=(bP.1 ht).1;exact ha t y (by omega) ht)
  rw [←hT,if_pos hall,hx,hie,pM];congr 1;exact decide_eq_decide.2 (by omega)
theorem q8{n:Nat}(hn:7700000≤n){p:Prog}(hp:SmP p):gA n p=some (dD p):=by
 unfold gA;rw [nG hn hp];unfold dD;cases h:lP p with
 |false=>rfl
 |true=>
  rw [if_pos rfl];show some (decide _)=_;rw [U9];congr 1
  have:=insts_len' p.parts;exact decide_eq_decide.2 (by omega)
theorem l3{p:Prog}(h:dD p=true):p.arrays.length≤4∧gS p.arrays∧p.parts.length≤4∧(∀x∈p.parts,cC p.arrays x=true)∧(insts p.parts).length≤120:=by
 simp only [dD,lP,Bool.and_eq_true,decide_eq_true_eq,List.all_eq_true] at h;obtain⟨⟨h1,h2,h3⟩,h4⟩:=h;obtain⟨a,b⟩:=aAu h1
 have:=insts_len' p.parts;exact⟨a,b,h2,h3,by omega⟩
theorem wF{n:Nat}(hn:7700000≤n){p:Prog}(hv:dD p=true):gO n p=some (insts p.parts):=by
 obtain⟨hl,hd,h4,hpo,hil⟩:=l3 hv;refine Ev.eq ?_;unfold gO;refine Ev.loop (fun x:List Inst×Int=> ∃i:Nat,x.2=i∧i≤p.parts.length∧x.1=insts (p.parts.take i)∧x.1.length≤480*i) (fun x=>p.parts.length-x.2.toNat) ?_ n _ ⟨0,rfl,by omega,by simp [insts],by simp⟩ (by dsimp only;omega);rintro again ⟨x,z⟩ ⟨i,hz,hi,hx,hxl⟩ hr;dsimp only at hz hx hxl⊢;subst hz;refine aF (fun hlt=>?_) fun hge=>Ev.some ?_
 ·have hg:=cE (show i<p.parts.length by omega);have hm:=cK hg;have hpP:=hpo _ hm;generalize hP:p.parts[i]=P at*;obtain⟨q1,q2,q3,q4⟩:=wP hpP;obtain⟨hf,hp1,hp2,hp3,hp4⟩:=aD7 q1;generalize hpp:dE P=ps at*;have hcb:=tT hpP;have hil':=instP_len i P;let row:List Int→List Inst:=fun q=>(List.range P.body.length).map fun(k:Nat)=>(⟨(i:Int),(k:Int),q⟩:Inst)
  have hrl: ∀q,(row q).length=P.body.length:=fun q=>by simp [row]
  have hinst:instP i P=ps.flatMap row:=by unfold instP;rw [hpp]
  refine aA (aI hg) (eJ (m7 hf P.nest n 0 [] [] (by have:=hf.1;omega) rfl (by omega) pt0 hp4 (by simp)) fun r ⟨r1,r2⟩=>?_);have hr1:r=ps:=by rw [r1 (by rw [←hp3];simpa using hp1),hp3];rfl
  subst hr1;refine Ev.loop (fun y:List Inst×Int=> ∃k:Nat,y.2=k∧k≤r.length∧y.1=x++(r.take k).flatMap row) (fun y=>r.length-y.2.toNat) ?_ n _ ⟨0,rfl,by omega,by simp⟩ (by dsimp only;omega);rintro again10 ⟨y,z⟩ ⟨k,hz,hk,hy⟩ hr10;dsimp only at hz hy⊢;subst hz;refine aF (fun hlt2=>?_) fun hge2=>?_
  ·have hgk:=cE (show k<r.length by omega);have hmk:=cK hgk;generalize hQ:r[k]=Q at*;have hq:=hp2 _ hmk;have hql:Q.length≤4:=by have:=hq.1;have:=hq.2.1;omega
   have hyl:y.length≤480*4+480:=by
    rw [hy,kK,rA row _ hrl,nQ]
    have:min k r.length*P.body.length≤120*4:=vBx (by omega) q2.2;omega
   refine Ev.loop (fun u:List Inst×Int=> ∃m:Nat,u.2=m∧m≤P.body.length∧u.1=y++(List.range m).map (fun(k:Nat)=>(⟨(i:Int),(k:Int),Q⟩:Inst))) (fun u=>P.body.length-u.2.toNat) ?_ n _ ⟨0,rfl,by omega,by simp⟩ (by dsimp only;omega);rintro again14 ⟨u,z⟩ ⟨m,hz,hmm,hu⟩ hr14;dsimp only at hz hu⊢;subst hz;refine aF (fun hlt3=>?_) fun hge3=>?_
   ·have hul:u.length≤480*4+480+4:=by rw [hu];simp;omega
    refine aA (aI hgk) (aA (iE _ (by omega)) (aA (cG (by simp;omega)) ?_));rw [aM (by omega)];refine hr14 _ ⟨m+1,by dsimp only;omega,by omega,?_⟩ (by dsimp only;omega);dsimp only;rw [hu,nC,vAM]
   have hme:m=P.body.length:=by omega
   rw [aM (by omega)];refine hr10 _ ⟨k+1,by dsimp only;omega,by omega,?_⟩ (by dsimp only;omega);dsimp only;rw [K1,hgk,vAN,←vAM,←hy,hu,hme];simp [row]
  have hke:k=r.length:=by omega
  rw [aM (by omega)];refine hr _ ⟨i+1,by dsimp only;omega,by omega,?_,?_⟩ (by dsimp only;omega)
  ·dsimp only;rw [insts_take hg,hinst,hy,hke,pM,hx]
  dsimp only;rw [hy,hke,pM,kK,←hinst];omega
 have hie:i=p.parts.length:=by omega
 rw [hx,hie,pM]
def L5:Nat→List Arr→List Int→Expr→List Int→Int
 |0,_,_,_,_=>0
 |L+1,list,m,e,q=>
  if e.kind=1 then e.num
  else if e.kind=2 then dK e.index q%1000
  else if e.kind=3 then m.getD (b7 list e.read q 0).toNat 0
  else match e.kids with
   | [a,b]=>if e.kind=4 then(L5 L list m a q+L5 L list m b q)%1000 else if e.kind=5 then(L5 L list m a q-L5 L list m b q)%1000 else(L5 L list m a q*L5 L list m b q)%1000
   |_=>0
def K0(p:Prog)(x:Inst):Prop:= ∃(i k:Nat) (P:Part) (s:Stmt),x.part=i∧x.stmt=k∧p.parts[i]? =some P∧P.body[k]? =some s∧x.point∈dE P
def sW(p:Prog)(x:Inst):Option Stmt:=(p.parts[x.part.toNat]?).bind fun P=>P.body[x.stmt.toNat]?
def aHd(p:Prog)(m:List Int)(x:Inst):List Int:=match sW p x with
 |some s=>m.set (b7 p.arrays s.write x.point 0).toNat (L5 5 p.arrays m s.value x.point)
 |none=>m
theorem inst_d{p:Prog}(hv:dD p=true){x:Inst}(hx:K0 p x): ∃(i k:Nat) (P:Part) (s:Stmt) (d:Int),x.part=i∧x.stmt=k∧p.parts[i]? =some P∧P.body[k]? =some s∧sW p x=some s∧fU s d=true∧kW P.nest.length x.point∧b8 p.arrays s x.point=true:=by obtain⟨hl,hd,h4,hpo,hil⟩:=l3 hv;obtain⟨i,k,P,s,e1,e2,e3,e4,e5⟩:=hx;obtain⟨q1,q2,q3,q4⟩:=wP (hpo P (cK e3));obtain⟨hf,hp1,hp2,hp3,hp4⟩:=aD7 q1;have hs:=cK e4;exact⟨i,k,P,s,_,e1,e2,e3,e4,by unfold sW;rw [e1,e2,Int.toNat_natCast,e3];exact(by rw [Int.toNat_natCast];exact e4),q3 s hs,hp2 _ e5,(q4 s hs _ e5).1⟩
theorem I6{list:List Arr}{s:Stmt}{q:List Int}(h:b8 list s q=true):0≤b7 list s.write q 0∧ ∀a∈bO 5 s.value,0≤b7 list a q 0:=by simp only [b8,Bool.and_eq_true,decide_eq_true_eq,List.all_eq_true] at h;exact h
theorem insts_mem{ps:List Part}{x:Inst}(h:x∈insts ps): ∃(i k:Nat) (P:Part) (s:Stmt),x.part=i∧x.stmt=k∧ps[i]? =some P∧P.body[k]? =some s∧x.point∈dE P:=by unfold insts at h;rw [List.mem_flatMap] at h;obtain⟨⟨P,i⟩,h1,h2⟩:=h;unfold instP at h2;rw [List.mem_flatMap] at h2;obtain⟨q,h3,h4⟩:=h2;rw [U8] at h4;obtain⟨k,h5,rfl⟩:=h4;have hk:=List.mem_range.1 h5;exact⟨i,k,P,P.body[k],rfl,rfl,vBd.1 h1,cE hk,h3⟩
end Go.Lift
