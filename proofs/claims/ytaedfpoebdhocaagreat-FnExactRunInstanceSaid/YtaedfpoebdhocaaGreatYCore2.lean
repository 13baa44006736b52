/- Valid statements. -/
import Derived.Test.YtaedfpoebdhocaaGreatYCore1
set_option maxRecDepth 110000000
set_option linter.unusedVariables false
namespace Go.Lift
open Go
def SmE:Nat→Expr→Prop
 |0,_=>True
 |L+1,e=>e.kids.length≤1100000∧SmA e.index∧xO e.read.subs∧ ∀k∈e.kids,SmE L k
def cN:Nat→Expr→Int→Bool
 |0,_,_=>false
 |L+1,e,d=>decide (eJ e.kind=e.kids.length)&&(fO e d&&e.kids.all fun k=>cN L k d)
def oZ:Nat→Expr→Int
 |0,_=>1
 |L+1,e=>1+(e.kids.map (oZ L)).sum
theorem tK(k:Int):eJ k≤2:=by unfold eJ;split;omega;split<;>omega
theorem sW(d:Int): ∀(L n:Nat) (e:Expr),5500000+L≤n→L≤1100000→SmE L e→s_l3Shape (n+1) e d (L:Int)=some (cN L e d)
 |0,n,e,_,_,_=>by unfold s_l3Shape;rfl
 |L+1,n,e,hn,hL,he=>by
  obtain⟨e1,e2,e3,e4⟩:=he;unfold s_l3Shape;refine Ev.eq ?_;refine Ev.jn (fun z=>z= !(decide (eJ e.kind=e.kids.length)&&fO e d)) (fun j hj=>aI (fun h=>by omega) fun h=>aB (U6 n _) (dB (fun h=>hj _ ?_) fun h=>aB (aAB (by omega) e2 e3 d) (hj _ ?_))) fun z hz=>?_
  ·rw [decide_eq_false h];rfl
  ·rw [decide_eq_true h];rfl
  subst hz;unfold cN;cases hb:(decide (eJ e.kind=e.kids.length)&&fO e d) with
  |false=>exact Ev.some (by rw [←vAW,hb];rfl)
  |true=>
   rw [←vAW,hb,vAR];refine bB ?_;obtain⟨n,rfl⟩: ∃j,n=j+1:=⟨n-1,by omega⟩
   have ew:wr (((L+1:Nat):Int)-1)=(L:Int):=by rw [aK (by omega)];omega
   rw [ew];refine iT (l:=e.kids) (p:=fun _ k=>cN L k d) (by omega) (by omega) (fun again i x hx hgo hno=>?_) (fun again hall=>?_) (fun⟨i,x,hx,hp⟩=>?_)
   ·have hi:=(bR.1 hx).1;rw [decide_eq_true (show(i:Int)<(e.kids.length:Int) by omega)];refine cF (aB (aR hx) (aB (sW d L n x (by omega) (by omega) (e4 x (cM hx))) ?_));cases hs:cN L x d with
    |true=>show Ev (again _) _;rw [aK (by omega)];exact hgo hs
    |false=>exact Ev.some (hno hs)
   ·rw [decide_eq_false (show¬(e.kids.length:Int)<(e.kids.length:Int) by omega)];refine Ev.some ?_;exact(H2.2 fun c hc=>by obtain⟨i,hi⟩:=vAz hc;exact hall i c hi).symm
   exact(T7.2 ⟨x,cM hx,by rw [hp];simp⟩).symm
theorem qT: ∀(L:Nat) (e:Expr),1≤oZ L e
 |0,_=>yO _
 |L+1,e=>by have:=mL (oZ L) e.kids fun k _=>qT L k;simp only [oZ];omega
theorem aAy{α:Type}(f:α→Int)(M:Int): ∀(l:List α),(∀x∈l,f x≤M)→(l.map f).sum≤l.length*M
 | [],_=>by simp
 |x::l,h=>by have h1:=aAy f M l fun y hy=>h y (by simp [hy]);have h2:=h x (by simp);simp only [List.map_cons,List.sum_cons,List.length_cons,Int.natCast_add,Int.add_mul];omega
theorem jU{L:Nat}{e:Expr}{d:Int}(h:cN (L+1) e d=true):eJ e.kind=e.kids.length∧fO e d=true∧ ∀k∈e.kids,cN L k d=true:=by simp only [cN,Bool.and_eq_true,decide_eq_true_eq,List.all_eq_true] at h;exact⟨h.1,h.2.1,h.2.2⟩
theorem Q3: ∀{L:Nat} {e:Expr} {d:Int},cN L e d=true→oZ L e+1≤2^L
 |0,e,d,h=>by cases h
 |L+1,e,d,h=>by
  obtain⟨h1,_,h2⟩:=jU h;have h3:=aAy (oZ L) ((2:Int)^L-1) e.kids fun k hk=>by have:=Q3 (h2 k hk);omega
  have h4:=tK e.kind;have h5:(e.kids.length:Int)*((2:Int)^L-1)≤2*((2:Int)^L-1):=by
   refine Int.mul_le_mul_of_nonneg_right (by omega) ?_
   have:(0:Int)<2^L:=Int.pow_pos (by omega);omega
  simp only [oZ];rw [Int.pow_succ];omega
theorem sY{d:Int}: ∀(L n:Nat) (e:Expr),5500000+L≤n→L≤5→cN L e d=true→s_l3Count (n+1) e (L:Int)=some (oZ L e)
 |0,n,e,_,_,h=>by cases h
 |L+1,n,e,hn,hL,h=>by
  obtain⟨h1,_,h2⟩:=jU h;have h4:=tK e.kind;have hb: ∀k∈e.kids,oZ L k≤40:=fun k hk=>by
   have h5:=Q3 (h2 k hk);have h6:(2:Int)^L≤40:=by
    match L,hL with
    |0,_=>decide
    |1,_=>decide
    |2,_=>decide
    |3,_=>decide
    |4,_=>decide
   omega
  unfold s_l3Count;refine Ev.eq ?_;obtain⟨n,rfl⟩: ∃j,n=j+1:=⟨n-1,by omega⟩
  have ew:wr (((L+1:Nat):Int)-1)=(L:Int):=by rw [aK (by omega)];omega
  rw [ew];refine Ev.loop (fun x:Int×Int=> ∃i:Nat,x.2=i∧i≤e.kids.length∧x.1=1+((e.kids.take i).map (oZ L)).sum) (fun x=>e.kids.length-x.2.toNat) ?_ (n+1) _ ⟨0,rfl,by omega,by simp⟩ (by simp;omega);rintro again ⟨x,k⟩ ⟨i,hk,hi,hx⟩ hr;dsimp only at hk hx⊢;subst hk;refine Ev.jn (fun z=>z=decide (i<e.kids.length)) (fun j hj=>aI (fun h=>hj _ ?_) fun h=>hj _ ?_) fun z hz=>?_
  ·rw [decide_eq_true (show(0:Int)<((L+1:Nat):Int) by omega),decide_eq_true (by omega)]
  ·rw [decide_eq_false (by omega)]
  subst hz;refine aI (fun hlt=>?_) fun hge=>Ev.some ?_
  ·have hk2:=cU hlt;have hm:=cM hk2;refine aB (aR hk2) (aB (sY (d:=d) L n _ (by omega) (by omega) (h2 _ hm)) ?_);have hs:=aAy (oZ L) 40 (e.kids.take i) fun y hy=>hb y (vAu hy);have hs2:=mL (oZ L) (e.kids.take i) fun y _=>qT L y;have hb2:=hb _ hm;have hb3:=qT L e.kids[i];have hl:((e.kids.take i).length:Int)≤2:=by simp;omega
   rw [aK (n:=x+oZ L e.kids[i]) (by omega),aK (by omega)];refine hr _ ⟨i+1,by dsimp only;omega,by omega,?_⟩ (by dsimp only;omega);dsimp only;rw [vAH,hk2,vBf,List.sum_append,hx];simp;omega
  have:i=e.kids.length:=by omega
  rw [hx,this,D3];rfl
def V0(e:Expr):Bool:=(decide (e.kind=1)||decide (e.num=0))&&((decide (e.kind=2)||jA e.index)&&(decide (e.kind=3)||oG e.read))
theorem mM(d:Int): ∀(L n:Nat) (e:Expr) (c:Int),5500000+L≤n→L≤5→SmE L e→0≤c→c≤12→
  Ev (i_exprScan (n+1) e d (6-(L:Int)) c) (fun r=>r.1=(cN L e d&&decide (c+oZ L e≤12))∧(r.1=true→r.2=c+oZ L e))
 |0,n,e,c,hn,hL,he,h0,h1=>by
  unfold i_exprScan;refine Ev.jn (fun z=>z=true) (fun j hj=>aI (fun h=>hj _ rfl) fun h=>hj _ (by decide)) fun z hz=>?_;subst hz;exact Ev.some ⟨rfl,fun h=>by cases h⟩
 |L+1,n,e,c,hn,hL,he,h0,h1=>by
  obtain⟨e1,e2,e3,e4⟩:=he;have hcp:=qT (L+1) e;unfold i_exprScan;have ew:wr (c+1)=c+1:=aK (by omega);have ed:wr (6-(((L+1:Nat)):Int)+1)=6-(L:Int):=by rw [aK (by omega)];omega
  rw [ew,ed];refine Ev.jn (fun z=>z=decide (12<c+1)) (fun j hj=>aI (fun h=>hj _ (decide_eq_true h).symm) fun h=>hj _ ?_) fun z hz=>?_
  ·rw [decide_eq_false h,decide_eq_false (by omega)]
  subst hz;refine aI (fun h=>Ev.some ⟨?_,fun h=>by cases h⟩) fun hc=>?_
  ·rw [decide_eq_false (show¬c+oZ (L+1) e≤12 by omega),Bool.and_false]
  refine Ev.jn (fun z=>z= !V0 e) (fun j hj=>?_) fun z hz=>?_
  ·rw [E5,E6];unfold V0 at hj;simp only [Option.bind];by_cases k1:e.kind=1
   ·have k2: ¬e.kind=2:=by omega
    have k3: ¬e.kind=3:=by omega
    rw [decide_eq_true k1,decide_eq_false k2,decide_eq_false k3] at*;simp only [Bool.not_true,Bool.not_false,cond_true,cond_false,Bool.true_or,Bool.true_and,Bool.false_or] at*;cases ha:jA e.index with
    |false=>exact hj _ (by rw [ha];rfl)
    |true=>exact hj _ (by rw [ha];rfl)
   rw [decide_eq_false k1] at*;simp only [Bool.not_false,cond_true,Bool.false_or] at*;by_cases hnum:e.num=0
   ·rw [decide_eq_true hnum] at*;simp only [Bool.not_true,cond_false,Bool.true_and] at*;by_cases k2:e.kind=2
    ·have k3: ¬e.kind=3:=by omega
     rw [decide_eq_true k2,decide_eq_false k3] at*;simp only [Bool.not_true,Bool.not_false,cond_true,cond_false,Bool.true_or,Bool.true_and,Bool.false_or] at*;exact hj _ rfl
    rw [decide_eq_false k2] at*;simp only [Bool.not_false,cond_true,Bool.false_or] at*;cases ha:jA e.index with
    |false=>exact hj _ (by rw [ha];rfl)
    |true=>
     by_cases k3:e.kind=3
     ·rw [decide_eq_true k3] at*;exact hj _ (by rw [ha];rfl)
     rw [decide_eq_false k3] at*;exact hj _ (by rw [ha];rfl)
   rw [decide_eq_false hnum] at*;exact hj _ rfl
  subst hz;cases hp:V0 e with
  |false=>
   refine Ev.some ⟨?_,fun h=>by cases h⟩
   have:fO e d=false:=by
    unfold V0 at hp;unfold fO;by_cases k2:e.kind=2
    ·have k1: ¬e.kind=1:=by omega
     have k3: ¬e.kind=3:=by omega
     rw [if_pos k2];rw [decide_eq_true k2,decide_eq_false k1,decide_eq_false k3] at hp;revert hp;cases decide (e.num=0)<;>cases oG e.read<;>simp
    rw [if_neg k2];by_cases k3:e.kind=3
    ·have k1: ¬e.kind=1:=by omega
     rw [if_pos k3];rw [decide_eq_false k2,decide_eq_false k1,decide_eq_true k3] at hp;revert hp;cases decide (e.num=0)<;>cases jA e.index<;>simp
    rw [if_neg k3];rw [decide_eq_false k2,decide_eq_false k3] at hp;by_cases k1:e.kind=1
    ·rw [if_pos k1];rw [decide_eq_true k1] at hp;revert hp;cases jA e.index<;>cases oG e.read<;>simp
    rw [if_neg k1];rw [decide_eq_false k1] at hp;revert hp;cases decide (e.num=0)<;>cases jA e.index<;>cases oG e.read<;>simp
   unfold cN;rw [this];simp
  |true=>
   refine bB ?_;unfold V0 at hp;simp only [Bool.and_eq_true,Bool.or_eq_true,decide_eq_true_eq] at hp;obtain⟨p1,p2,p3⟩:=hp;have leafP: ∀(b:Bool),fO e d=b→eJ e.kind=0→ ∀(z:Bool),z=(b&&decide ((e.kids.length:Int)=0))→z=(cN (L+1) e d&&decide (c+oZ (L+1) e≤12))∧(z=true→c+1=c+oZ (L+1) e):=by
    intro b hb hk z hz;unfold cN;rw [hb,hk];by_cases h:e.kids.length=0
    ·have hnil:e.kids=[]:=vAw h;have hcn:oZ (L+1) e=1:=by simp [oZ,hnil]
     rw [hcn,decide_eq_true (show c+1≤12 by omega)];rw [decide_eq_true (show(e.kids.length:Int)=0 by omega)] at hz;rw [hz,hnil];simp
    rw [decide_eq_false (show¬(e.kids.length:Int)=0 by omega)] at hz;rw [hz,decide_eq_false (show¬(0:Int)=(e.kids.length:Int) by omega)];simp
   by_cases k1:e.kind=1
   ·have k2: ¬e.kind=2:=by omega
    have k3: ¬e.kind=3:=by omega
    rw [decide_eq_true k1];have hown:fO e d=decide (0≤e.num∧e.num≤99):=by
     unfold fO;rw [if_neg k2,if_neg k3,if_pos k1];rcases p2 with h|h
     ·exact absurd h k2
     rcases p3 with h'|h'
     ·exact absurd h' k3
     rw [h,h'];simp
    refine cF (Ev.jn (fun z=>z=(decide (0≤e.num∧e.num≤99)&&decide ((e.kids.length:Int)=0))) (fun j hj=>aB (cT n _ _ _) ?_) fun z hz=>Ev.some ?_)
    ·cases hw:decide (0≤e.num∧e.num≤99) with
     |true=>exact hj _ (by rw [hw];rfl)
     |false=>exact hj _ (by rw [hw];rfl)
    exact leafP _ hown (by unfold eJ;rw [if_pos (Or.inl k1)]) _ hz
   rw [decide_eq_false k1];refine bB ?_;have hnum:e.num=0:=by
    rcases p1 with h|h
    ·exact absurd h k1
    exact h
   by_cases k2:e.kind=2
   ·have k3: ¬e.kind=3:=by omega
    rw [decide_eq_true k2];have hown:fO e d=bH e.index d:=by
     unfold fO;rw [if_pos k2,decide_eq_true hnum];rcases p3 with h'|h'
     ·exact absurd h' k3
     rw [h'];simp
    refine cF (Ev.jn (fun z=>z=(bH e.index d&&decide ((e.kids.length:Int)=0))) (fun j hj=>aB (m7 (by omega) _ e2) ?_) fun z hz=>Ev.some ?_)
    ·unfold bH at hj;cases hw:eM e.index with
     |false=>exact hj _ (by rw [hw];rfl)
     |true=>
      refine aB (z6 (by omega) e2) (aI (fun h=>hj _ ?_) fun h=>hj _ ?_)
      ·rw [hw,decide_eq_true h];rfl
      rw [hw,decide_eq_false h];rfl
    exact leafP _ hown (by unfold eJ;rw [if_pos (Or.inr (Or.inl k2))]) _ hz
   rw [decide_eq_false k2];refine bB ?_;have hnaff:jA e.index=true:=by
    rcases p2 with h|h
    ·exact absurd h k2
    exact h
   by_cases k3:e.kind=3
   ·rw [decide_eq_true k3];have hown:fO e d=gE e.read d:=by
     unfold fO;rw [if_neg k2,if_pos k3,decide_eq_true hnum,hnaff];simp
    refine cF (Ev.jn (fun z=>z=(gE e.read d&&decide ((e.kids.length:Int)=0))) (fun j hj=>aB (q6 (by omega) e3 d) ?_) fun z hz=>Ev.some ?_)
    ·cases hw:gE e.read d with
     |false=>exact hj _ (by rw [hw];rfl)
     |true=>exact hj _ (by rw [hw];rfl)
    exact leafP _ hown (by unfold eJ;rw [if_pos (Or.inr (Or.inr k3))]) _ hz
   rw [decide_eq_false k3];refine bB ?_;have hown:fO e d=true:=by
    unfold fO;rw [if_neg k2,if_neg k3,if_neg k1,decide_eq_true hnum,hnaff];rcases p3 with h'|h'
    ·exact absurd h' k3
    rw [h'];rfl
   have hop:O5 n e.kind=some (decide (4≤e.kind∧e.kind≤6)):=by unfold O5;rw [cT];rfl
   have hkn:(eJ e.kind=2↔(4≤e.kind∧e.kind≤6))∧(eJ e.kind=2∨eJ e.kind= -1):=by
    unfold eJ;rw [if_neg (by omega)];split<;>omega
   refine Ev.jn (fun z=>z= !(decide (4≤e.kind∧e.kind≤6)&&decide ((e.kids.length:Int)=2))) (fun j hj=>aB hop ?_) fun z hz=>?_
   ·cases hw:decide (4≤e.kind∧e.kind≤6) with
    |false=>exact hj _ (by rw [hw];rfl)
    |true=>exact hj _ (by rw [hw];rfl)
   subst hz;by_cases hk:(4≤e.kind∧e.kind≤6)∧(e.kids.length:Int)=2
   ·rw [decide_eq_true hk.1,decide_eq_true hk.2];refine bB ?_;obtain⟨a,b,hab⟩: ∃a b,e.kids=[a,b]:=by
     have:e.kids.length=2:=by omega
     match hq:e.kids,this with
     | [a,b],_=>exact⟨a,b,rfl⟩
    have hsh:cN (L+1) e d=(cN L a d&&cN L b d):=by
     show(decide (eJ e.kind=e.kids.length)&&(fO e d&&e.kids.all fun k=>cN L k d))=_;rw [hown,hab,decide_eq_true (show eJ e.kind=(([a,b]:List Expr).length:Int) by rw [hkn.1.2 hk.1];rfl)];simp
    have hcn:oZ (L+1) e=1+(oZ L a+oZ L b):=by simp [oZ,hab]
    have ca:=qT L a;have cb:=qT L b;rw [hsh,hcn];obtain⟨n,rfl⟩: ∃j,n=j+1:=⟨n-1,by omega⟩
    refine Ev.jn (fun z:Int×Bool=>z.2=(cN L a d&&cN L b d&&decide (c+(1+(oZ L a+oZ L b))≤12))∧(z.2=true→z.1=c+(1+(oZ L a+oZ L b)))) (fun j hj=>?_) fun z hz=>Ev.some hz;refine aB (x:=a) (by rw [hab];rfl) (gU (mM d L n a (c+1) (by omega) (by omega) (e4 a (by rw [hab];simp)) (by omega) (by omega)) fun r ⟨r1,r2⟩=>?_);cases hr:r.1 with
    |false=>
     refine hj _ ⟨?_,fun h=>by cases h⟩;rw [hr] at r1;show false=_;by_cases hsa:cN L a d=true
     ·rw [hsa,vAR] at r1
      have:=of_decide_eq_false r1.symm;rw [decide_eq_false (show¬c+(1+(oZ L a+oZ L b))≤12 by omega),Bool.and_false]
     rw [Bool.eq_false_iff.2 hsa];rfl
    |true=>
     have r2:=r2 hr;rw [hr] at r1;have r1:=r1.symm;rw [Bool.and_eq_true,decide_eq_true_eq] at r1;refine aB (x:=b) (by rw [hab];rfl) ?_;rw [r2];refine gU (mM d L n b (c+1+oZ L a) (by omega) (by omega) (e4 b (by rw [hab];simp)) (by omega) (by omega)) fun q ⟨q1,q2⟩=>hj _ ⟨?_,fun h=>?_⟩
     ·show q.1=_;rw [q1,r1.1,vAR];congr 1;exact decide_eq_decide.2 (by omega)
     show q.2=_;rw [q2 h];omega
   have hf:cN (L+1) e d=false:=by
    unfold cN;rw [decide_eq_false (show¬eJ e.kind=(e.kids.length:Int) by
     intro h;rcases hkn.2 with h2|h2
     ·exact hk ⟨hkn.1.1 h2,by omega⟩
     omega)]
    rfl
   have:(decide (4≤e.kind∧e.kind≤6)&&decide ((e.kids.length:Int)=2))=false:=by
    by_cases g:4≤e.kind∧e.kind≤6
    ·rw [decide_eq_false (show¬(e.kids.length:Int)=2 from fun h=>hk ⟨g,h⟩),Bool.and_false]
    rw [decide_eq_false g];rfl
   rw [this,hf];exact Ev.some ⟨rfl,fun h=>by cases h⟩
def gI(s:Stmt)(d:Int):Bool:=decide (0≤d∧d≤4)&&(gE s.write d&&(cN 5 s.value d&&decide (oZ 5 s.value≤12)))
def SmS(s:Stmt):Prop:=xO s.write.subs∧SmE 5 s.value
theorem z8{n:Nat}(hn:6600000≤n){s:Stmt}(h:SmS s)(d:Int):mE n s d=some (gI s d):=by
 obtain⟨n,rfl⟩: ∃j,n=j+1:=⟨n-1,by omega⟩
 refine Ev.eq ?_;unfold mE;generalize hT:gI s d=T;unfold gI at hT;refine Ev.jn (fun z:Int×Bool=>z.2=T) (fun j hj=>aB (cT _ _ _ _) ?_) fun z hz=>Ev.some hz;cases h1:decide (0≤d∧d≤4) with
 |false=>exact hj (0,false) (by rw [←hT,h1];rfl)
 |true=>
  refine cF (aB (q6 (by omega) h.1 d) ?_);cases h2:gE s.write d with
  |false=>exact hj (0,false) (by rw [←hT,h1,h2];rfl)
  |true=>
   refine cF (gU (mM d 5 n s.value 0 (by omega) (by omega) h.2 (by omega) (by omega)) fun r ⟨r1,r2⟩=>hj _ ?_);rw [←hT,h1,h2];show r.1=_;rw [r1];simp
theorem yX{n:Nat}(hn:6600000≤n){s:Stmt}(h:SmS s)(d:Int):l8 n s d=some (gI s d):=by
 obtain⟨n,rfl⟩: ∃j,n=j+1:=⟨n-1,by omega⟩
 refine Ev.eq ?_;unfold l8;generalize hT:gI s d=T;generalize hB:(decide (0≤d∧d≤4)&&(gE s.write d&&cN 5 s.value d))=B;have hTB:T=(B&&decide (oZ 5 s.value≤12)):=by rw [←hT,←hB];unfold gI;simp only [Bool.and_assoc]
 refine Ev.jn (fun z=>z= !B) (fun j hj=>aI (fun h=>hj _ ?_) fun h0=>aI (fun h=>hj _ ?_) fun h4=>aB (qY (by omega) h.1 d) ?_) fun z hz=>?_
 ·rw [←hB,decide_eq_false (show¬(0≤d∧d≤4) by omega)];rfl
 ·rw [←hB,decide_eq_false (show¬(0≤d∧d≤4) by omega)];rfl
 ·rw [decide_eq_true (show 0≤d∧d≤4 by omega)] at hB;cases h2:gE s.write d with
  |false=>exact cF (hj _ (by rw [←hB,h2];rfl))
  |true=>exact bB (aB (sW d 5 n s.value (by omega) (by omega) h.2) (hj _ (by rw [←hB,h2];rfl)))
 subst hz;cases hb:B with
 |false=>exact Ev.some (by rw [hTB,hb];rfl)
 |true=>
  rw [hb] at hB;simp only [Bool.and_eq_true] at hB;refine bB (aB (sY (d:=d) 5 n s.value (by omega) (by omega) hB.2.2) (Ev.some ?_));rw [hTB,hb];rfl
def gA(ds:List Int):Bool:=decide (1≤ds.length∧ds.length≤2)&&ds.all fun d=>decide (1≤d∧d≤6)
def rN(list:List Arr)(i:Nat)(x:Arr):Bool:=match i with
 |0=>true
 |i+1=>match list[i]? with
  |some y=>Op.bytesLess y.name x.name
  |none=>false
def G9(list:List Arr)(i:Nat)(x:Arr):Bool:=lJ x.name&&(rN list i x&&gA x.dims)
def fB(list:List Arr):Bool:=zX (G9 list) list&&decide (list.length≤4)
def SmR(list:List Arr):Prop:=list.length≤1100000∧ ∀x∈list,x.dims.length≤1100000
theorem wZ{list:List Arr}{i:Nat}{x y:Arr}(h:list[i]? =some y):rN list (i+1) x=Op.bytesLess y.name x.name:=by simp only [rN,h]
theorem aE2(ds:List Int):(ds.any fun d=> !decide (1≤d∧d≤6))= !(ds.all fun d=>decide (1≤d∧d≤6)):=by rw [vAQ];simp
theorem E7{n:Nat}(hn:6600000≤n){list:List Arr}(h:SmR list):nS n list=some (fB list):=by
 obtain⟨h0,h1⟩:=h;refine Ev.eq ?_;unfold nS;refine iT (l:=list) (p:=G9 list) (by omega) (by omega) (fun again i x hx hgo hno=>?_) (fun again hall=>?_) (fun⟨i,x,hx,hp⟩=>?_)
 ·have hi:=(bR.1 hx).1;have hm:=h1 x (cM hx);rw [decide_eq_true (show(i:Int)<(list.length:Int) by omega)];have hd:bF n x.dims (fun q0=>dI n q0)=some (!(x.dims.all fun d=>decide (1≤d∧d≤6))):=by
   rw [←aE2];exact kG (fun d _=>by unfold dI;rw [cT];rfl) (by omega) (by omega)
  refine cF (aB (aR hx) (Ev.jn (fun z=>z= !G9 list i x) (fun j hj=>aB (tR n _) ?_) fun z hz=>?_))
  ·unfold G9 gA at hj;cases g1:lJ x.name with
   |false=>exact cF (hj _ (by rw [g1];rfl))
   |true=>
    rw [g1] at hj;refine bB ?_;rw [nR];have hlast:rN list i x=true→Ev (Option.bind (some (decide (1≤x.dims.length∧x.dims.length≤2))) fun x6=>bif !x6 then j true else Option.bind (bF n x.dims fun q0=>dI n q0) fun x7=>j x7) (fun r=>r=fB list):=by
     intro hp;rw [hp] at hj;show Ev (bif _ then _ else _) _;cases g2:decide (1≤x.dims.length∧x.dims.length≤2) with
     |false=>exact cF (hj _ (by rw [g2];rfl))
     |true=>exact bB (aB hd (hj _ (by rw [g2];rfl)))
    cases i with
    |zero=>exact aI (fun h=>absurd h (by decide)) (fun _=>hlast rfl)
    |succ i=>
     have hy:=cU (show i<list.length by omega);have e:wr (((i+1:Nat):Int)-1)=(i:Int):=by rw [aK (by omega)];omega
     rw [e];refine aI (fun _=>aB (aR hy) ?_) fun h=>absurd (show(0:Int)<((i+1:Nat):Int) by omega) h;have hpp:=wZ (x:=x) hy;cases g3:Op.bytesLess list[i].name x.name with
     |false=>exact cF (hj _ (by rw [hpp,g3];rfl))
     |true=>exact bB (hlast (by rw [hpp,g3]))
  subst hz;cases hb:G9 list i x with
  |true=>show Ev (again _) _;rw [aK (by omega)];exact hgo hb
  |false=>exact Ev.some (hno hb)
 ·rw [decide_eq_false (show¬(list.length:Int)<(list.length:Int) by omega)];refine Ev.some ?_;unfold fB;rw [mC hall,vAR];exact decide_eq_decide.2 (by omega)
 unfold fB;rw [jZ hx hp];rfl
theorem aD3(s:List UInt8):(!Op.bytesLess s [68]&& !s==[68])= !(Op.bytesLess s [68]||s==[68]):=by cases Op.bytesLess s [68]<;>cases (s==[68])<;>rfl
theorem E2{n:Nat}(hn:6600000≤n){list:List Arr}(h:SmR list):nI n list=some (fB list):=by
 obtain⟨h0,h1⟩:=h;refine Ev.eq ?_;unfold nI;refine iT (l:=list) (p:=G9 list) (by omega) (by omega) (fun again i x hx hgo hno=>?_) (fun again hall=>?_) (fun⟨i,x,hx,hp⟩=>?_)
 ·have hi:=(bR.1 hx).1;have hm:=h1 x (cM hx);rw [decide_eq_true (show(i:Int)<(list.length:Int) by omega)];refine cF (aB (aR hx) (Ev.jn (fun z=>z= !(lJ x.name&&(rN list i x&&decide (1≤x.dims.length∧x.dims.length≤2)))) (fun j hj=>?_) fun z hz=>?_))
  ·refine dB (fun hl=>hj _ ?_) fun hl=>?_
   ·rw [rQ (by omega)];rfl
   obtain⟨b,hb⟩:=aHx (show x.name.length=1 by omega);rw [aD3];have hless: ∀(y:Arr),Op.bytesLess y.name x.name=Op.bytesLess y.name [b]:=fun y=>by rw [hb]
   have hnm:lJ x.name=decide (65≤b.toNat∧b.toNat≤68):=by rw [hb];rfl
   have l1:Op.bytesLess x.name [65]=decide (b.toNat<65):=by rw [hb];exact zP b
   have l2:(Op.bytesLess x.name [68]||x.name==[68])=decide (b.toNat≤68):=by rw [hb];exact zO b
   rw [l1,l2];rw [hnm] at hj;refine aI (fun g1=>hj _ ?_) fun g1=>dB (fun g2=>hj _ ?_) fun g2=>?_
   ·rw [decide_eq_false (show¬(65≤b.toNat∧b.toNat≤68) by omega)];rfl
   ·rw [decide_eq_false (show¬(65≤b.toNat∧b.toNat≤68) by omega)];rfl
   rw [decide_eq_true (show 65≤b.toNat∧b.toNat≤68 by omega)] at hj;have hlast:rN list i x=true→Ev (bif decide ((x.dims.length:Int)<1) then j true else j (decide ((2:Int)<(x.dims.length:Int)))) (fun r=>r=fB list):=by
    intro hp;rw [hp] at hj;refine aI (fun h=>hj _ ?_) fun h=>hj _ ?_
    ·rw [decide_eq_false (show¬(1≤x.dims.length∧x.dims.length≤2) by omega)];rfl
    by_cases h2:x.dims.length≤2
    ·rw [decide_eq_false (show¬(2:Int)<(x.dims.length:Int) by omega),decide_eq_true (show 1≤x.dims.length∧x.dims.length≤2 by omega)];rfl
    rw [decide_eq_true (show(2:Int)<(x.dims.length:Int) by omega),decide_eq_false (show¬(1≤x.dims.length∧x.dims.length≤2) by omega)];rfl
   cases i with
   |zero=>exact aI (fun h=>absurd h (by decide)) (fun _=>hlast rfl)
   |succ i=>
    have hy:=cU (show i<list.length by omega);have e:wr (((i+1:Nat):Int)-1)=(i:Int):=by rw [aK (by omega)];omega
    rw [e];refine aI (fun _=>aB (aR hy) ?_) fun h=>absurd (show(0:Int)<((i+1:Nat):Int) by omega) h;have hpp:=wZ (x:=x) hy;cases g3:Op.bytesLess list[i].name x.name with
    |false=>exact cF (hj _ (by rw [hpp,g3];rfl))
    |true=>exact bB (hlast (by rw [hpp,g3]))
  subst hz;cases hb:(lJ x.name&&(rN list i x&&decide (1≤x.dims.length∧x.dims.length≤2))) with
  |false=>
   refine Ev.some (hno ?_);unfold G9 gA;rw [←vAW,←vAW];rw [←vAW] at hb;rw [hb];rfl
  |true=>
   have hap:G9 list i x=x.dims.all (fun d=>decide (1≤d∧d≤6)):=by
    unfold G9 gA;rw [←vAW,←vAW];rw [←vAW] at hb;rw [hb];rfl
   refine bB ?_;refine Ev.loop (fun y:Int=> ∃k:Nat,y=k∧k≤x.dims.length∧ ∀(t:Nat) d,t<k→x.dims[t]? =some d→decide (1≤d∧d≤6)=true) (fun y=>x.dims.length-y.toNat) ?_ n _ ⟨0,rfl,by omega,fun t d h=>by omega⟩ (by simp;omega);rintro again8 y ⟨k,rfl,hk,ha⟩ hr;refine aI (fun hlt=>?_) fun hge=>?_
   ·have hd:=cU (show k<x.dims.length by omega);have ek:wr ((k:Int)+1)=((k+1:Nat):Int):=by rw [aK (by omega)];omega
    refine Ev.jn (fun z=>z= !decide (1≤x.dims[k]∧x.dims[k]≤6)) (fun j hj=>aB (aR hd) (aI (fun h=>hj _ ?_) fun h=>hj _ ?_)) fun z hz=>?_
    ·rw [decide_eq_false (by omega)];rfl
    ·by_cases h6:x.dims[k]≤6
     ·rw [decide_eq_false (show¬(6:Int)<x.dims[k] by omega),decide_eq_true (show 1≤x.dims[k]∧x.dims[k]≤6 by omega)];rfl
     rw [decide_eq_true (show(6:Int)<x.dims[k] by omega),decide_eq_false (show¬(1≤x.dims[k]∧x.dims[k]≤6) by omega)];rfl
    subst hz;cases hb2:decide (1≤x.dims[k]∧x.dims[k]≤6) with
    |false=>
     refine Ev.some (hno ?_);rw [hap];exact T7.2 ⟨_,cM hd,by rw [hb2];simp⟩
    |true=>
     rw [ek];refine hr _ ⟨k+1,rfl,by omega,fun t d ht hd2=>?_⟩ (by omega);by_cases htk:t=k
     ·subst htk;rw [hd] at hd2;cases hd2;exact hb2
     exact ha t d (by omega) hd2
   have e:wr ((i:Int)+1)=(i:Int)+1:=aK (by omega);rw [e];refine hgo ?_;rw [hap];refine H2.2 fun d hd=>?_;obtain⟨t,ht⟩:=vAz hd
   have:=(bR.1 ht).1;exact ha t d (by omega) ht
 ·rw [decide_eq_false (show¬(list.length:Int)<(list.length:Int) by omega)];refine Ev.some ?_;unfold fB;rw [mC hall,vAR];exact decide_eq_decide.2 (by omega)
 unfold fB;rw [jZ hx hp];rfl
def E1:List Int→Int
 | []=>1
 |d::ds=>d*E1 ds
theorem aBa{ds:List Int}(h:gA ds=true):(∃a,ds=[a]∧1≤a∧a≤6)∨ ∃a b,ds=[a,b]∧(1≤a∧a≤6)∧1≤b∧b≤6:=by
 simp only [gA,Bool.and_eq_true,decide_eq_true_eq,List.all_eq_true] at h;obtain⟨⟨h1,h2⟩,h3⟩:=h
 match ds,h1,h2,h3 with
 | [a],_,_,h3=>exact .inl ⟨a,rfl,h3 a (by simp)⟩
 | [a,b],_,_,h3=>exact .inr ⟨a,b,rfl,h3 a (by simp),h3 b (by simp)⟩
theorem aIu{a b:Int}(ha:1≤a∧a≤6)(hb:1≤b∧b≤6):1≤a*b∧a*b≤36:=by
 constructor
 ·have:=vBi ha.1 hb.1 (by omega) (by omega);omega
 have:=vBi ha.2 hb.2 (by omega) (by omega);omega
theorem U0{ds:List Int}(h:gA ds=true):1≤E1 ds∧E1 ds≤36:=by
 rcases aBa h with ⟨a,rfl,h1⟩|⟨a,b,rfl,h1,h2⟩
 ·simp [E1];omega
 have:=aIu h1 h2;simp [E1];omega
theorem pB{n:Nat}(hn:6600000≤n){x:Arr}(h:gA x.dims=true):pC n x=some (E1 x.dims):=by
 obtain⟨n,rfl⟩: ∃j,n=j+3:=⟨n-3,by omega⟩
 unfold pC;rcases aBa h with ⟨a,e,h1⟩|⟨a,b,e,h1,h2⟩
 ·rw [e];have e1:wr a=a:=aK (by omega);simp [aO,ix,E1,e1,show wr 1=1 from aK (by omega)]
 rw [e]
 have:=aIu h1 h2;have e1:wr a=a:=aK (by omega);have e2:wr (a*b)=a*b:=aK (by omega);simp [aO,ix,E1,e1,e2,show wr 1=1 from aK (by omega),show wr 2=2 from aK (by omega)]
theorem aCG{n:Nat}(hn:6600000≤n){x:Arr}(h:gA x.dims=true):kF n x=some (E1 x.dims):=pB hn h
def lY:List Affine→List Int→List Int→Int→Int
 |s::ss,d::ds,p,acc=>if 0≤dS s p∧dS s p<d then lY ss ds p (acc*d+dS s p) else-1
 |_,_,_,acc=>acc
def cA:List Arr→Access→List Int→Int→Int
 | [],_,_,_=> -1
 |x::xs,a,p,base=>if x.name=a.array then(if a.subs.length=x.dims.length then(if lY a.subs x.dims p 0<0 then-1 else base+lY a.subs x.dims p 0) else-1) else cA xs a p (base+E1 x.dims)
def eK(xs:List Arr):Prop:= ∀x∈xs,gA x.dims=true
theorem aIC{ds:List Int}(hd:gA ds=true){ss:List Affine}(hl:ss.length=ds.length)(p:List Int):lY ss ds p 0= -1∨(0≤lY ss ds p 0∧lY ss ds p 0<E1 ds):=by
 rcases aBa hd with ⟨a,rfl,h1⟩|⟨a,b,rfl,h1,h2⟩
 ·match ss,hl with
  | [s],_=>
   simp only [lY,E1,Int.zero_mul,Int.zero_add,Int.mul_one];split<;>omega
 match ss,hl with
 | [s,t],_=>
  simp only [lY,E1,Int.zero_mul,Int.zero_add,Int.mul_one];split
  ·rename_i hs;split
   ·rename_i ht;refine .inr ⟨?_,?_⟩
    ·have:=vBd hs.1 (show 0≤b by omega);omega
    have:=Int.mul_le_mul_of_nonneg_right (show dS s p≤a-1 by omega) (show 0≤b by omega);rw [Int.sub_mul] at this;omega
   exact .inl rfl
  exact .inl rfl
def lC(xs:List Arr):Int:=(xs.map fun x=>E1 x.dims).sum
theorem yC: ∀{xs:List Arr},eK xs→ ∀(a:Access) (p:List Int) (base:Int),0≤base→cA xs a p base= -1∨(base≤cA xs a p base∧cA xs a p base<base+lC xs)
 | [],_,a,p,base,_=> .inl rfl
 |x::xs,hd,a,p,base,hb=>by
  have hx:=hd x (by simp);have hs:=U0 hx;have hxs:eK xs:=fun y hy=>hd y (by simp [hy]);have ht:0≤lC xs:=by
   have:=mL (fun x:Arr=>E1 x.dims) xs fun y hy=>(U0 (hxs y hy)).1;unfold lC;omega
  have e:lC (x::xs)=E1 x.dims+lC xs:=by simp [lC]
  rw [e];simp only [cA];split
  ·split
   ·rename_i hl;rcases aIC hx hl p with h|h
    ·rw [if_pos (by omega)];exact .inl rfl
    rw [if_neg (by omega)];exact .inr ⟨by omega,by omega⟩
   exact .inl rfl
  rcases yC hxs a p (base+E1 x.dims) (by omega) with h|h
  ·exact .inl h
  exact .inr ⟨by omega,by omega⟩
theorem aE3{a:Access}{d:Int}(h:gE a d=true):1≤a.subs.length∧a.subs.length≤2∧ ∀x∈a.subs,eM x=true:=by
 simp only [gE,Bool.and_eq_true,decide_eq_true_eq,List.all_eq_true] at h;refine⟨h.2.2.1,h.2.2.2,fun x hx=>?_⟩
 have:=h.1 x hx;simp only [bH,Bool.and_eq_true] at this;exact this.1
theorem jE{α:Type}{l:List α}{i:Nat}{x:α}(h:l[i]? =some x):l.drop i=x::l.drop (i+1):=by obtain⟨h1,h2⟩:=bR.1 h;rw [List.drop_eq_getElem_cons h1,h2]
theorem Z4{a d v:Int}(ha:0≤a∧a≤36)(hd:1≤d∧d≤6)(hv:0≤v∧v<d):0≤a*d∧a*d≤216∧0≤a*d+v:=by have h1:=vBd ha.1 (show 0≤d by omega);have h2:=vBi ha.2 hd.2 (by omega) (by omega);omega
theorem aEh{n:Nat}(hn:6600000≤n){a:Access}(h1:a.subs.length≤2)(h2: ∀x∈a.subs,eM x=true){ds:List Int}(hd:gA ds=true)(hl:a.subs.length=ds.length){k:Nat}{p:List Int}(hp:jM k p)(base:Int)(hb:0≤base∧base≤500000000):
  aO (fun again8 ((x6,x7):Int×Int)=>bif decide (x7<(a.subs.length:Int)) then(Option.bind (ix a.subs x7) fun x9=>Option.bind (bQ n x9 p) fun x10=>Option.bind (ix ds x7) fun x11=>Option.bind (bO n x10 0 (wr (x11-1))) fun x12=>bif !x12 then(some (-1)) else(again8 (wr ((wr (x6*x11))+x10),wr (x7+1)))) else(some (wr (base+x6)))) n (0,0)
   =some (if lY a.subs ds p 0<0 then-1 else base+lY a.subs ds p 0):=by
 have hdm: ∀d∈ds,1≤d∧d≤6:=by
  simp only [gA,Bool.and_eq_true,decide_eq_true_eq,List.all_eq_true] at hd;exact fun d h=>hd.2 d h
 refine Ev.eq ?_;refine Ev.loop (fun x:Int×Int=> ∃i:Nat,x.2=i∧i≤a.subs.length∧0≤x.1∧x.1≤36*i∧(i=0→x.1=0)∧(i=1→x.1≤5)∧lY a.subs ds p 0=lY (a.subs.drop i) (ds.drop i) p x.1) (fun x=>a.subs.length-x.2.toNat) ?_ n _ ⟨0,rfl,by omega,by simp,by simp,fun _=>rfl,fun h=>by omega,rfl⟩ (by simp;omega);rintro again ⟨x,z⟩ ⟨i,hz,hi,hx0,hx1,hx2,hx3,hx⟩ hr;dsimp only at hz hx0 hx1 hx2 hx3 hx⊢;subst hz;refine aI (fun hlt=>?_) fun hge=>Ev.some ?_
 ·have hs:=cU (show i<a.subs.length by omega);have hdd:=cU (show i<ds.length by omega);have hdb:=hdm _ (cM hdd);have ew:wr (ds[i]-1)=ds[i]-1:=aK (by omega);rw [jE hs,jE hdd] at hx;simp only [lY] at hx;refine aB (aR hs) (aB (aCI (by omega) (h2 _ (cM hs)) hp) (aB (aR hdd) (aB (cT _ _ _ _) ?_)));rw [ew];by_cases hc:0≤dS a.subs[i] p∧dS a.subs[i] p<ds[i]
  ·rw [if_pos hc] at hx;rw [decide_eq_true (show 0≤dS a.subs[i] p∧dS a.subs[i] p≤ds[i]-1 by omega)];obtain⟨g1,g2,g3⟩:=Z4 (a:=x) (by omega) hdb hc;refine bB ?_;rw [aK (n:=x*ds[i]) (by omega),aK (n:=x*ds[i]+dS a.subs[i] p) (by omega),aK (by omega)];have hi01:i=0∨i=1:=by omega
   refine hr _ ⟨i+1,by dsimp only;omega,by omega,by dsimp only;omega,?_,fun h=>by omega,fun h=>?_,hx⟩ (by dsimp only;omega)
   ·dsimp only;rcases hi01 with rfl|rfl
    ·rw [hx2 rfl];omega
    have:=hx3 rfl
    have:=vBi this hdb.2 (by omega) (by omega);omega
   dsimp only
   have:i=0:=by omega
   subst this;rw [hx2 rfl];omega
  rw [if_neg hc] at hx;rw [decide_eq_false (show¬(0≤dS a.subs[i] p∧dS a.subs[i] p≤ds[i]-1) by omega)];refine cF (Ev.some ?_);rw [hx];rfl
 have hie:i=a.subs.length:=by omega
 have hdr:lY (a.subs.drop i) (ds.drop i) p x=x:=by
  rw [hie,vBo];unfold lY;rfl
 rw [hdr] at hx;rw [hx,if_neg (by omega),aK (by omega)]
theorem aDQ{n:Nat}(hn:6600000≤n){a:Access}(h0:1≤a.subs.length)(h1:a.subs.length≤2)(h2: ∀x∈a.subs,eM x=true){ds:List Int}(hd:gA ds=true){k:Nat}{p:List Int}(hp:jM k p)(base:Int)(hb:0≤base∧base≤500000000):
  aO (fun again8 ((x6,x7):Int×Int)=>bif decide (x7<(a.subs.length:Int)) then(bif !decide ((a.subs.length:Int)=(ds.length:Int)) then(some (-1)) else(Option.bind (ix a.subs x7) fun x9=>Option.bind (eV n x9 p) fun x10=>jn (fun(x13:Bool)=>bif x13 then(some (-1)) else(Option.bind (ix ds x7) fun x14=>again8 (wr ((wr (x6*x14))+x10),wr (x7+1)))) fun j11=>bif decide (x10<0) then(j11 true) else(Option.bind (ix ds x7) fun x12=>j11 (decide (x12≤x10))))) else(some (wr (base+x6)))) n (0,0)
   =some (if a.subs.length=ds.length then(if lY a.subs ds p 0<0 then-1 else base+lY a.subs ds p 0) else-1):=by
 by_cases hl:a.subs.length=ds.length
 ·rw [if_pos hl];rw [decide_eq_true (show(a.subs.length:Int)=(ds.length:Int) by omega)];have hdm: ∀d∈ds,1≤d∧d≤6:=by
   simp only [gA,Bool.and_eq_true,decide_eq_true_eq,List.all_eq_true] at hd;exact fun d h=>hd.2 d h
  refine Ev.eq ?_;refine Ev.loop (fun x:Int×Int=> ∃i:Nat,x.2=i∧i≤a.subs.length∧0≤x.1∧x.1≤36*i∧(i=0→x.1=0)∧(i=1→x.1≤5)∧lY a.subs ds p 0=lY (a.subs.drop i) (ds.drop i) p x.1) (fun x=>a.subs.length-x.2.toNat) ?_ n _ ⟨0,rfl,by omega,by simp,by simp,fun _=>rfl,fun h=>by omega,rfl⟩ (by simp;omega);rintro again ⟨x,z⟩ ⟨i,hz,hi,hx0,hx1,hx2,hx3,hx⟩ hr;dsimp only at hz hx0 hx1 hx2 hx3 hx⊢;subst hz;refine aI (fun hlt=>?_) fun hge=>Ev.some ?_
  ·have hs:=cU (show i<a.subs.length by omega);have hdd:=cU (show i<ds.length by omega);have hdb:=hdm _ (cM hdd);rw [jE hs,jE hdd] at hx;simp only [lY] at hx;refine bB (aB (aR hs) (aB (aCw (by omega) (h2 _ (cM hs)) hp) (Ev.jn (fun z=>z= !decide (0≤dS a.subs[i] p∧dS a.subs[i] p<ds[i])) (fun j hj=>aI (fun h=>hj _ ?_) fun h=>aB (aR hdd) (hj _ ?_)) fun z hz=>?_)))
   ·rw [decide_eq_false (by omega)];rfl
   ·by_cases hc:ds[i]≤dS a.subs[i] p
    ·rw [decide_eq_true hc,decide_eq_false (by omega)];rfl
    rw [decide_eq_false hc,decide_eq_true (by omega)];rfl
   subst hz;by_cases hc:0≤dS a.subs[i] p∧dS a.subs[i] p<ds[i]
   ·rw [if_pos hc] at hx;rw [decide_eq_true hc];obtain⟨g1,g2,g3⟩:=Z4 (a:=x) (by omega) hdb hc;refine bB (aB (aR hdd) ?_);rw [aK (n:=x*ds[i]) (by omega),aK (n:=x*ds[i]+dS a.subs[i] p) (by omega),aK (by omega)];have hi01:i=0∨i=1:=by omega
    refine hr _ ⟨i+1,by dsimp only;omega,by omega,by dsimp only;omega,?_,fun h=>by omega,fun h=>?_,hx⟩ (by dsimp only;omega)
    ·dsimp only;rcases hi01 with rfl|rfl
     ·rw [hx2 rfl];omega
     have:=hx3 rfl
     have:=vBi this hdb.2 (by omega) (by omega);omega
    dsimp only
    have:i=0:=by omega
    subst this;rw [hx2 rfl];omega
   rw [if_neg hc] at hx;rw [decide_eq_false hc];refine cF (Ev.some ?_);rw [hx];rfl
  have hie:i=a.subs.length:=by omega
  have hdr:lY (a.subs.drop i) (ds.drop i) p x=x:=by
   rw [hie,vBo];unfold lY;rfl
  rw [hdr] at hx;rw [hx,if_neg (by omega),aK (by omega)]
 rw [if_neg hl,decide_eq_false (show¬(a.subs.length:Int)=(ds.length:Int) by omega)];obtain⟨n,rfl⟩: ∃j,n=j+1:=⟨n-1,by omega⟩
 simp only [aO];rw [decide_eq_true (show(0:Int)<(a.subs.length:Int) by omega)];rfl
theorem qP{n:Nat}(hn:6600000≤n){p:Prog}(hl:p.arrays.length≤4)(hd:eK p.arrays){a:Access}{d:Int}(ha:gE a d=true){k:Nat}{q:List Int}(hq:jM k q):cY n p a q=some (cA p.arrays a q 0):=by
 obtain⟨a0,a1,a2⟩:=aE3 ha;refine Ev.eq ?_;unfold cY;refine Ev.loop (fun x:Int×Int=> ∃i:Nat,x.2=i∧i≤p.arrays.length∧0≤x.1∧x.1≤36*i∧cA p.arrays a q 0=cA (p.arrays.drop i) a q x.1) (fun x=>p.arrays.length-x.2.toNat) ?_ n _ ⟨0,rfl,by omega,by simp,by simp,rfl⟩ (by simp;omega);rintro again ⟨x,z⟩ ⟨i,hz,hi,hx0,hx1,hx⟩ hr;dsimp only at hz hx0 hx1 hx⊢;subst hz;refine aI (fun hlt=>?_) fun hge=>Ev.some ?_
 ·have hy:=cU (show i<p.arrays.length by omega);have hdy:=hd _ (cM hy);have hsz:=U0 hdy;rw [jE hy] at hx;simp only [cA] at hx;refine aB (aR hy) (dB (fun hne=>?_) fun he=>?_)
  ·rw [if_neg hne] at hx;refine aB (aCG hn hdy) ?_;rw [aK (n:=x+E1 p.arrays[i].dims) (by omega),aK (by omega)];exact hr _ ⟨i+1,by dsimp only;omega,by omega,by dsimp only;omega,by dsimp only;omega,hx⟩ (by dsimp only;omega)
  rw [if_pos he] at hx;refine dB (fun hne=>Ev.some ?_) fun hle=>?_
  ·rw [hx,if_neg (by omega)]
  have hle':a.subs.length=p.arrays[i].dims.length:=by omega
  rw [if_pos hle'] at hx;exact Ev.of (aEh hn a1 a2 hdy hle' hq x (by omega)) hx.symm
 have hie:i=p.arrays.length:=by omega
 rw [hx,hie,vBo];rfl
theorem qF{n:Nat}(hn:6600000≤n){list:List Arr}(hl:list.length≤4)(hd:eK list){a:Access}{d:Int}(ha:gE a d=true){k:Nat}{q:List Int}(hq:jM k q):lF n list a q=some (cA list a q 0):=by
 obtain⟨a0,a1,a2⟩:=aE3 ha;refine Ev.eq ?_;unfold lF;refine Ev.loop (fun x:Int×Int=> ∃i:Nat,x.2=i∧i≤list.length∧0≤x.1∧x.1≤36*i∧cA list a q 0=cA (list.drop i) a q x.1) (fun x=>list.length-x.2.toNat) ?_ n _ ⟨0,rfl,by omega,by simp,by simp,rfl⟩ (by simp;omega);rintro again ⟨x,z⟩ ⟨i,hz,hi,hx0,hx1,hx⟩ hr;dsimp only at hz hx0 hx1 hx⊢;subst hz;refine aI (fun hlt=>?_) fun hge=>Ev.some ?_
 ·have hy:=cU (show i<list.length by omega);have hdy:=hd _ (cM hy);have hsz:=U0 hdy;rw [jE hy] at hx;simp only [cA] at hx;refine aB (aR hy) (dB (fun hne=>?_) fun he=>?_)
  ·rw [if_neg hne] at hx;refine aB (pB hn hdy) ?_;rw [aK (n:=x+E1 list[i].dims) (by omega),aK (by omega)];exact hr _ ⟨i+1,by dsimp only;omega,by omega,by dsimp only;omega,by dsimp only;omega,hx⟩ (by dsimp only;omega)
  rw [if_pos he] at hx;exact Ev.of (aDQ hn a0 a1 a2 hdy hq x (by omega)) hx.symm
 have hie:i=list.length:=by omega
 rw [hx,hie,vBo];rfl
def bM:Nat→Expr→List Access
 |0,_=>[]
 |L+1,e=>(if e.kind=3 then [e.read] else [])++e.kids.flatMap (bM L)
theorem mZ{d:Int}: ∀{L:Nat} {e:Expr},cN L e d=true→ ∀a∈bM L e,gE a d=true
 |0,e,h,a,ha=>by cases h
 |L+1,e,h,a,ha=>by
  obtain⟨h1,h2,h3⟩:=jU h;simp only [bM,List.mem_append,List.mem_flatMap] at ha;rcases ha with ha|⟨k,hk,ha⟩
  ·split at ha
   ·rename_i hk3;simp at ha;subst ha;unfold fO at h2;rw [if_neg (by omega),if_pos hk3] at h2;simp only [Bool.and_eq_true] at h2;exact h2.2.2
   simp at ha
  exact mZ (h3 k hk) a ha
theorem qJ: ∀(L:Nat) (e:Expr),((bM L e).length:Int)≤oZ L e
 |0,e=>by simp [bM,oZ]
 |L+1,e=>by
  have h: ∀(l:List Expr),((l.flatMap (bM L)).length:Int)≤(l.map (oZ L)).sum:=by
   intro l;induction l with
   |nil=>simp
   |cons k l ih=>
    have:=qJ L k;simp only [List.flatMap_cons,List.length_append,List.map_cons,List.sum_cons];omega
  have:=h e.kids;simp only [bM,oZ,List.length_append];split
  ·rw [List.length_singleton];omega
  rw [List.length_nil];omega
theorem zY{d:Int}: ∀(L n:Nat) (e:Expr),6600000+L≤n→L≤5→cN L e d=true→i_reads (n+1) e=some (bM L e)
 |0,n,e,_,_,h=>by cases h
 |L+1,n,e,hn,hL,h=>by
  obtain⟨h1,h2,h3⟩:=jU h;have hk2:=tK e.kind;unfold i_reads;refine Ev.eq (aI (fun h3k=>Ev.some ?_) fun hn3=>?_)
  ·have:e.kids=[]:=by
    have hz:eJ e.kind=0:=by unfold eJ;rw [if_pos (Or.inr (Or.inr h3k))]
    exact vAw (by omega)
   simp [bM,h3k,this]
  obtain⟨n,rfl⟩: ∃j,n=j+1:=⟨n-1,by omega⟩
  have hcb: ∀k∈e.kids,((bM L k).length:Int)≤100:=fun k hk=>by
   have h5:=Q3 (h3 k hk);have h6:(2:Int)^L≤40:=by
    match L,hL with
    |0,_=>decide
    |1,_=>decide
    |2,_=>decide
    |3,_=>decide
    |4,_=>decide
   have:=qJ L k;omega
  refine Ev.loop (fun x:List Access×Int=> ∃i:Nat,x.2=i∧i≤e.kids.length∧x.1=(e.kids.take i).flatMap (bM L)∧(x.1.length:Int)≤100*i) (fun x=>e.kids.length-x.2.toNat) ?_ (n+1) _ ⟨0,rfl,by omega,by simp,by simp⟩ (by simp;omega);rintro again ⟨x,k⟩ ⟨i,hk,hi,hx,hxl⟩ hr;dsimp only at hk hx hxl⊢;subst hk;refine aI (fun hlt=>?_) fun hge=>Ev.some ?_
  ·have hk3:=cU (show i<e.kids.length by omega);have hm:=cM hk3;have hb:=hcb _ hm;refine aB (aR hk3) (aB (zY (d:=d) L n _ (by omega) (by omega) (h3 _ hm)) (aB (lU (by omega)) ?_));rw [aK (by omega)];refine hr _ ⟨i+1,by dsimp only;omega,by omega,?_,by dsimp only;rw [o2];omega⟩ (by dsimp only;omega);dsimp only;rw [vAH,hk3,vAY,hx];simp
  have:i=e.kids.length:=by omega
  rw [hx,this,D3];simp [bM,hn3]
theorem aBb(n:Nat){a:Affine}(h:a.coefs.length≤1100000):gJ n a=some a:=by
 unfold gJ;refine Ev.eq (aI (fun h0=>Ev.some ?_) fun h0=>aB (jH _ h) (Ev.some rfl));obtain⟨cs,c⟩:=a
 have:cs=[]:=vAw (by simpa using h0);subst this;rfl
theorem aBc{n:Nat}(hn:5500000≤n){a:Access}(h:xO a.subs):gK n a=some a:=by
 obtain⟨h0,h1⟩:=h;refine Ev.eq ?_;unfold gK;refine Ev.loop (fun x:List Affine×Int=> ∃i:Nat,x.2=i∧i≤a.subs.length∧x.1=a.subs.take i) (fun x=>a.subs.length-x.2.toNat) ?_ n _ ⟨0,rfl,by omega,by simp⟩ (by simp;omega);rintro again ⟨x,k⟩ ⟨i,hk,hi,hx⟩ hr;dsimp only at hk hx⊢;subst hk;refine aI (fun hlt=>?_) fun hge=>Ev.some ?_
 ·have hs:=cU (show i<a.subs.length by omega);have hl:x.length=i:=by rw [hx,H1];omega
  refine aB (aR hs) (aB (aBb n (h1 _ (cM hs))) (aB (lU (by simp;omega)) ?_));rw [aK (by omega)];refine hr _ ⟨i+1,by dsimp only;omega,by omega,?_⟩ (by dsimp only;omega);dsimp only;rw [vAH,hs,hx];rfl
 have:i=a.subs.length:=by omega
 rw [hx,this,D3]
theorem aGB{l:List Affine}(h1:l.length≤2)(h2: ∀a∈l,eM a=true):xO l:=⟨by omega,fun a ha=>by have:=(uN (h2 a ha)).1;unfold SmA;omega⟩
theorem yW{d:Int}: ∀(L n:Nat) (e:Expr) (out:List Access),6600000+L≤n→L≤5→cN L e d=true→(out.length:Int)≤1100000+200*(6-(L:Int))→s_l3Reads (n+1) out e=some (out++bM L e)
 |0,n,e,out,_,_,h,_=>by cases h
 |L+1,n,e,out,hn,hL,h,ho=>by
  obtain⟨h1,h2,h3⟩:=jU h;have hk2:=tK e.kind;unfold s_l3Reads;refine Ev.eq (Ev.jn (fun z=>z=out++(if e.kind=3 then [e.read] else [])) (fun j hj=>aI (fun h3k=>?_) fun hn3=>hj _ (by rw [if_neg hn3];simp)) fun z hz=>?_)
  ·have ha:=mZ h e.read (by simp [bM,h3k]);obtain⟨_,b1,b2⟩:=aE3 ha;exact aB (aBc (by omega) (aGB b1 b2)) (aB (lU (by simp;omega)) (hj _ (by rw [if_pos h3k])))
  subst hz;obtain⟨n,rfl⟩: ∃j,n=j+1:=⟨n-1,by omega⟩
  by_cases h3k:e.kind=3
  ·have hnil:e.kids=[]:=by
    have hz:eJ e.kind=0:=by unfold eJ;rw [if_pos (Or.inr (Or.inr h3k))]
    exact vAw (by omega)
   rw [hnil];refine Ev.some ?_;simp [bM,h3k,hnil]
  have hcb: ∀k∈e.kids,((bM L k).length:Int)≤100:=fun k hk=>by
   have h5:=Q3 (h3 k hk);have h6:(2:Int)^L≤40:=by
    match L,hL with
    |0,_=>decide
    |1,_=>decide
    |2,_=>decide
    |3,_=>decide
    |4,_=>decide
   have:=qJ L k;omega
  rw [if_neg h3k,vBx];refine Ev.loop (fun x:List Access×Int=> ∃i:Nat,x.2=i∧i≤e.kids.length∧x.1=out++(e.kids.take i).flatMap (bM L)∧(x.1.length:Int)≤out.length+100*i) (fun x=>e.kids.length-x.2.toNat) ?_ (n+1) _ ⟨0,rfl,by omega,by simp,by simp⟩ (by simp;omega);rintro again ⟨x,k⟩ ⟨i,hk,hi,hx,hxl⟩ hr;dsimp only at hk hx hxl⊢;subst hk;refine aI (fun hlt=>?_) fun hge=>Ev.some ?_
  ·have hk3:=cU (show i<e.kids.length by omega);have hm:=cM hk3;have hb:=hcb _ hm;refine aB (aR hk3) (aB (yW (d:=d) L n _ x (by omega) (by omega) (h3 _ hm) (by omega)) ?_);rw [aK (by omega)];refine hr _ ⟨i+1,by dsimp only;omega,by omega,?_,by dsimp only;rw [o2];omega⟩ (by dsimp only;omega);dsimp only;rw [vAH,hk3,vAY,hx];simp
  have:i=e.kids.length:=by omega
  rw [hx,this,D3];simp [bM,h3k]
theorem aDW{nest:List Loop}(hf:Fit nest): ∀(ls:List Loop) (k:Nat) (p q:List Int),nest.drop k=ls→k≤nest.length→jM k p→q∈pts ls p→jM nest.length q
 | [],k,p,q,hd,hk,hp,hq=>by
  have:=tW hd hk;simp only [pts,List.mem_singleton] at hq;subst hq;subst this;exact hp
 |l::ls,k,p,q,hd,hk,hp,hq=>by obtain⟨d1,d2,d3⟩:=qS hd;obtain⟨s1,s2⟩:=hf.2 k l d1;have hf1:=hf.1;simp only [pts,List.mem_flatMap] at hq;obtain⟨v,hv,hq⟩:=hq;exact aDW hf ls (k+1) _ q d2 (by omega) (tC s1 s2 hp (by omega) (aBQ.1 hv)) hq
theorem aBD{nest:List Loop}{ps:List (List Int)}(h:NP nest=some ps):Fit nest∧ps.length≤120∧(∀q∈ps,jM nest.length q)∧ps=pts nest []∧wk nest []≤1200:=by
 unfold NP at h;split at h
 ·rename_i hc;cases h;have hf:=wD hc.1;exact⟨hf,hc.2.2,fun q hq=>aDW hf nest 0 [] q rfl (by omega) pt0 hq,rfl,hc.2.1⟩
 cases h
def cC(list:List Arr)(s:Stmt)(q:List Int):Bool:=decide (0≤cA list s.write q 0)&&(bM 5 s.value).all fun a=>decide (0≤cA list a q 0)
theorem yT{s:Stmt}{d:Int}(h:gI s d=true):gE s.write d=true∧cN 5 s.value d=true∧(∀a∈bM 5 s.value,gE a d=true)∧(bM 5 s.value).length≤12:=by
 simp only [gI,Bool.and_eq_true,decide_eq_true_eq] at h;obtain⟨_,h1,h2,h3⟩:=h
 have:=qJ 5 s.value;exact⟨h1,h2,mZ h2,by omega⟩
theorem V9{n:Nat}(hn:7700000≤n){p:Prog}(hl:p.arrays.length≤4)(hd:eK p.arrays){s:Stmt}{d:Int}(hs:gI s d=true){k:Nat}{q:List Int}(hq:jM k q):fI n p s q=some (cC p.arrays s q):=by
 obtain⟨h1,h2,h3,h4⟩:=yT hs;obtain⟨n,rfl⟩: ∃j,n=j+1:=⟨n-1,by omega⟩
 refine Ev.eq ?_;unfold fI;generalize hT:cC p.arrays s q=T;unfold cC at hT;refine Ev.jn (fun z=>z=T) (fun j hj=>aB (qP (by omega) hl hd h1 hq) (aI (fun h=>?_) fun h=>hj _ ?_)) fun z hz=>Ev.some hz
 ·have hc:=xK (n:=n+1) (f:=fun q0=>cX (n+1) q0 p q) (p:=fun a=>decide (cA p.arrays a q 0<0)) (l:=bM 5 s.value)
   (fun a ha=>by unfold cX;rw [qP (by omega) hl hd (h3 a ha) hq];rfl) (by omega) (by omega)
  refine aB (zY (d:=d) 5 n s.value (by omega) (by omega) h2) (aB hc (hj _ ?_));rw [←hT,decide_eq_true h,vAR,vAQ];congr 1;apply congrArg fun f=>List.any (bM 5 s.value) f;funext a;rw [ltd]
 rw [←hT,decide_eq_false h];rfl
theorem N3{n:Nat}(hn:7700000≤n){list:List Arr}(hl:list.length≤4)(hd:eK list){s:Stmt}{d:Int}(hs:gI s d=true){k:Nat}{q:List Int}(hq:jM k q):
  qE n list s q=some (if cC list s q=true then((bM 5 s.value).map fun a=>cA list a q 0,cA list s.write q 0,true) else([],0,false)):=by
 obtain⟨h1,h2,h3,h4⟩:=yT hs;obtain⟨n,rfl⟩: ∃j,n=j+1:=⟨n-1,by omega⟩
 refine Ev.eq ?_;unfold qE;refine aB (yW (d:=d) 5 n s.value [] (by omega) (by omega) h2 (by simp)) ?_;rw [List.nil_append];generalize hR:bM 5 s.value=R at*;have hco:cC list s q=(decide (0≤cA list s.write q 0)&&R.all fun a=>decide (0≤cA list a q 0)):=by unfold cC;rw [hR]
 refine Ev.loop (fun x:List Int×Int=> ∃i:Nat,x.2=i∧i≤R.length∧x.1=(R.take i).map (fun a=>cA list a q 0)∧ ∀(t:Nat) a,t<i→R[t]? =some a→0≤cA list a q 0) (fun x=>R.length-x.2.toNat) ?_ (n+1) _ ⟨0,rfl,by omega,by simp,fun t a h=>by omega⟩ (by dsimp only;omega);rintro again ⟨x,z⟩ ⟨i,hz,hi,hx,ha⟩ hr;dsimp only at hz hx ha⊢;subst hz;refine aI (fun hlt=>?_) fun hge=>?_
 ·have hg:=cU (show i<R.length by omega);have hm:=cM hg;refine aB (aR hg) (aB (qF (by omega) hl hd (h3 _ hm) hq) (aI (fun hneg=>Ev.some ?_) fun hpos=>?_))
  ·rw [if_neg];rw [hco];intro h;rw [Bool.and_eq_true] at h
   have:=H2.1 h.2 _ hm;rw [decide_eq_true_eq] at this;omega
  have hl2:x.length≤12:=by rw [hx,vAN,H1];omega
  refine aB (lU (by simp;omega)) ?_;rw [aK (by omega)];refine hr _ ⟨i+1,by dsimp only;omega,by omega,?_,fun t a ht hta=>?_⟩ (by dsimp only;omega)
  ·dsimp only;rw [vAH,hg,vBf,hx];rfl
  by_cases hti:t=i
  ·subst hti;rw [hg] at hta;cases hta;omega
  exact ha t a (by omega) hta
 have hie:i=R.length:=by omega
 have hall:R.all (fun a=>decide (0≤cA list a q 0))=true:=H2.2 (fun a hm=>by
  obtain⟨t,ht⟩:=vAz hm
  have:=(bR.1 ht).1;exact decide_eq_true (ha t a (by omega) ht))
 rw [hco,hall,Bool.and_true];refine aB (qF (by omega) hl hd h1 hq) (aI (fun hneg=>Ev.some ?_) fun hpos=>Ev.some ?_)
 ·rw [if_neg (by rw [decide_eq_true_eq];omega)]
 rw [if_pos (by rw [decide_eq_true_eq];omega),hx,hie,D3]
def D4(q:List Int):Bool:=decide (q.length≤4)&&q.all fun x=>decide (-9999≤x∧x≤9999)
theorem tQ{n:Nat}(hn:5500000≤n){q:List Int}(h:q.length≤1100000):m5 n q=some (D4 q):=by
 unfold m5 D4;have hc:=kG (n:=n) (f:=fun q0=>jB n q0) (p:=fun x=> !decide (-9999≤x∧x≤9999)) (l:=q) (fun x _=>by unfold jB;rw [cT];rfl) (by omega) (by omega);simp only [jn,Option.bind];rw [hc];have e:(q.any fun x=> !decide (-9999≤x∧x≤9999))= !(q.all fun x=>decide (-9999≤x∧x≤9999)):=by rw [vAQ];simp
 rw [e,show decide ((q.length:Int)≤4)=decide (q.length≤4) from decide_eq_decide.2 (by omega)];cases decide (q.length≤4)<;>simp
theorem sZ{n:Nat}(hn:5500000≤n){q:List Int}(h:q.length≤1100000):mW n q=some (D4 q):=by
 refine Ev.eq ?_;unfold mW;refine iT (l:=q) (p:=fun _ x=>decide (-9999≤x∧x≤9999)) (by omega) (by omega) (fun again i x hx hgo hno=>?_) (fun again hall=>?_) (fun⟨i,x,hx,hp⟩=>?_)
 ·have hi:=(bR.1 hx).1;rw [decide_eq_true (show(i:Int)<(q.length:Int) by omega)];refine cF (aB (aR hx) (aB (pA n x 9999 (by omega)) ?_));cases hp:decide (-9999≤x∧x≤9999) with
  |true=>show Ev (again _) _;rw [aK (by omega)];exact hgo hp
  |false=>exact Ev.some (hno hp)
 ·rw [decide_eq_false (show¬(q.length:Int)<(q.length:Int) by omega)];refine Ev.some ?_;unfold D4;rw [H2.2 (fun c hc=>by obtain⟨i,hi⟩:=vAz hc;exact hall i c hi),Bool.and_true];exact decide_eq_decide.2 (by omega)
 unfold D4;rw [T7.2 ⟨x,cM hx,by rw [hp];simp⟩,Bool.and_false]
theorem Z3{α:Type}(p q:α→Bool): ∀l:List α,(l.all p&&l.all q)=l.all (fun x=>p x&&q x)
 | []=>rfl
 |x::l=>by simp only [List.all_cons,←Z3 p q l];cases p x<;>cases q x<;>cases l.all p<;>cases l.all q<;>rfl
def uK(part:Part):Bool:=decide (1≤part.body.length∧part.body.length≤4)&&part.body.all fun s=>gI s (part.nest.length:Int)
def eH(part:Part):List (List Int):=(NP part.nest).getD []
def cK(list:List Arr)(part:Part):Bool:=(NP part.nest).isSome&&(uK part&&part.body.all fun s=>(eH part).all fun q=>cC list s q&&D4 q)
def aE4(x:Part):Prop:=SmN x.nest∧x.body.length≤1100000∧ ∀s∈x.body,SmS s
def SmP(p:Prog):Prop:=SmR p.arrays∧p.parts.length≤1100000∧ ∀x∈p.parts,aE4 x
theorem tE{list:List Arr}{x:Part}(h:cK list x=true):NP x.nest=some (eH x)∧(1≤x.body.length∧x.body.length≤4)∧(∀s∈x.body,gI s (x.nest.length:Int)=true)∧ ∀s∈x.body,∀q∈eH x,cC list s q=true∧D4 q=true:=by
 simp only [cK,uK,Bool.and_eq_true,decide_eq_true_eq,List.all_eq_true] at h;refine⟨?_,h.2.1.1,h.2.1.2,h.2.2⟩;unfold eH;cases hn:NP x.nest with
 |none=>rw [hn] at h;simp at h
 |some ps=>rfl
theorem aBw{list:List Arr}(h:fB list=true):list.length≤4∧eK list:=by
 simp only [fB,Bool.and_eq_true,decide_eq_true_eq] at h;refine⟨h.2,fun x hx=>?_⟩;obtain⟨i,hi⟩:=vAz hx
 have:=zW h.1 hi;simp only [G9,Bool.and_eq_true] at this;exact this.2.2
theorem U4{n:Nat}(hn:7700000≤n){list:List Arr}(hl:list.length≤4)(hd:eK list){x:Part}(hx:aE4 x):
  sV n list x=some (if cK list x=true then(((eH x).length:Int)*(x.body.length:Int),true) else(0,false)):=by
 obtain⟨h1,h2,h3⟩:=hx;refine Ev.eq ?_;unfold sV;generalize hT:(if cK list x=true then(((eH x).length:Int)*(x.body.length:Int),true) else((0:Int),false))=T;refine aB (xF (by omega) h1) ?_;have hbad:cK list x=false→((0:Int),false)=T:=fun h=>by rw [←hT,h];rfl
 refine Ev.jn (fun z=>z= !((NP x.nest).isSome&&decide (1≤x.body.length∧x.body.length≤4))) (fun j hj=>?_) fun z hz=>?_
 ·cases hN:NP x.nest with
  |none=>exact cF (hj _ (by rw [hN];rfl))
  |some ps=>
   refine bB (aI (fun h=>hj _ ?_) fun h=>hj _ ?_)
   ·rw [hN,decide_eq_false (by omega)];rfl
   rw [hN];by_cases h4:x.body.length≤4
   ·rw [decide_eq_false (show¬(4:Int)<(x.body.length:Int) by omega),decide_eq_true (by omega)];rfl
   rw [decide_eq_true (show(4:Int)<(x.body.length:Int) by omega),decide_eq_false (by omega)];rfl
 subst hz;cases hN:NP x.nest with
 |none=>exact Ev.some (hbad (by unfold cK;rw [hN];rfl))
 |some ps=>
  obtain⟨hf,hp1,hp2,hp3,hp4⟩:=aBD hN;have hpp:eH x=ps:=by unfold eH;rw [hN];rfl
  by_cases hb:1≤x.body.length∧x.body.length≤4
  ·rw [decide_eq_true hb];refine bB ?_;have hok:cK list x=x.body.all (fun s=>gI s (x.nest.length:Int)&&ps.all fun q=>cC list s q&&D4 q):=by
    unfold cK uK;rw [hN,hpp,decide_eq_true hb,Option.isSome_some,vAR,vAR];exact Z3 _ _ _
   refine Ev.loop (fun y:Int=> ∃i:Nat,y=i∧i≤x.body.length∧ ∀(t:Nat) s,t<i→x.body[t]? =some s→(gI s (x.nest.length:Int)&&ps.all fun q=>cC list s q&&D4 q)=true) (fun y=>x.body.length-y.toNat) ?_ n _ ⟨0,rfl,by omega,fun t s h=>by omega⟩ (by simp;omega);rintro again y ⟨i,rfl,hi,ha⟩ hr;refine aI (fun hlt=>?_) fun hge=>Ev.some ?_
   ·have hg:=cU (show i<x.body.length by omega);have hm:=cM hg;refine aB (aR hg) (aB (yX (by omega) (h3 _ hm) _) ?_);cases hsv:gI x.body[i] (x.nest.length:Int) with
    |false=>
     refine cF (Ev.some (hbad ?_));rw [hok];exact T7.2 ⟨_,hm,by rw [hsv];simp⟩
    |true=>
     refine bB ?_;show Ev (aO (fun again9 (x8:Int)=>bif decide (x8<(ps.length:Int)) then _ else _) n 0) _;refine Ev.loop (fun y:Int=> ∃k:Nat,y=k∧k≤ps.length∧ ∀(t:Nat) q,t<k→ps[t]? =some q→(cC list x.body[i] q&&D4 q)=true) (fun y=>ps.length-y.toNat) ?_ n _ ⟨0,rfl,by omega,fun t s h=>by omega⟩ (by simp;omega);rintro again9 y ⟨k,rfl,hk,hak⟩ hr9;refine aI (fun hlt9=>?_) fun hge9=>?_
     ·have hgk:=cU (show k<ps.length by omega);have hmk:=cM hgk;have hq:=hp2 _ hmk;have hql:ps[k].length≤1100000:=by have:=hq.1;have:=hq.2.1;omega
      refine aB (aR hgk) (aB (N3 (by omega) hl hd hsv hq) (Ev.jn (fun z=>z= !(cC list x.body[i] ps[k]&&D4 ps[k])) (fun j hj=>?_) fun z hz=>?_))
      ·cases hc:cC list x.body[i] ps[k] with
       |false=>
        rw [hc] at hj;exact cF (hj _ rfl)
       |true=>
        rw [hc] at hj;exact bB (aB (sZ (by omega) hql) (hj _ rfl))
      subst hz;cases hc:(cC list x.body[i] ps[k]&&D4 ps[k]) with
      |false=>
       refine Ev.some (hbad ?_);rw [hok];refine T7.2 ⟨_,hm,?_⟩;rw [hsv,vAR];rw [T7.2 ⟨_,hmk,by rw [hc];simp⟩];simp
      |true=>
       show Ev (again9 _) _;rw [aK (by omega)];refine hr9 _ ⟨k+1,by omega,by omega,fun t q ht htq=>?_⟩ (by omega);by_cases htk:t=k
       ·subst htk;rw [hgk] at htq;cases htq;exact hc
       exact hak t q (by omega) htq
     rw [aK (by omega)];refine hr _ ⟨i+1,by omega,by omega,fun t s ht hts=>?_⟩ (by omega);by_cases hti:t=i
     ·subst hti;rw [hg] at hts;cases hts;rw [hsv,vAR];refine H2.2 fun q hq=>?_;obtain⟨t',ht'⟩:=vAz hq
      have:=(bR.1 ht').1;exact hak t' q (by omega) ht'
     exact ha t s (by omega) hts
   have hall:cK list x=true:=by
    rw [hok];refine H2.2 fun s hs=>?_;obtain⟨t,ht⟩:=vAz hs
    have:=(bR.1 ht).1;exact ha t s (by omega) ht
   rw [←hT,hall,if_pos rfl,hpp];show(wr ((ps.length:Int)*(x.body.length:Int)),true)=_;have hb1:(0:Int)≤(ps.length:Int)*(x.body.length:Int):=vBd (by omega) (by omega);have hb2:(ps.length:Int)*(x.body.length:Int)≤120*4:=vBi (by omega) (by omega) (by omega) (by omega);rw [aK (by omega)]
  rw [decide_eq_false hb];refine Ev.some (hbad ?_);unfold cK uK;rw [decide_eq_false hb];simp
def dW(x:Part):Int:=((eH x).length:Int)*(x.body.length:Int)
def instP(i:Nat)(x:Part):List Inst:=(eH x).flatMap fun q=>(List.range x.body.length).map fun(k:Nat)=>(⟨(i:Int),(k:Int),q⟩:Inst)
def insts(ps:List Part):List Inst:=ps.zipIdx.flatMap fun y=>instP y.2 y.1
def oU(p:Prog):Bool:=fB p.arrays&&(decide (p.parts.length≤4)&&p.parts.all (cK p.arrays))
def jO(p:Prog):Bool:=oU p&&decide ((p.parts.map dW).sum≤120)
theorem insts_snoc(l:List Part)(x:Part):insts (l++[x])=insts l++instP l.length x:=by unfold insts;rw [List.zipIdx_append,vAY];simp
theorem insts_take{l:List Part}{i:Nat}{x:Part}(h:l[i]? =some x):insts (l.take (i+1))=insts (l.take i)++instP i x:=by have hi:=(bR.1 h).1;rw [vAH,h];show insts (l.take i++[x])=_;rw [insts_snoc,H1,Nat.min_eq_left (Nat.le_of_lt hi)]
theorem A1{α β:Type}(f:α→List β)(m:Nat)(h: ∀x,(f x).length=m): ∀l:List α,(l.flatMap f).length=l.length*m
 | []=>by simp
 |x::l=>by rw [List.flatMap_cons,o2,h,A1 f m h l,List.length_cons,lB];omega
theorem instP_len(i:Nat)(x:Part):((instP i x).length:Int)=dW x:=by unfold instP dW;rw [A1 _ x.body.length fun q=>by simp];exact Int.natCast_mul _ _
theorem U1{l:List Part}{i:Nat}{x:Part}(h:l[i]? =some x):((l.take (i+1)).map dW).sum=((l.take i).map dW).sum+dW x:=by rw [vAH,h];simp
theorem insts_len: ∀(l:List Part) (i:Nat),i≤l.length→((insts (l.take i)).length:Int)=((l.take i).map dW).sum
 |l,0,_=>by simp [insts]
 |l,i+1,h=>by
  have hg:=cU (show i<l.length by omega);rw [insts_take hg,o2,U1 hg]
  have:=insts_len l i (by omega)
  have:=instP_len i l[i];omega
theorem insts_len'(l:List Part):((insts l).length:Int)=(l.map dW).sum:=by
 have:=insts_len l l.length (jS _)
 rwa [D3] at this
theorem K9{list:List Arr}{x:Part}(h:cK list x=true):0≤dW x∧dW x≤480:=by
 obtain⟨h1,h2,_⟩:=tE h;obtain⟨_,h3,_⟩:=aBD h1;unfold dW;refine⟨vBd (by omega) (by omega),?_⟩
 have:=vBi (show((eH x).length:Int)≤120 by omega) (show(x.body.length:Int)≤4 by omega) (by omega) (by omega);omega
theorem s5{n:Nat}(hn:7700000≤n){p:Prog}(hp:SmP p):gL n p=some (jO p):=by
 obtain⟨h1,h2,h3⟩:=hp;refine Ev.eq ?_;unfold gL;generalize hT:jO p=T;unfold jO oU at hT;refine Ev.jn (fun z=>z= !(fB p.arrays&&decide (p.parts.length≤4))) (fun j hj=>aB (E2 (by omega) h1) ?_) fun z hz=>?_
 ·cases ha:fB p.arrays with
  |false=>exact cF (hj _ (by rw [ha];rfl))
  |true=>
   refine bB (hj _ ?_);rw [ha];by_cases h4:p.parts.length≤4
   ·rw [decide_eq_false (show¬(4:Int)<(p.parts.length:Int) by omega),decide_eq_true h4];rfl
   rw [decide_eq_true (show(4:Int)<(p.parts.length:Int) by omega),decide_eq_false h4];rfl
 subst hz;cases hb:(fB p.arrays&&decide (p.parts.length≤4)) with
 |false=>
  refine Ev.some ?_;rw [←hT,←vAW,hb];rfl
 |true=>
  have hT':T=(p.parts.all (cK p.arrays)&&decide ((p.parts.map dW).sum≤120)):=by rw [←hT,←vAW,hb];rfl
  rw [Bool.and_eq_true,decide_eq_true_eq] at hb;obtain⟨hl,hd⟩:=aBw hb.1;refine bB ?_;refine Ev.loop (fun x:Int×Int=> ∃i:Nat,x.2=i∧i≤p.parts.length∧x.1=((p.parts.take i).map dW).sum∧0≤x.1∧x.1≤480*i∧ ∀(t:Nat) y,t<i→p.parts[t]? =some y→cK p.arrays y=true) (fun x=>p.parts.length-x.2.toNat) ?_ n _ ⟨0,rfl,by omega,by simp,by simp,by simp,fun t y h=>by omega⟩ (by dsimp only;omega);rintro again ⟨x,z⟩ ⟨i,hz,hi,hx,hx0,hx1,ha⟩ hr;dsimp only at hz hx hx0 hx1 ha⊢;subst hz;refine aI (fun hlt=>?_) fun hge=>Ev.some ?_
  ·have hg:=cU (show i<p.parts.length by omega);have hm:=cM hg;refine aB (aR hg) (aB (U4 (by omega) hl hd (h3 _ hm)) ?_);cases hpo:cK p.arrays p.parts[i] with
   |false=>
    rw [if_neg (by simp)];refine Ev.some ?_;rw [hT',T7.2 ⟨_,hm,by rw [hpo];simp⟩];rfl
   |true=>
    rw [if_pos rfl];have hcb:=K9 hpo;show Ev (again (wr (x+dW p.parts[i]),wr ((i:Int)+1))) _;rw [aK (n:=x+dW p.parts[i]) (by omega),aK (by omega)];refine hr _ ⟨i+1,by dsimp only;omega,by omega,by dsimp only;rw [U1 hg];omega,by dsimp only;omega,by dsimp only;omega,fun t y ht hty=>?_⟩ (by dsimp only;omega);by_cases hti:t=i
    ·subst hti;rw [hg] at hty;cases hty;exact hpo
    exact ha t y (by omega) hty
  have hie:i=p.parts.length:=by omega
  have hall:p.parts.all (cK p.arrays)=true:=H2.2 (fun y hy=>by
   obtain⟨t,ht⟩:=vAz hy
   have:=(bR.1 ht).1;exact ha t y (by omega) ht)
  rw [hT',hall,vAR,hx,hie,D3]
theorem zB{α:Type}(f:Nat→α)(k:Nat):(List.range (k+1)).map f=(List.range k).map f++[f k]:=by rw [List.range_succ,vBf];rfl
theorem zZ{n:Nat}(hn:7700000≤n){p:Prog}(hp:SmP p):dQ n p=some (if oU p=true then(insts p.parts,decide ((insts p.parts).length≤120)) else([],false)):=by
 obtain⟨h1,h2,h3⟩:=hp;refine Ev.eq ?_;unfold dQ;generalize hT:(if oU p=true then(insts p.parts,decide ((insts p.parts).length≤120)) else([],false))=T;have hbad:oU p=false→(([]:List Inst),false)=T:=fun h=>by rw [←hT,h];rfl
 refine Ev.jn (fun z=>z= !(fB p.arrays&&decide (p.parts.length≤4))) (fun j hj=>aB (E7 (by omega) h1) ?_) fun z hz=>?_
 ·cases ha:fB p.arrays with
  |false=>exact cF (hj _ (by rw [ha];rfl))
  |true=>
   refine bB (hj _ ?_);rw [ha];by_cases h4:p.parts.length≤4
   ·rw [decide_eq_false (show¬(4:Int)<(p.parts.length:Int) by omega),decide_eq_true h4];rfl
   rw [decide_eq_true (show(4:Int)<(p.parts.length:Int) by omega),decide_eq_false h4];rfl
 subst hz;cases hb:(fB p.arrays&&decide (p.parts.length≤4)) with
 |false=>exact Ev.some (hbad (by unfold oU;rw [←vAW,hb];rfl))
 |true=>
  have hall':oU p=p.parts.all (cK p.arrays):=by unfold oU;rw [←vAW,hb];rfl
  rw [Bool.and_eq_true,decide_eq_true_eq] at hb;obtain⟨hl,hd⟩:=aBw hb.1;refine bB ?_;refine Ev.loop (fun x:List Inst×Int=> ∃i:Nat,x.2=i∧i≤p.parts.length∧x.1=insts (p.parts.take i)∧x.1.length≤480*i∧ ∀(t:Nat) y,t<i→p.parts[t]? =some y→cK p.arrays y=true) (fun x=>p.parts.length-x.2.toNat) ?_ n _ ⟨0,rfl,by omega,by simp [insts],by simp,fun t y h=>by omega⟩ (by dsimp only;omega);rintro again ⟨x,z⟩ ⟨i,hz,hi,hx,hxl,ha⟩ hr;dsimp only at hz hx hxl ha⊢;subst hz;refine aI (fun hlt=>?_) fun hge=>Ev.some ?_
  ·have hg:=cU (show i<p.parts.length by omega);have hm:=cM hg;obtain⟨s1,s2,s3⟩:=h3 _ hm;generalize hP:p.parts[i]=P at*;have hpb:cK p.arrays P=false→oU p=false:=fun h=>by rw [hall'];exact T7.2 ⟨_,hm,by rw [h];simp⟩
   refine aB (aR hg) (aB (xJ (by omega) s1) (Ev.jn (fun z=>z= !((NP P.nest).isSome&&uK P)) (fun j hj=>?_) fun z hz=>?_))
   ·cases hN:NP P.nest with
    |none=>exact cF (hj _ (by rw [hN];rfl))
    |some ps=>
     refine bB ?_;have hw:bO n (P.body.length:Int) 1 4=some (decide (1≤P.body.length∧P.body.length≤4)):=by
      rw [cT];congr 1;exact decide_eq_decide.2 (by omega)
     refine aB hw ?_;have hc:=F0 (n:=n) (f:=fun q0=>b9 n q0 P) (p:=fun s=> !gI s (P.nest.length:Int)) (l:=P.body) (fun s hs=>by unfold b9;rw [z8 (by omega) (s3 s hs)];rfl) (by omega) (by omega);have e:(P.body.any fun s=> !gI s (P.nest.length:Int))= !(P.body.all fun s=>gI s (P.nest.length:Int)):=by rw [vAQ];simp
     cases hw2:decide (1≤P.body.length∧P.body.length≤4) with
     |false=>exact cF (hj _ (by unfold uK;rw [hN,hw2];rfl))
     |true=>exact bB (aB hc (hj _ (by unfold uK;rw [hN,hw2,e];rfl)))
   subst hz;cases hN:NP P.nest with
   |none=>exact Ev.some (hbad (hpb (by unfold cK;rw [hN];rfl)))
   |some ps=>
    obtain⟨hf,hp1,hp2,hp3,hp4⟩:=aBD hN;have hpp:eH P=ps:=by unfold eH;rw [hN];rfl
    cases hbv:uK P with
    |false=>exact Ev.some (hbad (hpb (by unfold cK;rw [hbv];simp)))
    |true=>
     have hbv':=hbv;simp only [uK,Bool.and_eq_true,decide_eq_true_eq,List.all_eq_true] at hbv';obtain⟨⟨hb1,hb2⟩,hb3⟩:=hbv';have hok:cK p.arrays P=P.body.all (fun s=>ps.all fun q=>cC p.arrays s q&&D4 q):=by
      unfold cK;rw [hN,hbv,hpp];rfl
     let row:List Int→List Inst:=fun q=>(List.range P.body.length).map fun(k:Nat)=>(⟨(i:Int),(k:Int),q⟩:Inst)
     have hrl: ∀q,(row q).length=P.body.length:=fun q=>by simp [row]
     have hinst:instP i P=ps.flatMap row:=by unfold instP;rw [hpp]
     refine bB ?_;rw [show(aA8 (some ps)).1=ps from rfl];refine Ev.loop (fun y:List Inst×Int=> ∃k:Nat,y.2=k∧k≤ps.length∧y.1=x++(ps.take k).flatMap row∧ ∀(t:Nat) q,t<k→ps[t]? =some q→D4 q=true∧ ∀s∈P.body,cC p.arrays s q=true) (fun y=>ps.length-y.2.toNat) ?_ n _ ⟨0,rfl,by omega,by simp,fun t q h=>by omega⟩ (by dsimp only;omega);rintro again17 ⟨y,z⟩ ⟨k,hz,hk,hy,hak⟩ hr17;dsimp only at hz hy hak⊢;subst hz;refine aI (fun hlt2=>?_) fun hge2=>?_
     ·have hgk:=cU (show k<ps.length by omega);have hmk:=cM hgk;generalize hQ:ps[k]=Q at*;have hq:=hp2 _ hmk;have hql:Q.length≤4:=by have:=hq.1;have:=hq.2.1;omega
      refine aB (aR hgk) (aB (tQ (by omega) (by omega)) ?_);have hyl:y.length≤480*4+480:=by
       rw [hy,o2,A1 row _ hrl,H1]
       have:min k ps.length*P.body.length≤120*4:=Nat.mul_le_mul (by omega) hb2;omega
      cases hpv:D4 Q with
      |false=>
       refine cF (Ev.some (hbad (hpb ?_)));rw [hok];obtain⟨s0,hs0⟩: ∃s0,s0∈P.body:=List.exists_mem_of_length_pos (by omega);refine T7.2 ⟨s0,hs0,?_⟩;rw [T7.2 ⟨Q,hmk,by rw [hpv];simp⟩];simp
      |true=>
       refine bB ?_;refine Ev.loop (fun u:List Inst×Int=> ∃m:Nat,u.2=m∧m≤P.body.length∧u.1=y++(List.range m).map (fun(k:Nat)=>(⟨(i:Int),(k:Int),Q⟩:Inst))∧ ∀(t:Nat) s,t<m→P.body[t]? =some s→cC p.arrays s Q=true) (fun u=>P.body.length-u.2.toNat) ?_ n _ ⟨0,rfl,by omega,by simp,fun t s h=>by omega⟩ (by dsimp only;omega);rintro again23 ⟨u,z⟩ ⟨m,hz,hmm,hu,ham⟩ hr23;dsimp only at hz hu ham⊢;subst hz;refine aI (fun hlt3=>?_) fun hge3=>?_
       ·have hgm:=cU (show m<P.body.length by omega);have hmem:=cM hgm;refine aB (aR hgm) (aB (V9 (by omega) hl hd (hb3 _ hmem) hq) ?_);cases hco:cC p.arrays P.body[m] Q with
        |false=>
         refine cF (Ev.some (hbad (hpb ?_)));rw [hok];refine T7.2 ⟨_,hmem,?_⟩;rw [T7.2 ⟨Q,hmk,by rw [hco];simp⟩];simp
        |true=>
         have hcl:m_ownClone Q=some Q:=by unfold m_ownClone;rw [if_pos (by omega)]
         have hul:u.length≤480*4+480+4:=by rw [hu];simp;omega
         refine bB (aB hcl (aB (lU (by simp;omega)) ?_));rw [aK (by omega)];refine hr23 _ ⟨m+1,by dsimp only;omega,by omega,?_,fun t s ht hts=>?_⟩ (by dsimp only;omega)
         ·dsimp only;rw [hu,zB,vBa]
         by_cases htm:t=m
         ·subst htm;rw [hgm] at hts;cases hts;exact hco
         exact ham t s (by omega) hts
       have hme:m=P.body.length:=by omega
       rw [aK (by omega)];refine hr17 _ ⟨k+1,by dsimp only;omega,by omega,?_,fun t q ht htq=>?_⟩ (by dsimp only;omega)
       ·dsimp only;rw [vAH,hgk,vAY,←vBa,←hy,hu,hme];simp [row]
       by_cases htk:t=k
       ·subst htk;rw [hgk] at htq;cases htq;refine⟨hpv,fun s hs=>?_⟩;obtain⟨t',ht'⟩:=vAz hs
        have:=(bR.1 ht').1;exact ham t' s (by omega) ht'
       exact hak t q (by omega) htq
     have hke:k=ps.length:=by omega
     have hpo:cK p.arrays P=true:=by
      rw [hok];refine H2.2 fun s hs=>H2.2 fun q hq=>?_;obtain⟨t,ht⟩:=vAz hq
      have:=(bR.1 ht).1;obtain⟨g1,g2⟩:=hak t q (by omega) ht;rw [g1,g2 s hs];rfl
     have hcb:=K9 hpo;have hil:=instP_len i P;rw [aK (by omega)];refine hr _ ⟨i+1,by dsimp only;omega,by omega,?_,?_,fun t y ht hty=>?_⟩ (by dsimp only;omega)
     ·dsimp only;rw [insts_take hg,hinst,hy,hke,D3,hx]
     ·dsimp only;rw [hy,hke,D3,o2,←hinst];omega
     by_cases hti:t=i
     ·subst hti;rw [hg] at hty;cases hty;exact hpo
     exact ha t y (by omega) hty
  have hie:i=p.parts.length:=by omega
  have hall:oU p=true:=by
   rw [hall'];exact H2.2 (fun y hy=>by
    obtain⟨t,ht⟩:=vAz hy
    have:=(bR.1 ht).1;exact ha t y (by omega) ht)
  rw [←hT,if_pos hall,hx,hie,D3];congr 1;exact decide_eq_decide.2 (by omega)
theorem tS{n:Nat}(hn:7700000≤n){p:Prog}(hp:SmP p):gT n p=some (jO p):=by
 unfold gT;rw [zZ hn hp];unfold jO;cases h:oU p with
 |false=>rfl
 |true=>
  rw [if_pos rfl];show some (decide _)=_;rw [vAR];congr 1
  have:=insts_len' p.parts;exact decide_eq_decide.2 (by omega)
theorem vR{p:Prog}(h:jO p=true):p.arrays.length≤4∧eK p.arrays∧p.parts.length≤4∧(∀x∈p.parts,cK p.arrays x=true)∧(insts p.parts).length≤120:=by
 simp only [jO,oU,Bool.and_eq_true,decide_eq_true_eq,List.all_eq_true] at h;obtain⟨⟨h1,h2,h3⟩,h4⟩:=h;obtain⟨a,b⟩:=aBw h1
 have:=insts_len' p.parts;exact⟨a,b,h2,h3,by omega⟩
theorem aAx{l:List Arr}{i:Nat}{x:Arr}(h:l[i]? =some x):lC (l.take (i+1))=lC (l.take i)+E1 x.dims:=by unfold lC;rw [List.take_add_one,h];simp
theorem yV{n:Nat}(hn:7700000≤n){p:Prog}(hl:p.arrays.length≤4)(hd:eK p.arrays):qD n p=some (lC p.arrays):=by
 refine Ev.eq ?_;unfold qD;refine Ev.loop (fun x:Int×Int=> ∃i:Nat,x.2=i∧i≤p.arrays.length∧x.1=lC (p.arrays.take i)∧0≤x.1∧x.1≤36*i) (fun x=>p.arrays.length-x.2.toNat) ?_ n _ ⟨0,rfl,by omega,by simp [lC],by simp,by simp⟩ (by dsimp only;omega);rintro again ⟨x,z⟩ ⟨i,hz,hi,hx,hx0,hx1⟩ hr;dsimp only at hz hx hx0 hx1⊢;subst hz;refine aI (fun hlt=>?_) fun hge=>Ev.some ?_
 ·have hg:=cU (show i<p.arrays.length by omega);have hdm:=hd _ (cM hg);have hsz:=U0 hdm;refine aB (aR hg) (aB (pB (by omega) hdm) ?_);rw [aK (n:=x+E1 p.arrays[i].dims) (by omega),aK (by omega)];exact hr _ ⟨i+1,by dsimp only;omega,by omega,by dsimp only;rw [aAx hg];omega,by dsimp only;omega,by dsimp only;omega⟩ (by dsimp only;omega)
 have hie:i=p.arrays.length:=by omega
 rw [hx,hie,D3]
theorem aAR{n:Nat}(hn:7700000≤n){p:Prog}(hl:p.arrays.length≤4)(hd:eK p.arrays):jK n p=some (lC p.arrays):=yV hn hl hd
def rU(p:Prog)(m:List Int):Bool:=jO p&&(decide ((m.length:Int)=lC p.arrays)&&m.all fun x=>decide (0≤x∧x≤999))
theorem wA{n:Nat}(hn:7700000≤n){p:Prog}(hp:SmP p){m:List Int}(hm:m.length≤1100000):iO n p m=some (rU p m):=by
 refine Ev.eq ?_;unfold iO;generalize hT:rU p m=T;unfold rU at hT;refine Ev.jn (fun z=>z=T) (fun j hj=>aB (tS hn hp) ?_) fun z hz=>Ev.some hz;cases hv:jO p with
 |false=>exact bB (hj _ (by rw [←hT,hv];rfl))
 |true=>
  obtain⟨hl,hd,_⟩:=vR hv;have hc:=kG (n:=n) (f:=fun q0=>d7 n q0) (p:=fun x=> !decide (0≤x∧x≤999)) (l:=m) (fun x _=>by unfold d7;rw [cT];rfl) (by omega) (by omega);have e:(m.any fun x=> !decide (0≤x∧x≤999))= !(m.all fun x=>decide (0≤x∧x≤999)):=by rw [vAQ];simp
  refine cF (aB (aAR hn hl hd) (aI (fun h=>aB hc (hj _ ?_)) fun h=>hj _ ?_))
  ·rw [←hT,hv,decide_eq_true h,e];simp
  rw [←hT,hv,decide_eq_false h];rfl
theorem vN{n:Nat}(hn:7700000≤n){p:Prog}(hp:SmP p){m:List Int}(hm:m.length≤1100000):iM n p m=some (rU p m):=by
 refine Ev.eq ?_;unfold iM;generalize hT:rU p m=T;unfold rU at hT;refine iT (l:=m) (p:=fun _ x=>decide (0≤x∧x≤999)) (by omega) (by omega) (fun again i x hx hgo hno=>?_) (fun again hall=>?_) (fun⟨i,x,hx,hp⟩=>?_)
 ·have hi:=(bR.1 hx).1;rw [decide_eq_true (show(i:Int)<(m.length:Int) by omega)];refine cF (Ev.jn (fun z=>z= !decide (0≤x∧x≤999)) (fun j hj=>aB (aR hx) (aI (fun h=>hj _ ?_) fun h=>hj _ ?_)) fun z hz=>?_)
  ·rw [decide_eq_false (by omega)];rfl
  ·by_cases h9:x≤999
   ·rw [decide_eq_false (show¬(999:Int)<x by omega),decide_eq_true (by omega)];rfl
   rw [decide_eq_true (show(999:Int)<x by omega),decide_eq_false (by omega)];rfl
  subst hz;cases hb:decide (0≤x∧x≤999) with
  |true=>show Ev (again _) _;rw [aK (by omega)];exact hgo hb
  |false=>exact Ev.some (hno hb)
 ·rw [decide_eq_false (show¬(m.length:Int)<(m.length:Int) by omega)];have hal:m.all (fun x=>decide (0≤x∧x≤999))=true:=H2.2 fun c hc=>by obtain⟨i,hi⟩:=vAz hc;exact hall i c hi
  refine bB (Ev.jn (fun z=>z=T) (fun j hj=>aB (s5 hn hp) ?_) fun z hz=>Ev.some hz);cases hv:jO p with
  |false=>exact bB (hj _ (by rw [←hT,hv];rfl))
  |true=>
   obtain⟨hl,hd,_⟩:=vR hv;refine cF (aB (yV hn hl hd) (hj _ ?_));rw [←hT,hv,hal];simp
 rw [←hT,T7.2 ⟨x,cM hx,by rw [hp];simp⟩];simp
theorem sS(x:Int):Int.tmod x 1000=if 0≤x then x%1000 else-((-x)%1000):=by
 split
 ·rename_i h;exact Int.tmod_eq_emod_of_nonneg h
 rename_i h;have h2:0≤ -x:=by omega
 have e1:Int.tmod x 1000= -(Int.tmod (-x) 1000):=by rw [Int.neg_tmod,Int.neg_neg]
 rw [e1,Int.tmod_eq_emod_of_nonneg h2]
theorem mD(n:Nat)(x:Int):lM n x=some (x%1000):=by
 unfold lM;rw [sS x];congr 1;split
 ·rw [aK (n:=x%1000+999) (by omega),aK (by omega),sS,if_pos (by omega)];omega
 rw [aK (n:= -(-x%1000)+999) (by omega),aK (by omega),sS,if_pos (by omega)];omega
theorem qC(n:Nat)(x:Int):lD n x=some (x%1000):=by
 unfold lD;rw [sS x];refine Ev.eq (aI (fun h=>Ev.some ?_) fun h=>Ev.some ?_)
 ·split at h
  ·omega
  rename_i h0;rw [if_neg h0,aK (n:= -(-x%1000)+999) (by omega),aK (by omega)];omega
 split at h
 ·rename_i h0;rw [if_pos h0]
 rename_i h0;rw [if_neg h0];omega
def sN:Nat→List Arr→List Int→Expr→List Int→Int
 |0,_,_,_,_=>0
 |L+1,list,m,e,q=>
  if e.kind=1 then e.num
  else if e.kind=2 then dS e.index q%1000
  else if e.kind=3 then m.getD (cA list e.read q 0).toNat 0
  else match e.kids with
   | [a,b]=>if e.kind=4 then(sN L list m a q+sN L list m b q)%1000 else if e.kind=5 then(sN L list m a q-sN L list m b q)%1000 else(sN L list m a q*sN L list m b q)%1000
   |_=>0
def q9(list:List Arr)(m:List Int):Prop:=(m.length:Int)=lC list∧ ∀x∈m,0≤x∧x≤999
theorem aHE{list:List Arr}{m:List Int}(h:q9 list m)(i:Nat):0≤m.getD i 0∧m.getD i 0≤999:=by
 rw [vAP];cases hi:m[i]? with
 |none=>simp
 |some x=>exact h.2 x (cM hi)
theorem yM{list:List Arr}{m:List Int}(hm:q9 list m){d:Int}{q:List Int}: ∀{L:Nat} {e:Expr},cN L e d=true→0≤sN L list m e q∧sN L list m e q≤999
 |0,e,h=>by cases h
 |L+1,e,h=>by
  obtain⟨h1,h2,h3⟩:=jU h;simp only [sN];split
  ·rename_i k1;unfold fO at h2;rw [if_neg (by omega),if_neg (by omega),if_pos k1] at h2;simp only [Bool.and_eq_true,decide_eq_true_eq] at h2;omega
  split
  ·omega
  split
  ·exact aHE hm _
  split
  ·split
   ·omega
   split<;>omega
  omega
theorem T4{a b:Int}(ha:0≤a∧a≤999)(hb:0≤b∧b≤999):0≤a*b∧a*b≤999000:=by
 constructor
 ·exact vBd ha.1 hb.1
 have:=vBi ha.2 hb.2 (by omega) (by omega);omega
theorem V5{L:Nat}{e:Expr}{d:Int}(h:cN (L+1) e d=true)(k1: ¬e.kind=1)(k2: ¬e.kind=2)(k3: ¬e.kind=3):(e.kind=4∨e.kind=5∨e.kind=6)∧ ∃a b,e.kids=[a,b]:=by
 obtain⟨h1,_,_⟩:=jU h;unfold eJ at h1;rw [if_neg (by omega)] at h1;split at h1
 ·rename_i hk;refine⟨hk,?_⟩
  have:e.kids.length=2:=by omega
  match hq:e.kids,this with
  | [a,b],_=>exact⟨a,b,rfl⟩
 omega
theorem rV{p:Prog}(hl:p.arrays.length≤4)(hd:eK p.arrays){m:List Int}(hm:q9 p.arrays m){d:Int}{k:Nat}{q:List Int}(hq:jM k q): ∀(L n:Nat) (e:Expr),7700000+L≤n→cN L e d=true→(∀a∈bM L e,0≤cA p.arrays a q 0)→
  i_Program_value (n+1) p m e q=some (sN L p.arrays m e q)
 |0,n,e,_,h,_=>by cases h
 |L+1,n,e,hn,h,hr=>by
  obtain⟨h1,h2,h3⟩:=jU h;unfold i_Program_value;refine Ev.eq ?_;simp only [sN];refine aI (fun k1=>Ev.some (by rw [if_pos k1])) fun k1=>?_;rw [if_neg k1];refine aI (fun k2=>?_) fun k2=>?_
  ·rw [if_pos k2];unfold fO at h2;rw [if_pos k2] at h2;simp only [Bool.and_eq_true,bH] at h2;have ha:=h2.2.2.1;exact aB (aCI (by omega) ha hq) (aB (mD _ _) (Ev.some rfl))
  rw [if_neg k2];refine aI (fun k3=>?_) fun k3=>?_
  ·rw [if_pos k3];have hmem:e.read∈bM (L+1) e:=by simp [bM,k3]
   have ha:=mZ h _ hmem;have hc0:=hr _ hmem;rcases yC hd e.read q 0 (yO 0) with hc|hc
   ·omega
   have hlt:(cA p.arrays e.read q 0).toNat<m.length:=by have:=hm.1;omega
   have hg:=cU hlt;have hix:ix m (cA p.arrays e.read q 0)=some m[(cA p.arrays e.read q 0).toNat]:=by
    unfold ix;rw [if_pos hc0,hg]
   refine aB (qP (by omega) hl hd ha hq) (aB hix (Ev.some ?_));rw [vAP,hg];rfl
  rw [if_neg k3];obtain⟨hk,a,b,hab⟩:=V5 h k1 k2 k3;obtain⟨n,rfl⟩: ∃j,n=j+1:=⟨n-1,by omega⟩
  have hsa:=h3 a (by rw [hab];simp);have hsb:=h3 b (by rw [hab];simp);have va:=rV hl hd hm hq L n a (by omega) hsa fun x hx=>hr x (by simp only [bM,List.mem_append,List.mem_flatMap];exact .inr ⟨a,by rw [hab];simp,hx⟩);have vb:=rV hl hd hm hq L n b (by omega) hsb fun x hx=>hr x (by simp only [bM,List.mem_append,List.mem_flatMap];exact .inr ⟨b,by rw [hab];simp,hx⟩);have ba:=yM hm (q:=q) hsa;have bb:=yM hm (q:=q) hsb;have bm:=T4 ba bb;rw [hab];refine aB (x:=a) rfl (aB va (aB (x:=b) rfl (aB vb ?_)));dsimp only;refine aI (fun k4=>?_) fun k4=>?_
  ·rw [if_pos k4,aK (by omega)];exact aB (mD _ _) (Ev.some rfl)
  rw [if_neg k4];refine aI (fun k5=>?_) fun k5=>?_
  ·rw [if_pos k5,aK (by omega)];exact aB (mD _ _) (Ev.some rfl)
  rw [if_neg k5,aK (by omega)];exact aB (mD _ _) (Ev.some rfl)
theorem rJ{list:List Arr}(hl:list.length≤4)(hd:eK list){m:List Int}(hm:q9 list m){d:Int}{k:Nat}{q:List Int}(hq:jM k q): ∀(L n:Nat) (e:Expr),7700000+L≤n→cN L e d=true→(∀a∈bM L e,0≤cA list a q 0)→
  s_l5Eval (n+1) list m e q=some (sN L list m e q)
 |0,n,e,_,h,_=>by cases h
 |L+1,n,e,hn,h,hr=>by
  obtain⟨h1,h2,h3⟩:=jU h;unfold s_l5Eval;refine Ev.eq ?_;simp only [sN];refine aI (fun k1=>Ev.some (by rw [if_pos k1])) fun k1=>?_;rw [if_neg k1];refine aI (fun k2=>?_) fun k2=>?_
  ·rw [if_pos k2];unfold fO at h2;rw [if_pos k2] at h2;simp only [Bool.and_eq_true,bH] at h2;have ha:=h2.2.2.1;exact aB (aCw (by omega) ha hq) (aB (qC _ _) (Ev.some rfl))
  rw [if_neg k2];refine aI (fun k3=>?_) fun k3=>?_
  ·rw [if_pos k3];have hmem:e.read∈bM (L+1) e:=by simp [bM,k3]
   have ha:=mZ h _ hmem;have hc0:=hr _ hmem;rcases yC hd e.read q 0 (yO 0) with hc|hc
   ·omega
   have hlt:(cA list e.read q 0).toNat<m.length:=by have:=hm.1;omega
   have hg:=cU hlt;have hix:ix m (cA list e.read q 0)=some m[(cA list e.read q 0).toNat]:=by
    unfold ix;rw [if_pos hc0,hg]
   refine aB (qF (by omega) hl hd ha hq) (aB hix (Ev.some ?_));rw [vAP,hg];rfl
  rw [if_neg k3];obtain⟨hk,a,b,hab⟩:=V5 h k1 k2 k3;obtain⟨n,rfl⟩: ∃j,n=j+1:=⟨n-1,by omega⟩
  have hsa:=h3 a (by rw [hab];simp);have hsb:=h3 b (by rw [hab];simp);have va:=rJ hl hd hm hq L n a (by omega) hsa fun x hx=>hr x (by simp only [bM,List.mem_append,List.mem_flatMap];exact .inr ⟨a,by rw [hab];simp,hx⟩);have vb:=rJ hl hd hm hq L n b (by omega) hsb fun x hx=>hr x (by simp only [bM,List.mem_append,List.mem_flatMap];exact .inr ⟨b,by rw [hab];simp,hx⟩);have ba:=yM hm (q:=q) hsa;have bb:=yM hm (q:=q) hsb;have bm:=T4 ba bb;rw [hab];refine aB (x:=a) rfl (aB va (aB (x:=b) rfl (aB vb ?_)));dsimp only;refine aI (fun k4=>?_) fun k4=>?_
  ·rw [if_pos k4,aK (by omega)];exact aB (qC _ _) (Ev.some rfl)
  rw [if_neg k4];refine aI (fun k5=>?_) fun k5=>?_
  ·rw [if_pos k5,aK (by omega)];exact aB (qC _ _) (Ev.some rfl)
  rw [if_neg k5,aK (by omega)];exact aB (qC _ _) (Ev.some rfl)
def D1(p:Prog)(x:Inst):Prop:= ∃(i k:Nat) (P:Part) (s:Stmt),x.part=i∧x.stmt=k∧p.parts[i]? =some P∧P.body[k]? =some s∧x.point∈eH P
def aAz(p:Prog)(x:Inst):Option Stmt:=(p.parts[x.part.toNat]?).bind fun P=>P.body[x.stmt.toNat]?
def E3(p:Prog)(m:List Int)(x:Inst):List Int:=match aAz p x with
 |some s=>m.set (cA p.arrays s.write x.point 0).toNat (sN 5 p.arrays m s.value x.point)
 |none=>m
theorem inst_d{p:Prog}(hv:jO p=true){x:Inst}(hx:D1 p x): ∃(i k:Nat) (P:Part) (s:Stmt) (d:Int),x.part=i∧x.stmt=k∧p.parts[i]? =some P∧P.body[k]? =some s∧aAz p x=some s∧gI s d=true∧jM P.nest.length x.point∧cC p.arrays s x.point=true:=by obtain⟨hl,hd,h4,hpo,hil⟩:=vR hv;obtain⟨i,k,P,s,e1,e2,e3,e4,e5⟩:=hx;obtain⟨q1,q2,q3,q4⟩:=tE (hpo P (cM e3));obtain⟨hf,hp1,hp2,hp3,hp4⟩:=aBD q1;have hs:=cM e4;exact⟨i,k,P,s,_,e1,e2,e3,e4,by unfold aAz;rw [e1,e2,vAO,e3];exact(by rw [vAO];exact e4),q3 s hs,hp2 _ e5,(q4 s hs _ e5).1⟩
theorem aCe{list:List Arr}{s:Stmt}{q:List Int}(h:cC list s q=true):0≤cA list s.write q 0∧ ∀a∈bM 5 s.value,0≤cA list a q 0:=by simp only [cC,Bool.and_eq_true,decide_eq_true_eq,List.all_eq_true] at h;exact h
theorem T3{p:Prog}(hd:eK p.arrays){m:List Int}(hm:q9 p.arrays m){a:Access}{q:List Int}(h:0≤cA p.arrays a q 0):(cA p.arrays a q 0).toNat<m.length:=by
 rcases yC hd a q 0 (yO 0) with hc|hc
 ·omega
 have:=hm.1;omega
theorem U3{α:Type}{l:List α}{c:Int}(h0:0≤c)(h:c.toNat<l.length)(x:α):hJ l c x=some (l.set c.toNat x):=by unfold hJ;rw [if_pos ⟨h0,by omega⟩]
theorem aEb{α:Type}{l:List α}{c:Int}(h0:0≤c)(h:c.toNat<l.length):ix l c=some l[c.toNat]:=by unfold ix;rw [if_pos h0,List.getElem?_eq_getElem h]
theorem aBP{p:Prog}(hv:jO p=true){m:List Int}(hm:q9 p.arrays m){x:Inst}(hx:D1 p x):q9 p.arrays (E3 p m x):=by
 obtain⟨i,k,P,s,d,e1,e2,e3,e4,e5,e6,e7,e8⟩:=inst_d hv hx;unfold E3;rw [e5];refine⟨by rw [List.length_set];exact hm.1,fun v hv'=>?_⟩;rcases vBc hv' with h|h
 ·exact hm.2 v h
 rw [h];exact yM hm (yT e6).2.1
theorem aGn{n:Nat}(hn:7810000≤n){p:Prog}(hv:jO p=true){m:List Int}(hm:q9 p.arrays m){x:Inst}(hx:D1 p x):j7 n p m x=some (E3 p m x):=by
 obtain⟨hl,hd,h4,hpo,hil⟩:=vR hv;obtain⟨i,k,P,s,d,e1,e2,e3,e4,e5,e6,e7,e8⟩:=inst_d hv hx;obtain⟨c1,c2⟩:=aCe e8;obtain⟨s1,s2,s3,s4⟩:=yT e6;obtain⟨n,rfl⟩: ∃j,n=j+1:=⟨n-1,by omega⟩
 have hlt:=T3 hd hm c1;have hst:gS (n+1) p x=some s:=by
  unfold gS;rw [e1,e2,aR e3];show Option.bind (ix P.body (k:Int)) _=_;rw [aR e4];rfl
 refine Ev.eq ?_;unfold j7;refine aB hst (aB (qP (by omega) hl hd s1 e7) (aB (rV hl hd hm e7 5 n s.value (by omega) s2 c2) (aB (aEb c1 hlt) (aB (U3 c1 hlt _) (Ev.some ?_)))));unfold E3;rw [e5]
theorem aDP{n:Nat}(hn:7810000≤n){p:Prog}(hv:jO p=true){m:List Int}(hm:q9 p.arrays m){x:Inst}(hx:D1 p x):xS n p m x=some (E3 p m x):=by
 obtain⟨hl,hd,h4,hpo,hil⟩:=vR hv;obtain⟨i,k,P,s,d,e1,e2,e3,e4,e5,e6,e7,e8⟩:=inst_d hv hx;obtain⟨c1,c2⟩:=aCe e8;obtain⟨s1,s2,s3,s4⟩:=yT e6;obtain⟨n,rfl⟩: ∃j,n=j+1:=⟨n-1,by omega⟩
 have hlt:=T3 hd hm c1;refine Ev.eq ?_;unfold xS;refine aB (x:=P) (by rw [e1];exact aR e3) (aB (x:=s) (by rw [e2];exact aR e4) (aB (qF (by omega) hl hd s1 e7) (aB (rJ hl hd hm e7 5 n s.value (by omega) s2 c2) (aB (aEb c1 hlt) (aB (U3 c1 hlt _) (Ev.some ?_))))));unfold E3;rw [e5]
theorem aGP{p:Prog}{m:List Int}(h:rU p m=true):jO p=true∧q9 p.arrays m:=by simp only [rU,Bool.and_eq_true,decide_eq_true_eq,List.all_eq_true] at h;exact⟨h.1,h.2.1,h.2.2⟩
end Go.Lift
