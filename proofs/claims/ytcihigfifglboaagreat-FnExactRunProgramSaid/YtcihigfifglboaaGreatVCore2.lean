/- Valid statements. -/
import Derived.Test.YtcihigfifglboaaGreatVCore1
set_option maxRecDepth 110000000
set_option linter.unusedVariables false
namespace Go.Lift
open Go
def SmE:Nat→Expr→Prop
 |0,_=>True
 |L+1,e=>e.kids.length≤1100000∧SmA e.index∧w6 e.read.subs∧ ∀k∈e.kids,SmE L k
def cL:Nat→Expr→Int→Bool
 |0,_,_=>false
 |L+1,e,d=>decide (eD e.kind=e.kids.length)&&(fH e d&&e.kids.all fun k=>cL L k d)
def n9:Nat→Expr→Int
 |0,_=>1
 |L+1,e=>1+(e.kids.map (n9 L)).sum
theorem sP(k:Int):eD k≤2:=by unfold eD;split;omega;split<;>omega
theorem r7(d:Int): ∀(L n:Nat) (e:Expr),5500000+L≤n→L≤1100000→SmE L e→s_l3Shape (n+1) e d (L:Int)=some (cL L e d)
 |0,n,e,_,_,_=>by unfold s_l3Shape;rfl
 |L+1,n,e,hn,hL,he=>by
  obtain⟨e1,e2,e3,e4⟩:=he;unfold s_l3Shape;refine Ev.eq ?_;refine Ev.jn (fun z=>z= !(decide (eD e.kind=e.kids.length)&&fH e d)) (fun j hj=>aI (fun h=>by omega) fun h=>aB (S7 n _) (dM (fun h=>hj _ ?_) fun h=>aB (aAl (by omega) e2 e3 d) (hj _ ?_))) fun z hz=>?_
  ·rw [decide_eq_false h];rfl
  ·rw [decide_eq_true h];rfl
  subst hz;unfold cL;cases hb:(decide (eD e.kind=e.kids.length)&&fH e d) with
  |false=>exact Ev.some (by rw [←vAZ,hb];rfl)
  |true=>
   rw [←vAZ,hb,Y9];refine bD ?_;obtain⟨n,rfl⟩: ∃j,n=j+1:=⟨n-1,by omega⟩
   have ew:wr (((L+1:Nat):Int)-1)=(L:Int):=by rw [aK (by omega)];omega
   rw [ew];refine iP (l:=e.kids) (p:=fun _ k=>cL L k d) (by omega) (by omega) (fun again i x hx hgo hno=>?_) (fun again hall=>?_) (fun⟨i,x,hx,hp⟩=>?_)
   ·have hi:=(bS.1 hx).1;rw [decide_eq_true (show(i:Int)<(e.kids.length:Int) by omega)];refine cG (aB (aQ hx) (aB (r7 d L n x (by omega) (by omega) (e4 x (cN hx))) ?_));cases hs:cL L x d with
    |true=>show Ev (again _) _;rw [aK (by omega)];exact hgo hs
    |false=>exact Ev.some (hno hs)
   ·rw [decide_eq_false (show¬(e.kids.length:Int)<(e.kids.length:Int) by omega)];refine Ev.some ?_;exact(F6.2 fun c hc=>by obtain⟨i,hi⟩:=vAz hc;exact hall i c hi).symm
   exact(R8.2 ⟨x,cN hx,by rw [hp];simp⟩).symm
theorem qF: ∀(L:Nat) (e:Expr),1≤n9 L e
 |0,_=>xW _
 |L+1,e=>by have:=mA (n9 L) e.kids fun k _=>qF L k;simp only [n9];omega
theorem aAi{α:Type}(f:α→Int)(M:Int): ∀(l:List α),(∀x∈l,f x≤M)→(l.map f).sum≤l.length*M
 | [],_=>by simp
 |x::l,h=>by have h1:=aAi f M l fun y hy=>h y (by simp [hy]);have h2:=h x (by simp);simp only [List.map_cons,List.sum_cons,List.length_cons,Int.natCast_add,Int.add_mul];omega
theorem jI{L:Nat}{e:Expr}{d:Int}(h:cL (L+1) e d=true):eD e.kind=e.kids.length∧fH e d=true∧ ∀k∈e.kids,cL L k d=true:=by simp only [cL,Bool.and_eq_true,decide_eq_true_eq,List.all_eq_true] at h;exact⟨h.1,h.2.1,h.2.2⟩
theorem O3: ∀{L:Nat} {e:Expr} {d:Int},cL L e d=true→n9 L e+1≤2^L
 |0,e,d,h=>by cases h
 |L+1,e,d,h=>by
  obtain⟨h1,_,h2⟩:=jI h;have h3:=aAi (n9 L) ((2:Int)^L-1) e.kids fun k hk=>by have:=O3 (h2 k hk);omega
  have h4:=sP e.kind;have h5:(e.kids.length:Int)*((2:Int)^L-1)≤2*((2:Int)^L-1):=by
   refine Int.mul_le_mul_of_nonneg_right (by omega) ?_
   have:(0:Int)<2^L:=Int.pow_pos (by omega);omega
  simp only [n9];rw [Int.pow_succ];omega
theorem r9{d:Int}: ∀(L n:Nat) (e:Expr),5500000+L≤n→L≤5→cL L e d=true→s_l3Count (n+1) e (L:Int)=some (n9 L e)
 |0,n,e,_,_,h=>by cases h
 |L+1,n,e,hn,hL,h=>by
  obtain⟨h1,_,h2⟩:=jI h;have h4:=sP e.kind;have hb: ∀k∈e.kids,n9 L k≤40:=fun k hk=>by
   have h5:=O3 (h2 k hk);have h6:(2:Int)^L≤40:=by
    match L,hL with
    |0,_=>decide
    |1,_=>decide
    |2,_=>decide
    |3,_=>decide
    |4,_=>decide
   omega
  unfold s_l3Count;refine Ev.eq ?_;obtain⟨n,rfl⟩: ∃j,n=j+1:=⟨n-1,by omega⟩
  have ew:wr (((L+1:Nat):Int)-1)=(L:Int):=by rw [aK (by omega)];omega
  rw [ew];refine Ev.loop (fun x:Int×Int=> ∃i:Nat,x.2=i∧i≤e.kids.length∧x.1=1+((e.kids.take i).map (n9 L)).sum) (fun x=>e.kids.length-x.2.toNat) ?_ (n+1) _ ⟨0,rfl,by omega,by simp⟩ (by simp;omega);rintro again ⟨x,k⟩ ⟨i,hk,hi,hx⟩ hr;dsimp only at hk hx⊢;subst hk;refine Ev.jn (fun z=>z=decide (i<e.kids.length)) (fun j hj=>aI (fun h=>hj _ ?_) fun h=>hj _ ?_) fun z hz=>?_
  ·rw [decide_eq_true (show(0:Int)<((L+1:Nat):Int) by omega),decide_eq_true (by omega)]
  ·rw [decide_eq_false (by omega)]
  subst hz;refine aI (fun hlt=>?_) fun hge=>Ev.some ?_
  ·have hk2:=cR hlt;have hm:=cN hk2;refine aB (aQ hk2) (aB (r9 (d:=d) L n _ (by omega) (by omega) (h2 _ hm)) ?_);have hs:=aAi (n9 L) 40 (e.kids.take i) fun y hy=>hb y (R7 hy);have hs2:=mA (n9 L) (e.kids.take i) fun y _=>qF L y;have hb2:=hb _ hm;have hb3:=qF L e.kids[i];have hl:((e.kids.take i).length:Int)≤2:=by simp;omega
   rw [aK (n:=x+n9 L e.kids[i]) (by omega),aK (by omega)];refine hr _ ⟨i+1,by dsimp only;omega,by omega,?_⟩ (by dsimp only;omega);dsimp only;rw [Z0,hk2,vBg,List.sum_append,hx];simp;omega
  have:i=e.kids.length:=by omega
  rw [hx,this,vW];rfl
def T3(e:Expr):Bool:=(decide (e.kind=1)||decide (e.num=0))&&((decide (e.kind=2)||iV e.index)&&(decide (e.kind=3)||n1 e.read))
theorem mC(d:Int): ∀(L n:Nat) (e:Expr) (c:Int),5500000+L≤n→L≤5→SmE L e→0≤c→c≤12→
  Ev (i_exprScan (n+1) e d (6-(L:Int)) c) (fun r=>r.1=(cL L e d&&decide (c+n9 L e≤12))∧(r.1=true→r.2=c+n9 L e))
 |0,n,e,c,hn,hL,he,h0,h1=>by
  unfold i_exprScan;refine Ev.jn (fun z=>z=true) (fun j hj=>aI (fun h=>hj _ rfl) fun h=>hj _ (by decide)) fun z hz=>?_;subst hz;exact Ev.some ⟨rfl,fun h=>by cases h⟩
 |L+1,n,e,c,hn,hL,he,h0,h1=>by
  obtain⟨e1,e2,e3,e4⟩:=he;have hcp:=qF (L+1) e;unfold i_exprScan;have ew:wr (c+1)=c+1:=aK (by omega);have ed:wr (6-(((L+1:Nat)):Int)+1)=6-(L:Int):=by rw [aK (by omega)];omega
  rw [ew,ed];refine Ev.jn (fun z=>z=decide (12<c+1)) (fun j hj=>aI (fun h=>hj _ (decide_eq_true h).symm) fun h=>hj _ ?_) fun z hz=>?_
  ·rw [decide_eq_false h,decide_eq_false (by omega)]
  subst hz;refine aI (fun h=>Ev.some ⟨?_,fun h=>by cases h⟩) fun hc=>?_
  ·rw [decide_eq_false (show¬c+n9 (L+1) e≤12 by omega),Bool.and_false]
  refine Ev.jn (fun z=>z= !T3 e) (fun j hj=>?_) fun z hz=>?_
  ·rw [C8,C9];unfold T3 at hj;simp only [Option.bind];by_cases k1:e.kind=1
   ·have k2: ¬e.kind=2:=by omega
    have k3: ¬e.kind=3:=by omega
    rw [decide_eq_true k1,decide_eq_false k2,decide_eq_false k3] at*;simp only [Bool.not_true,Bool.not_false,cond_true,cond_false,Bool.true_or,Bool.true_and,Bool.false_or] at*;cases ha:iV e.index with
    |false=>exact hj _ (by rw [ha];rfl)
    |true=>exact hj _ (by rw [ha];rfl)
   rw [decide_eq_false k1] at*;simp only [Bool.not_false,cond_true,Bool.false_or] at*;by_cases hnum:e.num=0
   ·rw [decide_eq_true hnum] at*;simp only [Bool.not_true,cond_false,Bool.true_and] at*;by_cases k2:e.kind=2
    ·have k3: ¬e.kind=3:=by omega
     rw [decide_eq_true k2,decide_eq_false k3] at*;simp only [Bool.not_true,Bool.not_false,cond_true,cond_false,Bool.true_or,Bool.true_and,Bool.false_or] at*;exact hj _ rfl
    rw [decide_eq_false k2] at*;simp only [Bool.not_false,cond_true,Bool.false_or] at*;cases ha:iV e.index with
    |false=>exact hj _ (by rw [ha];rfl)
    |true=>
     by_cases k3:e.kind=3
     ·rw [decide_eq_true k3] at*;exact hj _ (by rw [ha];rfl)
     rw [decide_eq_false k3] at*;exact hj _ (by rw [ha];rfl)
   rw [decide_eq_false hnum] at*;exact hj _ rfl
  subst hz;cases hp:T3 e with
  |false=>
   refine Ev.some ⟨?_,fun h=>by cases h⟩
   have:fH e d=false:=by
    unfold T3 at hp;unfold fH;by_cases k2:e.kind=2
    ·have k1: ¬e.kind=1:=by omega
     have k3: ¬e.kind=3:=by omega
     rw [if_pos k2];rw [decide_eq_true k2,decide_eq_false k1,decide_eq_false k3] at hp;revert hp;cases decide (e.num=0)<;>cases n1 e.read<;>simp
    rw [if_neg k2];by_cases k3:e.kind=3
    ·have k1: ¬e.kind=1:=by omega
     rw [if_pos k3];rw [decide_eq_false k2,decide_eq_false k1,decide_eq_true k3] at hp;revert hp;cases decide (e.num=0)<;>cases iV e.index<;>simp
    rw [if_neg k3];rw [decide_eq_false k2,decide_eq_false k3] at hp;by_cases k1:e.kind=1
    ·rw [if_pos k1];rw [decide_eq_true k1] at hp;revert hp;cases iV e.index<;>cases n1 e.read<;>simp
    rw [if_neg k1];rw [decide_eq_false k1] at hp;revert hp;cases decide (e.num=0)<;>cases iV e.index<;>cases n1 e.read<;>simp
   unfold cL;rw [this];simp
  |true=>
   refine bD ?_;unfold T3 at hp;simp only [Bool.and_eq_true,Bool.or_eq_true,decide_eq_true_eq] at hp;obtain⟨p1,p2,p3⟩:=hp;have leafP: ∀(b:Bool),fH e d=b→eD e.kind=0→ ∀(z:Bool),z=(b&&decide ((e.kids.length:Int)=0))→z=(cL (L+1) e d&&decide (c+n9 (L+1) e≤12))∧(z=true→c+1=c+n9 (L+1) e):=by
    intro b hb hk z hz;unfold cL;rw [hb,hk];by_cases h:e.kids.length=0
    ·have hnil:e.kids=[]:=vAx h;have hcn:n9 (L+1) e=1:=by simp [n9,hnil]
     rw [hcn,decide_eq_true (show c+1≤12 by omega)];rw [decide_eq_true (show(e.kids.length:Int)=0 by omega)] at hz;rw [hz,hnil];simp
    rw [decide_eq_false (show¬(e.kids.length:Int)=0 by omega)] at hz;rw [hz,decide_eq_false (show¬(0:Int)=(e.kids.length:Int) by omega)];simp
   by_cases k1:e.kind=1
   ·have k2: ¬e.kind=2:=by omega
    have k3: ¬e.kind=3:=by omega
    rw [decide_eq_true k1];have hown:fH e d=decide (0≤e.num∧e.num≤99):=by
     unfold fH;rw [if_neg k2,if_neg k3,if_pos k1];rcases p2 with h|h
     ·exact absurd h k2
     rcases p3 with h'|h'
     ·exact absurd h' k3
     rw [h,h'];simp
    refine cG (Ev.jn (fun z=>z=(decide (0≤e.num∧e.num≤99)&&decide ((e.kids.length:Int)=0))) (fun j hj=>aB (dN n _ _ _) ?_) fun z hz=>Ev.some ?_)
    ·cases hw:decide (0≤e.num∧e.num≤99) with
     |true=>exact hj _ (by rw [hw];rfl)
     |false=>exact hj _ (by rw [hw];rfl)
    exact leafP _ hown (by unfold eD;rw [if_pos (Or.inl k1)]) _ hz
   rw [decide_eq_false k1];refine bD ?_;have hnum:e.num=0:=by
    rcases p1 with h|h
    ·exact absurd h k1
    exact h
   by_cases k2:e.kind=2
   ·have k3: ¬e.kind=3:=by omega
    rw [decide_eq_true k2];have hown:fH e d=bH e.index d:=by
     unfold fH;rw [if_pos k2,decide_eq_true hnum];rcases p3 with h'|h'
     ·exact absurd h' k3
     rw [h'];simp
    refine cG (Ev.jn (fun z=>z=(bH e.index d&&decide ((e.kids.length:Int)=0))) (fun j hj=>aB (mT (by omega) _ e2) ?_) fun z hz=>Ev.some ?_)
    ·unfold bH at hj;cases hw:eH e.index with
     |false=>exact hj _ (by rw [hw];rfl)
     |true=>
      refine aB (zL (by omega) e2) (aI (fun h=>hj _ ?_) fun h=>hj _ ?_)
      ·rw [hw,decide_eq_true h];rfl
      rw [hw,decide_eq_false h];rfl
    exact leafP _ hown (by unfold eD;rw [if_pos (Or.inr (Or.inl k2))]) _ hz
   rw [decide_eq_false k2];refine bD ?_;have hnaff:iV e.index=true:=by
    rcases p2 with h|h
    ·exact absurd h k2
    exact h
   by_cases k3:e.kind=3
   ·rw [decide_eq_true k3];have hown:fH e d=f7 e.read d:=by
     unfold fH;rw [if_neg k2,if_pos k3,decide_eq_true hnum,hnaff];simp
    refine cG (Ev.jn (fun z=>z=(f7 e.read d&&decide ((e.kids.length:Int)=0))) (fun j hj=>aB (qO (by omega) e3 d) ?_) fun z hz=>Ev.some ?_)
    ·cases hw:f7 e.read d with
     |false=>exact hj _ (by rw [hw];rfl)
     |true=>exact hj _ (by rw [hw];rfl)
    exact leafP _ hown (by unfold eD;rw [if_pos (Or.inr (Or.inr k3))]) _ hz
   rw [decide_eq_false k3];refine bD ?_;have hown:fH e d=true:=by
    unfold fH;rw [if_neg k2,if_neg k3,if_neg k1,decide_eq_true hnum,hnaff];rcases p3 with h'|h'
    ·exact absurd h' k3
    rw [h'];rfl
   have hop:M5 n e.kind=some (decide (4≤e.kind∧e.kind≤6)):=by unfold M5;rw [dN];rfl
   have hkn:(eD e.kind=2↔(4≤e.kind∧e.kind≤6))∧(eD e.kind=2∨eD e.kind= -1):=by
    unfold eD;rw [if_neg (by omega)];split<;>omega
   refine Ev.jn (fun z=>z= !(decide (4≤e.kind∧e.kind≤6)&&decide ((e.kids.length:Int)=2))) (fun j hj=>aB hop ?_) fun z hz=>?_
   ·cases hw:decide (4≤e.kind∧e.kind≤6) with
    |false=>exact hj _ (by rw [hw];rfl)
    |true=>exact hj _ (by rw [hw];rfl)
   subst hz;by_cases hk:(4≤e.kind∧e.kind≤6)∧(e.kids.length:Int)=2
   ·rw [decide_eq_true hk.1,decide_eq_true hk.2];refine bD ?_;obtain⟨a,b,hab⟩: ∃a b,e.kids=[a,b]:=by
     have:e.kids.length=2:=by omega
     match hq:e.kids,this with
     | [a,b],_=>exact⟨a,b,rfl⟩
    have hsh:cL (L+1) e d=(cL L a d&&cL L b d):=by
     show(decide (eD e.kind=e.kids.length)&&(fH e d&&e.kids.all fun k=>cL L k d))=_;rw [hown,hab,decide_eq_true (show eD e.kind=(([a,b]:List Expr).length:Int) by rw [hkn.1.2 hk.1];rfl)];simp
    have hcn:n9 (L+1) e=1+(n9 L a+n9 L b):=by simp [n9,hab]
    have ca:=qF L a;have cb:=qF L b;rw [hsh,hcn];obtain⟨n,rfl⟩: ∃j,n=j+1:=⟨n-1,by omega⟩
    refine Ev.jn (fun z:Int×Bool=>z.2=(cL L a d&&cL L b d&&decide (c+(1+(n9 L a+n9 L b))≤12))∧(z.2=true→z.1=c+(1+(n9 L a+n9 L b)))) (fun j hj=>?_) fun z hz=>Ev.some hz;refine aB (x:=a) (by rw [hab];rfl) (fP (mC d L n a (c+1) (by omega) (by omega) (e4 a (by rw [hab];simp)) (by omega) (by omega)) fun r ⟨r1,r2⟩=>?_);cases hr:r.1 with
    |false=>
     refine hj _ ⟨?_,fun h=>by cases h⟩;rw [hr] at r1;show false=_;by_cases hsa:cL L a d=true
     ·rw [hsa,Y9] at r1
      have:=of_decide_eq_false r1.symm;rw [decide_eq_false (show¬c+(1+(n9 L a+n9 L b))≤12 by omega),Bool.and_false]
     rw [Bool.eq_false_iff.2 hsa];rfl
    |true=>
     have r2:=r2 hr;rw [hr] at r1;have r1:=r1.symm;rw [Bool.and_eq_true,decide_eq_true_eq] at r1;refine aB (x:=b) (by rw [hab];rfl) ?_;rw [r2];refine fP (mC d L n b (c+1+n9 L a) (by omega) (by omega) (e4 b (by rw [hab];simp)) (by omega) (by omega)) fun q ⟨q1,q2⟩=>hj _ ⟨?_,fun h=>?_⟩
     ·show q.1=_;rw [q1,r1.1,Y9];congr 1;exact decide_eq_decide.2 (by omega)
     show q.2=_;rw [q2 h];omega
   have hf:cL (L+1) e d=false:=by
    unfold cL;rw [decide_eq_false (show¬eD e.kind=(e.kids.length:Int) by
     intro h;rcases hkn.2 with h2|h2
     ·exact hk ⟨hkn.1.1 h2,by omega⟩
     omega)]
    rfl
   have:(decide (4≤e.kind∧e.kind≤6)&&decide ((e.kids.length:Int)=2))=false:=by
    by_cases g:4≤e.kind∧e.kind≤6
    ·rw [decide_eq_false (show¬(e.kids.length:Int)=2 from fun h=>hk ⟨g,h⟩),Bool.and_false]
    rw [decide_eq_false g];rfl
   rw [this,hf];exact Ev.some ⟨rfl,fun h=>by cases h⟩
def gA(s:Stmt)(d:Int):Bool:=decide (0≤d∧d≤4)&&(f7 s.write d&&(cL 5 s.value d&&decide (n9 5 s.value≤12)))
def SmS(s:Stmt):Prop:=w6 s.write.subs∧SmE 5 s.value
theorem zN{n:Nat}(hn:6600000≤n){s:Stmt}(h:SmS s)(d:Int):l3 n s d=some (gA s d):=by
 obtain⟨n,rfl⟩: ∃j,n=j+1:=⟨n-1,by omega⟩
 refine Ev.eq ?_;unfold l3;generalize hT:gA s d=T;unfold gA at hT;refine Ev.jn (fun z:Int×Bool=>z.2=T) (fun j hj=>aB (dN _ _ _ _) ?_) fun z hz=>Ev.some hz;cases h1:decide (0≤d∧d≤4) with
 |false=>exact hj (0,false) (by rw [←hT,h1];rfl)
 |true=>
  refine cG (aB (qO (by omega) h.1 d) ?_);cases h2:f7 s.write d with
  |false=>exact hj (0,false) (by rw [←hT,h1,h2];rfl)
  |true=>
   refine cG (fP (mC d 5 n s.value 0 (by omega) (by omega) h.2 (by omega) (by omega)) fun r ⟨r1,r2⟩=>hj _ ?_);rw [←hT,h1,h2];show r.1=_;rw [r1];simp
theorem yI{n:Nat}(hn:6600000≤n){s:Stmt}(h:SmS s)(d:Int):lT n s d=some (gA s d):=by
 obtain⟨n,rfl⟩: ∃j,n=j+1:=⟨n-1,by omega⟩
 refine Ev.eq ?_;unfold lT;generalize hT:gA s d=T;generalize hB:(decide (0≤d∧d≤4)&&(f7 s.write d&&cL 5 s.value d))=B;have hTB:T=(B&&decide (n9 5 s.value≤12)):=by rw [←hT,←hB];unfold gA;simp only [Bool.and_assoc]
 refine Ev.jn (fun z=>z= !B) (fun j hj=>aI (fun h=>hj _ ?_) fun h0=>aI (fun h=>hj _ ?_) fun h4=>aB (qL (by omega) h.1 d) ?_) fun z hz=>?_
 ·rw [←hB,decide_eq_false (show¬(0≤d∧d≤4) by omega)];rfl
 ·rw [←hB,decide_eq_false (show¬(0≤d∧d≤4) by omega)];rfl
 ·rw [decide_eq_true (show 0≤d∧d≤4 by omega)] at hB;cases h2:f7 s.write d with
  |false=>exact cG (hj _ (by rw [←hB,h2];rfl))
  |true=>exact bD (aB (r7 d 5 n s.value (by omega) (by omega) h.2) (hj _ (by rw [←hB,h2];rfl)))
 subst hz;cases hb:B with
 |false=>exact Ev.some (by rw [hTB,hb];rfl)
 |true=>
  rw [hb] at hB;simp only [Bool.and_eq_true] at hB;refine bD (aB (r9 (d:=d) 5 n s.value (by omega) (by omega) hB.2.2) (Ev.some ?_));rw [hTB,hb];rfl
def fX(ds:List Int):Bool:=decide (1≤ds.length∧ds.length≤2)&&ds.all fun d=>decide (1≤d∧d≤6)
def qZ(list:List Arr)(i:Nat)(x:Arr):Bool:=match i with
 |0=>true
 |i+1=>match list[i]? with
  |some y=>Op.bytesLess y.name x.name
  |none=>false
def F0(list:List Arr)(i:Nat)(x:Arr):Bool:=kW x.name&&(qZ list i x&&fX x.dims)
def eQ(list:List Arr):Bool:=zJ (F0 list) list&&decide (list.length≤4)
def SmR(list:List Arr):Prop:=list.length≤1100000∧ ∀x∈list,x.dims.length≤1100000
theorem wA{list:List Arr}{i:Nat}{x y:Arr}(h:list[i]? =some y):qZ list (i+1) x=Op.bytesLess y.name x.name:=by simp only [qZ,h]
theorem aEL(ds:List Int):(ds.any fun d=> !decide (1≤d∧d≤6))= !(ds.all fun d=>decide (1≤d∧d≤6)):=by rw [vAP];simp
theorem D0{n:Nat}(hn:6600000≤n){list:List Arr}(h:SmR list):nJ n list=some (eQ list):=by
 obtain⟨h0,h1⟩:=h;refine Ev.eq ?_;unfold nJ;refine iP (l:=list) (p:=F0 list) (by omega) (by omega) (fun again i x hx hgo hno=>?_) (fun again hall=>?_) (fun⟨i,x,hx,hp⟩=>?_)
 ·have hi:=(bS.1 hx).1;have hm:=h1 x (cN hx);rw [decide_eq_true (show(i:Int)<(list.length:Int) by omega)];have hd:bG n x.dims (fun q0=>dF n q0)=some (!(x.dims.all fun d=>decide (1≤d∧d≤6))):=by
   rw [←aEL];exact jR (fun d _=>by unfold dF;rw [dN];rfl) (by omega) (by omega)
  refine cG (aB (aQ hx) (Ev.jn (fun z=>z= !F0 list i x) (fun j hj=>aB (sX n _) ?_) fun z hz=>?_))
  ·unfold F0 fX at hj;cases g1:kW x.name with
   |false=>exact cG (hj _ (by rw [g1];rfl))
   |true=>
    rw [g1] at hj;refine bD ?_;rw [nI];have hlast:qZ list i x=true→Ev (Option.bind (some (decide (1≤x.dims.length∧x.dims.length≤2))) fun x6=>bif !x6 then j true else Option.bind (bG n x.dims fun q0=>dF n q0) fun x7=>j x7) (fun r=>r=eQ list):=by
     intro hp;rw [hp] at hj;show Ev (bif _ then _ else _) _;cases g2:decide (1≤x.dims.length∧x.dims.length≤2) with
     |false=>exact cG (hj _ (by rw [g2];rfl))
     |true=>exact bD (aB hd (hj _ (by rw [g2];rfl)))
    cases i with
    |zero=>exact aI (fun h=>absurd h (by decide)) (fun _=>hlast rfl)
    |succ i=>
     have hy:=cR (show i<list.length by omega);have e:wr (((i+1:Nat):Int)-1)=(i:Int):=by rw [aK (by omega)];omega
     rw [e];refine aI (fun _=>aB (aQ hy) ?_) fun h=>absurd (show(0:Int)<((i+1:Nat):Int) by omega) h;have hpp:=wA (x:=x) hy;cases g3:Op.bytesLess list[i].name x.name with
     |false=>exact cG (hj _ (by rw [hpp,g3];rfl))
     |true=>exact bD (hlast (by rw [hpp,g3]))
  subst hz;cases hb:F0 list i x with
  |true=>show Ev (again _) _;rw [aK (by omega)];exact hgo hb
  |false=>exact Ev.some (hno hb)
 ·rw [decide_eq_false (show¬(list.length:Int)<(list.length:Int) by omega)];refine Ev.some ?_;unfold eQ;rw [lY hall,Y9];exact decide_eq_decide.2 (by omega)
 unfold eQ;rw [jN hx hp];rfl
theorem aDP(s:List UInt8):(!Op.bytesLess s [68]&& !s==[68])= !(Op.bytesLess s [68]||s==[68]):=by cases Op.bytesLess s [68]<;>cases (s==[68])<;>rfl
theorem C6{n:Nat}(hn:6600000≤n){list:List Arr}(h:SmR list):nA n list=some (eQ list):=by
 obtain⟨h0,h1⟩:=h;refine Ev.eq ?_;unfold nA;refine iP (l:=list) (p:=F0 list) (by omega) (by omega) (fun again i x hx hgo hno=>?_) (fun again hall=>?_) (fun⟨i,x,hx,hp⟩=>?_)
 ·have hi:=(bS.1 hx).1;have hm:=h1 x (cN hx);rw [decide_eq_true (show(i:Int)<(list.length:Int) by omega)];refine cG (aB (aQ hx) (Ev.jn (fun z=>z= !(kW x.name&&(qZ list i x&&decide (1≤x.dims.length∧x.dims.length≤2)))) (fun j hj=>?_) fun z hz=>?_))
  ·refine dM (fun hl=>hj _ ?_) fun hl=>?_
   ·rw [q7 (by omega)];rfl
   obtain⟨b,hb⟩:=aHe (show x.name.length=1 by omega);rw [aDP];have hless: ∀(y:Arr),Op.bytesLess y.name x.name=Op.bytesLess y.name [b]:=fun y=>by rw [hb]
   have hnm:kW x.name=decide (65≤b.toNat∧b.toNat≤68):=by rw [hb];rfl
   have l1:Op.bytesLess x.name [65]=decide (b.toNat<65):=by rw [hb];exact zB b
   have l2:(Op.bytesLess x.name [68]||x.name==[68])=decide (b.toNat≤68):=by rw [hb];exact zA b
   rw [l1,l2];rw [hnm] at hj;refine aI (fun g1=>hj _ ?_) fun g1=>dM (fun g2=>hj _ ?_) fun g2=>?_
   ·rw [decide_eq_false (show¬(65≤b.toNat∧b.toNat≤68) by omega)];rfl
   ·rw [decide_eq_false (show¬(65≤b.toNat∧b.toNat≤68) by omega)];rfl
   rw [decide_eq_true (show 65≤b.toNat∧b.toNat≤68 by omega)] at hj;have hlast:qZ list i x=true→Ev (bif decide ((x.dims.length:Int)<1) then j true else j (decide ((2:Int)<(x.dims.length:Int)))) (fun r=>r=eQ list):=by
    intro hp;rw [hp] at hj;refine aI (fun h=>hj _ ?_) fun h=>hj _ ?_
    ·rw [decide_eq_false (show¬(1≤x.dims.length∧x.dims.length≤2) by omega)];rfl
    by_cases h2:x.dims.length≤2
    ·rw [decide_eq_false (show¬(2:Int)<(x.dims.length:Int) by omega),decide_eq_true (show 1≤x.dims.length∧x.dims.length≤2 by omega)];rfl
    rw [decide_eq_true (show(2:Int)<(x.dims.length:Int) by omega),decide_eq_false (show¬(1≤x.dims.length∧x.dims.length≤2) by omega)];rfl
   cases i with
   |zero=>exact aI (fun h=>absurd h (by decide)) (fun _=>hlast rfl)
   |succ i=>
    have hy:=cR (show i<list.length by omega);have e:wr (((i+1:Nat):Int)-1)=(i:Int):=by rw [aK (by omega)];omega
    rw [e];refine aI (fun _=>aB (aQ hy) ?_) fun h=>absurd (show(0:Int)<((i+1:Nat):Int) by omega) h;have hpp:=wA (x:=x) hy;cases g3:Op.bytesLess list[i].name x.name with
    |false=>exact cG (hj _ (by rw [hpp,g3];rfl))
    |true=>exact bD (hlast (by rw [hpp,g3]))
  subst hz;cases hb:(kW x.name&&(qZ list i x&&decide (1≤x.dims.length∧x.dims.length≤2))) with
  |false=>
   refine Ev.some (hno ?_);unfold F0 fX;rw [←vAZ,←vAZ];rw [←vAZ] at hb;rw [hb];rfl
  |true=>
   have hap:F0 list i x=x.dims.all (fun d=>decide (1≤d∧d≤6)):=by
    unfold F0 fX;rw [←vAZ,←vAZ];rw [←vAZ] at hb;rw [hb];rfl
   refine bD ?_;refine Ev.loop (fun y:Int=> ∃k:Nat,y=k∧k≤x.dims.length∧ ∀(t:Nat) d,t<k→x.dims[t]? =some d→decide (1≤d∧d≤6)=true) (fun y=>x.dims.length-y.toNat) ?_ n _ ⟨0,rfl,by omega,fun t d h=>by omega⟩ (by simp;omega);rintro again8 y ⟨k,rfl,hk,ha⟩ hr;refine aI (fun hlt=>?_) fun hge=>?_
   ·have hd:=cR (show k<x.dims.length by omega);have ek:wr ((k:Int)+1)=((k+1:Nat):Int):=by rw [aK (by omega)];omega
    refine Ev.jn (fun z=>z= !decide (1≤x.dims[k]∧x.dims[k]≤6)) (fun j hj=>aB (aQ hd) (aI (fun h=>hj _ ?_) fun h=>hj _ ?_)) fun z hz=>?_
    ·rw [decide_eq_false (by omega)];rfl
    ·by_cases h6:x.dims[k]≤6
     ·rw [decide_eq_false (show¬(6:Int)<x.dims[k] by omega),decide_eq_true (show 1≤x.dims[k]∧x.dims[k]≤6 by omega)];rfl
     rw [decide_eq_true (show(6:Int)<x.dims[k] by omega),decide_eq_false (show¬(1≤x.dims[k]∧x.dims[k]≤6) by omega)];rfl
    subst hz;cases hb2:decide (1≤x.dims[k]∧x.dims[k]≤6) with
    |false=>
     refine Ev.some (hno ?_);rw [hap];exact R8.2 ⟨_,cN hd,by rw [hb2];simp⟩
    |true=>
     rw [ek];refine hr _ ⟨k+1,rfl,by omega,fun t d ht hd2=>?_⟩ (by omega);by_cases htk:t=k
     ·subst htk;rw [hd] at hd2;cases hd2;exact hb2
     exact ha t d (by omega) hd2
   have e:wr ((i:Int)+1)=(i:Int)+1:=aK (by omega);rw [e];refine hgo ?_;rw [hap];refine F6.2 fun d hd=>?_;obtain⟨t,ht⟩:=vAz hd
   have:=(bS.1 ht).1;exact ha t d (by omega) ht
 ·rw [decide_eq_false (show¬(list.length:Int)<(list.length:Int) by omega)];refine Ev.some ?_;unfold eQ;rw [lY hall,Y9];exact decide_eq_decide.2 (by omega)
 unfold eQ;rw [jN hx hp];rfl
def C5:List Int→Int
 | []=>1
 |d::ds=>d*C5 ds
theorem aAW{ds:List Int}(h:fX ds=true):(∃a,ds=[a]∧1≤a∧a≤6)∨ ∃a b,ds=[a,b]∧(1≤a∧a≤6)∧1≤b∧b≤6:=by
 simp only [fX,Bool.and_eq_true,decide_eq_true_eq,List.all_eq_true] at h;obtain⟨⟨h1,h2⟩,h3⟩:=h
 match ds,h1,h2,h3 with
 | [a],_,_,h3=>exact .inl ⟨a,rfl,h3 a (by simp)⟩
 | [a,b],_,_,h3=>exact .inr ⟨a,b,rfl,h3 a (by simp),h3 b (by simp)⟩
theorem aIa{a b:Int}(ha:1≤a∧a≤6)(hb:1≤b∧b≤6):1≤a*b∧a*b≤36:=by
 constructor
 ·have:=vBj ha.1 hb.1 (by omega) (by omega);omega
 have:=vBj ha.2 hb.2 (by omega) (by omega);omega
theorem S1{ds:List Int}(h:fX ds=true):1≤C5 ds∧C5 ds≤36:=by
 rcases aAW h with ⟨a,rfl,h1⟩|⟨a,b,rfl,h1,h2⟩
 ·simp [C5];omega
 have:=aIa h1 h2;simp [C5];omega
theorem oP{n:Nat}(hn:6600000≤n){x:Arr}(h:fX x.dims=true):oU n x=some (C5 x.dims):=by
 obtain⟨n,rfl⟩: ∃j,n=j+3:=⟨n-3,by omega⟩
 unfold oU;rcases aAW h with ⟨a,e,h1⟩|⟨a,b,e,h1,h2⟩
 ·rw [e];have e1:wr a=a:=aK (by omega);simp [aO,ix,C5,e1,show wr 1=1 from aK (by omega)]
 rw [e]
 have:=aIa h1 h2;have e1:wr a=a:=aK (by omega);have e2:wr (a*b)=a*b:=aK (by omega);simp [aO,ix,C5,e1,e2,show wr 1=1 from aK (by omega),show wr 2=2 from aK (by omega)]
theorem aCq{n:Nat}(hn:6600000≤n){x:Arr}(h:fX x.dims=true):jQ n x=some (C5 x.dims):=oP hn h
def lM:List Affine→List Int→List Int→Int→Int
 |s::ss,d::ds,p,acc=>if 0≤dP s p∧dP s p<d then lM ss ds p (acc*d+dP s p) else-1
 |_,_,_,acc=>acc
def cA:List Arr→Access→List Int→Int→Int
 | [],_,_,_=> -1
 |x::xs,a,p,base=>if x.name=a.array then(if a.subs.length=x.dims.length then(if lM a.subs x.dims p 0<0 then-1 else base+lM a.subs x.dims p 0) else-1) else cA xs a p (base+C5 x.dims)
def eE(xs:List Arr):Prop:= ∀x∈xs,fX x.dims=true
theorem aIi{ds:List Int}(hd:fX ds=true){ss:List Affine}(hl:ss.length=ds.length)(p:List Int):lM ss ds p 0= -1∨(0≤lM ss ds p 0∧lM ss ds p 0<C5 ds):=by
 rcases aAW hd with ⟨a,rfl,h1⟩|⟨a,b,rfl,h1,h2⟩
 ·match ss,hl with
  | [s],_=>
   simp only [lM,C5,Int.zero_mul,Int.zero_add,Int.mul_one];split<;>omega
 match ss,hl with
 | [s,t],_=>
  simp only [lM,C5,Int.zero_mul,Int.zero_add,Int.mul_one];split
  ·rename_i hs;split
   ·rename_i ht;refine .inr ⟨?_,?_⟩
    ·have:=vBd hs.1 (show 0≤b by omega);omega
    have:=Int.mul_le_mul_of_nonneg_right (show dP s p≤a-1 by omega) (show 0≤b by omega);rw [Int.sub_mul] at this;omega
   exact .inl rfl
  exact .inl rfl
def kN(xs:List Arr):Int:=(xs.map fun x=>C5 x.dims).sum
theorem xK: ∀{xs:List Arr},eE xs→ ∀(a:Access) (p:List Int) (base:Int),0≤base→cA xs a p base= -1∨(base≤cA xs a p base∧cA xs a p base<base+kN xs)
 | [],_,a,p,base,_=> .inl rfl
 |x::xs,hd,a,p,base,hb=>by
  have hx:=hd x (by simp);have hs:=S1 hx;have hxs:eE xs:=fun y hy=>hd y (by simp [hy]);have ht:0≤kN xs:=by
   have:=mA (fun x:Arr=>C5 x.dims) xs fun y hy=>(S1 (hxs y hy)).1;unfold kN;omega
  have e:kN (x::xs)=C5 x.dims+kN xs:=by simp [kN]
  rw [e];simp only [cA];split
  ·split
   ·rename_i hl;rcases aIi hx hl p with h|h
    ·rw [if_pos (by omega)];exact .inl rfl
    rw [if_neg (by omega)];exact .inr ⟨by omega,by omega⟩
   exact .inl rfl
  rcases xK hxs a p (base+C5 x.dims) (by omega) with h|h
  ·exact .inl h
  exact .inr ⟨by omega,by omega⟩
theorem aEM{a:Access}{d:Int}(h:f7 a d=true):1≤a.subs.length∧a.subs.length≤2∧ ∀x∈a.subs,eH x=true:=by
 simp only [f7,Bool.and_eq_true,decide_eq_true_eq,List.all_eq_true] at h;refine⟨h.2.2.1,h.2.2.2,fun x hx=>?_⟩
 have:=h.1 x hx;simp only [bH,Bool.and_eq_true] at this;exact this.1
theorem mW{α:Type}{l:List α}{i:Nat}{x:α}(h:l[i]? =some x):l.drop i=x::l.drop (i+1):=by obtain⟨h1,h2⟩:=bS.1 h;rw [List.drop_eq_getElem_cons h1,h2]
theorem X8{a d v:Int}(ha:0≤a∧a≤36)(hd:1≤d∧d≤6)(hv:0≤v∧v<d):0≤a*d∧a*d≤216∧0≤a*d+v:=by have h1:=vBd ha.1 (show 0≤d by omega);have h2:=vBj ha.2 hd.2 (by omega) (by omega);omega
theorem aD1{n:Nat}(hn:6600000≤n){a:Access}(h1:a.subs.length≤2)(h2: ∀x∈a.subs,eH x=true){ds:List Int}(hd:fX ds=true)(hl:a.subs.length=ds.length){k:Nat}{p:List Int}(hp:lI k p)(base:Int)(hb:0≤base∧base≤500000000):
  aO (fun again8 ((x6,x7):Int×Int)=>bif decide (x7<(a.subs.length:Int)) then(Option.bind (ix a.subs x7) fun x9=>Option.bind (bO n x9 p) fun x10=>Option.bind (ix ds x7) fun x11=>Option.bind (bW n x10 0 (wr (x11-1))) fun x12=>bif !x12 then(some (-1)) else(again8 (wr ((wr (x6*x11))+x10),wr (x7+1)))) else(some (wr (base+x6)))) n (0,0)
   =some (if lM a.subs ds p 0<0 then-1 else base+lM a.subs ds p 0):=by
 have hdm: ∀d∈ds,1≤d∧d≤6:=by
  simp only [fX,Bool.and_eq_true,decide_eq_true_eq,List.all_eq_true] at hd;exact fun d h=>hd.2 d h
 refine Ev.eq ?_;refine Ev.loop (fun x:Int×Int=> ∃i:Nat,x.2=i∧i≤a.subs.length∧0≤x.1∧x.1≤36*i∧(i=0→x.1=0)∧(i=1→x.1≤5)∧lM a.subs ds p 0=lM (a.subs.drop i) (ds.drop i) p x.1) (fun x=>a.subs.length-x.2.toNat) ?_ n _ ⟨0,rfl,by omega,by simp,by simp,fun _=>rfl,fun h=>by omega,rfl⟩ (by simp;omega);rintro again ⟨x,z⟩ ⟨i,hz,hi,hx0,hx1,hx2,hx3,hx⟩ hr;dsimp only at hz hx0 hx1 hx2 hx3 hx⊢;subst hz;refine aI (fun hlt=>?_) fun hge=>Ev.some ?_
 ·have hs:=cR (show i<a.subs.length by omega);have hdd:=cR (show i<ds.length by omega);have hdb:=hdm _ (cN hdd);have ew:wr (ds[i]-1)=ds[i]-1:=aK (by omega);rw [mW hs,mW hdd] at hx;simp only [lM] at hx;refine aB (aQ hs) (aB (aCs (by omega) (h2 _ (cN hs)) hp) (aB (aQ hdd) (aB (dN _ _ _ _) ?_)));rw [ew];by_cases hc:0≤dP a.subs[i] p∧dP a.subs[i] p<ds[i]
  ·rw [if_pos hc] at hx;rw [decide_eq_true (show 0≤dP a.subs[i] p∧dP a.subs[i] p≤ds[i]-1 by omega)];obtain⟨g1,g2,g3⟩:=X8 (a:=x) (by omega) hdb hc;refine bD ?_;rw [aK (n:=x*ds[i]) (by omega),aK (n:=x*ds[i]+dP a.subs[i] p) (by omega),aK (by omega)];have hi01:i=0∨i=1:=by omega
   refine hr _ ⟨i+1,by dsimp only;omega,by omega,by dsimp only;omega,?_,fun h=>by omega,fun h=>?_,hx⟩ (by dsimp only;omega)
   ·dsimp only;rcases hi01 with rfl|rfl
    ·rw [hx2 rfl];omega
    have:=hx3 rfl
    have:=vBj this hdb.2 (by omega) (by omega);omega
   dsimp only
   have:i=0:=by omega
   subst this;rw [hx2 rfl];omega
  rw [if_neg hc] at hx;rw [decide_eq_false (show¬(0≤dP a.subs[i] p∧dP a.subs[i] p≤ds[i]-1) by omega)];refine cG (Ev.some ?_);rw [hx];rfl
 have hie:i=a.subs.length:=by omega
 have hdr:lM (a.subs.drop i) (ds.drop i) p x=x:=by
  rw [hie,List.drop_length];unfold lM;rfl
 rw [hdr] at hx;rw [hx,if_neg (by omega),aK (by omega)]
theorem aDC{n:Nat}(hn:6600000≤n){a:Access}(h0:1≤a.subs.length)(h1:a.subs.length≤2)(h2: ∀x∈a.subs,eH x=true){ds:List Int}(hd:fX ds=true){k:Nat}{p:List Int}(hp:lI k p)(base:Int)(hb:0≤base∧base≤500000000):
  aO (fun again8 ((x6,x7):Int×Int)=>bif decide (x7<(a.subs.length:Int)) then(bif !decide ((a.subs.length:Int)=(ds.length:Int)) then(some (-1)) else(Option.bind (ix a.subs x7) fun x9=>Option.bind (eM n x9 p) fun x10=>jn (fun(x13:Bool)=>bif x13 then(some (-1)) else(Option.bind (ix ds x7) fun x14=>again8 (wr ((wr (x6*x14))+x10),wr (x7+1)))) fun j11=>bif decide (x10<0) then(j11 true) else(Option.bind (ix ds x7) fun x12=>j11 (decide (x12≤x10))))) else(some (wr (base+x6)))) n (0,0)
   =some (if a.subs.length=ds.length then(if lM a.subs ds p 0<0 then-1 else base+lM a.subs ds p 0) else-1):=by
 by_cases hl:a.subs.length=ds.length
 ·rw [if_pos hl];rw [decide_eq_true (show(a.subs.length:Int)=(ds.length:Int) by omega)];have hdm: ∀d∈ds,1≤d∧d≤6:=by
   simp only [fX,Bool.and_eq_true,decide_eq_true_eq,List.all_eq_true] at hd;exact fun d h=>hd.2 d h
  refine Ev.eq ?_;refine Ev.loop (fun x:Int×Int=> ∃i:Nat,x.2=i∧i≤a.subs.length∧0≤x.1∧x.1≤36*i∧(i=0→x.1=0)∧(i=1→x.1≤5)∧lM a.subs ds p 0=lM (a.subs.drop i) (ds.drop i) p x.1) (fun x=>a.subs.length-x.2.toNat) ?_ n _ ⟨0,rfl,by omega,by simp,by simp,fun _=>rfl,fun h=>by omega,rfl⟩ (by simp;omega);rintro again ⟨x,z⟩ ⟨i,hz,hi,hx0,hx1,hx2,hx3,hx⟩ hr;dsimp only at hz hx0 hx1 hx2 hx3 hx⊢;subst hz;refine aI (fun hlt=>?_) fun hge=>Ev.some ?_
  ·have hs:=cR (show i<a.subs.length by omega);have hdd:=cR (show i<ds.length by omega);have hdb:=hdm _ (cN hdd);rw [mW hs,mW hdd] at hx;simp only [lM] at hx;refine bD (aB (aQ hs) (aB (aCe (by omega) (h2 _ (cN hs)) hp) (Ev.jn (fun z=>z= !decide (0≤dP a.subs[i] p∧dP a.subs[i] p<ds[i])) (fun j hj=>aI (fun h=>hj _ ?_) fun h=>aB (aQ hdd) (hj _ ?_)) fun z hz=>?_)))
   ·rw [decide_eq_false (by omega)];rfl
   ·by_cases hc:ds[i]≤dP a.subs[i] p
    ·rw [decide_eq_true hc,decide_eq_false (by omega)];rfl
    rw [decide_eq_false hc,decide_eq_true (by omega)];rfl
   subst hz;by_cases hc:0≤dP a.subs[i] p∧dP a.subs[i] p<ds[i]
   ·rw [if_pos hc] at hx;rw [decide_eq_true hc];obtain⟨g1,g2,g3⟩:=X8 (a:=x) (by omega) hdb hc;refine bD (aB (aQ hdd) ?_);rw [aK (n:=x*ds[i]) (by omega),aK (n:=x*ds[i]+dP a.subs[i] p) (by omega),aK (by omega)];have hi01:i=0∨i=1:=by omega
    refine hr _ ⟨i+1,by dsimp only;omega,by omega,by dsimp only;omega,?_,fun h=>by omega,fun h=>?_,hx⟩ (by dsimp only;omega)
    ·dsimp only;rcases hi01 with rfl|rfl
     ·rw [hx2 rfl];omega
     have:=hx3 rfl
     have:=vBj this hdb.2 (by omega) (by omega);omega
    dsimp only
    have:i=0:=by omega
    subst this;rw [hx2 rfl];omega
   rw [if_neg hc] at hx;rw [decide_eq_false hc];refine cG (Ev.some ?_);rw [hx];rfl
  have hie:i=a.subs.length:=by omega
  have hdr:lM (a.subs.drop i) (ds.drop i) p x=x:=by
   rw [hie,List.drop_length];unfold lM;rfl
  rw [hdr] at hx;rw [hx,if_neg (by omega),aK (by omega)]
 rw [if_neg hl,decide_eq_false (show¬(a.subs.length:Int)=(ds.length:Int) by omega)];obtain⟨n,rfl⟩: ∃j,n=j+1:=⟨n-1,by omega⟩
 simp only [aO];rw [decide_eq_true (show(0:Int)<(a.subs.length:Int) by omega)];rfl
theorem qC{n:Nat}(hn:6600000≤n){p:Prog}(hl:p.arrays.length≤4)(hd:eE p.arrays){a:Access}{d:Int}(ha:f7 a d=true){k:Nat}{q:List Int}(hq:lI k q):cW n p a q=some (cA p.arrays a q 0):=by
 obtain⟨a0,a1,a2⟩:=aEM ha;refine Ev.eq ?_;unfold cW;refine Ev.loop (fun x:Int×Int=> ∃i:Nat,x.2=i∧i≤p.arrays.length∧0≤x.1∧x.1≤36*i∧cA p.arrays a q 0=cA (p.arrays.drop i) a q x.1) (fun x=>p.arrays.length-x.2.toNat) ?_ n _ ⟨0,rfl,by omega,by simp,by simp,rfl⟩ (by simp;omega);rintro again ⟨x,z⟩ ⟨i,hz,hi,hx0,hx1,hx⟩ hr;dsimp only at hz hx0 hx1 hx⊢;subst hz;refine aI (fun hlt=>?_) fun hge=>Ev.some ?_
 ·have hy:=cR (show i<p.arrays.length by omega);have hdy:=hd _ (cN hy);have hsz:=S1 hdy;rw [mW hy] at hx;simp only [cA] at hx;refine aB (aQ hy) (dM (fun hne=>?_) fun he=>?_)
  ·rw [if_neg hne] at hx;refine aB (aCq hn hdy) ?_;rw [aK (n:=x+C5 p.arrays[i].dims) (by omega),aK (by omega)];exact hr _ ⟨i+1,by dsimp only;omega,by omega,by dsimp only;omega,by dsimp only;omega,hx⟩ (by dsimp only;omega)
  rw [if_pos he] at hx;refine dM (fun hne=>Ev.some ?_) fun hle=>?_
  ·rw [hx,if_neg (by omega)]
  have hle':a.subs.length=p.arrays[i].dims.length:=by omega
  rw [if_pos hle'] at hx;exact Ev.of (aD1 hn a1 a2 hdy hle' hq x (by omega)) hx.symm
 have hie:i=p.arrays.length:=by omega
 rw [hx,hie,List.drop_length];rfl
theorem pS{n:Nat}(hn:6600000≤n){list:List Arr}(hl:list.length≤4)(hd:eE list){a:Access}{d:Int}(ha:f7 a d=true){k:Nat}{q:List Int}(hq:lI k q):kQ n list a q=some (cA list a q 0):=by
 obtain⟨a0,a1,a2⟩:=aEM ha;refine Ev.eq ?_;unfold kQ;refine Ev.loop (fun x:Int×Int=> ∃i:Nat,x.2=i∧i≤list.length∧0≤x.1∧x.1≤36*i∧cA list a q 0=cA (list.drop i) a q x.1) (fun x=>list.length-x.2.toNat) ?_ n _ ⟨0,rfl,by omega,by simp,by simp,rfl⟩ (by simp;omega);rintro again ⟨x,z⟩ ⟨i,hz,hi,hx0,hx1,hx⟩ hr;dsimp only at hz hx0 hx1 hx⊢;subst hz;refine aI (fun hlt=>?_) fun hge=>Ev.some ?_
 ·have hy:=cR (show i<list.length by omega);have hdy:=hd _ (cN hy);have hsz:=S1 hdy;rw [mW hy] at hx;simp only [cA] at hx;refine aB (aQ hy) (dM (fun hne=>?_) fun he=>?_)
  ·rw [if_neg hne] at hx;refine aB (oP hn hdy) ?_;rw [aK (n:=x+C5 list[i].dims) (by omega),aK (by omega)];exact hr _ ⟨i+1,by dsimp only;omega,by omega,by dsimp only;omega,by dsimp only;omega,hx⟩ (by dsimp only;omega)
  rw [if_pos he] at hx;exact Ev.of (aDC hn a0 a1 a2 hdy hq x (by omega)) hx.symm
 have hie:i=list.length:=by omega
 rw [hx,hie,List.drop_length];rfl
def bL:Nat→Expr→List Access
 |0,_=>[]
 |L+1,e=>(if e.kind=3 then [e.read] else [])++e.kids.flatMap (bL L)
theorem mO{d:Int}: ∀{L:Nat} {e:Expr},cL L e d=true→ ∀a∈bL L e,f7 a d=true
 |0,e,h,a,ha=>by cases h
 |L+1,e,h,a,ha=>by
  obtain⟨h1,h2,h3⟩:=jI h;simp only [bL,List.mem_append,List.mem_flatMap] at ha;rcases ha with ha|⟨k,hk,ha⟩
  ·split at ha
   ·rename_i hk3;simp at ha;subst ha;unfold fH at h2;rw [if_neg (by omega),if_pos hk3] at h2;simp only [Bool.and_eq_true] at h2;exact h2.2.2
   simp at ha
  exact mO (h3 k hk) a ha
theorem pV: ∀(L:Nat) (e:Expr),((bL L e).length:Int)≤n9 L e
 |0,e=>by simp [bL,n9]
 |L+1,e=>by
  have h: ∀(l:List Expr),((l.flatMap (bL L)).length:Int)≤(l.map (n9 L)).sum:=by
   intro l;induction l with
   |nil=>simp
   |cons k l ih=>
    have:=pV L k;simp only [List.flatMap_cons,List.length_append,List.map_cons,List.sum_cons];omega
  have:=h e.kids;simp only [bL,n9,List.length_append];split
  ·rw [List.length_singleton];omega
  rw [List.length_nil];omega
theorem zK{d:Int}: ∀(L n:Nat) (e:Expr),6600000+L≤n→L≤5→cL L e d=true→i_reads (n+1) e=some (bL L e)
 |0,n,e,_,_,h=>by cases h
 |L+1,n,e,hn,hL,h=>by
  obtain⟨h1,h2,h3⟩:=jI h;have hk2:=sP e.kind;unfold i_reads;refine Ev.eq (aI (fun h3k=>Ev.some ?_) fun hn3=>?_)
  ·have:e.kids=[]:=by
    have hz:eD e.kind=0:=by unfold eD;rw [if_pos (Or.inr (Or.inr h3k))]
    exact vAx (by omega)
   simp [bL,h3k,this]
  obtain⟨n,rfl⟩: ∃j,n=j+1:=⟨n-1,by omega⟩
  have hcb: ∀k∈e.kids,((bL L k).length:Int)≤100:=fun k hk=>by
   have h5:=O3 (h3 k hk);have h6:(2:Int)^L≤40:=by
    match L,hL with
    |0,_=>decide
    |1,_=>decide
    |2,_=>decide
    |3,_=>decide
    |4,_=>decide
   have:=pV L k;omega
  refine Ev.loop (fun x:List Access×Int=> ∃i:Nat,x.2=i∧i≤e.kids.length∧x.1=(e.kids.take i).flatMap (bL L)∧(x.1.length:Int)≤100*i) (fun x=>e.kids.length-x.2.toNat) ?_ (n+1) _ ⟨0,rfl,by omega,by simp,by simp⟩ (by simp;omega);rintro again ⟨x,k⟩ ⟨i,hk,hi,hx,hxl⟩ hr;dsimp only at hk hx hxl⊢;subst hk;refine aI (fun hlt=>?_) fun hge=>Ev.some ?_
  ·have hk3:=cR (show i<e.kids.length by omega);have hm:=cN hk3;have hb:=hcb _ hm;refine aB (aQ hk3) (aB (zK (d:=d) L n _ (by omega) (by omega) (h3 _ hm)) (aB (jC (by omega)) ?_));rw [aK (by omega)];refine hr _ ⟨i+1,by dsimp only;omega,by omega,?_,by dsimp only;rw [nX];omega⟩ (by dsimp only;omega);dsimp only;rw [Z0,hk3,vAU,hx];simp
  have:i=e.kids.length:=by omega
  rw [hx,this,vW];simp [bL,hn3]
theorem aAX(n:Nat){a:Affine}(h:a.coefs.length≤1100000):gB n a=some a:=by
 unfold gB;refine Ev.eq (aI (fun h0=>Ev.some ?_) fun h0=>aB (f6 _ h) (Ev.some rfl));obtain⟨cs,c⟩:=a
 have:cs=[]:=vAx (by simpa using h0);subst this;rfl
theorem aAY{n:Nat}(hn:5500000≤n){a:Access}(h:w6 a.subs):gC n a=some a:=by
 obtain⟨h0,h1⟩:=h;refine Ev.eq ?_;unfold gC;refine Ev.loop (fun x:List Affine×Int=> ∃i:Nat,x.2=i∧i≤a.subs.length∧x.1=a.subs.take i) (fun x=>a.subs.length-x.2.toNat) ?_ n _ ⟨0,rfl,by omega,by simp⟩ (by simp;omega);rintro again ⟨x,k⟩ ⟨i,hk,hi,hx⟩ hr;dsimp only at hk hx⊢;subst hk;refine aI (fun hlt=>?_) fun hge=>Ev.some ?_
 ·have hs:=cR (show i<a.subs.length by omega);have hl:x.length=i:=by rw [hx,C2];omega
  refine aB (aQ hs) (aB (aAX n (h1 _ (cN hs))) (aB (jC (by simp;omega)) ?_));rw [aK (by omega)];refine hr _ ⟨i+1,by dsimp only;omega,by omega,?_⟩ (by dsimp only;omega);dsimp only;rw [Z0,hs,hx];rfl
 have:i=a.subs.length:=by omega
 rw [hx,this,vW]
theorem aGj{l:List Affine}(h1:l.length≤2)(h2: ∀a∈l,eH a=true):w6 l:=⟨by omega,fun a ha=>by have:=(tS (h2 a ha)).1;unfold SmA;omega⟩
theorem yF{d:Int}: ∀(L n:Nat) (e:Expr) (out:List Access),6600000+L≤n→L≤5→cL L e d=true→(out.length:Int)≤1100000+200*(6-(L:Int))→s_l3Reads (n+1) out e=some (out++bL L e)
 |0,n,e,out,_,_,h,_=>by cases h
 |L+1,n,e,out,hn,hL,h,ho=>by
  obtain⟨h1,h2,h3⟩:=jI h;have hk2:=sP e.kind;unfold s_l3Reads;refine Ev.eq (Ev.jn (fun z=>z=out++(if e.kind=3 then [e.read] else [])) (fun j hj=>aI (fun h3k=>?_) fun hn3=>hj _ (by rw [if_neg hn3];simp)) fun z hz=>?_)
  ·have ha:=mO h e.read (by simp [bL,h3k]);obtain⟨_,b1,b2⟩:=aEM ha;exact aB (aAY (by omega) (aGj b1 b2)) (aB (jC (by simp;omega)) (hj _ (by rw [if_pos h3k])))
  subst hz;obtain⟨n,rfl⟩: ∃j,n=j+1:=⟨n-1,by omega⟩
  by_cases h3k:e.kind=3
  ·have hnil:e.kids=[]:=by
    have hz:eD e.kind=0:=by unfold eD;rw [if_pos (Or.inr (Or.inr h3k))]
    exact vAx (by omega)
   rw [hnil];refine Ev.some ?_;simp [bL,h3k,hnil]
  have hcb: ∀k∈e.kids,((bL L k).length:Int)≤100:=fun k hk=>by
   have h5:=O3 (h3 k hk);have h6:(2:Int)^L≤40:=by
    match L,hL with
    |0,_=>decide
    |1,_=>decide
    |2,_=>decide
    |3,_=>decide
    |4,_=>decide
   have:=pV L k;omega
  rw [if_neg h3k,vBx];refine Ev.loop (fun x:List Access×Int=> ∃i:Nat,x.2=i∧i≤e.kids.length∧x.1=out++(e.kids.take i).flatMap (bL L)∧(x.1.length:Int)≤out.length+100*i) (fun x=>e.kids.length-x.2.toNat) ?_ (n+1) _ ⟨0,rfl,by omega,by simp,by simp⟩ (by simp;omega);rintro again ⟨x,k⟩ ⟨i,hk,hi,hx,hxl⟩ hr;dsimp only at hk hx hxl⊢;subst hk;refine aI (fun hlt=>?_) fun hge=>Ev.some ?_
  ·have hk3:=cR (show i<e.kids.length by omega);have hm:=cN hk3;have hb:=hcb _ hm;refine aB (aQ hk3) (aB (yF (d:=d) L n _ x (by omega) (by omega) (h3 _ hm) (by omega)) ?_);rw [aK (by omega)];refine hr _ ⟨i+1,by dsimp only;omega,by omega,?_,by dsimp only;rw [nX];omega⟩ (by dsimp only;omega);dsimp only;rw [Z0,hk3,vAU,hx];simp
  have:i=e.kids.length:=by omega
  rw [hx,this,vW];simp [bL,h3k]
theorem aDI{nest:List Loop}(hf:Fit nest): ∀(ls:List Loop) (k:Nat) (p q:List Int),nest.drop k=ls→k≤nest.length→lI k p→q∈pts ls p→lI nest.length q
 | [],k,p,q,hd,hk,hp,hq=>by
  have:=s7 hd hk;simp only [pts,List.mem_singleton] at hq;subst hq;subst this;exact hp
 |l::ls,k,p,q,hd,hk,hp,hq=>by obtain⟨d1,d2,d3⟩:=qE hd;obtain⟨s1,s2⟩:=hf.2 k l d1;have hf1:=hf.1;simp only [pts,List.mem_flatMap] at hq;obtain⟨v,hv,hq⟩:=hq;exact aDI hf ls (k+1) _ q d2 (by omega) (xB s1 s2 hp (by omega) (aFK.1 hv)) hq
theorem aET{nest:List Loop}{ps:List (List Int)}(h:NP nest=some ps):Fit nest∧ps.length≤120∧(∀q∈ps,lI nest.length q)∧ps=pts nest []∧wk nest []≤1200:=by
 unfold NP at h;split at h
 ·rename_i hc;cases h;have hf:=M7 hc.1;exact⟨hf,hc.2.2,fun q hq=>aDI hf nest 0 [] q rfl (by omega) pt0 hq,rfl,hc.2.1⟩
 cases h
def cC(list:List Arr)(s:Stmt)(q:List Int):Bool:=decide (0≤cA list s.write q 0)&&(bL 5 s.value).all fun a=>decide (0≤cA list a q 0)
theorem yC{s:Stmt}{d:Int}(h:gA s d=true):f7 s.write d=true∧cL 5 s.value d=true∧(∀a∈bL 5 s.value,f7 a d=true)∧(bL 5 s.value).length≤12:=by
 simp only [gA,Bool.and_eq_true,decide_eq_true_eq] at h;obtain⟨_,h1,h2,h3⟩:=h
 have:=pV 5 s.value;exact⟨h1,h2,mO h2,by omega⟩
theorem U2{n:Nat}(hn:7700000≤n){p:Prog}(hl:p.arrays.length≤4)(hd:eE p.arrays){s:Stmt}{d:Int}(hs:gA s d=true){k:Nat}{q:List Int}(hq:lI k q):eZ n p s q=some (cC p.arrays s q):=by
 obtain⟨h1,h2,h3,h4⟩:=yC hs;obtain⟨n,rfl⟩: ∃j,n=j+1:=⟨n-1,by omega⟩
 refine Ev.eq ?_;unfold eZ;generalize hT:cC p.arrays s q=T;unfold cC at hT;refine Ev.jn (fun z=>z=T) (fun j hj=>aB (qC (by omega) hl hd h1 hq) (aI (fun h=>?_) fun h=>hj _ ?_)) fun z hz=>Ev.some hz
 ·have hc:=wX (n:=n+1) (f:=fun q0=>cV (n+1) q0 p q) (p:=fun a=>decide (cA p.arrays a q 0<0)) (l:=bL 5 s.value)
   (fun a ha=>by unfold cV;rw [qC (by omega) hl hd (h3 a ha) hq];rfl) (by omega) (by omega)
  refine aB (zK (d:=d) 5 n s.value (by omega) (by omega) h2) (aB hc (hj _ ?_));rw [←hT,decide_eq_true h,Y9,vAP];congr 1;apply congrArg fun f=>List.any (bL 5 s.value) f;funext a;rw [ltd]
 rw [←hT,decide_eq_false h];rfl
theorem L3{n:Nat}(hn:7700000≤n){list:List Arr}(hl:list.length≤4)(hd:eE list){s:Stmt}{d:Int}(hs:gA s d=true){k:Nat}{q:List Int}(hq:lI k q):
  pQ n list s q=some (if cC list s q=true then((bL 5 s.value).map fun a=>cA list a q 0,cA list s.write q 0,true) else([],0,false)):=by
 obtain⟨h1,h2,h3,h4⟩:=yC hs;obtain⟨n,rfl⟩: ∃j,n=j+1:=⟨n-1,by omega⟩
 refine Ev.eq ?_;unfold pQ;refine aB (yF (d:=d) 5 n s.value [] (by omega) (by omega) h2 (by simp)) ?_;rw [List.nil_append];generalize hR:bL 5 s.value=R at*;have hco:cC list s q=(decide (0≤cA list s.write q 0)&&R.all fun a=>decide (0≤cA list a q 0)):=by unfold cC;rw [hR]
 refine Ev.loop (fun x:List Int×Int=> ∃i:Nat,x.2=i∧i≤R.length∧x.1=(R.take i).map (fun a=>cA list a q 0)∧ ∀(t:Nat) a,t<i→R[t]? =some a→0≤cA list a q 0) (fun x=>R.length-x.2.toNat) ?_ (n+1) _ ⟨0,rfl,by omega,by simp,fun t a h=>by omega⟩ (by dsimp only;omega);rintro again ⟨x,z⟩ ⟨i,hz,hi,hx,ha⟩ hr;dsimp only at hz hx ha⊢;subst hz;refine aI (fun hlt=>?_) fun hge=>?_
 ·have hg:=cR (show i<R.length by omega);have hm:=cN hg;refine aB (aQ hg) (aB (pS (by omega) hl hd (h3 _ hm) hq) (aI (fun hneg=>Ev.some ?_) fun hpos=>?_))
  ·rw [if_neg];rw [hco];intro h;rw [Bool.and_eq_true] at h
   have:=F6.1 h.2 _ hm;rw [decide_eq_true_eq] at this;omega
  have hl2:x.length≤12:=by rw [hx,vAN,C2];omega
  refine aB (jC (by simp;omega)) ?_;rw [aK (by omega)];refine hr _ ⟨i+1,by dsimp only;omega,by omega,?_,fun t a ht hta=>?_⟩ (by dsimp only;omega)
  ·dsimp only;rw [Z0,hg,vBg,hx];rfl
  by_cases hti:t=i
  ·subst hti;rw [hg] at hta;cases hta;omega
  exact ha t a (by omega) hta
 have hie:i=R.length:=by omega
 have hall:R.all (fun a=>decide (0≤cA list a q 0))=true:=F6.2 (fun a hm=>by
  obtain⟨t,ht⟩:=vAz hm
  have:=(bS.1 ht).1;exact decide_eq_true (ha t a (by omega) ht))
 rw [hco,hall,Bool.and_true];refine aB (pS (by omega) hl hd h1 hq) (aI (fun hneg=>Ev.some ?_) fun hpos=>Ev.some ?_)
 ·rw [if_neg (by rw [decide_eq_true_eq];omega)]
 rw [if_pos (by rw [decide_eq_true_eq];omega),hx,hie,vW]
def ptV(q:List Int):Bool:=decide (q.length≤4)&&q.all fun x=>decide (-9999≤x∧x≤9999)
theorem M4{n:Nat}(hn:5500000≤n){q:List Int}(h:q.length≤1100000):qB n q=some (ptV q):=by
 unfold qB ptV;have hc:=jR (n:=n) (f:=fun q0=>iW n q0) (p:=fun x=> !decide (-9999≤x∧x≤9999)) (l:=q) (fun x _=>by unfold iW;rw [dN];rfl) (by omega) (by omega);simp only [jn,Option.bind];rw [hc];have e:(q.any fun x=> !decide (-9999≤x∧x≤9999))= !(q.all fun x=>decide (-9999≤x∧x≤9999)):=by rw [vAP];simp
 rw [e,show decide ((q.length:Int)≤4)=decide (q.length≤4) from decide_eq_decide.2 (by omega)];cases decide (q.length≤4)<;>simp
theorem L5{n:Nat}(hn:5500000≤n){q:List Int}(h:q.length≤1100000):pR n q=some (ptV q):=by
 refine Ev.eq ?_;unfold pR;refine iP (l:=q) (p:=fun _ x=>decide (-9999≤x∧x≤9999)) (by omega) (by omega) (fun again i x hx hgo hno=>?_) (fun again hall=>?_) (fun⟨i,x,hx,hp⟩=>?_)
 ·have hi:=(bS.1 hx).1;rw [decide_eq_true (show(i:Int)<(q.length:Int) by omega)];refine cG (aB (aQ hx) (aB (oL n x 9999 (by omega)) ?_));cases hp:decide (-9999≤x∧x≤9999) with
  |true=>show Ev (again _) _;rw [aK (by omega)];exact hgo hp
  |false=>exact Ev.some (hno hp)
 ·rw [decide_eq_false (show¬(q.length:Int)<(q.length:Int) by omega)];refine Ev.some ?_;unfold ptV;rw [F6.2 (fun c hc=>by obtain⟨i,hi⟩:=vAz hc;exact hall i c hi),Bool.and_true];exact decide_eq_decide.2 (by omega)
 unfold ptV;rw [R8.2 ⟨x,cN hx,by rw [hp];simp⟩,Bool.and_false]
theorem X7{α:Type}(p q:α→Bool): ∀l:List α,(l.all p&&l.all q)=l.all (fun x=>p x&&q x)
 | []=>rfl
 |x::l=>by simp only [List.all_cons,←X7 p q l];cases p x<;>cases q x<;>cases l.all p<;>cases l.all q<;>rfl
def tP(part:Part):Bool:=decide (1≤part.body.length∧part.body.length≤4)&&part.body.all fun s=>gA s (part.nest.length:Int)
def dK(part:Part):List (List Int):=(NP part.nest).getD []
def cJ(list:List Arr)(part:Part):Bool:=(NP part.nest).isSome&&(tP part&&part.body.all fun s=>(dK part).all fun q=>cC list s q&&ptV q)
def aEN(x:Part):Prop:=SmN x.nest∧x.body.length≤1100000∧ ∀s∈x.body,SmS s
def SmP(p:Prog):Prop:=SmR p.arrays∧p.parts.length≤1100000∧ ∀x∈p.parts,aEN x
theorem yQ{list:List Arr}{x:Part}(h:cJ list x=true):NP x.nest=some (dK x)∧(1≤x.body.length∧x.body.length≤4)∧(∀s∈x.body,gA s (x.nest.length:Int)=true)∧ ∀s∈x.body,∀q∈dK x,cC list s q=true∧ptV q=true:=by
 simp only [cJ,tP,Bool.and_eq_true,decide_eq_true_eq,List.all_eq_true] at h;refine⟨?_,h.2.1.1,h.2.1.2,h.2.2⟩;unfold dK;cases hn:NP x.nest with
 |none=>rw [hn] at h;simp at h
 |some ps=>rfl
theorem aBi{list:List Arr}(h:eQ list=true):list.length≤4∧eE list:=by
 simp only [eQ,Bool.and_eq_true,decide_eq_true_eq] at h;refine⟨h.2,fun x hx=>?_⟩;obtain⟨i,hi⟩:=vAz hx
 have:=zI h.1 hi;simp only [F0,Bool.and_eq_true] at this;exact this.2.2
theorem S5{n:Nat}(hn:7700000≤n){list:List Arr}(hl:list.length≤4)(hd:eE list){x:Part}(hx:aEN x):
  r6 n list x=some (if cJ list x=true then(((dK x).length:Int)*(x.body.length:Int),true) else(0,false)):=by
 obtain⟨h1,h2,h3⟩:=hx;refine Ev.eq ?_;unfold r6;generalize hT:(if cJ list x=true then(((dK x).length:Int)*(x.body.length:Int),true) else((0:Int),false))=T;refine aB (wQ (by omega) h1) ?_;have hbad:cJ list x=false→((0:Int),false)=T:=fun h=>by rw [←hT,h];rfl
 refine Ev.jn (fun z=>z= !((NP x.nest).isSome&&decide (1≤x.body.length∧x.body.length≤4))) (fun j hj=>?_) fun z hz=>?_
 ·cases hN:NP x.nest with
  |none=>exact cG (hj _ (by rw [hN];rfl))
  |some ps=>
   refine bD (aI (fun h=>hj _ ?_) fun h=>hj _ ?_)
   ·rw [hN,decide_eq_false (by omega)];rfl
   rw [hN];by_cases h4:x.body.length≤4
   ·rw [decide_eq_false (show¬(4:Int)<(x.body.length:Int) by omega),decide_eq_true (by omega)];rfl
   rw [decide_eq_true (show(4:Int)<(x.body.length:Int) by omega),decide_eq_false (by omega)];rfl
 subst hz;cases hN:NP x.nest with
 |none=>exact Ev.some (hbad (by unfold cJ;rw [hN];rfl))
 |some ps=>
  obtain⟨hf,hp1,hp2,hp3,hp4⟩:=aET hN;have hpp:dK x=ps:=by unfold dK;rw [hN];rfl
  by_cases hb:1≤x.body.length∧x.body.length≤4
  ·rw [decide_eq_true hb];refine bD ?_;have hok:cJ list x=x.body.all (fun s=>gA s (x.nest.length:Int)&&ps.all fun q=>cC list s q&&ptV q):=by
    unfold cJ tP;rw [hN,hpp,decide_eq_true hb,Option.isSome_some,Y9,Y9];exact X7 _ _ _
   refine Ev.loop (fun y:Int=> ∃i:Nat,y=i∧i≤x.body.length∧ ∀(t:Nat) s,t<i→x.body[t]? =some s→(gA s (x.nest.length:Int)&&ps.all fun q=>cC list s q&&ptV q)=true) (fun y=>x.body.length-y.toNat) ?_ n _ ⟨0,rfl,by omega,fun t s h=>by omega⟩ (by simp;omega);rintro again y ⟨i,rfl,hi,ha⟩ hr;refine aI (fun hlt=>?_) fun hge=>Ev.some ?_
   ·have hg:=cR (show i<x.body.length by omega);have hm:=cN hg;refine aB (aQ hg) (aB (yI (by omega) (h3 _ hm) _) ?_);cases hsv:gA x.body[i] (x.nest.length:Int) with
    |false=>
     refine cG (Ev.some (hbad ?_));rw [hok];exact R8.2 ⟨_,hm,by rw [hsv];simp⟩
    |true=>
     refine bD ?_;show Ev (aO (fun again9 (x8:Int)=>bif decide (x8<(ps.length:Int)) then _ else _) n 0) _;refine Ev.loop (fun y:Int=> ∃k:Nat,y=k∧k≤ps.length∧ ∀(t:Nat) q,t<k→ps[t]? =some q→(cC list x.body[i] q&&ptV q)=true) (fun y=>ps.length-y.toNat) ?_ n _ ⟨0,rfl,by omega,fun t s h=>by omega⟩ (by simp;omega);rintro again9 y ⟨k,rfl,hk,hak⟩ hr9;refine aI (fun hlt9=>?_) fun hge9=>?_
     ·have hgk:=cR (show k<ps.length by omega);have hmk:=cN hgk;have hq:=hp2 _ hmk;have hql:ps[k].length≤1100000:=by have:=hq.1;have:=hq.2.1;omega
      refine aB (aQ hgk) (aB (L3 (by omega) hl hd hsv hq) (Ev.jn (fun z=>z= !(cC list x.body[i] ps[k]&&ptV ps[k])) (fun j hj=>?_) fun z hz=>?_))
      ·cases hc:cC list x.body[i] ps[k] with
       |false=>
        rw [hc] at hj;exact cG (hj _ rfl)
       |true=>
        rw [hc] at hj;exact bD (aB (L5 (by omega) hql) (hj _ rfl))
      subst hz;cases hc:(cC list x.body[i] ps[k]&&ptV ps[k]) with
      |false=>
       refine Ev.some (hbad ?_);rw [hok];refine R8.2 ⟨_,hm,?_⟩;rw [hsv,Y9];rw [R8.2 ⟨_,hmk,by rw [hc];simp⟩];simp
      |true=>
       show Ev (again9 _) _;rw [aK (by omega)];refine hr9 _ ⟨k+1,by omega,by omega,fun t q ht htq=>?_⟩ (by omega);by_cases htk:t=k
       ·subst htk;rw [hgk] at htq;cases htq;exact hc
       exact hak t q (by omega) htq
     rw [aK (by omega)];refine hr _ ⟨i+1,by omega,by omega,fun t s ht hts=>?_⟩ (by omega);by_cases hti:t=i
     ·subst hti;rw [hg] at hts;cases hts;rw [hsv,Y9];refine F6.2 fun q hq=>?_;obtain⟨t',ht'⟩:=vAz hq
      have:=(bS.1 ht').1;exact hak t' q (by omega) ht'
     exact ha t s (by omega) hts
   have hall:cJ list x=true:=by
    rw [hok];refine F6.2 fun s hs=>?_;obtain⟨t,ht⟩:=vAz hs
    have:=(bS.1 ht).1;exact ha t s (by omega) ht
   rw [←hT,hall,if_pos rfl,hpp];show(wr ((ps.length:Int)*(x.body.length:Int)),true)=_;have hb1:(0:Int)≤(ps.length:Int)*(x.body.length:Int):=vBd (by omega) (by omega);have hb2:(ps.length:Int)*(x.body.length:Int)≤120*4:=vBj (by omega) (by omega) (by omega) (by omega);rw [aK (by omega)]
  rw [decide_eq_false hb];refine Ev.some (hbad ?_);unfold cJ tP;rw [decide_eq_false hb];simp
def dV(x:Part):Int:=((dK x).length:Int)*(x.body.length:Int)
def instP(i:Nat)(x:Part):List Inst:=(dK x).flatMap fun q=>(List.range x.body.length).map fun(k:Nat)=>(⟨(i:Int),(k:Int),q⟩:Inst)
def insts(ps:List Part):List Inst:=ps.zipIdx.flatMap fun y=>instP y.2 y.1
def m5(p:Prog):Bool:=eQ p.arrays&&(decide (p.parts.length≤4)&&p.parts.all (cJ p.arrays))
def fZ(p:Prog):Bool:=m5 p&&decide ((p.parts.map dV).sum≤120)
theorem insts_snoc(l:List Part)(x:Part):insts (l++[x])=insts l++instP l.length x:=by unfold insts;rw [List.zipIdx_append,vAU];simp
theorem insts_take{l:List Part}{i:Nat}{x:Part}(h:l[i]? =some x):insts (l.take (i+1))=insts (l.take i)++instP i x:=by have hi:=(bS.1 h).1;rw [Z0,h];show insts (l.take i++[x])=_;rw [insts_snoc,C2,Nat.min_eq_left (Nat.le_of_lt hi)]
theorem s5{α β:Type}(f:α→List β)(m:Nat)(h: ∀x,(f x).length=m): ∀l:List α,(l.flatMap f).length=l.length*m
 | []=>by simp
 |x::l=>by rw [List.flatMap_cons,nX,h,s5 f m h l,List.length_cons,kM];omega
theorem instP_len(i:Nat)(x:Part):((instP i x).length:Int)=dV x:=by unfold instP dV;rw [s5 _ x.body.length fun q=>by simp];exact Int.natCast_mul _ _
theorem S2{l:List Part}{i:Nat}{x:Part}(h:l[i]? =some x):((l.take (i+1)).map dV).sum=((l.take i).map dV).sum+dV x:=by rw [Z0,h];simp
theorem insts_len: ∀(l:List Part) (i:Nat),i≤l.length→((insts (l.take i)).length:Int)=((l.take i).map dV).sum
 |l,0,_=>by simp [insts]
 |l,i+1,h=>by
  have hg:=cR (show i<l.length by omega);rw [insts_take hg,nX,S2 hg]
  have:=insts_len l i (by omega)
  have:=instP_len i l[i];omega
theorem insts_len'(l:List Part):((insts l).length:Int)=(l.map dV).sum:=by
 have:=insts_len l l.length (jG _)
 rwa [vW] at this
theorem vN{list:List Arr}{x:Part}(h:cJ list x=true):0≤dV x∧dV x≤480:=by
 obtain⟨h1,h2,_⟩:=yQ h;obtain⟨_,h3,_⟩:=aET h1;unfold dV;refine⟨vBd (by omega) (by omega),?_⟩
 have:=vBj (show((dK x).length:Int)≤120 by omega) (show(x.body.length:Int)≤4 by omega) (by omega) (by omega);omega
theorem sB{n:Nat}(hn:7700000≤n){p:Prog}(hp:SmP p):gE n p=some (fZ p):=by
 obtain⟨h1,h2,h3⟩:=hp;refine Ev.eq ?_;unfold gE;generalize hT:fZ p=T;unfold fZ m5 at hT;refine Ev.jn (fun z=>z= !(eQ p.arrays&&decide (p.parts.length≤4))) (fun j hj=>aB (C6 (by omega) h1) ?_) fun z hz=>?_
 ·cases ha:eQ p.arrays with
  |false=>exact cG (hj _ (by rw [ha];rfl))
  |true=>
   refine bD (hj _ ?_);rw [ha];by_cases h4:p.parts.length≤4
   ·rw [decide_eq_false (show¬(4:Int)<(p.parts.length:Int) by omega),decide_eq_true h4];rfl
   rw [decide_eq_true (show(4:Int)<(p.parts.length:Int) by omega),decide_eq_false h4];rfl
 subst hz;cases hb:(eQ p.arrays&&decide (p.parts.length≤4)) with
 |false=>
  refine Ev.some ?_;rw [←hT,←vAZ,hb];rfl
 |true=>
  have hT':T=(p.parts.all (cJ p.arrays)&&decide ((p.parts.map dV).sum≤120)):=by rw [←hT,←vAZ,hb];rfl
  rw [Bool.and_eq_true,decide_eq_true_eq] at hb;obtain⟨hl,hd⟩:=aBi hb.1;refine bD ?_;refine Ev.loop (fun x:Int×Int=> ∃i:Nat,x.2=i∧i≤p.parts.length∧x.1=((p.parts.take i).map dV).sum∧0≤x.1∧x.1≤480*i∧ ∀(t:Nat) y,t<i→p.parts[t]? =some y→cJ p.arrays y=true) (fun x=>p.parts.length-x.2.toNat) ?_ n _ ⟨0,rfl,by omega,by simp,by simp,by simp,fun t y h=>by omega⟩ (by dsimp only;omega);rintro again ⟨x,z⟩ ⟨i,hz,hi,hx,hx0,hx1,ha⟩ hr;dsimp only at hz hx hx0 hx1 ha⊢;subst hz;refine aI (fun hlt=>?_) fun hge=>Ev.some ?_
  ·have hg:=cR (show i<p.parts.length by omega);have hm:=cN hg;refine aB (aQ hg) (aB (S5 (by omega) hl hd (h3 _ hm)) ?_);cases hpo:cJ p.arrays p.parts[i] with
   |false=>
    rw [if_neg (by simp)];refine Ev.some ?_;rw [hT',R8.2 ⟨_,hm,by rw [hpo];simp⟩];rfl
   |true=>
    rw [if_pos rfl];have hcb:=vN hpo;show Ev (again (wr (x+dV p.parts[i]),wr ((i:Int)+1))) _;rw [aK (n:=x+dV p.parts[i]) (by omega),aK (by omega)];refine hr _ ⟨i+1,by dsimp only;omega,by omega,by dsimp only;rw [S2 hg];omega,by dsimp only;omega,by dsimp only;omega,fun t y ht hty=>?_⟩ (by dsimp only;omega);by_cases hti:t=i
    ·subst hti;rw [hg] at hty;cases hty;exact hpo
    exact ha t y (by omega) hty
  have hie:i=p.parts.length:=by omega
  have hall:p.parts.all (cJ p.arrays)=true:=F6.2 (fun y hy=>by
   obtain⟨t,ht⟩:=vAz hy
   have:=(bS.1 ht).1;exact ha t y (by omega) ht)
  rw [hT',hall,Y9,hx,hie,vW]
theorem o1{α:Type}(f:Nat→α)(k:Nat):(List.range (k+1)).map f=(List.range k).map f++[f k]:=by rw [List.range_succ,vBg];rfl
theorem o8{n:Nat}(hn:7700000≤n){p:Prog}(hp:SmP p):cM n p=some (if m5 p=true then(insts p.parts,decide ((insts p.parts).length≤120)) else([],false)):=by
 obtain⟨h1,h2,h3⟩:=hp;refine Ev.eq ?_;unfold cM;generalize hT:(if m5 p=true then(insts p.parts,decide ((insts p.parts).length≤120)) else([],false))=T;have hbad:m5 p=false→(([]:List Inst),false)=T:=fun h=>by rw [←hT,h];rfl
 refine Ev.jn (fun z=>z= !(eQ p.arrays&&decide (p.parts.length≤4))) (fun j hj=>aB (D0 (by omega) h1) ?_) fun z hz=>?_
 ·cases ha:eQ p.arrays with
  |false=>exact cG (hj _ (by rw [ha];rfl))
  |true=>
   refine bD (hj _ ?_);rw [ha];by_cases h4:p.parts.length≤4
   ·rw [decide_eq_false (show¬(4:Int)<(p.parts.length:Int) by omega),decide_eq_true h4];rfl
   rw [decide_eq_true (show(4:Int)<(p.parts.length:Int) by omega),decide_eq_false h4];rfl
 subst hz;cases hb:(eQ p.arrays&&decide (p.parts.length≤4)) with
 |false=>exact Ev.some (hbad (by unfold m5;rw [←vAZ,hb];rfl))
 |true=>
  have hall':m5 p=p.parts.all (cJ p.arrays):=by unfold m5;rw [←vAZ,hb];rfl
  rw [Bool.and_eq_true,decide_eq_true_eq] at hb;obtain⟨hl,hd⟩:=aBi hb.1;refine bD ?_;refine Ev.loop (fun x:List Inst×Int=> ∃i:Nat,x.2=i∧i≤p.parts.length∧x.1=insts (p.parts.take i)∧x.1.length≤480*i∧ ∀(t:Nat) y,t<i→p.parts[t]? =some y→cJ p.arrays y=true) (fun x=>p.parts.length-x.2.toNat) ?_ n _ ⟨0,rfl,by omega,by simp [insts],by simp,fun t y h=>by omega⟩ (by dsimp only;omega);rintro again ⟨x,z⟩ ⟨i,hz,hi,hx,hxl,ha⟩ hr;dsimp only at hz hx hxl ha⊢;subst hz;refine aI (fun hlt=>?_) fun hge=>Ev.some ?_
  ·have hg:=cR (show i<p.parts.length by omega);have hm:=cN hg;obtain⟨s1,s2,s3⟩:=h3 _ hm;generalize hP:p.parts[i]=P at*;have hpb:cJ p.arrays P=false→m5 p=false:=fun h=>by rw [hall'];exact R8.2 ⟨_,hm,by rw [h];simp⟩
   refine aB (aQ hg) (aB (wW (by omega) s1) (Ev.jn (fun z=>z= !((NP P.nest).isSome&&tP P)) (fun j hj=>?_) fun z hz=>?_))
   ·cases hN:NP P.nest with
    |none=>exact cG (hj _ (by rw [hN];rfl))
    |some ps=>
     refine bD ?_;have hw:bW n (P.body.length:Int) 1 4=some (decide (1≤P.body.length∧P.body.length≤4)):=by
      rw [dN];congr 1;exact decide_eq_decide.2 (by omega)
     refine aB hw ?_;have hc:=D3 (n:=n) (f:=fun q0=>b9 n q0 P) (p:=fun s=> !gA s (P.nest.length:Int)) (l:=P.body) (fun s hs=>by unfold b9;rw [zN (by omega) (s3 s hs)];rfl) (by omega) (by omega);have e:(P.body.any fun s=> !gA s (P.nest.length:Int))= !(P.body.all fun s=>gA s (P.nest.length:Int)):=by rw [vAP];simp
     cases hw2:decide (1≤P.body.length∧P.body.length≤4) with
     |false=>exact cG (hj _ (by unfold tP;rw [hN,hw2];rfl))
     |true=>exact bD (aB hc (hj _ (by unfold tP;rw [hN,hw2,e];rfl)))
   subst hz;cases hN:NP P.nest with
   |none=>exact Ev.some (hbad (hpb (by unfold cJ;rw [hN];rfl)))
   |some ps=>
    obtain⟨hf,hp1,hp2,hp3,hp4⟩:=aET hN;have hpp:dK P=ps:=by unfold dK;rw [hN];rfl
    cases hbv:tP P with
    |false=>exact Ev.some (hbad (hpb (by unfold cJ;rw [hbv];simp)))
    |true=>
     have hbv':=hbv;simp only [tP,Bool.and_eq_true,decide_eq_true_eq,List.all_eq_true] at hbv';obtain⟨⟨hb1,hb2⟩,hb3⟩:=hbv';have hok:cJ p.arrays P=P.body.all (fun s=>ps.all fun q=>cC p.arrays s q&&ptV q):=by
      unfold cJ;rw [hN,hbv,hpp];rfl
     let row:List Int→List Inst:=fun q=>(List.range P.body.length).map fun(k:Nat)=>(⟨(i:Int),(k:Int),q⟩:Inst)
     have hrl: ∀q,(row q).length=P.body.length:=fun q=>by simp [row]
     have hinst:instP i P=ps.flatMap row:=by unfold instP;rw [hpp]
     refine bD ?_;rw [show(aAU (some ps)).1=ps from rfl];refine Ev.loop (fun y:List Inst×Int=> ∃k:Nat,y.2=k∧k≤ps.length∧y.1=x++(ps.take k).flatMap row∧ ∀(t:Nat) q,t<k→ps[t]? =some q→ptV q=true∧ ∀s∈P.body,cC p.arrays s q=true) (fun y=>ps.length-y.2.toNat) ?_ n _ ⟨0,rfl,by omega,by simp,fun t q h=>by omega⟩ (by dsimp only;omega);rintro again17 ⟨y,z⟩ ⟨k,hz,hk,hy,hak⟩ hr17;dsimp only at hz hy hak⊢;subst hz;refine aI (fun hlt2=>?_) fun hge2=>?_
     ·have hgk:=cR (show k<ps.length by omega);have hmk:=cN hgk;generalize hQ:ps[k]=Q at*;have hq:=hp2 _ hmk;have hql:Q.length≤4:=by have:=hq.1;have:=hq.2.1;omega
      refine aB (aQ hgk) (aB (M4 (by omega) (by omega)) ?_);have hyl:y.length≤480*4+480:=by
       rw [hy,nX,s5 row _ hrl,C2]
       have:min k ps.length*P.body.length≤120*4:=vBv (by omega) hb2;omega
      cases hpv:ptV Q with
      |false=>
       refine cG (Ev.some (hbad (hpb ?_)));rw [hok];obtain⟨s0,hs0⟩: ∃s0,s0∈P.body:=List.exists_mem_of_length_pos (by omega);refine R8.2 ⟨s0,hs0,?_⟩;rw [R8.2 ⟨Q,hmk,by rw [hpv];simp⟩];simp
      |true=>
       refine bD ?_;refine Ev.loop (fun u:List Inst×Int=> ∃m:Nat,u.2=m∧m≤P.body.length∧u.1=y++(List.range m).map (fun(k:Nat)=>(⟨(i:Int),(k:Int),Q⟩:Inst))∧ ∀(t:Nat) s,t<m→P.body[t]? =some s→cC p.arrays s Q=true) (fun u=>P.body.length-u.2.toNat) ?_ n _ ⟨0,rfl,by omega,by simp,fun t s h=>by omega⟩ (by dsimp only;omega);rintro again23 ⟨u,z⟩ ⟨m,hz,hmm,hu,ham⟩ hr23;dsimp only at hz hu ham⊢;subst hz;refine aI (fun hlt3=>?_) fun hge3=>?_
       ·have hgm:=cR (show m<P.body.length by omega);have hmem:=cN hgm;refine aB (aQ hgm) (aB (U2 (by omega) hl hd (hb3 _ hmem) hq) ?_);cases hco:cC p.arrays P.body[m] Q with
        |false=>
         refine cG (Ev.some (hbad (hpb ?_)));rw [hok];refine R8.2 ⟨_,hmem,?_⟩;rw [R8.2 ⟨Q,hmk,by rw [hco];simp⟩];simp
        |true=>
         have hcl:m_ownClone Q=some Q:=by unfold m_ownClone;rw [if_pos (by omega)]
         have hul:u.length≤480*4+480+4:=by rw [hu];simp;omega
         refine bD (aB hcl (aB (jC (by simp;omega)) ?_));rw [aK (by omega)];refine hr23 _ ⟨m+1,by dsimp only;omega,by omega,?_,fun t s ht hts=>?_⟩ (by dsimp only;omega)
         ·dsimp only;rw [hu,o1,vAS]
         by_cases htm:t=m
         ·subst htm;rw [hgm] at hts;cases hts;exact hco
         exact ham t s (by omega) hts
       have hme:m=P.body.length:=by omega
       rw [aK (by omega)];refine hr17 _ ⟨k+1,by dsimp only;omega,by omega,?_,fun t q ht htq=>?_⟩ (by dsimp only;omega)
       ·dsimp only;rw [Z0,hgk,vAU,←vAS,←hy,hu,hme];simp [row]
       by_cases htk:t=k
       ·subst htk;rw [hgk] at htq;cases htq;refine⟨hpv,fun s hs=>?_⟩;obtain⟨t',ht'⟩:=vAz hs
        have:=(bS.1 ht').1;exact ham t' s (by omega) ht'
       exact hak t q (by omega) htq
     have hke:k=ps.length:=by omega
     have hpo:cJ p.arrays P=true:=by
      rw [hok];refine F6.2 fun s hs=>F6.2 fun q hq=>?_;obtain⟨t,ht⟩:=vAz hq
      have:=(bS.1 ht).1;obtain⟨g1,g2⟩:=hak t q (by omega) ht;rw [g1,g2 s hs];rfl
     have hcb:=vN hpo;have hil:=instP_len i P;rw [aK (by omega)];refine hr _ ⟨i+1,by dsimp only;omega,by omega,?_,?_,fun t y ht hty=>?_⟩ (by dsimp only;omega)
     ·dsimp only;rw [insts_take hg,hinst,hy,hke,vW,hx]
     ·dsimp only;rw [hy,hke,vW,nX,←hinst];omega
     by_cases hti:t=i
     ·subst hti;rw [hg] at hty;cases hty;exact hpo
     exact ha t y (by omega) hty
  have hie:i=p.parts.length:=by omega
  have hall:m5 p=true:=by
   rw [hall'];exact F6.2 (fun y hy=>by
    obtain⟨t,ht⟩:=vAz hy
    have:=(bS.1 ht).1;exact ha t y (by omega) ht)
  rw [←hT,if_pos hall,hx,hie,vW];congr 1;exact decide_eq_decide.2 (by omega)
theorem sY{n:Nat}(hn:7700000≤n){p:Prog}(hp:SmP p):gM n p=some (fZ p):=by
 unfold gM;rw [o8 hn hp];unfold fZ;cases h:m5 p with
 |false=>rfl
 |true=>
  rw [if_pos rfl];show some (decide _)=_;rw [Y9];congr 1
  have:=insts_len' p.parts;exact decide_eq_decide.2 (by omega)
theorem n8{n:Nat}(hn:7700000≤n){p:Prog}(hp:SmP p):dU n p=some (if fZ p=true then insts p.parts else []):=by
 unfold dU;rw [o8 hn hp];unfold fZ;cases h:m5 p with
 |false=>rfl
 |true=>
  rw [if_pos rfl,Y9]
  have:=insts_len' p.parts;by_cases hl:(insts p.parts).length≤120
  ·rw [decide_eq_true hl,decide_eq_true (by omega),if_pos rfl];rfl
  rw [decide_eq_false hl,decide_eq_false (by omega),if_neg (by simp)];rfl
theorem o2{p:Prog}(h:fZ p=true):p.arrays.length≤4∧eE p.arrays∧p.parts.length≤4∧(∀x∈p.parts,cJ p.arrays x=true)∧(insts p.parts).length≤120:=by
 simp only [fZ,m5,Bool.and_eq_true,decide_eq_true_eq,List.all_eq_true] at h;obtain⟨⟨h1,h2,h3⟩,h4⟩:=h;obtain⟨a,b⟩:=aBi h1
 have:=insts_len' p.parts;exact⟨a,b,h2,h3,by omega⟩
theorem yH{n:Nat}(hn:7700000≤n){p:Prog}(hv:fZ p=true):iI n p=some (insts p.parts):=by
 obtain⟨hl,hd,h4,hpo,hil⟩:=o2 hv;refine Ev.eq ?_;unfold iI;refine Ev.loop (fun x:List Inst×Int=> ∃i:Nat,x.2=i∧i≤p.parts.length∧x.1=insts (p.parts.take i)∧x.1.length≤480*i) (fun x=>p.parts.length-x.2.toNat) ?_ n _ ⟨0,rfl,by omega,by simp [insts],by simp⟩ (by dsimp only;omega);rintro again ⟨x,z⟩ ⟨i,hz,hi,hx,hxl⟩ hr;dsimp only at hz hx hxl⊢;subst hz;refine aI (fun hlt=>?_) fun hge=>Ev.some ?_
 ·have hg:=cR (show i<p.parts.length by omega);have hm:=cN hg;have hpP:=hpo _ hm;generalize hP:p.parts[i]=P at*;obtain⟨q1,q2,q3,q4⟩:=yQ hpP;obtain⟨hf,hp1,hp2,hp3,hp4⟩:=aET q1;generalize hpp:dK P=ps at*;have hcb:=vN hpP;have hil':=instP_len i P;let row:List Int→List Inst:=fun q=>(List.range P.body.length).map fun(k:Nat)=>(⟨(i:Int),(k:Int),q⟩:Inst)
  have hrl: ∀q,(row q).length=P.body.length:=fun q=>by simp [row]
  have hinst:instP i P=ps.flatMap row:=by unfold instP;rw [hpp]
  refine aB (aQ hg) (fP (oO hf P.nest n 0 [] [] (by have:=hf.1;omega) rfl (by omega) pt0 hp4 (by simp)) fun r ⟨r1,r2⟩=>?_);have hr1:r=ps:=by rw [r1 (by rw [←hp3];simpa using hp1),hp3];rfl
  subst hr1;refine Ev.loop (fun y:List Inst×Int=> ∃k:Nat,y.2=k∧k≤r.length∧y.1=x++(r.take k).flatMap row) (fun y=>r.length-y.2.toNat) ?_ n _ ⟨0,rfl,by omega,by simp⟩ (by dsimp only;omega);rintro again10 ⟨y,z⟩ ⟨k,hz,hk,hy⟩ hr10;dsimp only at hz hy⊢;subst hz;refine aI (fun hlt2=>?_) fun hge2=>?_
  ·have hgk:=cR (show k<r.length by omega);have hmk:=cN hgk;generalize hQ:r[k]=Q at*;have hq:=hp2 _ hmk;have hql:Q.length≤4:=by have:=hq.1;have:=hq.2.1;omega
   have hyl:y.length≤480*4+480:=by
    rw [hy,nX,s5 row _ hrl,C2]
    have:min k r.length*P.body.length≤120*4:=vBv (by omega) q2.2;omega
   refine Ev.loop (fun u:List Inst×Int=> ∃m:Nat,u.2=m∧m≤P.body.length∧u.1=y++(List.range m).map (fun(k:Nat)=>(⟨(i:Int),(k:Int),Q⟩:Inst))) (fun u=>P.body.length-u.2.toNat) ?_ n _ ⟨0,rfl,by omega,by simp⟩ (by dsimp only;omega);rintro again14 ⟨u,z⟩ ⟨m,hz,hmm,hu⟩ hr14;dsimp only at hz hu⊢;subst hz;refine aI (fun hlt3=>?_) fun hge3=>?_
   ·have hul:u.length≤480*4+480+4:=by rw [hu];simp;omega
    refine aB (aQ hgk) (aB (f6 _ (by omega)) (aB (jC (by simp;omega)) ?_));rw [aK (by omega)];refine hr14 _ ⟨m+1,by dsimp only;omega,by omega,?_⟩ (by dsimp only;omega);dsimp only;rw [hu,o1,vAS]
   have hme:m=P.body.length:=by omega
   rw [aK (by omega)];refine hr10 _ ⟨k+1,by dsimp only;omega,by omega,?_⟩ (by dsimp only;omega);dsimp only;rw [Z0,hgk,vAU,←vAS,←hy,hu,hme];simp [row]
  have hke:k=r.length:=by omega
  rw [aK (by omega)];refine hr _ ⟨i+1,by dsimp only;omega,by omega,?_,?_⟩ (by dsimp only;omega)
  ·dsimp only;rw [insts_take hg,hinst,hy,hke,vW,hx]
  dsimp only;rw [hy,hke,vW,nX,←hinst];omega
 have hie:i=p.parts.length:=by omega
 rw [hx,hie,vW]
theorem aAh{l:List Arr}{i:Nat}{x:Arr}(h:l[i]? =some x):kN (l.take (i+1))=kN (l.take i)+C5 x.dims:=by unfold kN;rw [List.take_add_one,h];simp
theorem yE{n:Nat}(hn:7700000≤n){p:Prog}(hl:p.arrays.length≤4)(hd:eE p.arrays):pP n p=some (kN p.arrays):=by
 refine Ev.eq ?_;unfold pP;refine Ev.loop (fun x:Int×Int=> ∃i:Nat,x.2=i∧i≤p.arrays.length∧x.1=kN (p.arrays.take i)∧0≤x.1∧x.1≤36*i) (fun x=>p.arrays.length-x.2.toNat) ?_ n _ ⟨0,rfl,by omega,by simp [kN],by simp,by simp⟩ (by dsimp only;omega);rintro again ⟨x,z⟩ ⟨i,hz,hi,hx,hx0,hx1⟩ hr;dsimp only at hz hx hx0 hx1⊢;subst hz;refine aI (fun hlt=>?_) fun hge=>Ev.some ?_
 ·have hg:=cR (show i<p.arrays.length by omega);have hdm:=hd _ (cN hg);have hsz:=S1 hdm;refine aB (aQ hg) (aB (oP (by omega) hdm) ?_);rw [aK (n:=x+C5 p.arrays[i].dims) (by omega),aK (by omega)];exact hr _ ⟨i+1,by dsimp only;omega,by omega,by dsimp only;rw [aAh hg];omega,by dsimp only;omega,by dsimp only;omega⟩ (by dsimp only;omega)
 have hie:i=p.arrays.length:=by omega
 rw [hx,hie,vW]
theorem aAD{n:Nat}(hn:7700000≤n){p:Prog}(hl:p.arrays.length≤4)(hd:eE p.arrays):jA n p=some (kN p.arrays):=yE hn hl hd
def y0(p:Prog)(m:List Int):Bool:=fZ p&&(decide ((m.length:Int)=kN p.arrays)&&m.all fun x=>decide (0≤x∧x≤999))
theorem uZ{n:Nat}(hn:7700000≤n){p:Prog}(hp:SmP p){m:List Int}(hm:m.length≤1100000):iL n p m=some (y0 p m):=by
 refine Ev.eq ?_;unfold iL;generalize hT:y0 p m=T;unfold y0 at hT;refine Ev.jn (fun z=>z=T) (fun j hj=>aB (sY hn hp) ?_) fun z hz=>Ev.some hz;cases hv:fZ p with
 |false=>exact bD (hj _ (by rw [←hT,hv];rfl))
 |true=>
  obtain⟨hl,hd,_⟩:=o2 hv;have hc:=jR (n:=n) (f:=fun q0=>d5 n q0) (p:=fun x=> !decide (0≤x∧x≤999)) (l:=m) (fun x _=>by unfold d5;rw [dN];rfl) (by omega) (by omega);have e:(m.any fun x=> !decide (0≤x∧x≤999))= !(m.all fun x=>decide (0≤x∧x≤999)):=by rw [vAP];simp
  refine cG (aB (aAD hn hl hd) (aI (fun h=>aB hc (hj _ ?_)) fun h=>hj _ ?_))
  ·rw [←hT,hv,decide_eq_true h,e];simp
  rw [←hT,hv,decide_eq_false h];rfl
theorem uK{n:Nat}(hn:7700000≤n){p:Prog}(hp:SmP p){m:List Int}(hm:m.length≤1100000):iJ n p m=some (y0 p m):=by
 refine Ev.eq ?_;unfold iJ;generalize hT:y0 p m=T;unfold y0 at hT;refine iP (l:=m) (p:=fun _ x=>decide (0≤x∧x≤999)) (by omega) (by omega) (fun again i x hx hgo hno=>?_) (fun again hall=>?_) (fun⟨i,x,hx,hp⟩=>?_)
 ·have hi:=(bS.1 hx).1;rw [decide_eq_true (show(i:Int)<(m.length:Int) by omega)];refine cG (Ev.jn (fun z=>z= !decide (0≤x∧x≤999)) (fun j hj=>aB (aQ hx) (aI (fun h=>hj _ ?_) fun h=>hj _ ?_)) fun z hz=>?_)
  ·rw [decide_eq_false (by omega)];rfl
  ·by_cases h9:x≤999
   ·rw [decide_eq_false (show¬(999:Int)<x by omega),decide_eq_true (by omega)];rfl
   rw [decide_eq_true (show(999:Int)<x by omega),decide_eq_false (by omega)];rfl
  subst hz;cases hb:decide (0≤x∧x≤999) with
  |true=>show Ev (again _) _;rw [aK (by omega)];exact hgo hb
  |false=>exact Ev.some (hno hb)
 ·rw [decide_eq_false (show¬(m.length:Int)<(m.length:Int) by omega)];have hal:m.all (fun x=>decide (0≤x∧x≤999))=true:=F6.2 fun c hc=>by obtain⟨i,hi⟩:=vAz hc;exact hall i c hi
  refine bD (Ev.jn (fun z=>z=T) (fun j hj=>aB (sB hn hp) ?_) fun z hz=>Ev.some hz);cases hv:fZ p with
  |false=>exact bD (hj _ (by rw [←hT,hv];rfl))
  |true=>
   obtain⟨hl,hd,_⟩:=o2 hv;refine cG (aB (yE hn hl hd) (hj _ ?_));rw [←hT,hv,hal];simp
 rw [←hT,R8.2 ⟨x,cN hx,by rw [hp];simp⟩];simp
theorem r5(x:Int):Int.tmod x 1000=if 0≤x then x%1000 else-((-x)%1000):=by
 split
 ·rename_i h;exact Int.tmod_eq_emod_of_nonneg h
 rename_i h;have h2:0≤ -x:=by omega
 have e1:Int.tmod x 1000= -(Int.tmod (-x) 1000):=by rw [Int.neg_tmod,Int.neg_neg]
 rw [e1,Int.tmod_eq_emod_of_nonneg h2]
theorem lZ(n:Nat)(x:Int):kZ n x=some (x%1000):=by
 unfold kZ;rw [r5 x];congr 1;split
 ·rw [aK (n:=x%1000+999) (by omega),aK (by omega),r5,if_pos (by omega)];omega
 rw [aK (n:= -(-x%1000)+999) (by omega),aK (by omega),r5,if_pos (by omega)];omega
theorem pO(n:Nat)(x:Int):kO n x=some (x%1000):=by
 unfold kO;rw [r5 x];refine Ev.eq (aI (fun h=>Ev.some ?_) fun h=>Ev.some ?_)
 ·split at h
  ·omega
  rename_i h0;rw [if_neg h0,aK (n:= -(-x%1000)+999) (by omega),aK (by omega)];omega
 split at h
 ·rename_i h0;rw [if_pos h0]
 rename_i h0;rw [if_neg h0];omega
def rW:Nat→List Arr→List Int→Expr→List Int→Int
 |0,_,_,_,_=>0
 |L+1,list,m,e,q=>
  if e.kind=1 then e.num
  else if e.kind=2 then dP e.index q%1000
  else if e.kind=3 then m.getD (cA list e.read q 0).toNat 0
  else match e.kids with
   | [a,b]=>if e.kind=4 then(rW L list m a q+rW L list m b q)%1000 else if e.kind=5 then(rW L list m a q-rW L list m b q)%1000 else(rW L list m a q*rW L list m b q)%1000
   |_=>0
def lJ(list:List Arr)(m:List Int):Prop:=(m.length:Int)=kN list∧ ∀x∈m,0≤x∧x≤999
theorem aHl{list:List Arr}{m:List Int}(h:lJ list m)(i:Nat):0≤m.getD i 0∧m.getD i 0≤999:=by
 rw [vAO];cases hi:m[i]? with
 |none=>simp
 |some x=>exact h.2 x (cN hi)
theorem xU{list:List Arr}{m:List Int}(hm:lJ list m){d:Int}{q:List Int}: ∀{L:Nat} {e:Expr},cL L e d=true→0≤rW L list m e q∧rW L list m e q≤999
 |0,e,h=>by cases h
 |L+1,e,h=>by
  obtain⟨h1,h2,h3⟩:=jI h;simp only [rW];split
  ·rename_i k1;unfold fH at h2;rw [if_neg (by omega),if_neg (by omega),if_pos k1] at h2;simp only [Bool.and_eq_true,decide_eq_true_eq] at h2;omega
  split
  ·omega
  split
  ·exact aHl hm _
  split
  ·split
   ·omega
   split<;>omega
  omega
theorem R4{a b:Int}(ha:0≤a∧a≤999)(hb:0≤b∧b≤999):0≤a*b∧a*b≤999000:=by
 constructor
 ·exact vBd ha.1 hb.1
 have:=vBj ha.2 hb.2 (by omega) (by omega);omega
theorem T8{L:Nat}{e:Expr}{d:Int}(h:cL (L+1) e d=true)(k1: ¬e.kind=1)(k2: ¬e.kind=2)(k3: ¬e.kind=3):(e.kind=4∨e.kind=5∨e.kind=6)∧ ∃a b,e.kids=[a,b]:=by
 obtain⟨h1,_,_⟩:=jI h;unfold eD at h1;rw [if_neg (by omega)] at h1;split at h1
 ·rename_i hk;refine⟨hk,?_⟩
  have:e.kids.length=2:=by omega
  match hq:e.kids,this with
  | [a,b],_=>exact⟨a,b,rfl⟩
 omega
theorem rA{p:Prog}(hl:p.arrays.length≤4)(hd:eE p.arrays){m:List Int}(hm:lJ p.arrays m){d:Int}{k:Nat}{q:List Int}(hq:lI k q): ∀(L n:Nat) (e:Expr),7700000+L≤n→cL L e d=true→(∀a∈bL L e,0≤cA p.arrays a q 0)→
  i_Program_value (n+1) p m e q=some (rW L p.arrays m e q)
 |0,n,e,_,h,_=>by cases h
 |L+1,n,e,hn,h,hr=>by
  obtain⟨h1,h2,h3⟩:=jI h;unfold i_Program_value;refine Ev.eq ?_;simp only [rW];refine aI (fun k1=>Ev.some (by rw [if_pos k1])) fun k1=>?_;rw [if_neg k1];refine aI (fun k2=>?_) fun k2=>?_
  ·rw [if_pos k2];unfold fH at h2;rw [if_pos k2] at h2;simp only [Bool.and_eq_true,bH] at h2;have ha:=h2.2.2.1;exact aB (aCs (by omega) ha hq) (aB (lZ _ _) (Ev.some rfl))
  rw [if_neg k2];refine aI (fun k3=>?_) fun k3=>?_
  ·rw [if_pos k3];have hmem:e.read∈bL (L+1) e:=by simp [bL,k3]
   have ha:=mO h _ hmem;have hc0:=hr _ hmem;rcases xK hd e.read q 0 (xW 0) with hc|hc
   ·omega
   have hlt:(cA p.arrays e.read q 0).toNat<m.length:=by have:=hm.1;omega
   have hg:=cR hlt;have hix:ix m (cA p.arrays e.read q 0)=some m[(cA p.arrays e.read q 0).toNat]:=by
    unfold ix;rw [if_pos hc0,hg]
   refine aB (qC (by omega) hl hd ha hq) (aB hix (Ev.some ?_));rw [vAO,hg];rfl
  rw [if_neg k3];obtain⟨hk,a,b,hab⟩:=T8 h k1 k2 k3;obtain⟨n,rfl⟩: ∃j,n=j+1:=⟨n-1,by omega⟩
  have hsa:=h3 a (by rw [hab];simp);have hsb:=h3 b (by rw [hab];simp);have va:=rA hl hd hm hq L n a (by omega) hsa fun x hx=>hr x (by simp only [bL,List.mem_append,List.mem_flatMap];exact .inr ⟨a,by rw [hab];simp,hx⟩);have vb:=rA hl hd hm hq L n b (by omega) hsb fun x hx=>hr x (by simp only [bL,List.mem_append,List.mem_flatMap];exact .inr ⟨b,by rw [hab];simp,hx⟩);have ba:=xU hm (q:=q) hsa;have bb:=xU hm (q:=q) hsb;have bm:=R4 ba bb;rw [hab];refine aB (x:=a) rfl (aB va (aB (x:=b) rfl (aB vb ?_)));dsimp only;refine aI (fun k4=>?_) fun k4=>?_
  ·rw [if_pos k4,aK (by omega)];exact aB (lZ _ _) (Ev.some rfl)
  rw [if_neg k4];refine aI (fun k5=>?_) fun k5=>?_
  ·rw [if_pos k5,aK (by omega)];exact aB (lZ _ _) (Ev.some rfl)
  rw [if_neg k5,aK (by omega)];exact aB (lZ _ _) (Ev.some rfl)
theorem qW{list:List Arr}(hl:list.length≤4)(hd:eE list){m:List Int}(hm:lJ list m){d:Int}{k:Nat}{q:List Int}(hq:lI k q): ∀(L n:Nat) (e:Expr),7700000+L≤n→cL L e d=true→(∀a∈bL L e,0≤cA list a q 0)→
  s_l5Eval (n+1) list m e q=some (rW L list m e q)
 |0,n,e,_,h,_=>by cases h
 |L+1,n,e,hn,h,hr=>by
  obtain⟨h1,h2,h3⟩:=jI h;unfold s_l5Eval;refine Ev.eq ?_;simp only [rW];refine aI (fun k1=>Ev.some (by rw [if_pos k1])) fun k1=>?_;rw [if_neg k1];refine aI (fun k2=>?_) fun k2=>?_
  ·rw [if_pos k2];unfold fH at h2;rw [if_pos k2] at h2;simp only [Bool.and_eq_true,bH] at h2;have ha:=h2.2.2.1;exact aB (aCe (by omega) ha hq) (aB (pO _ _) (Ev.some rfl))
  rw [if_neg k2];refine aI (fun k3=>?_) fun k3=>?_
  ·rw [if_pos k3];have hmem:e.read∈bL (L+1) e:=by simp [bL,k3]
   have ha:=mO h _ hmem;have hc0:=hr _ hmem;rcases xK hd e.read q 0 (xW 0) with hc|hc
   ·omega
   have hlt:(cA list e.read q 0).toNat<m.length:=by have:=hm.1;omega
   have hg:=cR hlt;have hix:ix m (cA list e.read q 0)=some m[(cA list e.read q 0).toNat]:=by
    unfold ix;rw [if_pos hc0,hg]
   refine aB (pS (by omega) hl hd ha hq) (aB hix (Ev.some ?_));rw [vAO,hg];rfl
  rw [if_neg k3];obtain⟨hk,a,b,hab⟩:=T8 h k1 k2 k3;obtain⟨n,rfl⟩: ∃j,n=j+1:=⟨n-1,by omega⟩
  have hsa:=h3 a (by rw [hab];simp);have hsb:=h3 b (by rw [hab];simp);have va:=qW hl hd hm hq L n a (by omega) hsa fun x hx=>hr x (by simp only [bL,List.mem_append,List.mem_flatMap];exact .inr ⟨a,by rw [hab];simp,hx⟩);have vb:=qW hl hd hm hq L n b (by omega) hsb fun x hx=>hr x (by simp only [bL,List.mem_append,List.mem_flatMap];exact .inr ⟨b,by rw [hab];simp,hx⟩);have ba:=xU hm (q:=q) hsa;have bb:=xU hm (q:=q) hsb;have bm:=R4 ba bb;rw [hab];refine aB (x:=a) rfl (aB va (aB (x:=b) rfl (aB vb ?_)));dsimp only;refine aI (fun k4=>?_) fun k4=>?_
  ·rw [if_pos k4,aK (by omega)];exact aB (pO _ _) (Ev.some rfl)
  rw [if_neg k4];refine aI (fun k5=>?_) fun k5=>?_
  ·rw [if_pos k5,aK (by omega)];exact aB (pO _ _) (Ev.some rfl)
  rw [if_neg k5,aK (by omega)];exact aB (pO _ _) (Ev.some rfl)
def rK(p:Prog)(x:Inst):Prop:= ∃(i k:Nat) (P:Part) (s:Stmt),x.part=i∧x.stmt=k∧p.parts[i]? =some P∧P.body[k]? =some s∧x.point∈dK P
def aAj(p:Prog)(x:Inst):Option Stmt:=(p.parts[x.part.toNat]?).bind fun P=>P.body[x.stmt.toNat]?
def wS(p:Prog)(m:List Int)(x:Inst):List Int:=match aAj p x with
 |some s=>m.set (cA p.arrays s.write x.point 0).toNat (rW 5 p.arrays m s.value x.point)
 |none=>m
theorem inst_d{p:Prog}(hv:fZ p=true){x:Inst}(hx:rK p x): ∃(i k:Nat) (P:Part) (s:Stmt) (d:Int),x.part=i∧x.stmt=k∧p.parts[i]? =some P∧P.body[k]? =some s∧aAj p x=some s∧gA s d=true∧lI P.nest.length x.point∧cC p.arrays s x.point=true:=by obtain⟨hl,hd,h4,hpo,hil⟩:=o2 hv;obtain⟨i,k,P,s,e1,e2,e3,e4,e5⟩:=hx;obtain⟨q1,q2,q3,q4⟩:=yQ (hpo P (cN e3));obtain⟨hf,hp1,hp2,hp3,hp4⟩:=aET q1;have hs:=cN e4;exact⟨i,k,P,s,_,e1,e2,e3,e4,by unfold aAj;rw [e1,e2,vAW,e3];exact(by rw [vAW];exact e4),q3 s hs,hp2 _ e5,(q4 s hs _ e5).1⟩
theorem aBX{list:List Arr}{s:Stmt}{q:List Int}(h:cC list s q=true):0≤cA list s.write q 0∧ ∀a∈bL 5 s.value,0≤cA list a q 0:=by simp only [cC,Bool.and_eq_true,decide_eq_true_eq,List.all_eq_true] at h;exact h
theorem R3{p:Prog}(hd:eE p.arrays){m:List Int}(hm:lJ p.arrays m){a:Access}{q:List Int}(h:0≤cA p.arrays a q 0):(cA p.arrays a q 0).toNat<m.length:=by
 rcases xK hd a q 0 (xW 0) with hc|hc
 ·omega
 have:=hm.1;omega
theorem S4{α:Type}{l:List α}{c:Int}(h0:0≤c)(h:c.toNat<l.length)(x:α):gW l c x=some (l.set c.toNat x):=by unfold gW;rw [if_pos ⟨h0,by omega⟩]
theorem aGx{α:Type}{l:List α}{c:Int}(h0:0≤c)(h:c.toNat<l.length):ix l c=some l[c.toNat]:=by unfold ix;rw [if_pos h0,List.getElem?_eq_getElem h]
theorem aBy{p:Prog}(hv:fZ p=true){m:List Int}(hm:lJ p.arrays m){x:Inst}(hx:rK p x):lJ p.arrays (wS p m x):=by
 obtain⟨i,k,P,s,d,e1,e2,e3,e4,e5,e6,e7,e8⟩:=inst_d hv hx;unfold wS;rw [e5];refine⟨by rw [List.length_set];exact hm.1,fun v hv'=>?_⟩;rcases vBc hv' with h|h
 ·exact hm.2 v h
 rw [h];exact xU hm (yC e6).2.1
theorem aF4{n:Nat}(hn:7810000≤n){p:Prog}(hv:fZ p=true){m:List Int}(hm:lJ p.arrays m){x:Inst}(hx:rK p x):jO n p m x=some (wS p m x):=by
 obtain⟨hl,hd,h4,hpo,hil⟩:=o2 hv;obtain⟨i,k,P,s,d,e1,e2,e3,e4,e5,e6,e7,e8⟩:=inst_d hv hx;obtain⟨c1,c2⟩:=aBX e8;obtain⟨s1,s2,s3,s4⟩:=yC e6;obtain⟨n,rfl⟩: ∃j,n=j+1:=⟨n-1,by omega⟩
 have hlt:=R3 hd hm c1;have hst:gL (n+1) p x=some s:=by
  unfold gL;rw [e1,e2,aQ e3];show Option.bind (ix P.body (k:Int)) _=_;rw [aQ e4];rfl
 refine Ev.eq ?_;unfold jO;refine aB hst (aB (qC (by omega) hl hd s1 e7) (aB (rA hl hd hm e7 5 n s.value (by omega) s2 c2) (aB (aGx c1 hlt) (aB (S4 c1 hlt _) (Ev.some ?_)))));unfold wS;rw [e5]
theorem aDB{n:Nat}(hn:7810000≤n){p:Prog}(hv:fZ p=true){m:List Int}(hm:lJ p.arrays m){x:Inst}(hx:rK p x):w8 n p m x=some (wS p m x):=by
 obtain⟨hl,hd,h4,hpo,hil⟩:=o2 hv;obtain⟨i,k,P,s,d,e1,e2,e3,e4,e5,e6,e7,e8⟩:=inst_d hv hx;obtain⟨c1,c2⟩:=aBX e8;obtain⟨s1,s2,s3,s4⟩:=yC e6;obtain⟨n,rfl⟩: ∃j,n=j+1:=⟨n-1,by omega⟩
 have hlt:=R3 hd hm c1;refine Ev.eq ?_;unfold w8;refine aB (x:=P) (by rw [e1];exact aQ e3) (aB (x:=s) (by rw [e2];exact aQ e4) (aB (pS (by omega) hl hd s1 e7) (aB (qW hl hd hm e7 5 n s.value (by omega) s2 c2) (aB (aGx c1 hlt) (aB (S4 c1 hlt _) (Ev.some ?_))))));unfold wS;rw [e5]
theorem insts_mem{ps:List Part}{x:Inst}(h:x∈insts ps): ∃(i k:Nat) (P:Part) (s:Stmt),x.part=i∧x.stmt=k∧ps[i]? =some P∧P.body[k]? =some s∧x.point∈dK P:=by unfold insts at h;rw [List.mem_flatMap] at h;obtain⟨⟨P,i⟩,h1,h2⟩:=h;unfold instP at h2;rw [List.mem_flatMap] at h2;obtain⟨q,h3,h4⟩:=h2;rw [vAX] at h4;obtain⟨k,h5,rfl⟩:=h4;have hk:=List.mem_range.1 h5;exact⟨i,k,P,P.body[k],rfl,rfl,vBf.1 h1,cR hk,h3⟩
def mB(p:Prog)(m:List Int)(l:List Inst):List Int:=l.foldl (wS p) m
theorem G0{p:Prog}(hv:fZ p=true): ∀{l:List Inst} {m:List Int},(∀x∈l,rK p x)→lJ p.arrays m→lJ p.arrays (mB p m l)
 | [],_,_,h=>h
 |x::l,m,hl,h=>G0 hv (l:=l) (fun y hy=>hl y (by simp [hy])) (aBy hv h (hl x (by simp)))
theorem T0(p:Prog)(m:List Int)(l:List Inst)(x:Inst):mB p m (l++[x])=wS p (mB p m l) x:=by unfold mB;rw [List.foldl_append];rfl
theorem aGw{p:Prog}{m:List Int}(h:y0 p m=true):fZ p=true∧lJ p.arrays m:=by simp only [y0,Bool.and_eq_true,decide_eq_true_eq,List.all_eq_true] at h;exact⟨h.1,h.2.1,h.2.2⟩
theorem S9{n:Nat}(hn:7810000≤n){p:Prog}(hv:fZ p=true){m:List Int}(hm:lJ p.arrays m){l:List Inst}(hl:l.length≤5500000)(hx: ∀x∈l,rK p x){f:List Int→Inst→Option (List Int)}(hf: ∀m x,lJ p.arrays m→rK p x→f m x=some (wS p m x)):
  aO (fun again7 ((x4,x5):(List Int)×Int)=>bif decide (x5<(l.length:Int)) then(Option.bind (ix l x5) fun x8=>Option.bind (f x4 x8) fun x9=>Option.bind (bN x4 x9) fun x10=>again7 (x9,wr (x5+1))) else(some (x4,true))) n (m,0)=some (mB p m l,true):=by
 refine Ev.eq ?_;refine Ev.loop (fun x:List Int×Int=> ∃i:Nat,x.2=i∧i≤l.length∧x.1=mB p m (l.take i)) (fun x=>l.length-x.2.toNat) ?_ n _ ⟨0,rfl,by omega,rfl⟩ (by dsimp only;omega);rintro again ⟨x,z⟩ ⟨i,hz,hi,hx1⟩ hr;dsimp only at hz hx1⊢;subst hz;have hok:lJ p.arrays x:=by rw [hx1];exact G0 hv (fun y hy=>hx y (R7 hy)) hm
 refine aI (fun hlt=>?_) fun hge=>Ev.some ?_
 ·have hg:=cR (show i<l.length by omega);have hxo:=hx _ (cN hg);have hok2:=aBy hv hok hxo;have hsl:bN x (wS p x l[i])=some ():=by
   unfold bN;rw [if_pos]
   have:=hok.1;have:=hok2.1;omega
  refine aB (aQ hg) (aB (hf x _ hok hxo) (aB hsl ?_));rw [aK (by omega)];refine hr _ ⟨i+1,by dsimp only;omega,by omega,?_⟩ (by dsimp only;omega);dsimp only;rw [Z0,hg];show _=mB p m (l.take i++[l[i]]);rw [T0,←hx1]
 have hie:i=l.length:=by omega
 rw [hx1,hie,vW]
def aAm(p:Prog)(m:List Int):List Int×Bool:=if y0 p m=true then(mB p m (insts p.parts),true) else([],false)
theorem wV{n:Nat}(hn:7810000≤n){p:Prog}(hp:SmP p){m:List Int}(hm:m.length≤1100000):eY n p m=some (aAm p m):=by
 refine Ev.eq ?_;unfold eY;refine aB (uZ (by omega) hp hm) ?_;unfold aAm;cases hv:y0 p m with
 |false=>exact Ev.some rfl
 |true=>
  obtain⟨h1,h2⟩:=aGw hv;have hil:=(o2 h1).2.2.2.2;have hc:m_ownClone m=some m:=by unfold m_ownClone;rw [if_pos (by omega)]
  refine bD (aB hc (aB (n8 (by omega) hp) ?_));rw [if_pos h1,if_pos rfl];exact Ev.of (S9 hn h1 h2 (by omega) (fun x hx=>insts_mem hx) fun m x hm hx=>aF4 hn h1 hm hx) rfl
theorem wP{n:Nat}(hn:7810000≤n){p:Prog}(hp:SmP p){m:List Int}(hm:m.length≤1100000):gD n p m=some (aAm p m):=by
 refine Ev.eq ?_;unfold gD;refine aB (uK (by omega) hp hm) ?_;unfold aAm;cases hv:y0 p m with
 |false=>exact Ev.some rfl
 |true=>
  obtain⟨h1,h2⟩:=aGw hv;have hil:=(o2 h1).2.2.2.2;refine bD (aB (f6 m hm) (aB (yH (by omega) h1) ?_));rw [if_pos rfl];exact Ev.of (S9 hn h1 h2 (by omega) (fun x hx=>insts_mem hx) fun m x hm hx=>aDB hn h1 hm hx) rfl
end Go.Lift
