/- Valid statements. -/
import Derived.Test.YtlbojjldejlgaaaGreatHCore1
set_option maxRecDepth 110000000
set_option linter.unusedVariables false
namespace Go.Lift
open Go
def SmE:Nat→Expr→Prop
 |0,_=>True
 |L+1,e=>e.kids.length≤1100000∧SmA e.index∧zL e.read.subs∧ ∀k∈e.kids,SmE L k
def dC:Nat→Expr→Int→Bool
 |0,_,_=>false
 |L+1,e,d=>decide (gO e.kind=e.kids.length)&&(fS e d&&e.kids.all fun k=>dC L k d)
def q7:Nat→Expr→Int
 |0,_=>1
 |L+1,e=>1+(e.kids.map (q7 L)).sum
theorem jP(k:Int):gO k≤2:=by unfold gO;split;omega;split<;>omega
theorem wD(d:Int): ∀(L n:Nat) (e:Expr),5500000+L≤n→L≤1100000→SmE L e→s_l3Shape (n+1) e d (L:Int)=some (dC L e d)
 |0,n,e,_,_,_=>by unfold s_l3Shape;rfl
 |L+1,n,e,hn,hL,he=>by
  obtain⟨e1,e2,e3,e4⟩:=he;unfold s_l3Shape;refine Ev.eq ?_;refine Ev.jn (fun z=>z= !(decide (gO e.kind=e.kids.length)&&fS e d)) (fun j hj=>aK (fun h=>by omega) fun h=>aB (aBg n _) (bV (fun h=>hj _ ?_) fun h=>aB (aCO (by omega) e2 e3 d) (hj _ ?_))) fun z hz=>?_
  ·rw [decide_eq_false h];rfl
  ·rw [decide_eq_true h];rfl
  subst hz;unfold dC;cases hb:(decide (gO e.kind=e.kids.length)&&fS e d) with
  |false=>exact Ev.some (by rw [←vAZ,hb];rfl)
  |true=>
   rw [←vAZ,hb,vAU];refine bI ?_;obtain⟨n,rfl⟩: ∃j,n=j+1:=⟨n-1,by omega⟩
   have ew:wr (((L+1:Nat):Int)-1)=(L:Int):=by rw [aN (by omega)];omega
   rw [ew];refine mI (l:=e.kids) (p:=fun _ k=>dC L k d) (by omega) (by omega) (fun again i x hx hgo hno=>?_) (fun again hall=>?_) (fun⟨i,x,hx,hp⟩=>?_)
   ·have hi:=(b7.1 hx).1;rw [decide_eq_true (show(i:Int)<(e.kids.length:Int) by omega)];refine b8 (aB (aS hx) (aB (wD d L n x (by omega) (by omega) (e4 x (dF hx))) ?_));cases hs:dC L x d with
    |true=>show Ev (again _) _;rw [aN (by omega)];exact hgo hs
    |false=>exact Ev.some (hno hs)
   ·rw [decide_eq_false (show¬(e.kids.length:Int)<(e.kids.length:Int) by omega)];refine Ev.some ?_;exact(Y5.2 fun c hc=>by obtain⟨i,hi⟩:=vAB hc;exact hall i c hi).symm
   exact(vAF.2 ⟨x,dF hx,by rw [hp];simp⟩).symm
theorem tO: ∀(L:Nat) (e:Expr),1≤q7 L e
 |0,_=>S6 _
 |L+1,e=>by have:=pQ (q7 L) e.kids fun k _=>tO L k;simp only [q7];omega
theorem aCJ{α:Type}(f:α→Int)(M:Int): ∀(l:List α),(∀x∈l,f x≤M)→(l.map f).sum≤l.length*M
 | [],_=>by simp
 |x::l,h=>by have h1:=aCJ f M l fun y hy=>h y (by simp [hy]);have h2:=h x (by simp);simp only [List.map_cons,List.sum_cons,List.length_cons,Int.natCast_add,Int.add_mul];omega
theorem jG{L:Nat}{e:Expr}{d:Int}(h:dC (L+1) e d=true):gO e.kind=e.kids.length∧fS e d=true∧ ∀k∈e.kids,dC L k d=true:=by simp only [dC,Bool.and_eq_true,decide_eq_true_eq,List.all_eq_true] at h;exact⟨h.1,h.2.1,h.2.2⟩
theorem aAA: ∀{L:Nat} {e:Expr} {d:Int},dC L e d=true→q7 L e+1≤2^L
 |0,e,d,h=>by cases h
 |L+1,e,d,h=>by
  obtain⟨h1,_,h2⟩:=jG h;have h3:=aCJ (q7 L) ((2:Int)^L-1) e.kids fun k hk=>by have:=aAA (h2 k hk);omega
  have h4:=jP e.kind;have h5:(e.kids.length:Int)*((2:Int)^L-1)≤2*((2:Int)^L-1):=by
   refine Int.mul_le_mul_of_nonneg_right (by omega) ?_
   have:(0:Int)<2^L:=Int.pow_pos (by omega);omega
  simp only [q7];rw [Int.pow_succ];omega
theorem wF{d:Int}: ∀(L n:Nat) (e:Expr),5500000+L≤n→L≤5→dC L e d=true→s_l3Count (n+1) e (L:Int)=some (q7 L e)
 |0,n,e,_,_,h=>by cases h
 |L+1,n,e,hn,hL,h=>by
  obtain⟨h1,_,h2⟩:=jG h;have h4:=jP e.kind;have hb: ∀k∈e.kids,q7 L k≤40:=fun k hk=>by
   have h5:=aAA (h2 k hk);have h6:(2:Int)^L≤40:=by
    match L,hL with
    |0,_=>decide
    |1,_=>decide
    |2,_=>decide
    |3,_=>decide
    |4,_=>decide
   omega
  unfold s_l3Count;refine Ev.eq ?_;obtain⟨n,rfl⟩: ∃j,n=j+1:=⟨n-1,by omega⟩
  have ew:wr (((L+1:Nat):Int)-1)=(L:Int):=by rw [aN (by omega)];omega
  rw [ew];refine Ev.loop (fun x:Int×Int=> ∃i:Nat,x.2=i∧i≤e.kids.length∧x.1=1+((e.kids.take i).map (q7 L)).sum) (fun x=>e.kids.length-x.2.toNat) ?_ (n+1) _ ⟨0,rfl,by omega,by simp⟩ (by simp;omega);rintro again ⟨x,k⟩ ⟨i,hk,hi,hx⟩ hr;dsimp only at hk hx⊢;subst hk;refine Ev.jn (fun z=>z=decide (i<e.kids.length)) (fun j hj=>aK (fun h=>hj _ ?_) fun h=>hj _ ?_) fun z hz=>?_
  ·rw [decide_eq_true (show(0:Int)<((L+1:Nat):Int) by omega),decide_eq_true (by omega)]
  ·rw [decide_eq_false (by omega)]
  subst hz;refine aK (fun hlt=>?_) fun hge=>Ev.some ?_
  ·have hk2:=dM hlt;have hm:=dF hk2;refine aB (aS hk2) (aB (wF (d:=d) L n _ (by omega) (by omega) (h2 _ hm)) ?_);have hs:=aCJ (q7 L) 40 (e.kids.take i) fun y hy=>hb y (vAz hy);have hs2:=pQ (q7 L) (e.kids.take i) fun y _=>tO L y;have hb2:=hb _ hm;have hb3:=tO L e.kids[i];have hl:((e.kids.take i).length:Int)≤2:=by simp;omega
   rw [aN (n:=x+q7 L e.kids[i]) (by omega),aN (by omega)];refine hr _ ⟨i+1,by dsimp only;omega,by omega,?_⟩ (by dsimp only;omega);dsimp only;rw [E1,hk2,vAT,List.sum_append,hx];simp;omega
  have:i=e.kids.length:=by omega
  rw [hx,this,yD];rfl
def aBk(e:Expr):Bool:=(decide (e.kind=1)||decide (e.num=0))&&((decide (e.kind=2)||iM e.index)&&(decide (e.kind=3)||lV e.read))
theorem n8(d:Int): ∀(L n:Nat) (e:Expr) (c:Int),5500000+L≤n→L≤5→SmE L e→0≤c→c≤12→
  Ev (i_exprScan (n+1) e d (6-(L:Int)) c) (fun r=>r.1=(dC L e d&&decide (c+q7 L e≤12))∧(r.1=true→r.2=c+q7 L e))
 |0,n,e,c,hn,hL,he,h0,h1=>by
  unfold i_exprScan;refine Ev.jn (fun z=>z=true) (fun j hj=>aK (fun h=>hj _ rfl) fun h=>hj _ (by decide)) fun z hz=>?_;subst hz;exact Ev.some ⟨rfl,fun h=>by cases h⟩
 |L+1,n,e,c,hn,hL,he,h0,h1=>by
  obtain⟨e1,e2,e3,e4⟩:=he;have hcp:=tO (L+1) e;unfold i_exprScan;have ew:wr (c+1)=c+1:=aN (by omega);have ed:wr (6-(((L+1:Nat)):Int)+1)=6-(L:Int):=by rw [aN (by omega)];omega
  rw [ew,ed];refine Ev.jn (fun z=>z=decide (12<c+1)) (fun j hj=>aK (fun h=>hj _ (decide_eq_true h).symm) fun h=>hj _ ?_) fun z hz=>?_
  ·rw [decide_eq_false h,decide_eq_false (by omega)]
  subst hz;refine aK (fun h=>Ev.some ⟨?_,fun h=>by cases h⟩) fun hc=>?_
  ·rw [decide_eq_false (show¬c+q7 (L+1) e≤12 by omega),vBj]
  refine Ev.jn (fun z=>z= !aBk e) (fun j hj=>?_) fun z hz=>?_
  ·rw [P0,P1];unfold aBk at hj;simp only [Option.bind];by_cases k1:e.kind=1
   ·have k2: ¬e.kind=2:=by omega
    have k3: ¬e.kind=3:=by omega
    rw [decide_eq_true k1,decide_eq_false k2,decide_eq_false k3] at*;simp only [Bool.not_true,Bool.not_false,cond_true,cond_false,Bool.true_or,Bool.true_and,Bool.false_or] at*;cases ha:iM e.index with
    |false=>exact hj _ (by rw [ha];rfl)
    |true=>exact hj _ (by rw [ha];rfl)
   rw [decide_eq_false k1] at*;simp only [Bool.not_false,cond_true,Bool.false_or] at*;by_cases hnum:e.num=0
   ·rw [decide_eq_true hnum] at*;simp only [Bool.not_true,cond_false,Bool.true_and] at*;by_cases k2:e.kind=2
    ·have k3: ¬e.kind=3:=by omega
     rw [decide_eq_true k2,decide_eq_false k3] at*;simp only [Bool.not_true,Bool.not_false,cond_true,cond_false,Bool.true_or,Bool.true_and,Bool.false_or] at*;exact hj _ rfl
    rw [decide_eq_false k2] at*;simp only [Bool.not_false,cond_true,Bool.false_or] at*;cases ha:iM e.index with
    |false=>exact hj _ (by rw [ha];rfl)
    |true=>
     by_cases k3:e.kind=3
     ·rw [decide_eq_true k3] at*;exact hj _ (by rw [ha];rfl)
     rw [decide_eq_false k3] at*;exact hj _ (by rw [ha];rfl)
   rw [decide_eq_false hnum] at*;exact hj _ rfl
  subst hz;cases hp:aBk e with
  |false=>
   refine Ev.some ⟨?_,fun h=>by cases h⟩
   have:fS e d=false:=by
    unfold aBk at hp;unfold fS;by_cases k2:e.kind=2
    ·have k1: ¬e.kind=1:=by omega
     have k3: ¬e.kind=3:=by omega
     rw [if_pos k2];rw [decide_eq_true k2,decide_eq_false k1,decide_eq_false k3] at hp;revert hp;cases decide (e.num=0)<;>cases lV e.read<;>simp
    rw [if_neg k2];by_cases k3:e.kind=3
    ·have k1: ¬e.kind=1:=by omega
     rw [if_pos k3];rw [decide_eq_false k2,decide_eq_false k1,decide_eq_true k3] at hp;revert hp;cases decide (e.num=0)<;>cases iM e.index<;>simp
    rw [if_neg k3];rw [decide_eq_false k2,decide_eq_false k3] at hp;by_cases k1:e.kind=1
    ·rw [if_pos k1];rw [decide_eq_true k1] at hp;revert hp;cases iM e.index<;>cases lV e.read<;>simp
    rw [if_neg k1];rw [decide_eq_false k1] at hp;revert hp;cases decide (e.num=0)<;>cases iM e.index<;>cases lV e.read<;>simp
   unfold dC;rw [this];simp
  |true=>
   refine bI ?_;unfold aBk at hp;simp only [Bool.and_eq_true,Bool.or_eq_true,decide_eq_true_eq] at hp;obtain⟨p1,p2,p3⟩:=hp;have leafP: ∀(b:Bool),fS e d=b→gO e.kind=0→ ∀(z:Bool),z=(b&&decide ((e.kids.length:Int)=0))→z=(dC (L+1) e d&&decide (c+q7 (L+1) e≤12))∧(z=true→c+1=c+q7 (L+1) e):=by
    intro b hb hk z hz;unfold dC;rw [hb,hk];by_cases h:e.kids.length=0
    ·have hnil:e.kids=[]:=vAw h;have hcn:q7 (L+1) e=1:=by simp [q7,hnil]
     rw [hcn,decide_eq_true (show c+1≤12 by omega)];rw [decide_eq_true (show(e.kids.length:Int)=0 by omega)] at hz;rw [hz,hnil];simp
    rw [decide_eq_false (show¬(e.kids.length:Int)=0 by omega)] at hz;rw [hz,decide_eq_false (show¬(0:Int)=(e.kids.length:Int) by omega)];simp
   by_cases k1:e.kind=1
   ·have k2: ¬e.kind=2:=by omega
    have k3: ¬e.kind=3:=by omega
    rw [decide_eq_true k1];have hown:fS e d=decide (0≤e.num∧e.num≤99):=by
     unfold fS;rw [if_neg k2,if_neg k3,if_pos k1];rcases p2 with h|h
     ·exact absurd h k2
     rcases p3 with h'|h'
     ·exact absurd h' k3
     rw [h,h'];simp
    refine b8 (Ev.jn (fun z=>z=(decide (0≤e.num∧e.num≤99)&&decide ((e.kids.length:Int)=0))) (fun j hj=>aB (dQ n _ _ _) ?_) fun z hz=>Ev.some ?_)
    ·cases hw:decide (0≤e.num∧e.num≤99) with
     |true=>exact hj _ (by rw [hw];rfl)
     |false=>exact hj _ (by rw [hw];rfl)
    exact leafP _ hown (by unfold gO;rw [if_pos (Or.inl k1)]) _ hz
   rw [decide_eq_false k1];refine bI ?_;have hnum:e.num=0:=by
    rcases p1 with h|h
    ·exact absurd h k1
    exact h
   by_cases k2:e.kind=2
   ·have k3: ¬e.kind=3:=by omega
    rw [decide_eq_true k2];have hown:fS e d=bP e.index d:=by
     unfold fS;rw [if_pos k2,decide_eq_true hnum];rcases p3 with h'|h'
     ·exact absurd h' k3
     rw [h'];simp
    refine b8 (Ev.jn (fun z=>z=(bP e.index d&&decide ((e.kids.length:Int)=0))) (fun j hj=>aB (o8 (by omega) _ e2) ?_) fun z hz=>Ev.some ?_)
    ·unfold bP at hj;cases hw:bM e.index with
     |false=>exact hj _ (by rw [hw];rfl)
     |true=>
      refine aB (I8 (by omega) e2) (aK (fun h=>hj _ ?_) fun h=>hj _ ?_)
      ·rw [hw,decide_eq_true h];rfl
      rw [hw,decide_eq_false h];rfl
    exact leafP _ hown (by unfold gO;rw [if_pos (Or.inr (Or.inl k2))]) _ hz
   rw [decide_eq_false k2];refine bI ?_;have hnaff:iM e.index=true:=by
    rcases p2 with h|h
    ·exact absurd h k2
    exact h
   by_cases k3:e.kind=3
   ·rw [decide_eq_true k3];have hown:fS e d=fK e.read d:=by
     unfold fS;rw [if_neg k2,if_pos k3,decide_eq_true hnum,hnaff];simp
    refine b8 (Ev.jn (fun z=>z=(fK e.read d&&decide ((e.kids.length:Int)=0))) (fun j hj=>aB (tZ (by omega) e3 d) ?_) fun z hz=>Ev.some ?_)
    ·cases hw:fK e.read d with
     |false=>exact hj _ (by rw [hw];rfl)
     |true=>exact hj _ (by rw [hw];rfl)
    exact leafP _ hown (by unfold gO;rw [if_pos (Or.inr (Or.inr k3))]) _ hz
   rw [decide_eq_false k3];refine bI ?_;have hown:fS e d=true:=by
    unfold fS;rw [if_neg k2,if_neg k3,if_neg k1,decide_eq_true hnum,hnaff];rcases p3 with h'|h'
    ·exact absurd h' k3
    rw [h'];rfl
   have hop:aAi n e.kind=some (decide (4≤e.kind∧e.kind≤6)):=by unfold aAi;rw [dQ];rfl
   have hkn:(gO e.kind=2↔(4≤e.kind∧e.kind≤6))∧(gO e.kind=2∨gO e.kind= -1):=by
    unfold gO;rw [if_neg (by omega)];split<;>omega
   refine Ev.jn (fun z=>z= !(decide (4≤e.kind∧e.kind≤6)&&decide ((e.kids.length:Int)=2))) (fun j hj=>aB hop ?_) fun z hz=>?_
   ·cases hw:decide (4≤e.kind∧e.kind≤6) with
    |false=>exact hj _ (by rw [hw];rfl)
    |true=>exact hj _ (by rw [hw];rfl)
   subst hz;by_cases hk:(4≤e.kind∧e.kind≤6)∧(e.kids.length:Int)=2
   ·rw [decide_eq_true hk.1,decide_eq_true hk.2];refine bI ?_;obtain⟨a,b,hab⟩: ∃a b,e.kids=[a,b]:=by
     have:e.kids.length=2:=by omega
     match hq:e.kids,this with
     | [a,b],_=>exact⟨a,b,rfl⟩
    have hsh:dC (L+1) e d=(dC L a d&&dC L b d):=by
     show(decide (gO e.kind=e.kids.length)&&(fS e d&&e.kids.all fun k=>dC L k d))=_;rw [hown,hab,decide_eq_true (show gO e.kind=(([a,b]:List Expr).length:Int) by rw [hkn.1.2 hk.1];rfl)];simp
    have hcn:q7 (L+1) e=1+(q7 L a+q7 L b):=by simp [q7,hab]
    have ca:=tO L a;have cb:=tO L b;rw [hsh,hcn];obtain⟨n,rfl⟩: ∃j,n=j+1:=⟨n-1,by omega⟩
    refine Ev.jn (fun z:Int×Bool=>z.2=(dC L a d&&dC L b d&&decide (c+(1+(q7 L a+q7 L b))≤12))∧(z.2=true→z.1=c+(1+(q7 L a+q7 L b)))) (fun j hj=>?_) fun z hz=>Ev.some hz;refine aB (x:=a) (by rw [hab];rfl) (iQ (n8 d L n a (c+1) (by omega) (by omega) (e4 a (by rw [hab];simp)) (by omega) (by omega)) fun r ⟨r1,r2⟩=>?_);cases hr:r.1 with
    |false=>
     refine hj _ ⟨?_,fun h=>by cases h⟩;rw [hr] at r1;show false=_;by_cases hsa:dC L a d=true
     ·rw [hsa,vAU] at r1
      have:=of_decide_eq_false r1.symm;rw [decide_eq_false (show¬c+(1+(q7 L a+q7 L b))≤12 by omega),vBj]
     rw [Bool.eq_false_iff.2 hsa];rfl
    |true=>
     have r2:=r2 hr;rw [hr] at r1;have r1:=r1.symm;rw [vBt,decide_eq_true_eq] at r1;refine aB (x:=b) (by rw [hab];rfl) ?_;rw [r2];refine iQ (n8 d L n b (c+1+q7 L a) (by omega) (by omega) (e4 b (by rw [hab];simp)) (by omega) (by omega)) fun q ⟨q1,q2⟩=>hj _ ⟨?_,fun h=>?_⟩
     ·show q.1=_;rw [q1,r1.1,vAU];congr 1;exact decide_eq_decide.2 (by omega)
     show q.2=_;rw [q2 h];omega
   have hf:dC (L+1) e d=false:=by
    unfold dC;rw [decide_eq_false (show¬gO e.kind=(e.kids.length:Int) by
     intro h;rcases hkn.2 with h2|h2
     ·exact hk ⟨hkn.1.1 h2,by omega⟩
     omega)]
    rfl
   have:(decide (4≤e.kind∧e.kind≤6)&&decide ((e.kids.length:Int)=2))=false:=by
    by_cases g:4≤e.kind∧e.kind≤6
    ·rw [decide_eq_false (show¬(e.kids.length:Int)=2 from fun h=>hk ⟨g,h⟩),vBj]
    rw [decide_eq_false g];rfl
   rw [this,hf];exact Ev.some ⟨rfl,fun h=>by cases h⟩
def fI(s:Stmt)(d:Int):Bool:=decide (0≤d∧d≤4)&&(fK s.write d&&(dC 5 s.value d&&decide (q7 5 s.value≤12)))
def SmS(s:Stmt):Prop:=zL s.write.subs∧SmE 5 s.value
theorem J0{n:Nat}(hn:6600000≤n){s:Stmt}(h:SmS s)(d:Int):nW n s d=some (fI s d):=by
 obtain⟨n,rfl⟩: ∃j,n=j+1:=⟨n-1,by omega⟩
 refine Ev.eq ?_;unfold nW;generalize hT:fI s d=T;unfold fI at hT;refine Ev.jn (fun z:Int×Bool=>z.2=T) (fun j hj=>aB (dQ _ _ _ _) ?_) fun z hz=>Ev.some hz;cases h1:decide (0≤d∧d≤4) with
 |false=>exact hj (0,false) (by rw [←hT,h1];rfl)
 |true=>
  refine b8 (aB (tZ (by omega) h.1 d) ?_);cases h2:fK s.write d with
  |false=>exact hj (0,false) (by rw [←hT,h1,h2];rfl)
  |true=>
   refine b8 (iQ (n8 d 5 n s.value 0 (by omega) (by omega) h.2 (by omega) (by omega)) fun r ⟨r1,r2⟩=>hj _ ?_);rw [←hT,h1,h2];show r.1=_;rw [r1];simp
theorem F9{n:Nat}(hn:6600000≤n){s:Stmt}(h:SmS s)(d:Int):nP n s d=some (fI s d):=by
 obtain⟨n,rfl⟩: ∃j,n=j+1:=⟨n-1,by omega⟩
 refine Ev.eq ?_;unfold nP;generalize hT:fI s d=T;generalize hB:(decide (0≤d∧d≤4)&&(fK s.write d&&dC 5 s.value d))=B;have hTB:T=(B&&decide (q7 5 s.value≤12)):=by rw [←hT,←hB];unfold fI;simp only [Bool.and_assoc]
 refine Ev.jn (fun z=>z= !B) (fun j hj=>aK (fun h=>hj _ ?_) fun h0=>aK (fun h=>hj _ ?_) fun h4=>aB (tV (by omega) h.1 d) ?_) fun z hz=>?_
 ·rw [←hB,decide_eq_false (show¬(0≤d∧d≤4) by omega)];rfl
 ·rw [←hB,decide_eq_false (show¬(0≤d∧d≤4) by omega)];rfl
 ·rw [decide_eq_true (show 0≤d∧d≤4 by omega)] at hB;cases h2:fK s.write d with
  |false=>exact b8 (hj _ (by rw [←hB,h2];rfl))
  |true=>exact bI (aB (wD d 5 n s.value (by omega) (by omega) h.2) (hj _ (by rw [←hB,h2];rfl)))
 subst hz;cases hb:B with
 |false=>exact Ev.some (by rw [hTB,hb];rfl)
 |true=>
  rw [hb] at hB;simp only [Bool.and_eq_true] at hB;refine bI (aB (wF (d:=d) 5 n s.value (by omega) (by omega) hB.2.2) (Ev.some ?_));rw [hTB,hb];rfl
def iI(ds:List Int):Bool:=decide (1≤ds.length∧ds.length≤2)&&ds.all fun d=>decide (1≤d∧d≤6)
def uL(list:List Arr)(i:Nat)(x:Arr):Bool:=match i with
 |0=>true
 |i+1=>match list[i]? with
  |some y=>Op.bytesLess y.name x.name
  |none=>false
def B7(list:List Arr)(i:Nat)(x:Arr):Bool:=lQ x.name&&(uL list i x&&iI x.dims)
def fN(list:List Arr):Bool:=yY (B7 list) list&&decide (list.length≤4)
def SmR(list:List Arr):Prop:=list.length≤1100000∧ ∀x∈list,x.dims.length≤1100000
theorem zU{list:List Arr}{i:Nat}{x y:Arr}(h:list[i]? =some y):uL list (i+1) x=Op.bytesLess y.name x.name:=by simp only [uL,h]
theorem aH6(ds:List Int):(ds.any fun d=> !decide (1≤d∧d≤6))= !(ds.all fun d=>decide (1≤d∧d≤6)):=by rw [vAX];simp
theorem P2{n:Nat}(hn:6600000≤n){list:List Arr}(h:SmR list):qH n list=some (fN list):=by
 obtain⟨h0,h1⟩:=h;refine Ev.eq ?_;unfold qH;refine mI (l:=list) (p:=B7 list) (by omega) (by omega) (fun again i x hx hgo hno=>?_) (fun again hall=>?_) (fun⟨i,x,hx,hp⟩=>?_)
 ·have hi:=(b7.1 hx).1;have hm:=h1 x (dF hx);rw [decide_eq_true (show(i:Int)<(list.length:Int) by omega)];have hd:bR n x.dims (fun q0=>eJ n q0)=some (!(x.dims.all fun d=>decide (1≤d∧d≤6))):=by
   rw [←aH6];exact qM (fun d _=>by unfold eJ;rw [dQ];rfl) (by omega) (by omega)
  refine b8 (aB (aS hx) (Ev.jn (fun z=>z= !B7 list i x) (fun j hj=>aB (wU n _) ?_) fun z hz=>?_))
  ·unfold B7 iI at hj;cases g1:lQ x.name with
   |false=>exact b8 (hj _ (by rw [g1];rfl))
   |true=>
    rw [g1] at hj;refine bI ?_;rw [qE];have hlast:uL list i x=true→Ev (Option.bind (some (decide (1≤x.dims.length∧x.dims.length≤2))) fun x6=>bif !x6 then j true else Option.bind (bR n x.dims fun q0=>eJ n q0) fun x7=>j x7) (fun r=>r=fN list):=by
     intro hp;rw [hp] at hj;show Ev (bif _ then _ else _) _;cases g2:decide (1≤x.dims.length∧x.dims.length≤2) with
     |false=>exact b8 (hj _ (by rw [g2];rfl))
     |true=>exact bI (aB hd (hj _ (by rw [g2];rfl)))
    cases i with
    |zero=>exact aK (fun h=>absurd h (by decide)) (fun _=>hlast rfl)
    |succ i=>
     have hy:=dM (show i<list.length by omega);have e:wr (((i+1:Nat):Int)-1)=(i:Int):=by rw [aN (by omega)];omega
     rw [e];refine aK (fun _=>aB (aS hy) ?_) fun h=>absurd (show(0:Int)<((i+1:Nat):Int) by omega) h;have hpp:=zU (x:=x) hy;cases g3:Op.bytesLess list[i].name x.name with
     |false=>exact b8 (hj _ (by rw [hpp,g3];rfl))
     |true=>exact bI (hlast (by rw [hpp,g3]))
  subst hz;cases hb:B7 list i x with
  |true=>show Ev (again _) _;rw [aN (by omega)];exact hgo hb
  |false=>exact Ev.some (hno hb)
 ·rw [decide_eq_false (show¬(list.length:Int)<(list.length:Int) by omega)];refine Ev.some ?_;unfold fN;rw [nV hall,vAU];exact decide_eq_decide.2 (by omega)
 unfold fN;rw [l8 hx hp];rfl
theorem aG0(s:List UInt8):(!Op.bytesLess s [68]&& !s==[68])= !(Op.bytesLess s [68]||s==[68]):=by cases Op.bytesLess s [68]<;>cases (s==[68])<;>rfl
theorem O7{n:Nat}(hn:6600000≤n){list:List Arr}(h:SmR list):pS n list=some (fN list):=by
 obtain⟨h0,h1⟩:=h;refine Ev.eq ?_;unfold pS;refine mI (l:=list) (p:=B7 list) (by omega) (by omega) (fun again i x hx hgo hno=>?_) (fun again hall=>?_) (fun⟨i,x,hx,hp⟩=>?_)
 ·have hi:=(b7.1 hx).1;have hm:=h1 x (dF hx);rw [decide_eq_true (show(i:Int)<(list.length:Int) by omega)];refine b8 (aB (aS hx) (Ev.jn (fun z=>z= !(lQ x.name&&(uL list i x&&decide (1≤x.dims.length∧x.dims.length≤2)))) (fun j hj=>?_) fun z hz=>?_))
  ·refine bV (fun hl=>hj _ ?_) fun hl=>?_
   ·rw [pZ (by omega)];rfl
   obtain⟨b,hb⟩:=aKN (show x.name.length=1 by omega);rw [aG0];have hless: ∀(y:Arr),Op.bytesLess y.name x.name=Op.bytesLess y.name [b]:=fun y=>by rw [hb]
   have hnm:lQ x.name=decide (65≤b.toNat∧b.toNat≤68):=by rw [hb];rfl
   have l1:Op.bytesLess x.name [65]=decide (b.toNat<65):=by rw [hb];exact H8 b
   have l2:(Op.bytesLess x.name [68]||x.name==[68])=decide (b.toNat≤68):=by rw [hb];exact H7 b
   rw [l1,l2];rw [hnm] at hj;refine aK (fun g1=>hj _ ?_) fun g1=>bV (fun g2=>hj _ ?_) fun g2=>?_
   ·rw [decide_eq_false (show¬(65≤b.toNat∧b.toNat≤68) by omega)];rfl
   ·rw [decide_eq_false (show¬(65≤b.toNat∧b.toNat≤68) by omega)];rfl
   rw [decide_eq_true (show 65≤b.toNat∧b.toNat≤68 by omega)] at hj;have hlast:uL list i x=true→Ev (bif decide ((x.dims.length:Int)<1) then j true else j (decide ((2:Int)<(x.dims.length:Int)))) (fun r=>r=fN list):=by
    intro hp;rw [hp] at hj;refine aK (fun h=>hj _ ?_) fun h=>hj _ ?_
    ·rw [decide_eq_false (show¬(1≤x.dims.length∧x.dims.length≤2) by omega)];rfl
    by_cases h2:x.dims.length≤2
    ·rw [decide_eq_false (show¬(2:Int)<(x.dims.length:Int) by omega),decide_eq_true (show 1≤x.dims.length∧x.dims.length≤2 by omega)];rfl
    rw [decide_eq_true (show(2:Int)<(x.dims.length:Int) by omega),decide_eq_false (show¬(1≤x.dims.length∧x.dims.length≤2) by omega)];rfl
   cases i with
   |zero=>exact aK (fun h=>absurd h (by decide)) (fun _=>hlast rfl)
   |succ i=>
    have hy:=dM (show i<list.length by omega);have e:wr (((i+1:Nat):Int)-1)=(i:Int):=by rw [aN (by omega)];omega
    rw [e];refine aK (fun _=>aB (aS hy) ?_) fun h=>absurd (show(0:Int)<((i+1:Nat):Int) by omega) h;have hpp:=zU (x:=x) hy;cases g3:Op.bytesLess list[i].name x.name with
    |false=>exact b8 (hj _ (by rw [hpp,g3];rfl))
    |true=>exact bI (hlast (by rw [hpp,g3]))
  subst hz;cases hb:(lQ x.name&&(uL list i x&&decide (1≤x.dims.length∧x.dims.length≤2))) with
  |false=>
   refine Ev.some (hno ?_);unfold B7 iI;rw [←vAZ,←vAZ];rw [←vAZ] at hb;rw [hb];rfl
  |true=>
   have hap:B7 list i x=x.dims.all (fun d=>decide (1≤d∧d≤6)):=by
    unfold B7 iI;rw [←vAZ,←vAZ];rw [←vAZ] at hb;rw [hb];rfl
   refine bI ?_;refine Ev.loop (fun y:Int=> ∃k:Nat,y=k∧k≤x.dims.length∧ ∀(t:Nat) d,t<k→x.dims[t]? =some d→decide (1≤d∧d≤6)=true) (fun y=>x.dims.length-y.toNat) ?_ n _ ⟨0,rfl,by omega,fun t d h=>by omega⟩ (by simp;omega);rintro again8 y ⟨k,rfl,hk,ha⟩ hr;refine aK (fun hlt=>?_) fun hge=>?_
   ·have hd:=dM (show k<x.dims.length by omega);have ek:wr ((k:Int)+1)=((k+1:Nat):Int):=by rw [aN (by omega)];omega
    refine Ev.jn (fun z=>z= !decide (1≤x.dims[k]∧x.dims[k]≤6)) (fun j hj=>aB (aS hd) (aK (fun h=>hj _ ?_) fun h=>hj _ ?_)) fun z hz=>?_
    ·rw [decide_eq_false (by omega)];rfl
    ·by_cases h6:x.dims[k]≤6
     ·rw [decide_eq_false (show¬(6:Int)<x.dims[k] by omega),decide_eq_true (show 1≤x.dims[k]∧x.dims[k]≤6 by omega)];rfl
     rw [decide_eq_true (show(6:Int)<x.dims[k] by omega),decide_eq_false (show¬(1≤x.dims[k]∧x.dims[k]≤6) by omega)];rfl
    subst hz;cases hb2:decide (1≤x.dims[k]∧x.dims[k]≤6) with
    |false=>
     refine Ev.some (hno ?_);rw [hap];exact vAF.2 ⟨_,dF hd,by rw [hb2];simp⟩
    |true=>
     rw [ek];refine hr _ ⟨k+1,rfl,by omega,fun t d ht hd2=>?_⟩ (by omega);by_cases htk:t=k
     ·subst htk;rw [hd] at hd2;cases hd2;exact hb2
     exact ha t d (by omega) hd2
   have e:wr ((i:Int)+1)=(i:Int)+1:=aN (by omega);rw [e];refine hgo ?_;rw [hap];refine Y5.2 fun d hd=>?_;obtain⟨t,ht⟩:=vAB hd
   have:=(b7.1 ht).1;exact ha t d (by omega) ht
 ·rw [decide_eq_false (show¬(list.length:Int)<(list.length:Int) by omega)];refine Ev.some ?_;unfold fN;rw [nV hall,vAU];exact decide_eq_decide.2 (by omega)
 unfold fN;rw [l8 hx hp];rfl
def szL:List Int→Int
 | []=>1
 |d::ds=>d*szL ds
theorem aHX{ds:List Int}(h:iI ds=true):(∃a,ds=[a]∧1≤a∧a≤6)∨ ∃a b,ds=[a,b]∧(1≤a∧a≤6)∧1≤b∧b≤6:=by
 simp only [iI,Bool.and_eq_true,decide_eq_true_eq,List.all_eq_true] at h;obtain⟨⟨h1,h2⟩,h3⟩:=h
 match ds,h1,h2,h3 with
 | [a],_,_,h3=>exact .inl ⟨a,rfl,h3 a (by simp)⟩
 | [a,b],_,_,h3=>exact .inr ⟨a,b,rfl,h3 a (by simp),h3 b (by simp)⟩
theorem aL3{a b:Int}(ha:1≤a∧a≤6)(hb:1≤b∧b≤6):1≤a*b∧a*b≤36:=by
 constructor
 ·have:=vBv ha.1 hb.1 (by omega) (by omega);omega
 have:=vBv ha.2 hb.2 (by omega) (by omega);omega
theorem aJN{ds:List Int}(h:iI ds=true):1≤szL ds∧szL ds≤36:=by
 rcases aHX h with ⟨a,rfl,h1⟩|⟨a,b,rfl,h1,h2⟩
 ·simp [szL];omega
 have:=aL3 h1 h2;simp [szL];omega
theorem zP{n:Nat}(hn:6600000≤n){x:Arr}(h:iI x.dims=true):wB n x=some (szL x.dims):=by
 obtain⟨n,rfl⟩: ∃j,n=j+3:=⟨n-3,by omega⟩
 unfold wB;rcases aHX h with ⟨a,e,h1⟩|⟨a,b,e,h1,h2⟩
 ·rw [e];have e1:wr a=a:=aN (by omega);simp [aM,ix,szL,e1,show wr 1=1 from aN (by omega)]
 rw [e]
 have:=aL3 h1 h2;have e1:wr a=a:=aN (by omega);have e2:wr (a*b)=a*b:=aN (by omega);simp [aM,ix,szL,e1,e2,show wr 1=1 from aN (by omega),show wr 2=2 from aN (by omega)]
theorem aFu{n:Nat}(hn:6600000≤n){x:Arr}(h:iI x.dims=true):qI n x=some (szL x.dims):=zP hn h
def sC:List Affine→List Int→List Int→Int→Int
 |s::ss,d::ds,p,acc=>if 0≤fV s p∧fV s p<d then sC ss ds p (acc*d+fV s p) else-1
 |_,_,_,acc=>acc
def jS:List Arr→Access→List Int→Int→Int
 | [],_,_,_=> -1
 |x::xs,a,p,base=>if x.name=a.array then(if a.subs.length=x.dims.length then(if sC a.subs x.dims p 0<0 then-1 else base+sC a.subs x.dims p 0) else-1) else jS xs a p (base+szL x.dims)
def nZ(xs:List Arr):Prop:= ∀x∈xs,iI x.dims=true
theorem q5{a:Access}{d:Int}(h:fK a d=true):1≤a.subs.length∧a.subs.length≤2∧ ∀x∈a.subs,bM x=true:=by
 simp only [fK,Bool.and_eq_true,decide_eq_true_eq,List.all_eq_true] at h;refine⟨h.2.2.1,h.2.2.2,fun x hx=>?_⟩
 have:=h.1 x hx;simp only [bP,Bool.and_eq_true] at this;exact this.1
theorem lM{α:Type}{l:List α}{i:Nat}{x:α}(h:l[i]? =some x):l.drop i=x::l.drop (i+1):=by obtain⟨h1,h2⟩:=b7.1 h;rw [List.drop_eq_getElem_cons h1,h2]
theorem aCj{a d v:Int}(ha:0≤a∧a≤36)(hd:1≤d∧d≤6)(hv:0≤v∧v<d):0≤a*d∧a*d≤216∧0≤a*d+v:=by have h1:=vBn ha.1 (show 0≤d by omega);have h2:=vBv ha.2 hd.2 (by omega) (by omega);omega
theorem aHe{n:Nat}(hn:6600000≤n){a:Access}(h1:a.subs.length≤2)(h2: ∀x∈a.subs,bM x=true){ds:List Int}(hd:iI ds=true)(hl:a.subs.length=ds.length){k:Nat}{p:List Int}(hp:pL k p)(base:Int)(hb:0≤base∧base≤500000000):
  aM (fun again8 ((x6,x7):Int×Int)=>bif decide (x7<(a.subs.length:Int)) then(Option.bind (ix a.subs x7) fun x9=>Option.bind (cM n x9 p) fun x10=>Option.bind (ix ds x7) fun x11=>Option.bind (bY n x10 0 (wr (x11-1))) fun x12=>bif !x12 then(some (-1)) else(again8 (wr ((wr (x6*x11))+x10),wr (x7+1)))) else(some (wr (base+x6)))) n (0,0)
   =some (if sC a.subs ds p 0<0 then-1 else base+sC a.subs ds p 0):=by
 have hdm: ∀d∈ds,1≤d∧d≤6:=by
  simp only [iI,Bool.and_eq_true,decide_eq_true_eq,List.all_eq_true] at hd;exact fun d h=>hd.2 d h
 refine Ev.eq ?_;refine Ev.loop (fun x:Int×Int=> ∃i:Nat,x.2=i∧i≤a.subs.length∧0≤x.1∧x.1≤36*i∧(i=0→x.1=0)∧(i=1→x.1≤5)∧sC a.subs ds p 0=sC (a.subs.drop i) (ds.drop i) p x.1) (fun x=>a.subs.length-x.2.toNat) ?_ n _ ⟨0,rfl,by omega,by simp,by simp,fun _=>rfl,fun h=>by omega,rfl⟩ (by simp;omega);rintro again ⟨x,z⟩ ⟨i,hz,hi,hx0,hx1,hx2,hx3,hx⟩ hr;dsimp only at hz hx0 hx1 hx2 hx3 hx⊢;subst hz;refine aK (fun hlt=>?_) fun hge=>Ev.some ?_
 ·have hs:=dM (show i<a.subs.length by omega);have hdd:=dM (show i<ds.length by omega);have hdb:=hdm _ (dF hdd);have ew:wr (ds[i]-1)=ds[i]-1:=aN (by omega);rw [lM hs,lM hdd] at hx;simp only [sC] at hx;refine aB (aS hs) (aB (aHf (by omega) (h2 _ (dF hs)) hp) (aB (aS hdd) (aB (dQ _ _ _ _) ?_)));rw [ew];by_cases hc:0≤fV a.subs[i] p∧fV a.subs[i] p<ds[i]
  ·rw [if_pos hc] at hx;rw [decide_eq_true (show 0≤fV a.subs[i] p∧fV a.subs[i] p≤ds[i]-1 by omega)];obtain⟨g1,g2,g3⟩:=aCj (a:=x) (by omega) hdb hc;refine bI ?_;rw [aN (n:=x*ds[i]) (by omega),aN (n:=x*ds[i]+fV a.subs[i] p) (by omega),aN (by omega)];have hi01:i=0∨i=1:=by omega
   refine hr _ ⟨i+1,by dsimp only;omega,by omega,by dsimp only;omega,?_,fun h=>by omega,fun h=>?_,hx⟩ (by dsimp only;omega)
   ·dsimp only;rcases hi01 with rfl|rfl
    ·rw [hx2 rfl];omega
    have:=hx3 rfl
    have:=vBv this hdb.2 (by omega) (by omega);omega
   dsimp only
   have:i=0:=by omega
   subst this;rw [hx2 rfl];omega
  rw [if_neg hc] at hx;rw [decide_eq_false (show¬(0≤fV a.subs[i] p∧fV a.subs[i] p≤ds[i]-1) by omega)];refine b8 (Ev.some ?_);rw [hx];rfl
 have hie:i=a.subs.length:=by omega
 have hdr:sC (a.subs.drop i) (ds.drop i) p x=x:=by
  rw [hie,vBu];unfold sC;rfl
 rw [hdr] at hx;rw [hx,if_neg (by omega),aN (by omega)]
theorem aGM{n:Nat}(hn:6600000≤n){a:Access}(h0:1≤a.subs.length)(h1:a.subs.length≤2)(h2: ∀x∈a.subs,bM x=true){ds:List Int}(hd:iI ds=true){k:Nat}{p:List Int}(hp:pL k p)(base:Int)(hb:0≤base∧base≤500000000):
  aM (fun again8 ((x6,x7):Int×Int)=>bif decide (x7<(a.subs.length:Int)) then(bif !decide ((a.subs.length:Int)=(ds.length:Int)) then(some (-1)) else(Option.bind (ix a.subs x7) fun x9=>Option.bind (iK n x9 p) fun x10=>jn (fun(x13:Bool)=>bif x13 then(some (-1)) else(Option.bind (ix ds x7) fun x14=>again8 (wr ((wr (x6*x14))+x10),wr (x7+1)))) fun j11=>bif decide (x10<0) then(j11 true) else(Option.bind (ix ds x7) fun x12=>j11 (decide (x12≤x10))))) else(some (wr (base+x6)))) n (0,0)
   =some (if a.subs.length=ds.length then(if sC a.subs ds p 0<0 then-1 else base+sC a.subs ds p 0) else-1):=by
 by_cases hl:a.subs.length=ds.length
 ·rw [if_pos hl];rw [decide_eq_true (show(a.subs.length:Int)=(ds.length:Int) by omega)];have hdm: ∀d∈ds,1≤d∧d≤6:=by
   simp only [iI,Bool.and_eq_true,decide_eq_true_eq,List.all_eq_true] at hd;exact fun d h=>hd.2 d h
  refine Ev.eq ?_;refine Ev.loop (fun x:Int×Int=> ∃i:Nat,x.2=i∧i≤a.subs.length∧0≤x.1∧x.1≤36*i∧(i=0→x.1=0)∧(i=1→x.1≤5)∧sC a.subs ds p 0=sC (a.subs.drop i) (ds.drop i) p x.1) (fun x=>a.subs.length-x.2.toNat) ?_ n _ ⟨0,rfl,by omega,by simp,by simp,fun _=>rfl,fun h=>by omega,rfl⟩ (by simp;omega);rintro again ⟨x,z⟩ ⟨i,hz,hi,hx0,hx1,hx2,hx3,hx⟩ hr;dsimp only at hz hx0 hx1 hx2 hx3 hx⊢;subst hz;refine aK (fun hlt=>?_) fun hge=>Ev.some ?_
  ·have hs:=dM (show i<a.subs.length by omega);have hdd:=dM (show i<ds.length by omega);have hdb:=hdm _ (dF hdd);rw [lM hs,lM hdd] at hx;simp only [sC] at hx;refine bI (aB (aS hs) (aB (aGN (by omega) (h2 _ (dF hs)) hp) (Ev.jn (fun z=>z= !decide (0≤fV a.subs[i] p∧fV a.subs[i] p<ds[i])) (fun j hj=>aK (fun h=>hj _ ?_) fun h=>aB (aS hdd) (hj _ ?_)) fun z hz=>?_)))
   ·rw [decide_eq_false (by omega)];rfl
   ·by_cases hc:ds[i]≤fV a.subs[i] p
    ·rw [decide_eq_true hc,decide_eq_false (by omega)];rfl
    rw [decide_eq_false hc,decide_eq_true (by omega)];rfl
   subst hz;by_cases hc:0≤fV a.subs[i] p∧fV a.subs[i] p<ds[i]
   ·rw [if_pos hc] at hx;rw [decide_eq_true hc];obtain⟨g1,g2,g3⟩:=aCj (a:=x) (by omega) hdb hc;refine bI (aB (aS hdd) ?_);rw [aN (n:=x*ds[i]) (by omega),aN (n:=x*ds[i]+fV a.subs[i] p) (by omega),aN (by omega)];have hi01:i=0∨i=1:=by omega
    refine hr _ ⟨i+1,by dsimp only;omega,by omega,by dsimp only;omega,?_,fun h=>by omega,fun h=>?_,hx⟩ (by dsimp only;omega)
    ·dsimp only;rcases hi01 with rfl|rfl
     ·rw [hx2 rfl];omega
     have:=hx3 rfl
     have:=vBv this hdb.2 (by omega) (by omega);omega
    dsimp only
    have:i=0:=by omega
    subst this;rw [hx2 rfl];omega
   rw [if_neg hc] at hx;rw [decide_eq_false hc];refine b8 (Ev.some ?_);rw [hx];rfl
  have hie:i=a.subs.length:=by omega
  have hdr:sC (a.subs.drop i) (ds.drop i) p x=x:=by
   rw [hie,vBu];unfold sC;rfl
  rw [hdr] at hx;rw [hx,if_neg (by omega),aN (by omega)]
 rw [if_neg hl,decide_eq_false (show¬(a.subs.length:Int)=(ds.length:Int) by omega)];obtain⟨n,rfl⟩: ∃j,n=j+1:=⟨n-1,by omega⟩
 simp only [aM];rw [decide_eq_true (show(0:Int)<(a.subs.length:Int) by omega)];rfl
theorem V9{n:Nat}(hn:6600000≤n){p:Prog}(hl:p.arrays.length≤4)(hd:nZ p.arrays){a:Access}{d:Int}(ha:fK a d=true){k:Nat}{q:List Int}(hq:pL k q):gR n p a q=some (jS p.arrays a q 0):=by
 obtain⟨a0,a1,a2⟩:=q5 ha;refine Ev.eq ?_;unfold gR;refine Ev.loop (fun x:Int×Int=> ∃i:Nat,x.2=i∧i≤p.arrays.length∧0≤x.1∧x.1≤36*i∧jS p.arrays a q 0=jS (p.arrays.drop i) a q x.1) (fun x=>p.arrays.length-x.2.toNat) ?_ n _ ⟨0,rfl,by omega,by simp,by simp,rfl⟩ (by simp;omega);rintro again ⟨x,z⟩ ⟨i,hz,hi,hx0,hx1,hx⟩ hr;dsimp only at hz hx0 hx1 hx⊢;subst hz;refine aK (fun hlt=>?_) fun hge=>Ev.some ?_
 ·have hy:=dM (show i<p.arrays.length by omega);have hdy:=hd _ (dF hy);have hsz:=aJN hdy;rw [lM hy] at hx;simp only [jS] at hx;refine aB (aS hy) (bV (fun hne=>?_) fun he=>?_)
  ·rw [if_neg hne] at hx;refine aB (aFu hn hdy) ?_;rw [aN (n:=x+szL p.arrays[i].dims) (by omega),aN (by omega)];exact hr _ ⟨i+1,by dsimp only;omega,by omega,by dsimp only;omega,by dsimp only;omega,hx⟩ (by dsimp only;omega)
  rw [if_pos he] at hx;refine bV (fun hne=>Ev.some ?_) fun hle=>?_
  ·rw [hx,if_neg (by omega)]
  have hle':a.subs.length=p.arrays[i].dims.length:=by omega
  rw [if_pos hle'] at hx;exact Ev.of (aHe hn a1 a2 hdy hle' hq x (by omega)) hx.symm
 have hie:i=p.arrays.length:=by omega
 rw [hx,hie,vBu];rfl
theorem T0{n:Nat}(hn:6600000≤n){list:List Arr}(hl:list.length≤4)(hd:nZ list){a:Access}{d:Int}(ha:fK a d=true){k:Nat}{q:List Int}(hq:pL k q):rP n list a q=some (jS list a q 0):=by
 obtain⟨a0,a1,a2⟩:=q5 ha;refine Ev.eq ?_;unfold rP;refine Ev.loop (fun x:Int×Int=> ∃i:Nat,x.2=i∧i≤list.length∧0≤x.1∧x.1≤36*i∧jS list a q 0=jS (list.drop i) a q x.1) (fun x=>list.length-x.2.toNat) ?_ n _ ⟨0,rfl,by omega,by simp,by simp,rfl⟩ (by simp;omega);rintro again ⟨x,z⟩ ⟨i,hz,hi,hx0,hx1,hx⟩ hr;dsimp only at hz hx0 hx1 hx⊢;subst hz;refine aK (fun hlt=>?_) fun hge=>Ev.some ?_
 ·have hy:=dM (show i<list.length by omega);have hdy:=hd _ (dF hy);have hsz:=aJN hdy;rw [lM hy] at hx;simp only [jS] at hx;refine aB (aS hy) (bV (fun hne=>?_) fun he=>?_)
  ·rw [if_neg hne] at hx;refine aB (zP hn hdy) ?_;rw [aN (n:=x+szL list[i].dims) (by omega),aN (by omega)];exact hr _ ⟨i+1,by dsimp only;omega,by omega,by dsimp only;omega,by dsimp only;omega,hx⟩ (by dsimp only;omega)
  rw [if_pos he] at hx;exact Ev.of (aGM hn a0 a1 a2 hdy hq x (by omega)) hx.symm
 have hie:i=list.length:=by omega
 rw [hx,hie,vBu];rfl
def dI:Nat→Expr→List Access
 |0,_=>[]
 |L+1,e=>(if e.kind=3 then [e.read] else [])++e.kids.flatMap (dI L)
theorem yN{d:Int}: ∀{L:Nat} {e:Expr},dC L e d=true→ ∀a∈dI L e,fK a d=true
 |0,e,h,a,ha=>by cases h
 |L+1,e,h,a,ha=>by
  obtain⟨h1,h2,h3⟩:=jG h;simp only [dI,List.mem_append,List.mem_flatMap] at ha;rcases ha with ha|⟨k,hk,ha⟩
  ·split at ha
   ·rename_i hk3;simp at ha;subst ha;unfold fS at h2;rw [if_neg (by omega),if_pos hk3] at h2;simp only [Bool.and_eq_true] at h2;exact h2.2.2
   simp at ha
  exact yN (h3 k hk) a ha
theorem tG: ∀(L:Nat) (e:Expr),((dI L e).length:Int)≤q7 L e
 |0,e=>by simp [dI,q7]
 |L+1,e=>by
  have h: ∀(l:List Expr),((l.flatMap (dI L)).length:Int)≤(l.map (q7 L)).sum:=by
   intro l;induction l with
   |nil=>simp
   |cons k l ih=>
    have:=tG L k;simp only [List.flatMap_cons,List.length_append,List.map_cons,List.sum_cons];omega
  have:=h e.kids;simp only [dI,q7,List.length_append];split
  ·rw [List.length_singleton];omega
  rw [List.length_nil];omega
theorem I6{d:Int}: ∀(L n:Nat) (e:Expr),6600000+L≤n→L≤5→dC L e d=true→i_reads (n+1) e=some (dI L e)
 |0,n,e,_,_,h=>by cases h
 |L+1,n,e,hn,hL,h=>by
  obtain⟨h1,h2,h3⟩:=jG h;have hk2:=jP e.kind;unfold i_reads;refine Ev.eq (aK (fun h3k=>Ev.some ?_) fun hn3=>?_)
  ·have:e.kids=[]:=by
    have hz:gO e.kind=0:=by unfold gO;rw [if_pos (Or.inr (Or.inr h3k))]
    exact vAw (by omega)
   simp [dI,h3k,this]
  obtain⟨n,rfl⟩: ∃j,n=j+1:=⟨n-1,by omega⟩
  have hcb: ∀k∈e.kids,((dI L k).length:Int)≤100:=fun k hk=>by
   have h5:=aAA (h3 k hk);have h6:(2:Int)^L≤40:=by
    match L,hL with
    |0,_=>decide
    |1,_=>decide
    |2,_=>decide
    |3,_=>decide
    |4,_=>decide
   have:=tG L k;omega
  refine Ev.loop (fun x:List Access×Int=> ∃i:Nat,x.2=i∧i≤e.kids.length∧x.1=(e.kids.take i).flatMap (dI L)∧(x.1.length:Int)≤100*i) (fun x=>e.kids.length-x.2.toNat) ?_ (n+1) _ ⟨0,rfl,by omega,by simp,by simp⟩ (by simp;omega);rintro again ⟨x,k⟩ ⟨i,hk,hi,hx,hxl⟩ hr;dsimp only at hk hx hxl⊢;subst hk;refine aK (fun hlt=>?_) fun hge=>Ev.some ?_
  ·have hk3:=dM (show i<e.kids.length by omega);have hm:=dF hk3;have hb:=hcb _ hm;refine aB (aS hk3) (aB (I6 (d:=d) L n _ (by omega) (by omega) (h3 _ hm)) (aB (fH (by omega)) ?_));rw [aN (by omega)];refine hr _ ⟨i+1,by dsimp only;omega,by omega,?_,by dsimp only;rw [oK];omega⟩ (by dsimp only;omega);dsimp only;rw [E1,hk3,vBb,hx];simp
  have:i=e.kids.length:=by omega
  rw [hx,this,yD];simp [dI,hn3]
theorem K7(n:Nat){a:Affine}(h:a.coefs.length≤1100000):eZ n a=some a:=by
 unfold eZ;refine Ev.eq (aK (fun h0=>Ev.some ?_) fun h0=>aB (dE _ h) (Ev.some rfl));obtain⟨cs,c⟩:=a
 have:cs=[]:=vAw (by simpa using h0);subst this;rfl
theorem uZ{n:Nat}(hn:5500000≤n){a:Access}(h:zL a.subs):e9 n a=some a:=by
 obtain⟨h0,h1⟩:=h;refine Ev.eq ?_;unfold e9;refine Ev.loop (fun x:List Affine×Int=> ∃i:Nat,x.2=i∧i≤a.subs.length∧x.1=a.subs.take i) (fun x=>a.subs.length-x.2.toNat) ?_ n _ ⟨0,rfl,by omega,by simp⟩ (by simp;omega);rintro again ⟨x,k⟩ ⟨i,hk,hi,hx⟩ hr;dsimp only at hk hx⊢;subst hk;refine aK (fun hlt=>?_) fun hge=>Ev.some ?_
 ·have hs:=dM (show i<a.subs.length by omega);have hl:x.length=i:=by rw [hx,vP];omega
  refine aB (aS hs) (aB (K7 n (h1 _ (dF hs))) (aB (fH (by simp;omega)) ?_));rw [aN (by omega)];refine hr _ ⟨i+1,by dsimp only;omega,by omega,?_⟩ (by dsimp only;omega);dsimp only;rw [E1,hs,hx];rfl
 have:i=a.subs.length:=by omega
 rw [hx,this,yD]
theorem aJF{l:List Affine}(h1:l.length≤2)(h2: ∀a∈l,bM a=true):zL l:=⟨by omega,fun a ha=>by have:=(jT (h2 a ha)).1;unfold SmA;omega⟩
theorem F5{d:Int}: ∀(L n:Nat) (e:Expr) (out:List Access),6600000+L≤n→L≤5→dC L e d=true→(out.length:Int)≤1100000+200*(6-(L:Int))→s_l3Reads (n+1) out e=some (out++dI L e)
 |0,n,e,out,_,_,h,_=>by cases h
 |L+1,n,e,out,hn,hL,h,ho=>by
  obtain⟨h1,h2,h3⟩:=jG h;have hk2:=jP e.kind;unfold s_l3Reads;refine Ev.eq (Ev.jn (fun z=>z=out++(if e.kind=3 then [e.read] else [])) (fun j hj=>aK (fun h3k=>?_) fun hn3=>hj _ (by rw [if_neg hn3];simp)) fun z hz=>?_)
  ·have ha:=yN h e.read (by simp [dI,h3k]);obtain⟨_,b1,b2⟩:=q5 ha;exact aB (uZ (by omega) (aJF b1 b2)) (aB (fH (by simp;omega)) (hj _ (by rw [if_pos h3k])))
  subst hz;obtain⟨n,rfl⟩: ∃j,n=j+1:=⟨n-1,by omega⟩
  by_cases h3k:e.kind=3
  ·have hnil:e.kids=[]:=by
    have hz:gO e.kind=0:=by unfold gO;rw [if_pos (Or.inr (Or.inr h3k))]
    exact vAw (by omega)
   rw [hnil];refine Ev.some ?_;simp [dI,h3k,hnil]
  have hcb: ∀k∈e.kids,((dI L k).length:Int)≤100:=fun k hk=>by
   have h5:=aAA (h3 k hk);have h6:(2:Int)^L≤40:=by
    match L,hL with
    |0,_=>decide
    |1,_=>decide
    |2,_=>decide
    |3,_=>decide
    |4,_=>decide
   have:=tG L k;omega
  rw [if_neg h3k,vBp];refine Ev.loop (fun x:List Access×Int=> ∃i:Nat,x.2=i∧i≤e.kids.length∧x.1=out++(e.kids.take i).flatMap (dI L)∧(x.1.length:Int)≤out.length+100*i) (fun x=>e.kids.length-x.2.toNat) ?_ (n+1) _ ⟨0,rfl,by omega,by simp,by simp⟩ (by simp;omega);rintro again ⟨x,k⟩ ⟨i,hk,hi,hx,hxl⟩ hr;dsimp only at hk hx hxl⊢;subst hk;refine aK (fun hlt=>?_) fun hge=>Ev.some ?_
  ·have hk3:=dM (show i<e.kids.length by omega);have hm:=dF hk3;have hb:=hcb _ hm;refine aB (aS hk3) (aB (F5 (d:=d) L n _ x (by omega) (by omega) (h3 _ hm) (by omega)) ?_);rw [aN (by omega)];refine hr _ ⟨i+1,by dsimp only;omega,by omega,?_,by dsimp only;rw [oK];omega⟩ (by dsimp only;omega);dsimp only;rw [E1,hk3,vBb,hx];simp
  have:i=e.kids.length:=by omega
  rw [hx,this,yD];simp [dI,h3k]
theorem aGT{nest:List Loop}(hf:Fit nest): ∀(ls:List Loop) (k:Nat) (p q:List Int),nest.drop k=ls→k≤nest.length→pL k p→q∈pts ls p→pL nest.length q
 | [],k,p,q,hd,hk,hp,hq=>by
  have:=wZ hd hk;simp only [pts,List.mem_singleton] at hq;subst hq;subst this;exact hp
 |l::ls,k,p,q,hd,hk,hp,hq=>by obtain⟨d1,d2,d3⟩:=tN hd;obtain⟨s1,s2⟩:=hf.2 k l d1;have hf1:=hf.1;simp only [pts,List.mem_flatMap] at hq;obtain⟨v,hv,hq⟩:=hq;exact aGT hf ls (k+1) _ q d2 (by omega) (C2 s1 s2 hp (by omega) (aI5.1 hv)) hq
theorem aJH{nest:List Loop}{ps:List (List Int)}(h:NP nest=some ps):Fit nest∧ps.length≤120∧(∀q∈ps,pL nest.length q)∧ps=pts nest []∧wk nest []≤1200:=by
 unfold NP at h;split at h
 ·rename_i hc;cases h;have hf:=aAk hc.1;exact⟨hf,hc.2.2,fun q hq=>aGT hf nest 0 [] q rfl (by omega) pt0 hq,rfl,hc.2.1⟩
 cases h
def d7(list:List Arr)(s:Stmt)(q:List Int):Bool:=decide (0≤jS list s.write q 0)&&(dI 5 s.value).all fun a=>decide (0≤jS list a q 0)
theorem rG{s:Stmt}{d:Int}(h:fI s d=true):fK s.write d=true∧dC 5 s.value d=true∧(∀a∈dI 5 s.value,fK a d=true)∧(dI 5 s.value).length≤12:=by
 simp only [fI,Bool.and_eq_true,decide_eq_true_eq] at h;obtain⟨_,h1,h2,h3⟩:=h
 have:=tG 5 s.value;exact⟨h1,h2,yN h2,by omega⟩
theorem aBA{n:Nat}(hn:7700000≤n){p:Prog}(hl:p.arrays.length≤4)(hd:nZ p.arrays){s:Stmt}{d:Int}(hs:fI s d=true){k:Nat}{q:List Int}(hq:pL k q):iE n p s q=some (d7 p.arrays s q):=by
 obtain⟨h1,h2,h3,h4⟩:=rG hs;obtain⟨n,rfl⟩: ∃j,n=j+1:=⟨n-1,by omega⟩
 refine Ev.eq ?_;unfold iE;generalize hT:d7 p.arrays s q=T;unfold d7 at hT;refine Ev.jn (fun z=>z=T) (fun j hj=>aB (V9 (by omega) hl hd h1 hq) (aK (fun h=>?_) fun h=>hj _ ?_)) fun z hz=>Ev.some hz
 ·have hc:=B1 (n:=n+1) (f:=fun q0=>d0 (n+1) q0 p q) (p:=fun a=>decide (jS p.arrays a q 0<0)) (l:=dI 5 s.value)
   (fun a ha=>by unfold d0;rw [V9 (by omega) hl hd (h3 a ha) hq];rfl) (by omega) (by omega)
  refine aB (I6 (d:=d) 5 n s.value (by omega) (by omega) h2) (aB hc (hj _ ?_));rw [←hT,decide_eq_true h,vAU,vAX];congr 1;apply congrArg fun f=>List.any (dI 5 s.value) f;funext a;rw [ltd]
 rw [←hT,decide_eq_false h];rfl
theorem Z3{n:Nat}(hn:7700000≤n){list:List Arr}(hl:list.length≤4)(hd:nZ list){s:Stmt}{d:Int}(hs:fI s d=true){k:Nat}{q:List Int}(hq:pL k q):
  s9 n list s q=some (if d7 list s q=true then((dI 5 s.value).map fun a=>jS list a q 0,jS list s.write q 0,true) else([],0,false)):=by
 obtain⟨h1,h2,h3,h4⟩:=rG hs;obtain⟨n,rfl⟩: ∃j,n=j+1:=⟨n-1,by omega⟩
 refine Ev.eq ?_;unfold s9;refine aB (F5 (d:=d) 5 n s.value [] (by omega) (by omega) h2 (by simp)) ?_;rw [List.nil_append];generalize hR:dI 5 s.value=R at*;have hco:d7 list s q=(decide (0≤jS list s.write q 0)&&R.all fun a=>decide (0≤jS list a q 0)):=by unfold d7;rw [hR]
 refine Ev.loop (fun x:List Int×Int=> ∃i:Nat,x.2=i∧i≤R.length∧x.1=(R.take i).map (fun a=>jS list a q 0)∧ ∀(t:Nat) a,t<i→R[t]? =some a→0≤jS list a q 0) (fun x=>R.length-x.2.toNat) ?_ (n+1) _ ⟨0,rfl,by omega,by simp,fun t a h=>by omega⟩ (by dsimp only;omega);rintro again ⟨x,z⟩ ⟨i,hz,hi,hx,ha⟩ hr;dsimp only at hz hx ha⊢;subst hz;refine aK (fun hlt=>?_) fun hge=>?_
 ·have hg:=dM (show i<R.length by omega);have hm:=dF hg;refine aB (aS hg) (aB (T0 (by omega) hl hd (h3 _ hm) hq) (aK (fun hneg=>Ev.some ?_) fun hpos=>?_))
  ·rw [if_neg];rw [hco];intro h;rw [vBt] at h
   have:=Y5.1 h.2 _ hm;rw [decide_eq_true_eq] at this;omega
  have hl2:x.length≤12:=by rw [hx,S7,vP];omega
  refine aB (fH (by simp;omega)) ?_;rw [aN (by omega)];refine hr _ ⟨i+1,by dsimp only;omega,by omega,?_,fun t a ht hta=>?_⟩ (by dsimp only;omega)
  ·dsimp only;rw [E1,hg,vAT,hx];rfl
  by_cases hti:t=i
  ·subst hti;rw [hg] at hta;cases hta;omega
  exact ha t a (by omega) hta
 have hie:i=R.length:=by omega
 have hall:R.all (fun a=>decide (0≤jS list a q 0))=true:=Y5.2 (fun a hm=>by
  obtain⟨t,ht⟩:=vAB hm
  have:=(b7.1 ht).1;exact decide_eq_true (ha t a (by omega) ht))
 rw [hco,hall,Bool.and_true];refine aB (T0 (by omega) hl hd h1 hq) (aK (fun hneg=>Ev.some ?_) fun hpos=>Ev.some ?_)
 ·rw [if_neg (by rw [decide_eq_true_eq];omega)]
 rw [if_pos (by rw [decide_eq_true_eq];omega),hx,hie,yD]
def ptV(q:List Int):Bool:=decide (q.length≤4)&&q.all fun x=>decide (-9999≤x∧x≤9999)
theorem aAh{n:Nat}(hn:5500000≤n){q:List Int}(h:q.length≤1100000):tL n q=some (ptV q):=by
 unfold tL ptV;have hc:=qM (n:=n) (f:=fun q0=>lL n q0) (p:=fun x=> !decide (-9999≤x∧x≤9999)) (l:=q) (fun x _=>by unfold lL;rw [dQ];rfl) (by omega) (by omega);simp only [jn,Option.bind];rw [hc];have e:(q.any fun x=> !decide (-9999≤x∧x≤9999))= !(q.all fun x=>decide (-9999≤x∧x≤9999)):=by rw [vAX];simp
 rw [e,show decide ((q.length:Int)≤4)=decide (q.length≤4) from decide_eq_decide.2 (by omega)];cases decide (q.length≤4)<;>simp
theorem Z6{n:Nat}(hn:5500000≤n){q:List Int}(h:q.length≤1100000):tD n q=some (ptV q):=by
 refine Ev.eq ?_;unfold tD;refine mI (l:=q) (p:=fun _ x=>decide (-9999≤x∧x≤9999)) (by omega) (by omega) (fun again i x hx hgo hno=>?_) (fun again hall=>?_) (fun⟨i,x,hx,hp⟩=>?_)
 ·have hi:=(b7.1 hx).1;rw [decide_eq_true (show(i:Int)<(q.length:Int) by omega)];refine b8 (aB (aS hx) (aB (nO n x 9999 (by omega)) ?_));cases hp:decide (-9999≤x∧x≤9999) with
  |true=>show Ev (again _) _;rw [aN (by omega)];exact hgo hp
  |false=>exact Ev.some (hno hp)
 ·rw [decide_eq_false (show¬(q.length:Int)<(q.length:Int) by omega)];refine Ev.some ?_;unfold ptV;rw [Y5.2 (fun c hc=>by obtain⟨i,hi⟩:=vAB hc;exact hall i c hi),Bool.and_true];exact decide_eq_decide.2 (by omega)
 unfold ptV;rw [vAF.2 ⟨x,dF hx,by rw [hp];simp⟩,vBj]
theorem aCi{α:Type}(p q:α→Bool): ∀l:List α,(l.all p&&l.all q)=l.all (fun x=>p x&&q x)
 | []=>rfl
 |x::l=>by simp only [List.all_cons,←aCi p q l];cases p x<;>cases q x<;>cases l.all p<;>cases l.all q<;>rfl
def xK(part:Part):Bool:=decide (1≤part.body.length∧part.body.length≤4)&&part.body.all fun s=>fI s (part.nest.length:Int)
def iA(part:Part):List (List Int):=(NP part.nest).getD []
def cC(list:List Arr)(part:Part):Bool:=(NP part.nest).isSome&&(xK part&&part.body.all fun s=>(iA part).all fun q=>d7 list s q&&ptV q)
def aD8(x:Part):Prop:=SmN x.nest∧x.body.length≤1100000∧ ∀s∈x.body,SmS s
def SmP(p:Prog):Prop:=SmR p.arrays∧p.parts.length≤1100000∧ ∀x∈p.parts,aD8 x
theorem lK{list:List Arr}{x:Part}(h:cC list x=true):NP x.nest=some (iA x)∧(1≤x.body.length∧x.body.length≤4)∧(∀s∈x.body,fI s (x.nest.length:Int)=true)∧ ∀s∈x.body,∀q∈iA x,d7 list s q=true∧ptV q=true:=by
 simp only [cC,xK,Bool.and_eq_true,decide_eq_true_eq,List.all_eq_true] at h;refine⟨?_,h.2.1.1,h.2.1.2,h.2.2⟩;unfold iA;cases hn:NP x.nest with
 |none=>rw [hn] at h;simp at h
 |some ps=>rfl
theorem aD6{list:List Arr}(h:fN list=true):list.length≤4∧nZ list:=by
 simp only [fN,Bool.and_eq_true,decide_eq_true_eq] at h;refine⟨h.2,fun x hx=>?_⟩;obtain⟨i,hi⟩:=vAB hx
 have:=uU h.1 hi;simp only [B7,Bool.and_eq_true] at this;exact this.2.2
theorem aBe{n:Nat}(hn:7700000≤n){list:List Arr}(hl:list.length≤4)(hd:nZ list){x:Part}(hx:aD8 x):
  wC n list x=some (if cC list x=true then(((iA x).length:Int)*(x.body.length:Int),true) else(0,false)):=by
 obtain⟨h1,h2,h3⟩:=hx;refine Ev.eq ?_;unfold wC;generalize hT:(if cC list x=true then(((iA x).length:Int)*(x.body.length:Int),true) else((0:Int),false))=T;refine aB (A7 (by omega) h1) ?_;have hbad:cC list x=false→((0:Int),false)=T:=fun h=>by rw [←hT,h];rfl
 refine Ev.jn (fun z=>z= !((NP x.nest).isSome&&decide (1≤x.body.length∧x.body.length≤4))) (fun j hj=>?_) fun z hz=>?_
 ·cases hN:NP x.nest with
  |none=>exact b8 (hj _ (by rw [hN];rfl))
  |some ps=>
   refine bI (aK (fun h=>hj _ ?_) fun h=>hj _ ?_)
   ·rw [hN,decide_eq_false (by omega)];rfl
   rw [hN];by_cases h4:x.body.length≤4
   ·rw [decide_eq_false (show¬(4:Int)<(x.body.length:Int) by omega),decide_eq_true (by omega)];rfl
   rw [decide_eq_true (show(4:Int)<(x.body.length:Int) by omega),decide_eq_false (by omega)];rfl
 subst hz;cases hN:NP x.nest with
 |none=>exact Ev.some (hbad (by unfold cC;rw [hN];rfl))
 |some ps=>
  obtain⟨hf,hp1,hp2,hp3,hp4⟩:=aJH hN;have hpp:iA x=ps:=by unfold iA;rw [hN];rfl
  by_cases hb:1≤x.body.length∧x.body.length≤4
  ·rw [decide_eq_true hb];refine bI ?_;have hok:cC list x=x.body.all (fun s=>fI s (x.nest.length:Int)&&ps.all fun q=>d7 list s q&&ptV q):=by
    unfold cC xK;rw [hN,hpp,decide_eq_true hb,Option.isSome_some,vAU,vAU];exact aCi _ _ _
   refine Ev.loop (fun y:Int=> ∃i:Nat,y=i∧i≤x.body.length∧ ∀(t:Nat) s,t<i→x.body[t]? =some s→(fI s (x.nest.length:Int)&&ps.all fun q=>d7 list s q&&ptV q)=true) (fun y=>x.body.length-y.toNat) ?_ n _ ⟨0,rfl,by omega,fun t s h=>by omega⟩ (by simp;omega);rintro again y ⟨i,rfl,hi,ha⟩ hr;refine aK (fun hlt=>?_) fun hge=>Ev.some ?_
   ·have hg:=dM (show i<x.body.length by omega);have hm:=dF hg;refine aB (aS hg) (aB (F9 (by omega) (h3 _ hm) _) ?_);cases hsv:fI x.body[i] (x.nest.length:Int) with
    |false=>
     refine b8 (Ev.some (hbad ?_));rw [hok];exact vAF.2 ⟨_,hm,by rw [hsv];simp⟩
    |true=>
     refine bI ?_;show Ev (aM (fun again9 (x8:Int)=>bif decide (x8<(ps.length:Int)) then _ else _) n 0) _;refine Ev.loop (fun y:Int=> ∃k:Nat,y=k∧k≤ps.length∧ ∀(t:Nat) q,t<k→ps[t]? =some q→(d7 list x.body[i] q&&ptV q)=true) (fun y=>ps.length-y.toNat) ?_ n _ ⟨0,rfl,by omega,fun t s h=>by omega⟩ (by simp;omega);rintro again9 y ⟨k,rfl,hk,hak⟩ hr9;refine aK (fun hlt9=>?_) fun hge9=>?_
     ·have hgk:=dM (show k<ps.length by omega);have hmk:=dF hgk;have hq:=hp2 _ hmk;have hql:ps[k].length≤1100000:=by have:=hq.1;have:=hq.2.1;omega
      refine aB (aS hgk) (aB (Z3 (by omega) hl hd hsv hq) (Ev.jn (fun z=>z= !(d7 list x.body[i] ps[k]&&ptV ps[k])) (fun j hj=>?_) fun z hz=>?_))
      ·cases hc:d7 list x.body[i] ps[k] with
       |false=>
        rw [hc] at hj;exact b8 (hj _ rfl)
       |true=>
        rw [hc] at hj;exact bI (aB (Z6 (by omega) hql) (hj _ rfl))
      subst hz;cases hc:(d7 list x.body[i] ps[k]&&ptV ps[k]) with
      |false=>
       refine Ev.some (hbad ?_);rw [hok];refine vAF.2 ⟨_,hm,?_⟩;rw [hsv,vAU];rw [vAF.2 ⟨_,hmk,by rw [hc];simp⟩];simp
      |true=>
       show Ev (again9 _) _;rw [aN (by omega)];refine hr9 _ ⟨k+1,by omega,by omega,fun t q ht htq=>?_⟩ (by omega);by_cases htk:t=k
       ·subst htk;rw [hgk] at htq;cases htq;exact hc
       exact hak t q (by omega) htq
     rw [aN (by omega)];refine hr _ ⟨i+1,by omega,by omega,fun t s ht hts=>?_⟩ (by omega);by_cases hti:t=i
     ·subst hti;rw [hg] at hts;cases hts;rw [hsv,vAU];refine Y5.2 fun q hq=>?_;obtain⟨t',ht'⟩:=vAB hq
      have:=(b7.1 ht').1;exact hak t' q (by omega) ht'
     exact ha t s (by omega) hts
   have hall:cC list x=true:=by
    rw [hok];refine Y5.2 fun s hs=>?_;obtain⟨t,ht⟩:=vAB hs
    have:=(b7.1 ht).1;exact ha t s (by omega) ht
   rw [←hT,hall,if_pos rfl,hpp];show(wr ((ps.length:Int)*(x.body.length:Int)),true)=_;have hb1:(0:Int)≤(ps.length:Int)*(x.body.length:Int):=vBn (by omega) (by omega);have hb2:(ps.length:Int)*(x.body.length:Int)≤120*4:=vBv (by omega) (by omega) (by omega) (by omega);rw [aN (by omega)]
  rw [decide_eq_false hb];refine Ev.some (hbad ?_);unfold cC xK;rw [decide_eq_false hb];simp
def fM(x:Part):Int:=((iA x).length:Int)*(x.body.length:Int)
def instP(i:Nat)(x:Part):List Inst:=(iA x).flatMap fun q=>(List.range x.body.length).map fun(k:Nat)=>(⟨(i:Int),(k:Int),q⟩:Inst)
def insts(ps:List Part):List Inst:=ps.zipIdx.flatMap fun y=>instP y.2 y.1
def pK(p:Prog):Bool:=fN p.arrays&&(decide (p.parts.length≤4)&&p.parts.all (cC p.arrays))
def iH(p:Prog):Bool:=pK p&&decide ((p.parts.map fM).sum≤120)
theorem insts_snoc(l:List Part)(x:Part):insts (l++[x])=insts l++instP l.length x:=by unfold insts;rw [List.zipIdx_append,vBb];simp
theorem insts_take{l:List Part}{i:Nat}{x:Part}(h:l[i]? =some x):insts (l.take (i+1))=insts (l.take i)++instP i x:=by have hi:=(b7.1 h).1;rw [E1,h];show insts (l.take i++[x])=_;rw [insts_snoc,vP,Nat.min_eq_left (Nat.le_of_lt hi)]
theorem J3{α β:Type}(f:α→List β)(m:Nat)(h: ∀x,(f x).length=m): ∀l:List α,(l.flatMap f).length=l.length*m
 | []=>by simp
 |x::l=>by rw [List.flatMap_cons,oK,h,J3 f m h l,List.length_cons,mX];omega
theorem instP_len(i:Nat)(x:Part):((instP i x).length:Int)=fM x:=by unfold instP fM;rw [J3 _ x.body.length fun q=>by simp];exact Int.natCast_mul _ _
theorem aBb{l:List Part}{i:Nat}{x:Part}(h:l[i]? =some x):((l.take (i+1)).map fM).sum=((l.take i).map fM).sum+fM x:=by rw [E1,h];simp
theorem insts_len: ∀(l:List Part) (i:Nat),i≤l.length→((insts (l.take i)).length:Int)=((l.take i).map fM).sum
 |l,0,_=>by simp [insts]
 |l,i+1,h=>by
  have hg:=dM (show i<l.length by omega);rw [insts_take hg,oK,aBb hg]
  have:=insts_len l i (by omega)
  have:=instP_len i l[i];omega
theorem insts_len'(l:List Part):((insts l).length:Int)=(l.map fM).sum:=by
 have:=insts_len l l.length (lI _)
 rwa [yD] at this
theorem X2{list:List Arr}{x:Part}(h:cC list x=true):0≤fM x∧fM x≤480:=by
 obtain⟨h1,h2,_⟩:=lK h;obtain⟨_,h3,_⟩:=aJH h1;unfold fM;refine⟨vBn (by omega) (by omega),?_⟩
 have:=vBv (show((iA x).length:Int)≤120 by omega) (show(x.body.length:Int)≤4 by omega) (by omega) (by omega);omega
theorem jJ{n:Nat}(hn:7700000≤n){p:Prog}(hp:SmP p):gM n p=some (iH p):=by
 obtain⟨h1,h2,h3⟩:=hp;refine Ev.eq ?_;unfold gM;generalize hT:iH p=T;unfold iH pK at hT;refine Ev.jn (fun z=>z= !(fN p.arrays&&decide (p.parts.length≤4))) (fun j hj=>aB (O7 (by omega) h1) ?_) fun z hz=>?_
 ·cases ha:fN p.arrays with
  |false=>exact b8 (hj _ (by rw [ha];rfl))
  |true=>
   refine bI (hj _ ?_);rw [ha];by_cases h4:p.parts.length≤4
   ·rw [decide_eq_false (show¬(4:Int)<(p.parts.length:Int) by omega),decide_eq_true h4];rfl
   rw [decide_eq_true (show(4:Int)<(p.parts.length:Int) by omega),decide_eq_false h4];rfl
 subst hz;cases hb:(fN p.arrays&&decide (p.parts.length≤4)) with
 |false=>
  refine Ev.some ?_;rw [←hT,←vAZ,hb];rfl
 |true=>
  have hT':T=(p.parts.all (cC p.arrays)&&decide ((p.parts.map fM).sum≤120)):=by rw [←hT,←vAZ,hb];rfl
  rw [vBt,decide_eq_true_eq] at hb;obtain⟨hl,hd⟩:=aD6 hb.1;refine bI ?_;refine Ev.loop (fun x:Int×Int=> ∃i:Nat,x.2=i∧i≤p.parts.length∧x.1=((p.parts.take i).map fM).sum∧0≤x.1∧x.1≤480*i∧ ∀(t:Nat) y,t<i→p.parts[t]? =some y→cC p.arrays y=true) (fun x=>p.parts.length-x.2.toNat) ?_ n _ ⟨0,rfl,by omega,by simp,by simp,by simp,fun t y h=>by omega⟩ (by dsimp only;omega);rintro again ⟨x,z⟩ ⟨i,hz,hi,hx,hx0,hx1,ha⟩ hr;dsimp only at hz hx hx0 hx1 ha⊢;subst hz;refine aK (fun hlt=>?_) fun hge=>Ev.some ?_
  ·have hg:=dM (show i<p.parts.length by omega);have hm:=dF hg;refine aB (aS hg) (aB (aBe (by omega) hl hd (h3 _ hm)) ?_);cases hpo:cC p.arrays p.parts[i] with
   |false=>
    rw [if_neg (by simp)];refine Ev.some ?_;rw [hT',vAF.2 ⟨_,hm,by rw [hpo];simp⟩];rfl
   |true=>
    rw [if_pos rfl];have hcb:=X2 hpo;show Ev (again (wr (x+fM p.parts[i]),wr ((i:Int)+1))) _;rw [aN (n:=x+fM p.parts[i]) (by omega),aN (by omega)];refine hr _ ⟨i+1,by dsimp only;omega,by omega,by dsimp only;rw [aBb hg];omega,by dsimp only;omega,by dsimp only;omega,fun t y ht hty=>?_⟩ (by dsimp only;omega);by_cases hti:t=i
    ·subst hti;rw [hg] at hty;cases hty;exact hpo
    exact ha t y (by omega) hty
  have hie:i=p.parts.length:=by omega
  have hall:p.parts.all (cC p.arrays)=true:=Y5.2 (fun y hy=>by
   obtain⟨t,ht⟩:=vAB hy
   have:=(b7.1 ht).1;exact ha t y (by omega) ht)
  rw [hT',hall,vAU,hx,hie,yD]
theorem G4{α:Type}(f:Nat→α)(k:Nat):(List.range (k+1)).map f=(List.range k).map f++[f k]:=by rw [List.range_succ,vAT];rfl
theorem I7{n:Nat}(hn:7700000≤n){p:Prog}(hp:SmP p):eY n p=some (if pK p=true then(insts p.parts,decide ((insts p.parts).length≤120)) else([],false)):=by
 obtain⟨h1,h2,h3⟩:=hp;refine Ev.eq ?_;unfold eY;generalize hT:(if pK p=true then(insts p.parts,decide ((insts p.parts).length≤120)) else([],false))=T;have hbad:pK p=false→(([]:List Inst),false)=T:=fun h=>by rw [←hT,h];rfl
 refine Ev.jn (fun z=>z= !(fN p.arrays&&decide (p.parts.length≤4))) (fun j hj=>aB (P2 (by omega) h1) ?_) fun z hz=>?_
 ·cases ha:fN p.arrays with
  |false=>exact b8 (hj _ (by rw [ha];rfl))
  |true=>
   refine bI (hj _ ?_);rw [ha];by_cases h4:p.parts.length≤4
   ·rw [decide_eq_false (show¬(4:Int)<(p.parts.length:Int) by omega),decide_eq_true h4];rfl
   rw [decide_eq_true (show(4:Int)<(p.parts.length:Int) by omega),decide_eq_false h4];rfl
 subst hz;cases hb:(fN p.arrays&&decide (p.parts.length≤4)) with
 |false=>exact Ev.some (hbad (by unfold pK;rw [←vAZ,hb];rfl))
 |true=>
  have hall':pK p=p.parts.all (cC p.arrays):=by unfold pK;rw [←vAZ,hb];rfl
  rw [vBt,decide_eq_true_eq] at hb;obtain⟨hl,hd⟩:=aD6 hb.1;refine bI ?_;refine Ev.loop (fun x:List Inst×Int=> ∃i:Nat,x.2=i∧i≤p.parts.length∧x.1=insts (p.parts.take i)∧x.1.length≤480*i∧ ∀(t:Nat) y,t<i→p.parts[t]? =some y→cC p.arrays y=true) (fun x=>p.parts.length-x.2.toNat) ?_ n _ ⟨0,rfl,by omega,by simp [insts],by simp,fun t y h=>by omega⟩ (by dsimp only;omega);rintro again ⟨x,z⟩ ⟨i,hz,hi,hx,hxl,ha⟩ hr;dsimp only at hz hx hxl ha⊢;subst hz;refine aK (fun hlt=>?_) fun hge=>Ev.some ?_
  ·have hg:=dM (show i<p.parts.length by omega);have hm:=dF hg;obtain⟨s1,s2,s3⟩:=h3 _ hm;generalize hP:p.parts[i]=P at*;have hpb:cC p.arrays P=false→pK p=false:=fun h=>by rw [hall'];exact vAF.2 ⟨_,hm,by rw [h];simp⟩
   refine aB (aS hg) (aB (B0 (by omega) s1) (Ev.jn (fun z=>z= !((NP P.nest).isSome&&xK P)) (fun j hj=>?_) fun z hz=>?_))
   ·cases hN:NP P.nest with
    |none=>exact b8 (hj _ (by rw [hN];rfl))
    |some ps=>
     refine bI ?_;have hw:bY n (P.body.length:Int) 1 4=some (decide (1≤P.body.length∧P.body.length≤4)):=by
      rw [dQ];congr 1;exact decide_eq_decide.2 (by omega)
     refine aB hw ?_;have hc:=P5 (n:=n) (f:=fun q0=>cV n q0 P) (p:=fun s=> !fI s (P.nest.length:Int)) (l:=P.body) (fun s hs=>by unfold cV;rw [J0 (by omega) (s3 s hs)];rfl) (by omega) (by omega);have e:(P.body.any fun s=> !fI s (P.nest.length:Int))= !(P.body.all fun s=>fI s (P.nest.length:Int)):=by rw [vAX];simp
     cases hw2:decide (1≤P.body.length∧P.body.length≤4) with
     |false=>exact b8 (hj _ (by unfold xK;rw [hN,hw2];rfl))
     |true=>exact bI (aB hc (hj _ (by unfold xK;rw [hN,hw2,e];rfl)))
   subst hz;cases hN:NP P.nest with
   |none=>exact Ev.some (hbad (hpb (by unfold cC;rw [hN];rfl)))
   |some ps=>
    obtain⟨hf,hp1,hp2,hp3,hp4⟩:=aJH hN;have hpp:iA P=ps:=by unfold iA;rw [hN];rfl
    cases hbv:xK P with
    |false=>exact Ev.some (hbad (hpb (by unfold cC;rw [hbv];simp)))
    |true=>
     have hbv':=hbv;simp only [xK,Bool.and_eq_true,decide_eq_true_eq,List.all_eq_true] at hbv';obtain⟨⟨hb1,hb2⟩,hb3⟩:=hbv';have hok:cC p.arrays P=P.body.all (fun s=>ps.all fun q=>d7 p.arrays s q&&ptV q):=by
      unfold cC;rw [hN,hbv,hpp];rfl
     let row:List Int→List Inst:=fun q=>(List.range P.body.length).map fun(k:Nat)=>(⟨(i:Int),(k:Int),q⟩:Inst)
     have hrl: ∀q,(row q).length=P.body.length:=fun q=>by simp [row]
     have hinst:instP i P=ps.flatMap row:=by unfold instP;rw [hpp]
     refine bI ?_;rw [show(aDC (some ps)).1=ps from rfl];refine Ev.loop (fun y:List Inst×Int=> ∃k:Nat,y.2=k∧k≤ps.length∧y.1=x++(ps.take k).flatMap row∧ ∀(t:Nat) q,t<k→ps[t]? =some q→ptV q=true∧ ∀s∈P.body,d7 p.arrays s q=true) (fun y=>ps.length-y.2.toNat) ?_ n _ ⟨0,rfl,by omega,by simp,fun t q h=>by omega⟩ (by dsimp only;omega);rintro again17 ⟨y,z⟩ ⟨k,hz,hk,hy,hak⟩ hr17;dsimp only at hz hy hak⊢;subst hz;refine aK (fun hlt2=>?_) fun hge2=>?_
     ·have hgk:=dM (show k<ps.length by omega);have hmk:=dF hgk;generalize hQ:ps[k]=Q at*;have hq:=hp2 _ hmk;have hql:Q.length≤4:=by have:=hq.1;have:=hq.2.1;omega
      refine aB (aS hgk) (aB (aAh (by omega) (by omega)) ?_);have hyl:y.length≤480*4+480:=by
       rw [hy,oK,J3 row _ hrl,vP]
       have:min k ps.length*P.body.length≤120*4:=Nat.mul_le_mul (by omega) hb2;omega
      cases hpv:ptV Q with
      |false=>
       refine b8 (Ev.some (hbad (hpb ?_)));rw [hok];obtain⟨s0,hs0⟩: ∃s0,s0∈P.body:=List.exists_mem_of_length_pos (by omega);refine vAF.2 ⟨s0,hs0,?_⟩;rw [vAF.2 ⟨Q,hmk,by rw [hpv];simp⟩];simp
      |true=>
       refine bI ?_;refine Ev.loop (fun u:List Inst×Int=> ∃m:Nat,u.2=m∧m≤P.body.length∧u.1=y++(List.range m).map (fun(k:Nat)=>(⟨(i:Int),(k:Int),Q⟩:Inst))∧ ∀(t:Nat) s,t<m→P.body[t]? =some s→d7 p.arrays s Q=true) (fun u=>P.body.length-u.2.toNat) ?_ n _ ⟨0,rfl,by omega,by simp,fun t s h=>by omega⟩ (by dsimp only;omega);rintro again23 ⟨u,z⟩ ⟨m,hz,hmm,hu,ham⟩ hr23;dsimp only at hz hu ham⊢;subst hz;refine aK (fun hlt3=>?_) fun hge3=>?_
       ·have hgm:=dM (show m<P.body.length by omega);have hmem:=dF hgm;refine aB (aS hgm) (aB (aBA (by omega) hl hd (hb3 _ hmem) hq) ?_);cases hco:d7 p.arrays P.body[m] Q with
        |false=>
         refine b8 (Ev.some (hbad (hpb ?_)));rw [hok];refine vAF.2 ⟨_,hmem,?_⟩;rw [vAF.2 ⟨Q,hmk,by rw [hco];simp⟩];simp
        |true=>
         have hcl:m_ownClone Q=some Q:=by unfold m_ownClone;rw [if_pos (by omega)]
         have hul:u.length≤480*4+480+4:=by rw [hu];simp;omega
         refine bI (aB hcl (aB (fH (by simp;omega)) ?_));rw [aN (by omega)];refine hr23 _ ⟨m+1,by dsimp only;omega,by omega,?_,fun t s ht hts=>?_⟩ (by dsimp only;omega)
         ·dsimp only;rw [hu,G4,vAN]
         by_cases htm:t=m
         ·subst htm;rw [hgm] at hts;cases hts;exact hco
         exact ham t s (by omega) hts
       have hme:m=P.body.length:=by omega
       rw [aN (by omega)];refine hr17 _ ⟨k+1,by dsimp only;omega,by omega,?_,fun t q ht htq=>?_⟩ (by dsimp only;omega)
       ·dsimp only;rw [E1,hgk,vBb,←vAN,←hy,hu,hme];simp [row]
       by_cases htk:t=k
       ·subst htk;rw [hgk] at htq;cases htq;refine⟨hpv,fun s hs=>?_⟩;obtain⟨t',ht'⟩:=vAB hs
        have:=(b7.1 ht').1;exact ham t' s (by omega) ht'
       exact hak t q (by omega) htq
     have hke:k=ps.length:=by omega
     have hpo:cC p.arrays P=true:=by
      rw [hok];refine Y5.2 fun s hs=>Y5.2 fun q hq=>?_;obtain⟨t,ht⟩:=vAB hq
      have:=(b7.1 ht).1;obtain⟨g1,g2⟩:=hak t q (by omega) ht;rw [g1,g2 s hs];rfl
     have hcb:=X2 hpo;have hil:=instP_len i P;rw [aN (by omega)];refine hr _ ⟨i+1,by dsimp only;omega,by omega,?_,?_,fun t y ht hty=>?_⟩ (by dsimp only;omega)
     ·dsimp only;rw [insts_take hg,hinst,hy,hke,yD,hx]
     ·dsimp only;rw [hy,hke,yD,oK,←hinst];omega
     by_cases hti:t=i
     ·subst hti;rw [hg] at hty;cases hty;exact hpo
     exact ha t y (by omega) hty
  have hie:i=p.parts.length:=by omega
  have hall:pK p=true:=by
   rw [hall'];exact Y5.2 (fun y hy=>by
    obtain⟨t,ht⟩:=vAB hy
    have:=(b7.1 ht).1;exact ha t y (by omega) ht)
  rw [←hT,if_pos hall,hx,hie,yD];congr 1;exact decide_eq_decide.2 (by omega)
theorem gE{n:Nat}(hn:7700000≤n){p:Prog}(hp:SmP p):gS n p=some (iH p):=by
 unfold gS;rw [I7 hn hp];unfold iH;cases h:pK p with
 |false=>rfl
 |true=>
  rw [if_pos rfl];show some (decide _)=_;rw [vAU];congr 1
  have:=insts_len' p.parts;exact decide_eq_decide.2 (by omega)
theorem Z8{p:Prog}(h:iH p=true):p.arrays.length≤4∧nZ p.arrays∧p.parts.length≤4∧(∀x∈p.parts,cC p.arrays x=true)∧(insts p.parts).length≤120:=by
 simp only [iH,pK,Bool.and_eq_true,decide_eq_true_eq,List.all_eq_true] at h;obtain⟨⟨h1,h2,h3⟩,h4⟩:=h;obtain⟨a,b⟩:=aD6 h1
 have:=insts_len' p.parts;exact⟨a,b,h2,h3,by omega⟩
end Go.Lift
