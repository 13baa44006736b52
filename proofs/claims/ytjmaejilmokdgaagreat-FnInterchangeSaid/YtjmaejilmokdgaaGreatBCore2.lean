/- Valid statements. -/
import Derived.Test.YtjmaejilmokdgaaGreatBCore1
set_option maxRecDepth 100000
set_option linter.unusedVariables false
namespace Go.Lift
open Go
def SmE:Nat→Expr→Prop
 |0,_=>True
 |L+1,e=>e.kids.length≤1000∧SmA e.index∧S7 e.read.subs∧ ∀k∈e.kids,SmE L k
def dQ:Nat→Expr→Int→Bool
 |0,_,_=>false
 |L+1,e,d=>decide (iL e.kind=e.kids.length)&&(gD e d&&e.kids.all fun k=>dQ L k d)
def uP:Nat→Expr→Int
 |0,_=>1
 |L+1,e=>1+(e.kids.map (uP L)).sum
theorem mT(k:Int):iL k≤2:=by unfold iL;split;omega;split<;>omega
theorem C4(d:Int): ∀(L n:Nat) (e:Expr),5000+L≤n→L≤1000→SmE L e→s_l3Shape (n+1) e d (L:Int)=some (dQ L e d)
 |0,n,e,_,_,_=>by unfold s_l3Shape;rfl
 |L+1,n,e,hn,hL,he=>by
  obtain⟨e1,e2,e3,e4⟩:=he;unfold s_l3Shape;refine Ev.eq ?_;refine Ev.jn (fun z=>z= !(decide (iL e.kind=e.kids.length)&&gD e d)) (fun j hj=>aH (fun h=>by omega) fun h=>aA (aEu n _) (dP (fun h=>hj _ ?_) fun h=>aA (aGi (by omega) e2 e3 d) (hj _ ?_))) fun z hz=>?_
  ·rw [decide_eq_false h];rfl
  ·rw [decide_eq_true h];rfl
  subst hz;unfold dQ;cases hb:(decide (iL e.kind=e.kids.length)&&gD e d) with
  |false=>exact Ev.some (by rw [←vBg,hb];rfl)
  |true=>
   rw [←vBg,hb,vBa];refine cC ?_;obtain⟨n,rfl⟩: ∃j,n=j+1:=⟨n-1,by omega⟩
   have ew:wr (((L+1:Nat):Int)-1)=(L:Int):=by rw [aO (by omega)];omega
   rw [ew];refine oH (l:=e.kids) (p:=fun _ k=>dQ L k d) (by omega) (by omega) (fun again i x hx hgo hno=>?_) (fun again hall=>?_) (fun⟨i,x,hx,hp⟩=>?_)
   ·have hi:=(cZ.1 hx).1;rw [decide_eq_true (show(i:Int)<(e.kids.length:Int) by omega)];refine cA (aA (aM hx) (aA (C4 d L n x (by omega) (by omega) (e4 x (cR hx))) ?_));cases hs:dQ L x d with
    |true=>show Ev (again _) _;rw [aO (by omega)];exact hgo hs
    |false=>exact Ev.some (hno hs)
   ·rw [decide_eq_false (show¬(e.kids.length:Int)<(e.kids.length:Int) by omega)];refine Ev.some ?_;exact(V9.2 fun c hc=>by obtain⟨i,hi⟩:=vAK hc;exact hall i c hi).symm
   exact(vAL.2 ⟨x,cR hx,by rw [hp];simp⟩).symm
theorem xF: ∀(L:Nat) (e:Expr),1≤uP L e
 |0,_=>O3 _
 |L+1,e=>by have:=pB (uP L) e.kids fun k _=>xF L k;simp only [uP];omega
theorem aC2{α:Type}(f:α→Int)(M:Int): ∀(l:List α),(∀x∈l,f x≤M)→(l.map f).sum≤l.length*M
 | [],_=>by simp
 |x::l,h=>by have h1:=aC2 f M l fun y hy=>h y (by simp [hy]);have h2:=h x (by simp);simp only [List.map_cons,List.sum_cons,List.length_cons,Int.natCast_add,Int.add_mul];omega
theorem f9{L:Nat}{e:Expr}{d:Int}(h:dQ (L+1) e d=true):iL e.kind=e.kids.length∧gD e d=true∧ ∀k∈e.kids,dQ L k d=true:=by simp only [dQ,Bool.and_eq_true,decide_eq_true_eq,List.all_eq_true] at h;exact⟨h.1,h.2.1,h.2.2⟩
theorem aDL: ∀{L:Nat} {e:Expr} {d:Int},dQ L e d=true→uP L e+1≤2^L
 |0,e,d,h=>by cases h
 |L+1,e,d,h=>by
  obtain⟨h1,_,h2⟩:=f9 h;have h3:=aC2 (uP L) ((2:Int)^L-1) e.kids fun k hk=>by have:=aDL (h2 k hk);omega
  have h4:=mT e.kind;have h5:(e.kids.length:Int)*((2:Int)^L-1)≤2*((2:Int)^L-1):=by
   refine Int.mul_le_mul_of_nonneg_right (by omega) ?_
   have:(0:Int)<2^L:=Int.pow_pos (by omega);omega
  simp only [uP];rw [Int.pow_succ];omega
theorem C6{d:Int}: ∀(L n:Nat) (e:Expr),5000+L≤n→L≤5→dQ L e d=true→s_l3Count (n+1) e (L:Int)=some (uP L e)
 |0,n,e,_,_,h=>by cases h
 |L+1,n,e,hn,hL,h=>by
  obtain⟨h1,_,h2⟩:=f9 h;have h4:=mT e.kind;have hb: ∀k∈e.kids,uP L k≤40:=fun k hk=>by
   have h5:=aDL (h2 k hk);have h6:(2:Int)^L≤40:=by
    match L,hL with
    |0,_=>decide
    |1,_=>decide
    |2,_=>decide
    |3,_=>decide
    |4,_=>decide
   omega
  unfold s_l3Count;refine Ev.eq ?_;obtain⟨n,rfl⟩: ∃j,n=j+1:=⟨n-1,by omega⟩
  have ew:wr (((L+1:Nat):Int)-1)=(L:Int):=by rw [aO (by omega)];omega
  rw [ew];refine Ev.loop (fun x:Int×Int=> ∃i:Nat,x.2=i∧i≤e.kids.length∧x.1=1+((e.kids.take i).map (uP L)).sum) (fun x=>e.kids.length-x.2.toNat) ?_ (n+1) _ ⟨0,rfl,by omega,by simp⟩ (by simp;omega);rintro again ⟨x,k⟩ ⟨i,hk,hi,hx⟩ hr;dsimp only at hk hx⊢;subst hk;refine Ev.jn (fun z=>z=decide (i<e.kids.length)) (fun j hj=>aH (fun h=>hj _ ?_) fun h=>hj _ ?_) fun z hz=>?_
  ·rw [decide_eq_true (show(0:Int)<((L+1:Nat):Int) by omega),decide_eq_true (by omega)]
  ·rw [decide_eq_false (by omega)]
  subst hz;refine aH (fun hlt=>?_) fun hge=>Ev.some ?_
  ·have hk2:=cP hlt;have hm:=cR hk2;refine aA (aM hk2) (aA (C6 (d:=d) L n _ (by omega) (by omega) (h2 _ hm)) ?_);have hs:=aC2 (uP L) 40 (e.kids.take i) fun y hy=>hb y (vAC hy);have hs2:=pB (uP L) (e.kids.take i) fun y _=>xF L y;have hb2:=hb _ hm;have hb3:=xF L e.kids[i];have hl:((e.kids.take i).length:Int)≤2:=by simp;omega
   rw [aO (n:=x+uP L e.kids[i]) (by omega),aO (by omega)];refine hr _ ⟨i+1,by dsimp only;omega,by omega,?_⟩ (by dsimp only;omega);dsimp only;rw [xI,hk2,vAM,List.sum_append,hx];simp;omega
  have:i=e.kids.length:=by omega
  rw [hx,this,qG];rfl
def aEH(e:Expr):Bool:=(decide (e.kind=1)||decide (e.num=0))&&((decide (e.kind=2)||jW e.index)&&(decide (e.kind=3)||nD e.read))
theorem rA(d:Int): ∀(L n:Nat) (e:Expr) (c:Int),5000+L≤n→L≤5→SmE L e→0≤c→c≤12→
  Ev (i_exprScan (n+1) e d (6-(L:Int)) c) (fun r=>r.1=(dQ L e d&&decide (c+uP L e≤12))∧(r.1=true→r.2=c+uP L e))
 |0,n,e,c,hn,hL,he,h0,h1=>by
  unfold i_exprScan;refine Ev.jn (fun z=>z=true) (fun j hj=>aH (fun h=>hj _ rfl) fun h=>hj _ (by decide)) fun z hz=>?_;subst hz;exact Ev.some ⟨rfl,fun h=>by cases h⟩
 |L+1,n,e,c,hn,hL,he,h0,h1=>by
  obtain⟨e1,e2,e3,e4⟩:=he;have hcp:=xF (L+1) e;unfold i_exprScan;have ew:wr (c+1)=c+1:=aO (by omega);have ed:wr (6-(((L+1:Nat)):Int)+1)=6-(L:Int):=by rw [aO (by omega)];omega
  rw [ew,ed];refine Ev.jn (fun z=>z=decide (12<c+1)) (fun j hj=>aH (fun h=>hj _ (decide_eq_true h).symm) fun h=>hj _ ?_) fun z hz=>?_
  ·rw [decide_eq_false h,decide_eq_false (by omega)]
  subst hz;refine aH (fun h=>Ev.some ⟨?_,fun h=>by cases h⟩) fun hc=>?_
  ·rw [decide_eq_false (show¬c+uP (L+1) e≤12 by omega),vBr]
  refine Ev.jn (fun z=>z= !aEH e) (fun j hj=>?_) fun z hz=>?_
  ·rw [aBw,aBx];unfold aEH at hj;simp only [Option.bind];by_cases k1:e.kind=1
   ·have k2: ¬e.kind=2:=by omega
    have k3: ¬e.kind=3:=by omega
    rw [decide_eq_true k1,decide_eq_false k2,decide_eq_false k3] at*;simp only [Bool.not_true,Bool.not_false,cond_true,cond_false,Bool.true_or,Bool.true_and,Bool.false_or] at*;cases ha:jW e.index with
    |false=>exact hj _ (by rw [ha];rfl)
    |true=>exact hj _ (by rw [ha];rfl)
   rw [decide_eq_false k1] at*;simp only [Bool.not_false,cond_true,Bool.false_or] at*;by_cases hnum:e.num=0
   ·rw [decide_eq_true hnum] at*;simp only [Bool.not_true,cond_false,Bool.true_and] at*;by_cases k2:e.kind=2
    ·have k3: ¬e.kind=3:=by omega
     rw [decide_eq_true k2,decide_eq_false k3] at*;simp only [Bool.not_true,Bool.not_false,cond_true,cond_false,Bool.true_or,Bool.true_and,Bool.false_or] at*;exact hj _ rfl
    rw [decide_eq_false k2] at*;simp only [Bool.not_false,cond_true,Bool.false_or] at*;cases ha:jW e.index with
    |false=>exact hj _ (by rw [ha];rfl)
    |true=>
     by_cases k3:e.kind=3
     ·rw [decide_eq_true k3] at*;exact hj _ (by rw [ha];rfl)
     rw [decide_eq_false k3] at*;exact hj _ (by rw [ha];rfl)
   rw [decide_eq_false hnum] at*;exact hj _ rfl
  subst hz;cases hp:aEH e with
  |false=>
   refine Ev.some ⟨?_,fun h=>by cases h⟩
   have:gD e d=false:=by
    unfold aEH at hp;unfold gD;by_cases k2:e.kind=2
    ·have k1: ¬e.kind=1:=by omega
     have k3: ¬e.kind=3:=by omega
     rw [if_pos k2];rw [decide_eq_true k2,decide_eq_false k1,decide_eq_false k3] at hp;revert hp;cases decide (e.num=0)<;>cases nD e.read<;>simp
    rw [if_neg k2];by_cases k3:e.kind=3
    ·have k1: ¬e.kind=1:=by omega
     rw [if_pos k3];rw [decide_eq_false k2,decide_eq_false k1,decide_eq_true k3] at hp;revert hp;cases decide (e.num=0)<;>cases jW e.index<;>simp
    rw [if_neg k3];rw [decide_eq_false k2,decide_eq_false k3] at hp;by_cases k1:e.kind=1
    ·rw [if_pos k1];rw [decide_eq_true k1] at hp;revert hp;cases jW e.index<;>cases nD e.read<;>simp
    rw [if_neg k1];rw [decide_eq_false k1] at hp;revert hp;cases decide (e.num=0)<;>cases jW e.index<;>cases nD e.read<;>simp
   unfold dQ;rw [this];simp
  |true=>
   refine cC ?_;unfold aEH at hp;simp only [Bool.and_eq_true,Bool.or_eq_true,decide_eq_true_eq] at hp;obtain⟨p1,p2,p3⟩:=hp;have leafP: ∀(b:Bool),gD e d=b→iL e.kind=0→ ∀(z:Bool),z=(b&&decide ((e.kids.length:Int)=0))→z=(dQ (L+1) e d&&decide (c+uP (L+1) e≤12))∧(z=true→c+1=c+uP (L+1) e):=by
    intro b hb hk z hz;unfold dQ;rw [hb,hk];by_cases h:e.kids.length=0
    ·have hnil:e.kids=[]:=vAA h;have hcn:uP (L+1) e=1:=by simp [uP,hnil]
     rw [hcn,decide_eq_true (show c+1≤12 by omega)];rw [decide_eq_true (show(e.kids.length:Int)=0 by omega)] at hz;rw [hz,hnil];simp
    rw [decide_eq_false (show¬(e.kids.length:Int)=0 by omega)] at hz;rw [hz,decide_eq_false (show¬(0:Int)=(e.kids.length:Int) by omega)];simp
   by_cases k1:e.kind=1
   ·have k2: ¬e.kind=2:=by omega
    have k3: ¬e.kind=3:=by omega
    rw [decide_eq_true k1];have hown:gD e d=decide (0≤e.num∧e.num≤99):=by
     unfold gD;rw [if_neg k2,if_neg k3,if_pos k1];rcases p2 with h|h
     ·exact absurd h k2
     rcases p3 with h'|h'
     ·exact absurd h' k3
     rw [h,h'];simp
    refine cA (Ev.jn (fun z=>z=(decide (0≤e.num∧e.num≤99)&&decide ((e.kids.length:Int)=0))) (fun j hj=>aA (eV n _ _ _) ?_) fun z hz=>Ev.some ?_)
    ·cases hw:decide (0≤e.num∧e.num≤99) with
     |true=>exact hj _ (by rw [hw];rfl)
     |false=>exact hj _ (by rw [hw];rfl)
    exact leafP _ hown (by unfold iL;rw [if_pos (Or.inl k1)]) _ hz
   rw [decide_eq_false k1];refine cC ?_;have hnum:e.num=0:=by
    rcases p1 with h|h
    ·exact absurd h k1
    exact h
   by_cases k2:e.kind=2
   ·have k3: ¬e.kind=3:=by omega
    rw [decide_eq_true k2];have hown:gD e d=b8 e.index d:=by
     unfold gD;rw [if_pos k2,decide_eq_true hnum];rcases p3 with h'|h'
     ·exact absurd h' k3
     rw [h'];simp
    refine cA (Ev.jn (fun z=>z=(b8 e.index d&&decide ((e.kids.length:Int)=0))) (fun j hj=>aA (sI (by omega) _ e2) ?_) fun z hz=>Ev.some ?_)
    ·unfold b8 at hj;cases hw:bY e.index with
     |false=>exact hj _ (by rw [hw];rfl)
     |true=>
      refine aA (aAp (by omega) e2) (aH (fun h=>hj _ ?_) fun h=>hj _ ?_)
      ·rw [hw,decide_eq_true h];rfl
      rw [hw,decide_eq_false h];rfl
    exact leafP _ hown (by unfold iL;rw [if_pos (Or.inr (Or.inl k2))]) _ hz
   rw [decide_eq_false k2];refine cC ?_;have hnaff:jW e.index=true:=by
    rcases p2 with h|h
    ·exact absurd h k2
    exact h
   by_cases k3:e.kind=3
   ·rw [decide_eq_true k3];have hown:gD e d=iC e.read d:=by
     unfold gD;rw [if_neg k2,if_pos k3,decide_eq_true hnum,hnaff];simp
    refine cA (Ev.jn (fun z=>z=(iC e.read d&&decide ((e.kids.length:Int)=0))) (fun j hj=>aA (xW (by omega) e3 d) ?_) fun z hz=>Ev.some ?_)
    ·cases hw:iC e.read d with
     |false=>exact hj _ (by rw [hw];rfl)
     |true=>exact hj _ (by rw [hw];rfl)
    exact leafP _ hown (by unfold iL;rw [if_pos (Or.inr (Or.inr k3))]) _ hz
   rw [decide_eq_false k3];refine cC ?_;have hown:gD e d=true:=by
    unfold gD;rw [if_neg k2,if_neg k3,if_neg k1,decide_eq_true hnum,hnaff];rcases p3 with h'|h'
    ·exact absurd h' k3
    rw [h'];rfl
   have hop:aDp n e.kind=some (decide (4≤e.kind∧e.kind≤6)):=by unfold aDp;rw [eV];rfl
   have hkn:(iL e.kind=2↔(4≤e.kind∧e.kind≤6))∧(iL e.kind=2∨iL e.kind= -1):=by
    unfold iL;rw [if_neg (by omega)];split<;>omega
   refine Ev.jn (fun z=>z= !(decide (4≤e.kind∧e.kind≤6)&&decide ((e.kids.length:Int)=2))) (fun j hj=>aA hop ?_) fun z hz=>?_
   ·cases hw:decide (4≤e.kind∧e.kind≤6) with
    |false=>exact hj _ (by rw [hw];rfl)
    |true=>exact hj _ (by rw [hw];rfl)
   subst hz;by_cases hk:(4≤e.kind∧e.kind≤6)∧(e.kids.length:Int)=2
   ·rw [decide_eq_true hk.1,decide_eq_true hk.2];refine cC ?_;obtain⟨a,b,hab⟩: ∃a b,e.kids=[a,b]:=by
     have:e.kids.length=2:=by omega
     match hq:e.kids,this with
     | [a,b],_=>exact⟨a,b,rfl⟩
    have hsh:dQ (L+1) e d=(dQ L a d&&dQ L b d):=by
     show(decide (iL e.kind=e.kids.length)&&(gD e d&&e.kids.all fun k=>dQ L k d))=_;rw [hown,hab,decide_eq_true (show iL e.kind=(([a,b]:List Expr).length:Int) by rw [hkn.1.2 hk.1];rfl)];simp
    have hcn:uP (L+1) e=1+(uP L a+uP L b):=by simp [uP,hab]
    have ca:=xF L a;have cb:=xF L b;rw [hsh,hcn];obtain⟨n,rfl⟩: ∃j,n=j+1:=⟨n-1,by omega⟩
    refine Ev.jn (fun z:Int×Bool=>z.2=(dQ L a d&&dQ L b d&&decide (c+(1+(uP L a+uP L b))≤12))∧(z.2=true→z.1=c+(1+(uP L a+uP L b)))) (fun j hj=>?_) fun z hz=>Ev.some hz;refine aA (x:=a) (by rw [hab];rfl) (aN (rA d L n a (c+1) (by omega) (by omega) (e4 a (by rw [hab];simp)) (by omega) (by omega)) fun r ⟨r1,r2⟩=>?_);cases hr:r.1 with
    |false=>
     refine hj _ ⟨?_,fun h=>by cases h⟩;rw [hr] at r1;show false=_;by_cases hsa:dQ L a d=true
     ·rw [hsa,vBa] at r1
      have:=of_decide_eq_false r1.symm;rw [decide_eq_false (show¬c+(1+(uP L a+uP L b))≤12 by omega),vBr]
     rw [Bool.eq_false_iff.2 hsa];rfl
    |true=>
     have r2:=r2 hr;rw [hr] at r1;have r1:=r1.symm;rw [vBt,decide_eq_true_eq] at r1;refine aA (x:=b) (by rw [hab];rfl) ?_;rw [r2];refine aN (rA d L n b (c+1+uP L a) (by omega) (by omega) (e4 b (by rw [hab];simp)) (by omega) (by omega)) fun q ⟨q1,q2⟩=>hj _ ⟨?_,fun h=>?_⟩
     ·show q.1=_;rw [q1,r1.1,vBa];congr 1;exact decide_eq_decide.2 (by omega)
     show q.2=_;rw [q2 h];omega
   have hf:dQ (L+1) e d=false:=by
    unfold dQ;rw [decide_eq_false (show¬iL e.kind=(e.kids.length:Int) by
     intro h;rcases hkn.2 with h2|h2
     ·exact hk ⟨hkn.1.1 h2,by omega⟩
     omega)]
    rfl
   have:(decide (4≤e.kind∧e.kind≤6)&&decide ((e.kids.length:Int)=2))=false:=by
    by_cases g:4≤e.kind∧e.kind≤6
    ·rw [decide_eq_false (show¬(e.kids.length:Int)=2 from fun h=>hk ⟨g,h⟩),vBr]
    rw [decide_eq_false g];rfl
   rw [this,hf];exact Ev.some ⟨rfl,fun h=>by cases h⟩
def fZ(s:Stmt)(d:Int):Bool:=decide (0≤d∧d≤4)&&(iC s.write d&&(dQ 5 s.value d&&decide (uP 5 s.value≤12)))
def SmS(s:Stmt):Prop:=S7 s.write.subs∧SmE 5 s.value
theorem aAs{n:Nat}(hn:6000≤n){s:Stmt}(h:SmS s)(d:Int):qO n s d=some (fZ s d):=by
 obtain⟨n,rfl⟩: ∃j,n=j+1:=⟨n-1,by omega⟩
 refine Ev.eq ?_;unfold qO;generalize hT:fZ s d=T;unfold fZ at hT;refine Ev.jn (fun z:Int×Bool=>z.2=T) (fun j hj=>aA (eV _ _ _ _) ?_) fun z hz=>Ev.some hz;cases h1:decide (0≤d∧d≤4) with
 |false=>exact hj (0,false) (by rw [←hT,h1];rfl)
 |true=>
  refine cA (aA (xW (by omega) h.1 d) ?_);cases h2:iC s.write d with
  |false=>exact hj (0,false) (by rw [←hT,h1,h2];rfl)
  |true=>
   refine cA (aN (rA d 5 n s.value 0 (by omega) (by omega) h.2 (by omega) (by omega)) fun r ⟨r1,r2⟩=>hj _ ?_);rw [←hT,h1,h2];show r.1=_;rw [r1];simp
theorem vF{n:Nat}(hn:6000≤n){s:Stmt}(h:SmS s)(d:Int):kO n s d=some (fZ s d):=by
 obtain⟨n,rfl⟩: ∃j,n=j+1:=⟨n-1,by omega⟩
 refine Ev.eq ?_;unfold kO;generalize hT:fZ s d=T;generalize hB:(decide (0≤d∧d≤4)&&(iC s.write d&&dQ 5 s.value d))=B;have hTB:T=(B&&decide (uP 5 s.value≤12)):=by rw [←hT,←hB];unfold fZ;simp only [Bool.and_assoc]
 refine Ev.jn (fun z=>z= !B) (fun j hj=>aH (fun h=>hj _ ?_) fun h0=>aH (fun h=>hj _ ?_) fun h4=>aA (xS (by omega) h.1 d) ?_) fun z hz=>?_
 ·rw [←hB,decide_eq_false (show¬(0≤d∧d≤4) by omega)];rfl
 ·rw [←hB,decide_eq_false (show¬(0≤d∧d≤4) by omega)];rfl
 ·rw [decide_eq_true (show 0≤d∧d≤4 by omega)] at hB;cases h2:iC s.write d with
  |false=>exact cA (hj _ (by rw [←hB,h2];rfl))
  |true=>exact cC (aA (C4 d 5 n s.value (by omega) (by omega) h.2) (hj _ (by rw [←hB,h2];rfl)))
 subst hz;cases hb:B with
 |false=>exact Ev.some (by rw [hTB,hb];rfl)
 |true=>
  rw [hb] at hB;simp only [Bool.and_eq_true] at hB;refine cC (aA (C6 (d:=d) 5 n s.value (by omega) (by omega) hB.2.2) (Ev.some ?_));rw [hTB,hb];rfl
def jS(ds:List Int):Bool:=decide (1≤ds.length∧ds.length≤2)&&ds.all fun d=>decide (1≤d∧d≤6)
def yL(list:List Arr)(i:Nat)(x:Arr):Bool:=match i with
 |0=>true
 |i+1=>match list[i]? with
  |some y=>Op.bytesLess y.name x.name
  |none=>false
def aBJ(list:List Arr)(i:Nat)(x:Arr):Bool:=pH x.name&&(yL list i x&&jS x.dims)
def iY(list:List Arr):Bool:=aAo (aBJ list) list&&decide (list.length≤4)
def SmR(list:List Arr):Prop:=list.length≤1000∧ ∀x∈list,x.dims.length≤1000
theorem O9{list:List Arr}{i:Nat}{x y:Arr}(h:list[i]? =some y):yL list (i+1) x=Op.bytesLess y.name x.name:=by simp only [yL,h]
theorem aLR(ds:List Int):(ds.any fun d=> !decide (1≤d∧d≤6))= !(ds.all fun d=>decide (1≤d∧d≤6)):=by rw [vAZ];simp
theorem aBy{n:Nat}(hn:6000≤n){list:List Arr}(h:SmR list):tP n list=some (iY list):=by
 obtain⟨h0,h1⟩:=h;refine Ev.eq ?_;unfold tP;refine oH (l:=list) (p:=aBJ list) (by omega) (by omega) (fun again i x hx hgo hno=>?_) (fun again hall=>?_) (fun⟨i,x,hx,hp⟩=>?_)
 ·have hi:=(cZ.1 hx).1;have hm:=h1 x (cR hx);rw [decide_eq_true (show(i:Int)<(list.length:Int) by omega)];have hd:b6 n x.dims (fun q0=>fS n q0)=some (!(x.dims.all fun d=>decide (1≤d∧d≤6))):=by
   rw [←aLR];exact nZ (fun d _=>by unfold fS;rw [eV];rfl) (by omega) (by omega)
  refine cA (aA (aM hx) (Ev.jn (fun z=>z= !aBJ list i x) (fun j hj=>aA (F9 n _) ?_) fun z hz=>?_))
  ·unfold aBJ jS at hj;cases g1:pH x.name with
   |false=>exact cA (hj _ (by rw [g1];rfl))
   |true=>
    rw [g1] at hj;refine cC ?_;rw [tM];have hlast:yL list i x=true→Ev (Option.bind (some (decide (1≤x.dims.length∧x.dims.length≤2))) fun x6=>bif !x6 then j true else Option.bind (b6 n x.dims fun q0=>fS n q0) fun x7=>j x7) (fun r=>r=iY list):=by
     intro hp;rw [hp] at hj;show Ev (bif _ then _ else _) _;cases g2:decide (1≤x.dims.length∧x.dims.length≤2) with
     |false=>exact cA (hj _ (by rw [g2];rfl))
     |true=>exact cC (aA hd (hj _ (by rw [g2];rfl)))
    cases i with
    |zero=>exact aH (fun h=>absurd h (by decide)) (fun _=>hlast rfl)
    |succ i=>
     have hy:=cP (show i<list.length by omega);have e:wr (((i+1:Nat):Int)-1)=(i:Int):=by rw [aO (by omega)];omega
     rw [e];refine aH (fun _=>aA (aM hy) ?_) fun h=>absurd (show(0:Int)<((i+1:Nat):Int) by omega) h;have hpp:=O9 (x:=x) hy;cases g3:Op.bytesLess list[i].name x.name with
     |false=>exact cA (hj _ (by rw [hpp,g3];rfl))
     |true=>exact cC (hlast (by rw [hpp,g3]))
  subst hz;cases hb:aBJ list i x with
  |true=>show Ev (again _) _;rw [aO (by omega)];exact hgo hb
  |false=>exact Ev.some (hno hb)
 ·rw [decide_eq_false (show¬(list.length:Int)<(list.length:Int) by omega)];refine Ev.some ?_;unfold iY;rw [qM hall,vBa];exact decide_eq_decide.2 (by omega)
 unfold iY;rw [nP hx hp];rfl
theorem aKw(s:List UInt8):(!Op.bytesLess s [68]&& !s==[68])= !(Op.bytesLess s [68]||s==[68]):=by cases Op.bytesLess s [68]<;>cases (s==[68])<;>rfl
theorem aBr{n:Nat}(hn:6000≤n){list:List Arr}(h:SmR list):tC n list=some (iY list):=by
 obtain⟨h0,h1⟩:=h;refine Ev.eq ?_;unfold tC;refine oH (l:=list) (p:=aBJ list) (by omega) (by omega) (fun again i x hx hgo hno=>?_) (fun again hall=>?_) (fun⟨i,x,hx,hp⟩=>?_)
 ·have hi:=(cZ.1 hx).1;have hm:=h1 x (cR hx);rw [decide_eq_true (show(i:Int)<(list.length:Int) by omega)];refine cA (aA (aM hx) (Ev.jn (fun z=>z= !(pH x.name&&(yL list i x&&decide (1≤x.dims.length∧x.dims.length≤2)))) (fun j hj=>?_) fun z hz=>?_))
  ·refine dP (fun hl=>hj _ ?_) fun hl=>?_
   ·rw [yR (by omega)];rfl
   obtain⟨b,hb⟩:=aOM (show x.name.length=1 by omega);rw [aKw];have hless: ∀(y:Arr),Op.bytesLess y.name x.name=Op.bytesLess y.name [b]:=fun y=>by rw [hb]
   have hnm:pH x.name=decide (65≤b.toNat∧b.toNat≤68):=by rw [hb];rfl
   have l1:Op.bytesLess x.name [65]=decide (b.toNat<65):=by rw [hb];exact aAg b
   have l2:(Op.bytesLess x.name [68]||x.name==[68])=decide (b.toNat≤68):=by rw [hb];exact aAf b
   rw [l1,l2];rw [hnm] at hj;refine aH (fun g1=>hj _ ?_) fun g1=>dP (fun g2=>hj _ ?_) fun g2=>?_
   ·rw [decide_eq_false (show¬(65≤b.toNat∧b.toNat≤68) by omega)];rfl
   ·rw [decide_eq_false (show¬(65≤b.toNat∧b.toNat≤68) by omega)];rfl
   rw [decide_eq_true (show 65≤b.toNat∧b.toNat≤68 by omega)] at hj;have hlast:yL list i x=true→Ev (bif decide ((x.dims.length:Int)<1) then j true else j (decide ((2:Int)<(x.dims.length:Int)))) (fun r=>r=iY list):=by
    intro hp;rw [hp] at hj;refine aH (fun h=>hj _ ?_) fun h=>hj _ ?_
    ·rw [decide_eq_false (show¬(1≤x.dims.length∧x.dims.length≤2) by omega)];rfl
    by_cases h2:x.dims.length≤2
    ·rw [decide_eq_false (show¬(2:Int)<(x.dims.length:Int) by omega),decide_eq_true (show 1≤x.dims.length∧x.dims.length≤2 by omega)];rfl
    rw [decide_eq_true (show(2:Int)<(x.dims.length:Int) by omega),decide_eq_false (show¬(1≤x.dims.length∧x.dims.length≤2) by omega)];rfl
   cases i with
   |zero=>exact aH (fun h=>absurd h (by decide)) (fun _=>hlast rfl)
   |succ i=>
    have hy:=cP (show i<list.length by omega);have e:wr (((i+1:Nat):Int)-1)=(i:Int):=by rw [aO (by omega)];omega
    rw [e];refine aH (fun _=>aA (aM hy) ?_) fun h=>absurd (show(0:Int)<((i+1:Nat):Int) by omega) h;have hpp:=O9 (x:=x) hy;cases g3:Op.bytesLess list[i].name x.name with
    |false=>exact cA (hj _ (by rw [hpp,g3];rfl))
    |true=>exact cC (hlast (by rw [hpp,g3]))
  subst hz;cases hb:(pH x.name&&(yL list i x&&decide (1≤x.dims.length∧x.dims.length≤2))) with
  |false=>
   refine Ev.some (hno ?_);unfold aBJ jS;rw [←vBg,←vBg];rw [←vBg] at hb;rw [hb];rfl
  |true=>
   have hap:aBJ list i x=x.dims.all (fun d=>decide (1≤d∧d≤6)):=by
    unfold aBJ jS;rw [←vBg,←vBg];rw [←vBg] at hb;rw [hb];rfl
   refine cC ?_;refine Ev.loop (fun y:Int=> ∃k:Nat,y=k∧k≤x.dims.length∧ ∀(t:Nat) d,t<k→x.dims[t]? =some d→decide (1≤d∧d≤6)=true) (fun y=>x.dims.length-y.toNat) ?_ n _ ⟨0,rfl,by omega,fun t d h=>by omega⟩ (by simp;omega);rintro again8 y ⟨k,rfl,hk,ha⟩ hr;refine aH (fun hlt=>?_) fun hge=>?_
   ·have hd:=cP (show k<x.dims.length by omega);have ek:wr ((k:Int)+1)=((k+1:Nat):Int):=by rw [aO (by omega)];omega
    refine Ev.jn (fun z=>z= !decide (1≤x.dims[k]∧x.dims[k]≤6)) (fun j hj=>aA (aM hd) (aH (fun h=>hj _ ?_) fun h=>hj _ ?_)) fun z hz=>?_
    ·rw [decide_eq_false (by omega)];rfl
    ·by_cases h6:x.dims[k]≤6
     ·rw [decide_eq_false (show¬(6:Int)<x.dims[k] by omega),decide_eq_true (show 1≤x.dims[k]∧x.dims[k]≤6 by omega)];rfl
     rw [decide_eq_true (show(6:Int)<x.dims[k] by omega),decide_eq_false (show¬(1≤x.dims[k]∧x.dims[k]≤6) by omega)];rfl
    subst hz;cases hb2:decide (1≤x.dims[k]∧x.dims[k]≤6) with
    |false=>
     refine Ev.some (hno ?_);rw [hap];exact vAL.2 ⟨_,cR hd,by rw [hb2];simp⟩
    |true=>
     rw [ek];refine hr _ ⟨k+1,rfl,by omega,fun t d ht hd2=>?_⟩ (by omega);by_cases htk:t=k
     ·subst htk;rw [hd] at hd2;cases hd2;exact hb2
     exact ha t d (by omega) hd2
   have e:wr ((i:Int)+1)=(i:Int)+1:=aO (by omega);rw [e];refine hgo ?_;rw [hap];refine V9.2 fun d hd=>?_;obtain⟨t,ht⟩:=vAK hd
   have:=(cZ.1 ht).1;exact ha t d (by omega) ht
 ·rw [decide_eq_false (show¬(list.length:Int)<(list.length:Int) by omega)];refine Ev.some ?_;unfold iY;rw [qM hall,vBa];exact decide_eq_decide.2 (by omega)
 unfold iY;rw [nP hx hp];rfl
def W9:List Int→Int
 | []=>1
 |d::ds=>d*W9 ds
theorem aG7{ds:List Int}(h:jS ds=true):(∃a,ds=[a]∧1≤a∧a≤6)∨ ∃a b,ds=[a,b]∧(1≤a∧a≤6)∧1≤b∧b≤6:=by
 simp only [jS,Bool.and_eq_true,decide_eq_true_eq,List.all_eq_true] at h;obtain⟨⟨h1,h2⟩,h3⟩:=h
 match ds,h1,h2,h3 with
 | [a],_,_,h3=>exact .inl ⟨a,rfl,h3 a (by simp)⟩
 | [a,b],_,_,h3=>exact .inr ⟨a,b,rfl,h3 a (by simp),h3 b (by simp)⟩
theorem aPX{a b:Int}(ha:1≤a∧a≤6)(hb:1≤b∧b≤6):1≤a*b∧a*b≤36:=by
 constructor
 ·have:=vBB ha.1 hb.1 (by omega) (by omega);omega
 have:=vBB ha.2 hb.2 (by omega) (by omega);omega
theorem W8{ds:List Int}(h:jS ds=true):1≤W9 ds∧W9 ds≤36:=by
 rcases aG7 h with ⟨a,rfl,h1⟩|⟨a,b,rfl,h1,h2⟩
 ·simp [W9];omega
 have:=aPX h1 h2;simp [W9];omega
theorem u6{n:Nat}(hn:6000≤n){x:Arr}(h:jS x.dims=true):B9 n x=some (W9 x.dims):=by
 obtain⟨n,rfl⟩: ∃j,n=j+3:=⟨n-3,by omega⟩
 unfold B9;rcases aG7 h with ⟨a,e,h1⟩|⟨a,b,e,h1,h2⟩
 ·rw [e];have e1:wr a=a:=aO (by omega);simp [aL,ix,W9,e1,show wr 1=1 from aO (by omega)]
 rw [e]
 have:=aPX h1 h2;have e1:wr a=a:=aO (by omega);have e2:wr (a*b)=a*b:=aO (by omega);simp [aL,ix,W9,e1,e2,show wr 1=1 from aO (by omega),show wr 2=2 from aO (by omega)]
theorem aI5{n:Nat}(hn:6000≤n){x:Arr}(h:jS x.dims=true):nV n x=some (W9 x.dims):=u6 hn h
def l5:List Affine→List Int→List Int→Int→Int
 |s::ss,d::ds,p,acc=>if 0≤dI s p∧dI s p<d then l5 ss ds p (acc*d+dI s p) else-1
 |_,_,_,acc=>acc
def cK:List Arr→Access→List Int→Int→Int
 | [],_,_,_=> -1
 |x::xs,a,p,base=>if x.name=a.array then(if a.subs.length=x.dims.length then(if l5 a.subs x.dims p 0<0 then-1 else base+l5 a.subs x.dims p 0) else-1) else cK xs a p (base+W9 x.dims)
def fT(xs:List Arr):Prop:= ∀x∈xs,jS x.dims=true
theorem aP5{ds:List Int}(hd:jS ds=true){ss:List Affine}(hl:ss.length=ds.length)(p:List Int):l5 ss ds p 0= -1∨(0≤l5 ss ds p 0∧l5 ss ds p 0<W9 ds):=by
 rcases aG7 hd with ⟨a,rfl,h1⟩|⟨a,b,rfl,h1,h2⟩
 ·match ss,hl with
  | [s],_=>
   simp only [l5,W9,Int.zero_mul,Int.zero_add,Int.mul_one];split<;>omega
 match ss,hl with
 | [s,t],_=>
  simp only [l5,W9,Int.zero_mul,Int.zero_add,Int.mul_one];split
  ·rename_i hs;split
   ·rename_i ht;refine .inr ⟨?_,?_⟩
    ·have:=vBl hs.1 (show 0≤b by omega);omega
    have:=Int.mul_le_mul_of_nonneg_right (show dI s p≤a-1 by omega) (show 0≤b by omega);rw [Int.sub_mul] at this;omega
   exact .inl rfl
  exact .inl rfl
def gQ(xs:List Arr):Int:=(xs.map fun x=>W9 x.dims).sum
theorem U9: ∀{xs:List Arr},fT xs→ ∀(a:Access) (p:List Int) (base:Int),0≤base→cK xs a p base= -1∨(base≤cK xs a p base∧cK xs a p base<base+gQ xs)
 | [],_,a,p,base,_=> .inl rfl
 |x::xs,hd,a,p,base,hb=>by
  have hx:=hd x (by simp);have hs:=W8 hx;have hxs:fT xs:=fun y hy=>hd y (by simp [hy]);have ht:0≤gQ xs:=by
   have:=pB (fun x:Arr=>W9 x.dims) xs fun y hy=>(W8 (hxs y hy)).1;unfold gQ;omega
  have e:gQ (x::xs)=W9 x.dims+gQ xs:=by simp [gQ]
  rw [e];simp only [cK];split
  ·split
   ·rename_i hl;rcases aP5 hx hl p with h|h
    ·rw [if_pos (by omega)];exact .inl rfl
    rw [if_neg (by omega)];exact .inr ⟨by omega,by omega⟩
   exact .inl rfl
  rcases U9 hxs a p (base+W9 x.dims) (by omega) with h|h
  ·exact .inl h
  exact .inr ⟨by omega,by omega⟩
theorem uL{a:Access}{d:Int}(h:iC a d=true):1≤a.subs.length∧a.subs.length≤2∧ ∀x∈a.subs,bY x=true:=by
 simp only [iC,Bool.and_eq_true,decide_eq_true_eq,List.all_eq_true] at h;refine⟨h.2.2.1,h.2.2.2,fun x hx=>?_⟩
 have:=h.1 x hx;simp only [b8,Bool.and_eq_true] at this;exact this.1
theorem jZ{α:Type}{l:List α}{i:Nat}{x:α}(h:l[i]? =some x):l.drop i=x::l.drop (i+1):=by obtain⟨h1,h2⟩:=cZ.1 h;rw [vBh h1,h2]
theorem aFN{a d v:Int}(ha:0≤a∧a≤36)(hd:1≤d∧d≤6)(hv:0≤v∧v<d):0≤a*d∧a*d≤216∧0≤a*d+v:=by have h1:=vBl ha.1 (show 0≤d by omega);have h2:=vBB ha.2 hd.2 (by omega) (by omega);omega
theorem aKR{n:Nat}(hn:6000≤n){a:Access}(h1:a.subs.length≤2)(h2: ∀x∈a.subs,bY x=true){ds:List Int}(hd:jS ds=true)(hl:a.subs.length=ds.length){k:Nat}{p:List Int}(hp:qC k p)(base:Int)(hb:0≤base∧base≤1000000):
  aL (fun again8 ((x6,x7):Int×Int)=>bif decide (x7<(a.subs.length:Int)) then(Option.bind (ix a.subs x7) fun x9=>Option.bind (dD n x9 p) fun x10=>Option.bind (ix ds x7) fun x11=>Option.bind (cS n x10 0 (wr (x11-1))) fun x12=>bif !x12 then(some (-1)) else(again8 (wr ((wr (x6*x11))+x10),wr (x7+1)))) else(some (wr (base+x6)))) n (0,0)
   =some (if l5 a.subs ds p 0<0 then-1 else base+l5 a.subs ds p 0):=by
 have hdm: ∀d∈ds,1≤d∧d≤6:=by
  simp only [jS,Bool.and_eq_true,decide_eq_true_eq,List.all_eq_true] at hd;exact fun d h=>hd.2 d h
 refine Ev.eq ?_;refine Ev.loop (fun x:Int×Int=> ∃i:Nat,x.2=i∧i≤a.subs.length∧0≤x.1∧x.1≤36*i∧(i=0→x.1=0)∧(i=1→x.1≤5)∧l5 a.subs ds p 0=l5 (a.subs.drop i) (ds.drop i) p x.1) (fun x=>a.subs.length-x.2.toNat) ?_ n _ ⟨0,rfl,by omega,by simp,by simp,fun _=>rfl,fun h=>by omega,rfl⟩ (by simp;omega);rintro again ⟨x,z⟩ ⟨i,hz,hi,hx0,hx1,hx2,hx3,hx⟩ hr;dsimp only at hz hx0 hx1 hx2 hx3 hx⊢;subst hz;refine aH (fun hlt=>?_) fun hge=>Ev.some ?_
 ·have hs:=cP (show i<a.subs.length by omega);have hdd:=cP (show i<ds.length by omega);have hdb:=hdm _ (cR hdd);have ew:wr (ds[i]-1)=ds[i]-1:=aO (by omega);rw [jZ hs,jZ hdd] at hx;simp only [l5] at hx;refine aA (aM hs) (aA (aI7 (by omega) (h2 _ (cR hs)) hp) (aA (aM hdd) (aA (eV _ _ _ _) ?_)));rw [ew];by_cases hc:0≤dI a.subs[i] p∧dI a.subs[i] p<ds[i]
  ·rw [if_pos hc] at hx;rw [decide_eq_true (show 0≤dI a.subs[i] p∧dI a.subs[i] p≤ds[i]-1 by omega)];obtain⟨g1,g2,g3⟩:=aFN (a:=x) (by omega) hdb hc;refine cC ?_;rw [aO (n:=x*ds[i]) (by omega),aO (n:=x*ds[i]+dI a.subs[i] p) (by omega),aO (by omega)];have hi01:i=0∨i=1:=by omega
   refine hr _ ⟨i+1,by dsimp only;omega,by omega,by dsimp only;omega,?_,fun h=>by omega,fun h=>?_,hx⟩ (by dsimp only;omega)
   ·dsimp only;rcases hi01 with rfl|rfl
    ·rw [hx2 rfl];omega
    have:=hx3 rfl
    have:=vBB this hdb.2 (by omega) (by omega);omega
   dsimp only
   have:i=0:=by omega
   subst this;rw [hx2 rfl];omega
  rw [if_neg hc] at hx;rw [decide_eq_false (show¬(0≤dI a.subs[i] p∧dI a.subs[i] p≤ds[i]-1) by omega)];refine cA (Ev.some ?_);rw [hx];rfl
 have hie:i=a.subs.length:=by omega
 have hdr:l5 (a.subs.drop i) (ds.drop i) p x=x:=by
  rw [hie,vBq];unfold l5;rfl
 rw [hdr] at hx;rw [hx,if_neg (by omega),aO (by omega)]
theorem aKd{n:Nat}(hn:6000≤n){a:Access}(h0:1≤a.subs.length)(h1:a.subs.length≤2)(h2: ∀x∈a.subs,bY x=true){ds:List Int}(hd:jS ds=true){k:Nat}{p:List Int}(hp:qC k p)(base:Int)(hb:0≤base∧base≤1000000):
  aL (fun again8 ((x6,x7):Int×Int)=>bif decide (x7<(a.subs.length:Int)) then(bif !decide ((a.subs.length:Int)=(ds.length:Int)) then(some (-1)) else(Option.bind (ix a.subs x7) fun x9=>Option.bind (jV n x9 p) fun x10=>jn (fun(x13:Bool)=>bif x13 then(some (-1)) else(Option.bind (ix ds x7) fun x14=>again8 (wr ((wr (x6*x14))+x10),wr (x7+1)))) fun j11=>bif decide (x10<0) then(j11 true) else(Option.bind (ix ds x7) fun x12=>j11 (decide (x12≤x10))))) else(some (wr (base+x6)))) n (0,0)
   =some (if a.subs.length=ds.length then(if l5 a.subs ds p 0<0 then-1 else base+l5 a.subs ds p 0) else-1):=by
 by_cases hl:a.subs.length=ds.length
 ·rw [if_pos hl];rw [decide_eq_true (show(a.subs.length:Int)=(ds.length:Int) by omega)];have hdm: ∀d∈ds,1≤d∧d≤6:=by
   simp only [jS,Bool.and_eq_true,decide_eq_true_eq,List.all_eq_true] at hd;exact fun d h=>hd.2 d h
  refine Ev.eq ?_;refine Ev.loop (fun x:Int×Int=> ∃i:Nat,x.2=i∧i≤a.subs.length∧0≤x.1∧x.1≤36*i∧(i=0→x.1=0)∧(i=1→x.1≤5)∧l5 a.subs ds p 0=l5 (a.subs.drop i) (ds.drop i) p x.1) (fun x=>a.subs.length-x.2.toNat) ?_ n _ ⟨0,rfl,by omega,by simp,by simp,fun _=>rfl,fun h=>by omega,rfl⟩ (by simp;omega);rintro again ⟨x,z⟩ ⟨i,hz,hi,hx0,hx1,hx2,hx3,hx⟩ hr;dsimp only at hz hx0 hx1 hx2 hx3 hx⊢;subst hz;refine aH (fun hlt=>?_) fun hge=>Ev.some ?_
  ·have hs:=cP (show i<a.subs.length by omega);have hdd:=cP (show i<ds.length by omega);have hdb:=hdm _ (cR hdd);rw [jZ hs,jZ hdd] at hx;simp only [l5] at hx;refine cC (aA (aM hs) (aA (aKe (by omega) (h2 _ (cR hs)) hp) (Ev.jn (fun z=>z= !decide (0≤dI a.subs[i] p∧dI a.subs[i] p<ds[i])) (fun j hj=>aH (fun h=>hj _ ?_) fun h=>aA (aM hdd) (hj _ ?_)) fun z hz=>?_)))
   ·rw [decide_eq_false (by omega)];rfl
   ·by_cases hc:ds[i]≤dI a.subs[i] p
    ·rw [decide_eq_true hc,decide_eq_false (by omega)];rfl
    rw [decide_eq_false hc,decide_eq_true (by omega)];rfl
   subst hz;by_cases hc:0≤dI a.subs[i] p∧dI a.subs[i] p<ds[i]
   ·rw [if_pos hc] at hx;rw [decide_eq_true hc];obtain⟨g1,g2,g3⟩:=aFN (a:=x) (by omega) hdb hc;refine cC (aA (aM hdd) ?_);rw [aO (n:=x*ds[i]) (by omega),aO (n:=x*ds[i]+dI a.subs[i] p) (by omega),aO (by omega)];have hi01:i=0∨i=1:=by omega
    refine hr _ ⟨i+1,by dsimp only;omega,by omega,by dsimp only;omega,?_,fun h=>by omega,fun h=>?_,hx⟩ (by dsimp only;omega)
    ·dsimp only;rcases hi01 with rfl|rfl
     ·rw [hx2 rfl];omega
     have:=hx3 rfl
     have:=vBB this hdb.2 (by omega) (by omega);omega
    dsimp only
    have:i=0:=by omega
    subst this;rw [hx2 rfl];omega
   rw [if_neg hc] at hx;rw [decide_eq_false hc];refine cA (Ev.some ?_);rw [hx];rfl
  have hie:i=a.subs.length:=by omega
  have hdr:l5 (a.subs.drop i) (ds.drop i) p x=x:=by
   rw [hie,vBq];unfold l5;rfl
  rw [hdr] at hx;rw [hx,if_neg (by omega),aO (by omega)]
 rw [if_neg hl,decide_eq_false (show¬(a.subs.length:Int)=(ds.length:Int) by omega)];obtain⟨n,rfl⟩: ∃j,n=j+1:=⟨n-1,by omega⟩
 simp only [aL];rw [decide_eq_true (show(0:Int)<(a.subs.length:Int) by omega)];rfl
theorem o4{n:Nat}(hn:6000≤n){p:Prog}(hl:p.arrays.length≤4)(hd:fT p.arrays){a:Access}{d:Int}(ha:iC a d=true){k:Nat}{q:List Int}(hq:qC k q):dT n p a q=some (cK p.arrays a q 0):=by
 obtain⟨a0,a1,a2⟩:=uL ha;refine Ev.eq ?_;unfold dT;refine Ev.loop (fun x:Int×Int=> ∃i:Nat,x.2=i∧i≤p.arrays.length∧0≤x.1∧x.1≤36*i∧cK p.arrays a q 0=cK (p.arrays.drop i) a q x.1) (fun x=>p.arrays.length-x.2.toNat) ?_ n _ ⟨0,rfl,by omega,by simp,by simp,rfl⟩ (by simp;omega);rintro again ⟨x,z⟩ ⟨i,hz,hi,hx0,hx1,hx⟩ hr;dsimp only at hz hx0 hx1 hx⊢;subst hz;refine aH (fun hlt=>?_) fun hge=>Ev.some ?_
 ·have hy:=cP (show i<p.arrays.length by omega);have hdy:=hd _ (cR hy);have hsz:=W8 hdy;rw [jZ hy] at hx;simp only [cK] at hx;refine aA (aM hy) (dP (fun hne=>?_) fun he=>?_)
  ·rw [if_neg hne] at hx;refine aA (aI5 hn hdy) ?_;rw [aO (n:=x+W9 p.arrays[i].dims) (by omega),aO (by omega)];exact hr _ ⟨i+1,by dsimp only;omega,by omega,by dsimp only;omega,by dsimp only;omega,hx⟩ (by dsimp only;omega)
  rw [if_pos he] at hx;refine dP (fun hne=>Ev.some ?_) fun hle=>?_
  ·rw [hx,if_neg (by omega)]
  have hle':a.subs.length=p.arrays[i].dims.length:=by omega
  rw [if_pos hle'] at hx;exact Ev.of (aKR hn a1 a2 hdy hle' hq x (by omega)) hx.symm
 have hie:i=p.arrays.length:=by omega
 rw [hx,hie,vBq];rfl
theorem aBX{n:Nat}(hn:6000≤n){list:List Arr}(hl:list.length≤4)(hd:fT list){a:Access}{d:Int}(ha:iC a d=true){k:Nat}{q:List Int}(hq:qC k q):u9 n list a q=some (cK list a q 0):=by
 obtain⟨a0,a1,a2⟩:=uL ha;refine Ev.eq ?_;unfold u9;refine Ev.loop (fun x:Int×Int=> ∃i:Nat,x.2=i∧i≤list.length∧0≤x.1∧x.1≤36*i∧cK list a q 0=cK (list.drop i) a q x.1) (fun x=>list.length-x.2.toNat) ?_ n _ ⟨0,rfl,by omega,by simp,by simp,rfl⟩ (by simp;omega);rintro again ⟨x,z⟩ ⟨i,hz,hi,hx0,hx1,hx⟩ hr;dsimp only at hz hx0 hx1 hx⊢;subst hz;refine aH (fun hlt=>?_) fun hge=>Ev.some ?_
 ·have hy:=cP (show i<list.length by omega);have hdy:=hd _ (cR hy);have hsz:=W8 hdy;rw [jZ hy] at hx;simp only [cK] at hx;refine aA (aM hy) (dP (fun hne=>?_) fun he=>?_)
  ·rw [if_neg hne] at hx;refine aA (u6 hn hdy) ?_;rw [aO (n:=x+W9 list[i].dims) (by omega),aO (by omega)];exact hr _ ⟨i+1,by dsimp only;omega,by omega,by dsimp only;omega,by dsimp only;omega,hx⟩ (by dsimp only;omega)
  rw [if_pos he] at hx;exact Ev.of (aKd hn a0 a1 a2 hdy hq x (by omega)) hx.symm
 have hie:i=list.length:=by omega
 rw [hx,hie,vBq];rfl
def bX:Nat→Expr→List Access
 |0,_=>[]
 |L+1,e=>(if e.kind=3 then [e.read] else [])++e.kids.flatMap (bX L)
theorem w3{d:Int}: ∀{L:Nat} {e:Expr},dQ L e d=true→ ∀a∈bX L e,iC a d=true
 |0,e,h,a,ha=>by cases h
 |L+1,e,h,a,ha=>by
  obtain⟨h1,h2,h3⟩:=f9 h;simp only [bX,List.mem_append,List.mem_flatMap] at ha;rcases ha with ha|⟨k,hk,ha⟩
  ·split at ha
   ·rename_i hk3;simp at ha;subst ha;unfold gD at h2;rw [if_neg (by omega),if_pos hk3] at h2;simp only [Bool.and_eq_true] at h2;exact h2.2.2
   simp at ha
  exact w3 (h3 k hk) a ha
theorem wZ: ∀(L:Nat) (e:Expr),((bX L e).length:Int)≤uP L e
 |0,e=>by simp [bX,uP]
 |L+1,e=>by
  have h: ∀(l:List Expr),((l.flatMap (bX L)).length:Int)≤(l.map (uP L)).sum:=by
   intro l;induction l with
   |nil=>simp
   |cons k l ih=>
    have:=wZ L k;simp only [List.flatMap_cons,List.length_append,List.map_cons,List.sum_cons];omega
  have:=h e.kids;simp only [bX,uP,List.length_append];split
  ·rw [vBj];omega
  rw [List.length_nil];omega
theorem yV{d:Int}: ∀(L n:Nat) (e:Expr),6000+L≤n→L≤5→dQ L e d=true→i_reads (n+1) e=some (bX L e)
 |0,n,e,_,_,h=>by cases h
 |L+1,n,e,hn,hL,h=>by
  obtain⟨h1,h2,h3⟩:=f9 h;have hk2:=mT e.kind;unfold i_reads;refine Ev.eq (aH (fun h3k=>Ev.some ?_) fun hn3=>?_)
  ·have:e.kids=[]:=by
    have hz:iL e.kind=0:=by unfold iL;rw [if_pos (Or.inr (Or.inr h3k))]
    exact vAA (by omega)
   simp [bX,h3k,this]
  obtain⟨n,rfl⟩: ∃j,n=j+1:=⟨n-1,by omega⟩
  have hcb: ∀k∈e.kids,((bX L k).length:Int)≤100:=fun k hk=>by
   have h5:=aDL (h3 k hk);have h6:(2:Int)^L≤40:=by
    match L,hL with
    |0,_=>decide
    |1,_=>decide
    |2,_=>decide
    |3,_=>decide
    |4,_=>decide
   have:=wZ L k;omega
  refine Ev.loop (fun x:List Access×Int=> ∃i:Nat,x.2=i∧i≤e.kids.length∧x.1=(e.kids.take i).flatMap (bX L)∧(x.1.length:Int)≤100*i) (fun x=>e.kids.length-x.2.toNat) ?_ (n+1) _ ⟨0,rfl,by omega,by simp,by simp⟩ (by simp;omega);rintro again ⟨x,k⟩ ⟨i,hk,hi,hx,hxl⟩ hr;dsimp only at hk hx hxl⊢;subst hk;refine aH (fun hlt=>?_) fun hge=>Ev.some ?_
  ·have hk3:=cP (show i<e.kids.length by omega);have hm:=cR hk3;have hb:=hcb _ hm;refine aA (aM hk3) (aA (yV (d:=d) L n _ (by omega) (by omega) (h3 _ hm)) (aA (bW (by omega)) ?_));rw [aO (by omega)];refine hr _ ⟨i+1,by dsimp only;omega,by omega,?_,by dsimp only;rw [qA];omega⟩ (by dsimp only;omega);dsimp only;rw [xI,hk3,vBb,hx];simp
  have:i=e.kids.length:=by omega
  rw [hx,this,qG];simp [bX,hn3]
theorem zA(n:Nat){a:Affine}(h:a.coefs.length≤1000):eY n a=some a:=by
 unfold eY;refine Ev.eq (aH (fun h0=>Ev.some ?_) fun h0=>aA (eQ _ h) (Ev.some rfl));obtain⟨cs,c⟩:=a
 have:cs=[]:=vAA (by simpa using h0);subst this;rfl
theorem zB{n:Nat}(hn:5000≤n){a:Access}(h:S7 a.subs):gB n a=some a:=by
 obtain⟨h0,h1⟩:=h;refine Ev.eq ?_;unfold gB;refine Ev.loop (fun x:List Affine×Int=> ∃i:Nat,x.2=i∧i≤a.subs.length∧x.1=a.subs.take i) (fun x=>a.subs.length-x.2.toNat) ?_ n _ ⟨0,rfl,by omega,by simp⟩ (by simp;omega);rintro again ⟨x,k⟩ ⟨i,hk,hi,hx⟩ hr;dsimp only at hk hx⊢;subst hk;refine aH (fun hlt=>?_) fun hge=>Ev.some ?_
 ·have hs:=cP (show i<a.subs.length by omega);have hl:x.length=i:=by rw [hx,rN];omega
  refine aA (aM hs) (aA (zA n (h1 _ (cR hs))) (aA (bW (by simp;omega)) ?_));rw [aO (by omega)];refine hr _ ⟨i+1,by dsimp only;omega,by omega,?_⟩ (by dsimp only;omega);dsimp only;rw [xI,hs,hx];rfl
 have:i=a.subs.length:=by omega
 rw [hx,this,qG]
theorem aNC{l:List Affine}(h1:l.length≤2)(h2: ∀a∈l,bY a=true):S7 l:=⟨by omega,fun a ha=>by have:=(gM (h2 a ha)).1;unfold SmA;omega⟩
theorem X5{d:Int}: ∀(L n:Nat) (e:Expr) (out:List Access),6000+L≤n→L≤5→dQ L e d=true→(out.length:Int)≤1000+200*(6-(L:Int))→s_l3Reads (n+1) out e=some (out++bX L e)
 |0,n,e,out,_,_,h,_=>by cases h
 |L+1,n,e,out,hn,hL,h,ho=>by
  obtain⟨h1,h2,h3⟩:=f9 h;have hk2:=mT e.kind;unfold s_l3Reads;refine Ev.eq (Ev.jn (fun z=>z=out++(if e.kind=3 then [e.read] else [])) (fun j hj=>aH (fun h3k=>?_) fun hn3=>hj _ (by rw [if_neg hn3];simp)) fun z hz=>?_)
  ·have ha:=w3 h e.read (by simp [bX,h3k]);obtain⟨_,b1,b2⟩:=uL ha;exact aA (zB (by omega) (aNC b1 b2)) (aA (bW (by simp;omega)) (hj _ (by rw [if_pos h3k])))
  subst hz;obtain⟨n,rfl⟩: ∃j,n=j+1:=⟨n-1,by omega⟩
  by_cases h3k:e.kind=3
  ·have hnil:e.kids=[]:=by
    have hz:iL e.kind=0:=by unfold iL;rw [if_pos (Or.inr (Or.inr h3k))]
    exact vAA (by omega)
   rw [hnil];refine Ev.some ?_;simp [bX,h3k,hnil]
  have hcb: ∀k∈e.kids,((bX L k).length:Int)≤100:=fun k hk=>by
   have h5:=aDL (h3 k hk);have h6:(2:Int)^L≤40:=by
    match L,hL with
    |0,_=>decide
    |1,_=>decide
    |2,_=>decide
    |3,_=>decide
    |4,_=>decide
   have:=wZ L k;omega
  rw [if_neg h3k,vBn];refine Ev.loop (fun x:List Access×Int=> ∃i:Nat,x.2=i∧i≤e.kids.length∧x.1=out++(e.kids.take i).flatMap (bX L)∧(x.1.length:Int)≤out.length+100*i) (fun x=>e.kids.length-x.2.toNat) ?_ (n+1) _ ⟨0,rfl,by omega,by simp,by simp⟩ (by simp;omega);rintro again ⟨x,k⟩ ⟨i,hk,hi,hx,hxl⟩ hr;dsimp only at hk hx hxl⊢;subst hk;refine aH (fun hlt=>?_) fun hge=>Ev.some ?_
  ·have hk3:=cP (show i<e.kids.length by omega);have hm:=cR hk3;have hb:=hcb _ hm;refine aA (aM hk3) (aA (X5 (d:=d) L n _ x (by omega) (by omega) (h3 _ hm) (by omega)) ?_);rw [aO (by omega)];refine hr _ ⟨i+1,by dsimp only;omega,by omega,?_,by dsimp only;rw [qA];omega⟩ (by dsimp only;omega);dsimp only;rw [xI,hk3,vBb,hx];simp
  have:i=e.kids.length:=by omega
  rw [hx,this,qG];simp [bX,h3k]
theorem aKp{nest:List Loop}(hf:Fit nest): ∀(ls:List Loop) (k:Nat) (p q:List Int),nest.drop k=ls→k≤nest.length→qC k p→q∈pts ls p→qC nest.length q
 | [],k,p,q,hd,hk,hp,hq=>by
  have:=G7 hd hk;simp only [pts,List.mem_singleton] at hq;subst hq;subst this;exact hp
 |l::ls,k,p,q,hd,hk,hp,hq=>by obtain⟨d1,d2,d3⟩:=xD hd;obtain⟨s1,s2⟩:=hf.2 k l d1;have hf1:=hf.1;simp only [pts,List.mem_flatMap] at hq;obtain⟨v,hv,hq⟩:=hq;exact aKp hf ls (k+1) _ q d2 (by omega) (T8 s1 s2 hp (by omega) (aMR.1 hv)) hq
theorem aD5{nest:List Loop}{ps:List (List Int)}(h:NP nest=some ps):Fit nest∧ps.length≤120∧(∀q∈ps,qC nest.length q)∧ps=pts nest []∧wk nest []≤1200:=by
 unfold NP at h;split at h
 ·rename_i hc;cases h;have hf:=aDv hc.1;exact⟨hf,hc.2.2,fun q hq=>aKp hf nest 0 [] q rfl (by omega) pt0 hq,rfl,hc.2.1⟩
 cases h
def d8(list:List Arr)(s:Stmt)(q:List Int):Bool:=decide (0≤cK list s.write q 0)&&(bX 5 s.value).all fun a=>decide (0≤cK list a q 0)
theorem jQ{s:Stmt}{d:Int}(h:fZ s d=true):iC s.write d=true∧dQ 5 s.value d=true∧(∀a∈bX 5 s.value,iC a d=true)∧(bX 5 s.value).length≤12:=by
 simp only [fZ,Bool.and_eq_true,decide_eq_true_eq] at h;obtain⟨_,h1,h2,h3⟩:=h
 have:=wZ 5 s.value;exact⟨h1,h2,w3 h2,by omega⟩
theorem aEV{n:Nat}(hn:7000≤n){p:Prog}(hl:p.arrays.length≤4)(hd:fT p.arrays){s:Stmt}{d:Int}(hs:fZ s d=true){k:Nat}{q:List Int}(hq:qC k q):jG n p s q=some (d8 p.arrays s q):=by
 obtain⟨h1,h2,h3,h4⟩:=jQ hs;obtain⟨n,rfl⟩: ∃j,n=j+1:=⟨n-1,by omega⟩
 refine Ev.eq ?_;unfold jG;generalize hT:d8 p.arrays s q=T;unfold d8 at hT;refine Ev.jn (fun z=>z=T) (fun j hj=>aA (o4 (by omega) hl hd h1 hq) (aH (fun h=>?_) fun h=>hj _ ?_)) fun z hz=>Ev.some hz
 ·have hc:=R6 (n:=n+1) (f:=fun q0=>fA (n+1) q0 p q) (p:=fun a=>decide (cK p.arrays a q 0<0)) (l:=bX 5 s.value)
   (fun a ha=>by unfold fA;rw [o4 (by omega) hl hd (h3 a ha) hq];rfl) (by omega) (by omega)
  refine aA (yV (d:=d) 5 n s.value (by omega) (by omega) h2) (aA hc (hj _ ?_));rw [←hT,decide_eq_true h,vBa,vAZ];congr 1;apply congrArg fun f=>List.any (bX 5 s.value) f;funext a;rw [ltd]
 rw [←hT,decide_eq_false h];rfl
theorem C1{n:Nat}(hn:7000≤n){list:List Arr}(hl:list.length≤4)(hd:fT list){s:Stmt}{d:Int}(hs:fZ s d=true){k:Nat}{q:List Int}(hq:qC k q):
  oO n list s q=some (if d8 list s q=true then((bX 5 s.value).map fun a=>cK list a q 0,cK list s.write q 0,true) else([],0,false)):=by
 obtain⟨h1,h2,h3,h4⟩:=jQ hs;obtain⟨n,rfl⟩: ∃j,n=j+1:=⟨n-1,by omega⟩
 refine Ev.eq ?_;unfold oO;refine aA (X5 (d:=d) 5 n s.value [] (by omega) (by omega) h2 (by simp)) ?_;rw [List.nil_append];generalize hR:bX 5 s.value=R at*;have hco:d8 list s q=(decide (0≤cK list s.write q 0)&&R.all fun a=>decide (0≤cK list a q 0)):=by unfold d8;rw [hR]
 refine Ev.loop (fun x:List Int×Int=> ∃i:Nat,x.2=i∧i≤R.length∧x.1=(R.take i).map (fun a=>cK list a q 0)∧ ∀(t:Nat) a,t<i→R[t]? =some a→0≤cK list a q 0) (fun x=>R.length-x.2.toNat) ?_ (n+1) _ ⟨0,rfl,by omega,by simp,fun t a h=>by omega⟩ (by dsimp only;omega);rintro again ⟨x,z⟩ ⟨i,hz,hi,hx,ha⟩ hr;dsimp only at hz hx ha⊢;subst hz;refine aH (fun hlt=>?_) fun hge=>?_
 ·have hg:=cP (show i<R.length by omega);have hm:=cR hg;refine aA (aM hg) (aA (aBX (by omega) hl hd (h3 _ hm) hq) (aH (fun hneg=>Ev.some ?_) fun hpos=>?_))
  ·rw [if_neg];rw [hco];intro h;rw [vBt] at h
   have:=V9.1 h.2 _ hm;rw [decide_eq_true_eq] at this;omega
  have hl2:x.length≤12:=by rw [hx,qF,rN];omega
  refine aA (bW (by simp;omega)) ?_;rw [aO (by omega)];refine hr _ ⟨i+1,by dsimp only;omega,by omega,?_,fun t a ht hta=>?_⟩ (by dsimp only;omega)
  ·dsimp only;rw [xI,hg,vAM,hx];rfl
  by_cases hti:t=i
  ·subst hti;rw [hg] at hta;cases hta;omega
  exact ha t a (by omega) hta
 have hie:i=R.length:=by omega
 have hall:R.all (fun a=>decide (0≤cK list a q 0))=true:=V9.2 (fun a hm=>by
  obtain⟨t,ht⟩:=vAK hm
  have:=(cZ.1 ht).1;exact decide_eq_true (ha t a (by omega) ht))
 rw [hco,hall,Bool.and_true];refine aA (aBX (by omega) hl hd h1 hq) (aH (fun hneg=>Ev.some ?_) fun hpos=>Ev.some ?_)
 ·rw [if_neg (by rw [decide_eq_true_eq];omega)]
 rw [if_pos (by rw [decide_eq_true_eq];omega),hx,hie,qG]
def ptV(q:List Int):Bool:=decide (q.length≤4)&&q.all fun x=>decide (-9999≤x∧x≤9999)
theorem aDo{n:Nat}(hn:5000≤n){q:List Int}(h:q.length≤1000):xB n q=some (ptV q):=by
 unfold xB ptV;have hc:=nZ (n:=n) (f:=fun q0=>mU n q0) (p:=fun x=> !decide (-9999≤x∧x≤9999)) (l:=q) (fun x _=>by unfold mU;rw [eV];rfl) (by omega) (by omega);simp only [jn,Option.bind];rw [hc];have e:(q.any fun x=> !decide (-9999≤x∧x≤9999))= !(q.all fun x=>decide (-9999≤x∧x≤9999)):=by rw [vAZ];simp
 rw [e,show decide ((q.length:Int)≤4)=decide (q.length≤4) from decide_eq_decide.2 (by omega)];cases decide (q.length≤4)<;>simp
theorem aC7{n:Nat}(hn:5000≤n){q:List Int}(h:q.length≤1000):wU n q=some (ptV q):=by
 refine Ev.eq ?_;unfold wU;refine oH (l:=q) (p:=fun _ x=>decide (-9999≤x∧x≤9999)) (by omega) (by omega) (fun again i x hx hgo hno=>?_) (fun again hall=>?_) (fun⟨i,x,hx,hp⟩=>?_)
 ·have hi:=(cZ.1 hx).1;rw [decide_eq_true (show(i:Int)<(q.length:Int) by omega)];refine cA (aA (aM hx) (aA (uY n x 9999 (by omega)) ?_));cases hp:decide (-9999≤x∧x≤9999) with
  |true=>show Ev (again _) _;rw [aO (by omega)];exact hgo hp
  |false=>exact Ev.some (hno hp)
 ·rw [decide_eq_false (show¬(q.length:Int)<(q.length:Int) by omega)];refine Ev.some ?_;unfold ptV;rw [V9.2 (fun c hc=>by obtain⟨i,hi⟩:=vAK hc;exact hall i c hi),Bool.and_true];exact decide_eq_decide.2 (by omega)
 unfold ptV;rw [vAL.2 ⟨x,cR hx,by rw [hp];simp⟩,vBr]
theorem aFK{α:Type}(p q:α→Bool): ∀l:List α,(l.all p&&l.all q)=l.all (fun x=>p x&&q x)
 | []=>rfl
 |x::l=>by simp only [List.all_cons,←aFK p q l];cases p x<;>cases q x<;>cases l.all p<;>cases l.all q<;>rfl
def J5(part:Part):Bool:=decide (1≤part.body.length∧part.body.length≤4)&&part.body.all fun s=>fZ s (part.nest.length:Int)
def dS(part:Part):List (List Int):=(NP part.nest).getD []
def cW(list:List Arr)(part:Part):Bool:=(NP part.nest).isSome&&(J5 part&&part.body.all fun s=>(dS part).all fun q=>d8 list s q&&ptV q)
def aDY(x:Part):Prop:=SmN x.nest∧x.body.length≤1000∧ ∀s∈x.body,SmS s
def SmP(p:Prog):Prop:=SmR p.arrays∧p.parts.length≤1000∧ ∀x∈p.parts,aDY x
theorem gS{list:List Arr}{x:Part}(h:cW list x=true):NP x.nest=some (dS x)∧(1≤x.body.length∧x.body.length≤4)∧(∀s∈x.body,fZ s (x.nest.length:Int)=true)∧ ∀s∈x.body,∀q∈dS x,d8 list s q=true∧ptV q=true:=by
 simp only [cW,J5,Bool.and_eq_true,decide_eq_true_eq,List.all_eq_true] at h;refine⟨?_,h.2.1.1,h.2.1.2,h.2.2⟩;unfold dS;cases hn:NP x.nest with
 |none=>rw [hn] at h;simp at h
 |some ps=>rfl
theorem aHI{list:List Arr}(h:iY list=true):list.length≤4∧fT list:=by
 simp only [iY,Bool.and_eq_true,decide_eq_true_eq] at h;refine⟨h.2,fun x hx=>?_⟩;obtain⟨i,hi⟩:=vAK hx
 have:=aAn h.1 hi;simp only [aBJ,Bool.and_eq_true] at this;exact this.2.2
theorem u7{n:Nat}(hn:7000≤n){list:List Arr}(hl:list.length≤4)(hd:fT list){x:Part}(hx:aDY x):
  rR n list x=some (if cW list x=true then(((dS x).length:Int)*(x.body.length:Int),true) else(0,false)):=by
 obtain⟨h1,h2,h3⟩:=hx;refine Ev.eq ?_;unfold rR;generalize hT:(if cW list x=true then(((dS x).length:Int)*(x.body.length:Int),true) else((0:Int),false))=T;refine aA (R0 (by omega) h1) ?_;have hbad:cW list x=false→((0:Int),false)=T:=fun h=>by rw [←hT,h];rfl
 refine Ev.jn (fun z=>z= !((NP x.nest).isSome&&decide (1≤x.body.length∧x.body.length≤4))) (fun j hj=>?_) fun z hz=>?_
 ·cases hN:NP x.nest with
  |none=>exact cA (hj _ (by rw [hN];rfl))
  |some ps=>
   refine cC (aH (fun h=>hj _ ?_) fun h=>hj _ ?_)
   ·rw [hN,decide_eq_false (by omega)];rfl
   rw [hN];by_cases h4:x.body.length≤4
   ·rw [decide_eq_false (show¬(4:Int)<(x.body.length:Int) by omega),decide_eq_true (by omega)];rfl
   rw [decide_eq_true (show(4:Int)<(x.body.length:Int) by omega),decide_eq_false (by omega)];rfl
 subst hz;cases hN:NP x.nest with
 |none=>exact Ev.some (hbad (by unfold cW;rw [hN];rfl))
 |some ps=>
  obtain⟨hf,hp1,hp2,hp3,hp4⟩:=aD5 hN;have hpp:dS x=ps:=by unfold dS;rw [hN];rfl
  by_cases hb:1≤x.body.length∧x.body.length≤4
  ·rw [decide_eq_true hb];refine cC ?_;have hok:cW list x=x.body.all (fun s=>fZ s (x.nest.length:Int)&&ps.all fun q=>d8 list s q&&ptV q):=by
    unfold cW J5;rw [hN,hpp,decide_eq_true hb,Option.isSome_some,vBa,vBa];exact aFK _ _ _
   refine Ev.loop (fun y:Int=> ∃i:Nat,y=i∧i≤x.body.length∧ ∀(t:Nat) s,t<i→x.body[t]? =some s→(fZ s (x.nest.length:Int)&&ps.all fun q=>d8 list s q&&ptV q)=true) (fun y=>x.body.length-y.toNat) ?_ n _ ⟨0,rfl,by omega,fun t s h=>by omega⟩ (by simp;omega);rintro again y ⟨i,rfl,hi,ha⟩ hr;refine aH (fun hlt=>?_) fun hge=>Ev.some ?_
   ·have hg:=cP (show i<x.body.length by omega);have hm:=cR hg;refine aA (aM hg) (aA (vF (by omega) (h3 _ hm) _) ?_);cases hsv:fZ x.body[i] (x.nest.length:Int) with
    |false=>
     refine cA (Ev.some (hbad ?_));rw [hok];exact vAL.2 ⟨_,hm,by rw [hsv];simp⟩
    |true=>
     refine cC ?_;show Ev (aL (fun again9 (x8:Int)=>bif decide (x8<(ps.length:Int)) then _ else _) n 0) _;refine Ev.loop (fun y:Int=> ∃k:Nat,y=k∧k≤ps.length∧ ∀(t:Nat) q,t<k→ps[t]? =some q→(d8 list x.body[i] q&&ptV q)=true) (fun y=>ps.length-y.toNat) ?_ n _ ⟨0,rfl,by omega,fun t s h=>by omega⟩ (by simp;omega);rintro again9 y ⟨k,rfl,hk,hak⟩ hr9;refine aH (fun hlt9=>?_) fun hge9=>?_
     ·have hgk:=cP (show k<ps.length by omega);have hmk:=cR hgk;have hq:=hp2 _ hmk;have hql:ps[k].length≤1000:=by have:=hq.1;have:=hq.2.1;omega
      refine aA (aM hgk) (aA (C1 (by omega) hl hd hsv hq) (Ev.jn (fun z=>z= !(d8 list x.body[i] ps[k]&&ptV ps[k])) (fun j hj=>?_) fun z hz=>?_))
      ·cases hc:d8 list x.body[i] ps[k] with
       |false=>
        rw [hc] at hj;exact cA (hj _ rfl)
       |true=>
        rw [hc] at hj;exact cC (aA (aC7 (by omega) hql) (hj _ rfl))
      subst hz;cases hc:(d8 list x.body[i] ps[k]&&ptV ps[k]) with
      |false=>
       refine Ev.some (hbad ?_);rw [hok];refine vAL.2 ⟨_,hm,?_⟩;rw [hsv,vBa];rw [vAL.2 ⟨_,hmk,by rw [hc];simp⟩];simp
      |true=>
       show Ev (again9 _) _;rw [aO (by omega)];refine hr9 _ ⟨k+1,by omega,by omega,fun t q ht htq=>?_⟩ (by omega);by_cases htk:t=k
       ·subst htk;rw [hgk] at htq;cases htq;exact hc
       exact hak t q (by omega) htq
     rw [aO (by omega)];refine hr _ ⟨i+1,by omega,by omega,fun t s ht hts=>?_⟩ (by omega);by_cases hti:t=i
     ·subst hti;rw [hg] at hts;cases hts;rw [hsv,vBa];refine V9.2 fun q hq=>?_;obtain⟨t',ht'⟩:=vAK hq
      have:=(cZ.1 ht').1;exact hak t' q (by omega) ht'
     exact ha t s (by omega) hts
   have hall:cW list x=true:=by
    rw [hok];refine V9.2 fun s hs=>?_;obtain⟨t,ht⟩:=vAK hs
    have:=(cZ.1 ht).1;exact ha t s (by omega) ht
   rw [←hT,hall,if_pos rfl,hpp];show(wr ((ps.length:Int)*(x.body.length:Int)),true)=_;have hb1:(0:Int)≤(ps.length:Int)*(x.body.length:Int):=vBl (by omega) (by omega);have hb2:(ps.length:Int)*(x.body.length:Int)≤120*4:=vBB (by omega) (by omega) (by omega) (by omega);rw [aO (by omega)]
  rw [decide_eq_false hb];refine Ev.some (hbad ?_);unfold cW J5;rw [decide_eq_false hb];simp
def gL(x:Part):Int:=((dS x).length:Int)*(x.body.length:Int)
def instP(i:Nat)(x:Part):List Inst:=(dS x).flatMap fun q=>(List.range x.body.length).map fun(k:Nat)=>(⟨(i:Int),(k:Int),q⟩:Inst)
def insts(ps:List Part):List Inst:=ps.zipIdx.flatMap fun y=>instP y.2 y.1
def qZ(p:Prog):Bool:=iY p.arrays&&(decide (p.parts.length≤4)&&p.parts.all (cW p.arrays))
def bM(p:Prog):Bool:=qZ p&&decide ((p.parts.map gL).sum≤120)
theorem insts_snoc(l:List Part)(x:Part):insts (l++[x])=insts l++instP l.length x:=by unfold insts;rw [List.zipIdx_append,vBb];simp
theorem insts_take{l:List Part}{i:Nat}{x:Part}(h:l[i]? =some x):insts (l.take (i+1))=insts (l.take i)++instP i x:=by have hi:=(cZ.1 h).1;rw [xI,h];show insts (l.take i++[x])=_;rw [insts_snoc,rN,Nat.min_eq_left (Nat.le_of_lt hi)]
theorem G3{α β:Type}(f:α→List β)(m:Nat)(h: ∀x,(f x).length=m): ∀l:List α,(l.flatMap f).length=l.length*m
 | []=>by simp
 |x::l=>by rw [vBD,qA,h,G3 f m h l,List.length_cons,o9];omega
theorem instP_len(i:Nat)(x:Part):((instP i x).length:Int)=gL x:=by unfold instP gL;rw [G3 _ x.body.length fun q=>by simp];exact Int.natCast_mul _ _
theorem aEn{l:List Part}{i:Nat}{x:Part}(h:l[i]? =some x):((l.take (i+1)).map gL).sum=((l.take i).map gL).sum+gL x:=by rw [xI,h];simp
theorem insts_len: ∀(l:List Part) (i:Nat),i≤l.length→((insts (l.take i)).length:Int)=((l.take i).map gL).sum
 |l,0,_=>by simp [insts]
 |l,i+1,h=>by
  have hg:=cP (show i<l.length by omega);rw [insts_take hg,qA,aEn hg]
  have:=insts_len l i (by omega)
  have:=instP_len i l[i];omega
theorem insts_len'(l:List Part):((insts l).length:Int)=(l.map gL).sum:=by
 have:=insts_len l l.length (kL _)
 rwa [qG] at this
theorem N5{list:List Arr}{x:Part}(h:cW list x=true):0≤gL x∧gL x≤480:=by
 obtain⟨h1,h2,_⟩:=gS h;obtain⟨_,h3,_⟩:=aD5 h1;unfold gL;refine⟨vBl (by omega) (by omega),?_⟩
 have:=vBB (show((dS x).length:Int)≤120 by omega) (show(x.body.length:Int)≤4 by omega) (by omega) (by omega);omega
theorem kU{n:Nat}(hn:7000≤n){p:Prog}(hp:SmP p):eZ n p=some (bM p):=by
 obtain⟨h1,h2,h3⟩:=hp;refine Ev.eq ?_;unfold eZ;generalize hT:bM p=T;unfold bM qZ at hT;refine Ev.jn (fun z=>z= !(iY p.arrays&&decide (p.parts.length≤4))) (fun j hj=>aA (aBr (by omega) h1) ?_) fun z hz=>?_
 ·cases ha:iY p.arrays with
  |false=>exact cA (hj _ (by rw [ha];rfl))
  |true=>
   refine cC (hj _ ?_);rw [ha];by_cases h4:p.parts.length≤4
   ·rw [decide_eq_false (show¬(4:Int)<(p.parts.length:Int) by omega),decide_eq_true h4];rfl
   rw [decide_eq_true (show(4:Int)<(p.parts.length:Int) by omega),decide_eq_false h4];rfl
 subst hz;cases hb:(iY p.arrays&&decide (p.parts.length≤4)) with
 |false=>
  refine Ev.some ?_;rw [←hT,←vBg,hb];rfl
 |true=>
  have hT':T=(p.parts.all (cW p.arrays)&&decide ((p.parts.map gL).sum≤120)):=by rw [←hT,←vBg,hb];rfl
  rw [vBt,decide_eq_true_eq] at hb;obtain⟨hl,hd⟩:=aHI hb.1;refine cC ?_;refine Ev.loop (fun x:Int×Int=> ∃i:Nat,x.2=i∧i≤p.parts.length∧x.1=((p.parts.take i).map gL).sum∧0≤x.1∧x.1≤480*i∧ ∀(t:Nat) y,t<i→p.parts[t]? =some y→cW p.arrays y=true) (fun x=>p.parts.length-x.2.toNat) ?_ n _ ⟨0,rfl,by omega,by simp,by simp,by simp,fun t y h=>by omega⟩ (by dsimp only;omega);rintro again ⟨x,z⟩ ⟨i,hz,hi,hx,hx0,hx1,ha⟩ hr;dsimp only at hz hx hx0 hx1 ha⊢;subst hz;refine aH (fun hlt=>?_) fun hge=>Ev.some ?_
  ·have hg:=cP (show i<p.parts.length by omega);have hm:=cR hg;refine aA (aM hg) (aA (u7 (by omega) hl hd (h3 _ hm)) ?_);cases hpo:cW p.arrays p.parts[i] with
   |false=>
    rw [if_neg (by simp)];refine Ev.some ?_;rw [hT',vAL.2 ⟨_,hm,by rw [hpo];simp⟩];rfl
   |true=>
    rw [if_pos rfl];have hcb:=N5 hpo;show Ev (again (wr (x+gL p.parts[i]),wr ((i:Int)+1))) _;rw [aO (n:=x+gL p.parts[i]) (by omega),aO (by omega)];refine hr _ ⟨i+1,by dsimp only;omega,by omega,by dsimp only;rw [aEn hg];omega,by dsimp only;omega,by dsimp only;omega,fun t y ht hty=>?_⟩ (by dsimp only;omega);by_cases hti:t=i
    ·subst hti;rw [hg] at hty;cases hty;exact hpo
    exact ha t y (by omega) hty
  have hie:i=p.parts.length:=by omega
  have hall:p.parts.all (cW p.arrays)=true:=V9.2 (fun y hy=>by
   obtain⟨t,ht⟩:=vAK hy
   have:=(cZ.1 ht).1;exact ha t y (by omega) ht)
  rw [hT',hall,vBa,hx,hie,qG]
theorem vN{α:Type}(f:Nat→α)(k:Nat):(List.range (k+1)).map f=(List.range k).map f++[f k]:=by rw [vBE,vAM];rfl
theorem pL{n:Nat}(hn:7000≤n){p:Prog}(hp:SmP p):cX n p=some (if qZ p=true then(insts p.parts,decide ((insts p.parts).length≤120)) else([],false)):=by
 obtain⟨h1,h2,h3⟩:=hp;refine Ev.eq ?_;unfold cX;generalize hT:(if qZ p=true then(insts p.parts,decide ((insts p.parts).length≤120)) else([],false))=T;have hbad:qZ p=false→(([]:List Inst),false)=T:=fun h=>by rw [←hT,h];rfl
 refine Ev.jn (fun z=>z= !(iY p.arrays&&decide (p.parts.length≤4))) (fun j hj=>aA (aBy (by omega) h1) ?_) fun z hz=>?_
 ·cases ha:iY p.arrays with
  |false=>exact cA (hj _ (by rw [ha];rfl))
  |true=>
   refine cC (hj _ ?_);rw [ha];by_cases h4:p.parts.length≤4
   ·rw [decide_eq_false (show¬(4:Int)<(p.parts.length:Int) by omega),decide_eq_true h4];rfl
   rw [decide_eq_true (show(4:Int)<(p.parts.length:Int) by omega),decide_eq_false h4];rfl
 subst hz;cases hb:(iY p.arrays&&decide (p.parts.length≤4)) with
 |false=>exact Ev.some (hbad (by unfold qZ;rw [←vBg,hb];rfl))
 |true=>
  have hall':qZ p=p.parts.all (cW p.arrays):=by unfold qZ;rw [←vBg,hb];rfl
  rw [vBt,decide_eq_true_eq] at hb;obtain⟨hl,hd⟩:=aHI hb.1;refine cC ?_;refine Ev.loop (fun x:List Inst×Int=> ∃i:Nat,x.2=i∧i≤p.parts.length∧x.1=insts (p.parts.take i)∧x.1.length≤480*i∧ ∀(t:Nat) y,t<i→p.parts[t]? =some y→cW p.arrays y=true) (fun x=>p.parts.length-x.2.toNat) ?_ n _ ⟨0,rfl,by omega,by simp [insts],by simp,fun t y h=>by omega⟩ (by dsimp only;omega);rintro again ⟨x,z⟩ ⟨i,hz,hi,hx,hxl,ha⟩ hr;dsimp only at hz hx hxl ha⊢;subst hz;refine aH (fun hlt=>?_) fun hge=>Ev.some ?_
  ·have hg:=cP (show i<p.parts.length by omega);have hm:=cR hg;obtain⟨s1,s2,s3⟩:=h3 _ hm;generalize hP:p.parts[i]=P at*;have hpb:cW p.arrays P=false→qZ p=false:=fun h=>by rw [hall'];exact vAL.2 ⟨_,hm,by rw [h];simp⟩
   refine aA (aM hg) (aA (R5 (by omega) s1) (Ev.jn (fun z=>z= !((NP P.nest).isSome&&J5 P)) (fun j hj=>?_) fun z hz=>?_))
   ·cases hN:NP P.nest with
    |none=>exact cA (hj _ (by rw [hN];rfl))
    |some ps=>
     refine cC ?_;have hw:cS n (P.body.length:Int) 1 4=some (decide (1≤P.body.length∧P.body.length≤4)):=by
      rw [eV];congr 1;exact decide_eq_decide.2 (by omega)
     refine aA hw ?_;have hc:=aBB (n:=n) (f:=fun q0=>dX n q0 P) (p:=fun s=> !fZ s (P.nest.length:Int)) (l:=P.body) (fun s hs=>by unfold dX;rw [aAs (by omega) (s3 s hs)];rfl) (by omega) (by omega);have e:(P.body.any fun s=> !fZ s (P.nest.length:Int))= !(P.body.all fun s=>fZ s (P.nest.length:Int)):=by rw [vAZ];simp
     cases hw2:decide (1≤P.body.length∧P.body.length≤4) with
     |false=>exact cA (hj _ (by unfold J5;rw [hN,hw2];rfl))
     |true=>exact cC (aA hc (hj _ (by unfold J5;rw [hN,hw2,e];rfl)))
   subst hz;cases hN:NP P.nest with
   |none=>exact Ev.some (hbad (hpb (by unfold cW;rw [hN];rfl)))
   |some ps=>
    obtain⟨hf,hp1,hp2,hp3,hp4⟩:=aD5 hN;have hpp:dS P=ps:=by unfold dS;rw [hN];rfl
    cases hbv:J5 P with
    |false=>exact Ev.some (hbad (hpb (by unfold cW;rw [hbv];simp)))
    |true=>
     have hbv':=hbv;simp only [J5,Bool.and_eq_true,decide_eq_true_eq,List.all_eq_true] at hbv';obtain⟨⟨hb1,hb2⟩,hb3⟩:=hbv';have hok:cW p.arrays P=P.body.all (fun s=>ps.all fun q=>d8 p.arrays s q&&ptV q):=by
      unfold cW;rw [hN,hbv,hpp];rfl
     let row:List Int→List Inst:=fun q=>(List.range P.body.length).map fun(k:Nat)=>(⟨(i:Int),(k:Int),q⟩:Inst)
     have hrl: ∀q,(row q).length=P.body.length:=fun q=>by simp [row]
     have hinst:instP i P=ps.flatMap row:=by unfold instP;rw [hpp]
     refine cC ?_;rw [show(aG5 (some ps)).1=ps from rfl];refine Ev.loop (fun y:List Inst×Int=> ∃k:Nat,y.2=k∧k≤ps.length∧y.1=x++(ps.take k).flatMap row∧ ∀(t:Nat) q,t<k→ps[t]? =some q→ptV q=true∧ ∀s∈P.body,d8 p.arrays s q=true) (fun y=>ps.length-y.2.toNat) ?_ n _ ⟨0,rfl,by omega,by simp,fun t q h=>by omega⟩ (by dsimp only;omega);rintro again17 ⟨y,z⟩ ⟨k,hz,hk,hy,hak⟩ hr17;dsimp only at hz hy hak⊢;subst hz;refine aH (fun hlt2=>?_) fun hge2=>?_
     ·have hgk:=cP (show k<ps.length by omega);have hmk:=cR hgk;generalize hQ:ps[k]=Q at*;have hq:=hp2 _ hmk;have hql:Q.length≤4:=by have:=hq.1;have:=hq.2.1;omega
      refine aA (aM hgk) (aA (aDo (by omega) (by omega)) ?_);have hyl:y.length≤480*4+480:=by
       rw [hy,qA,G3 row _ hrl,rN]
       have:min k ps.length*P.body.length≤120*4:=vBA (by omega) hb2;omega
      cases hpv:ptV Q with
      |false=>
       refine cA (Ev.some (hbad (hpb ?_)));rw [hok];obtain⟨s0,hs0⟩: ∃s0,s0∈P.body:=List.exists_mem_of_length_pos (by omega);refine vAL.2 ⟨s0,hs0,?_⟩;rw [vAL.2 ⟨Q,hmk,by rw [hpv];simp⟩];simp
      |true=>
       refine cC ?_;refine Ev.loop (fun u:List Inst×Int=> ∃m:Nat,u.2=m∧m≤P.body.length∧u.1=y++(List.range m).map (fun(k:Nat)=>(⟨(i:Int),(k:Int),Q⟩:Inst))∧ ∀(t:Nat) s,t<m→P.body[t]? =some s→d8 p.arrays s Q=true) (fun u=>P.body.length-u.2.toNat) ?_ n _ ⟨0,rfl,by omega,by simp,fun t s h=>by omega⟩ (by dsimp only;omega);rintro again23 ⟨u,z⟩ ⟨m,hz,hmm,hu,ham⟩ hr23;dsimp only at hz hu ham⊢;subst hz;refine aH (fun hlt3=>?_) fun hge3=>?_
       ·have hgm:=cP (show m<P.body.length by omega);have hmem:=cR hgm;refine aA (aM hgm) (aA (aEV (by omega) hl hd (hb3 _ hmem) hq) ?_);cases hco:d8 p.arrays P.body[m] Q with
        |false=>
         refine cA (Ev.some (hbad (hpb ?_)));rw [hok];refine vAL.2 ⟨_,hmem,?_⟩;rw [vAL.2 ⟨Q,hmk,by rw [hco];simp⟩];simp
        |true=>
         have hcl:m_ownClone Q=some Q:=by unfold m_ownClone;rw [if_pos (by omega)]
         have hul:u.length≤480*4+480+4:=by rw [hu];simp;omega
         refine cC (aA hcl (aA (bW (by simp;omega)) ?_));rw [aO (by omega)];refine hr23 _ ⟨m+1,by dsimp only;omega,by omega,?_,fun t s ht hts=>?_⟩ (by dsimp only;omega)
         ·dsimp only;rw [hu,vN,vAO]
         by_cases htm:t=m
         ·subst htm;rw [hgm] at hts;cases hts;exact hco
         exact ham t s (by omega) hts
       have hme:m=P.body.length:=by omega
       rw [aO (by omega)];refine hr17 _ ⟨k+1,by dsimp only;omega,by omega,?_,fun t q ht htq=>?_⟩ (by dsimp only;omega)
       ·dsimp only;rw [xI,hgk,vBb,←vAO,←hy,hu,hme];simp [row]
       by_cases htk:t=k
       ·subst htk;rw [hgk] at htq;cases htq;refine⟨hpv,fun s hs=>?_⟩;obtain⟨t',ht'⟩:=vAK hs
        have:=(cZ.1 ht').1;exact ham t' s (by omega) ht'
       exact hak t q (by omega) htq
     have hke:k=ps.length:=by omega
     have hpo:cW p.arrays P=true:=by
      rw [hok];refine V9.2 fun s hs=>V9.2 fun q hq=>?_;obtain⟨t,ht⟩:=vAK hq
      have:=(cZ.1 ht).1;obtain⟨g1,g2⟩:=hak t q (by omega) ht;rw [g1,g2 s hs];rfl
     have hcb:=N5 hpo;have hil:=instP_len i P;rw [aO (by omega)];refine hr _ ⟨i+1,by dsimp only;omega,by omega,?_,?_,fun t y ht hty=>?_⟩ (by dsimp only;omega)
     ·dsimp only;rw [insts_take hg,hinst,hy,hke,qG,hx]
     ·dsimp only;rw [hy,hke,qG,qA,←hinst];omega
     by_cases hti:t=i
     ·subst hti;rw [hg] at hty;cases hty;exact hpo
     exact ha t y (by omega) hty
  have hie:i=p.parts.length:=by omega
  have hall:qZ p=true:=by
   rw [hall'];exact V9.2 (fun y hy=>by
    obtain⟨t,ht⟩:=vAK hy
    have:=(cZ.1 ht).1;exact ha t y (by omega) ht)
  rw [←hT,if_pos hall,hx,hie,qG];congr 1;exact decide_eq_decide.2 (by omega)
theorem eG{n:Nat}(hn:7000≤n){p:Prog}(hp:SmP p):d9 n p=some (bM p):=by
 unfold d9;rw [pL hn hp];unfold bM;cases h:qZ p with
 |false=>rfl
 |true=>
  rw [if_pos rfl];show some (decide _)=_;rw [vBa];congr 1
  have:=insts_len' p.parts;exact decide_eq_decide.2 (by omega)
theorem uO{n:Nat}(hn:7000≤n){p:Prog}(hp:SmP p):gK n p=some (if bM p=true then insts p.parts else []):=by
 unfold gK;rw [pL hn hp];unfold bM;cases h:qZ p with
 |false=>rfl
 |true=>
  rw [if_pos rfl,vBa]
  have:=insts_len' p.parts;by_cases hl:(insts p.parts).length≤120
  ·rw [decide_eq_true hl,decide_eq_true (by omega),if_pos rfl];rfl
  rw [decide_eq_false hl,decide_eq_false (by omega),if_neg (by simp)];rfl
theorem eN{p:Prog}(h:bM p=true):p.arrays.length≤4∧fT p.arrays∧p.parts.length≤4∧(∀x∈p.parts,cW p.arrays x=true)∧(insts p.parts).length≤120:=by
 simp only [bM,qZ,Bool.and_eq_true,decide_eq_true_eq,List.all_eq_true] at h;obtain⟨⟨h1,h2,h3⟩,h4⟩:=h;obtain⟨a,b⟩:=aHI h1
 have:=insts_len' p.parts;exact⟨a,b,h2,h3,by omega⟩
theorem vE{n:Nat}(hn:7000≤n){p:Prog}(hv:bM p=true):jU n p=some (insts p.parts):=by
 obtain⟨hl,hd,h4,hpo,hil⟩:=eN hv;refine Ev.eq ?_;unfold jU;refine Ev.loop (fun x:List Inst×Int=> ∃i:Nat,x.2=i∧i≤p.parts.length∧x.1=insts (p.parts.take i)∧x.1.length≤480*i) (fun x=>p.parts.length-x.2.toNat) ?_ n _ ⟨0,rfl,by omega,by simp [insts],by simp⟩ (by dsimp only;omega);rintro again ⟨x,z⟩ ⟨i,hz,hi,hx,hxl⟩ hr;dsimp only at hz hx hxl⊢;subst hz;refine aH (fun hlt=>?_) fun hge=>Ev.some ?_
 ·have hg:=cP (show i<p.parts.length by omega);have hm:=cR hg;have hpP:=hpo _ hm;generalize hP:p.parts[i]=P at*;obtain⟨q1,q2,q3,q4⟩:=gS hpP;obtain⟨hf,hp1,hp2,hp3,hp4⟩:=aD5 q1;generalize hpp:dS P=ps at*;have hcb:=N5 hpP;have hil':=instP_len i P;let row:List Int→List Inst:=fun q=>(List.range P.body.length).map fun(k:Nat)=>(⟨(i:Int),(k:Int),q⟩:Inst)
  have hrl: ∀q,(row q).length=P.body.length:=fun q=>by simp [row]
  have hinst:instP i P=ps.flatMap row:=by unfold instP;rw [hpp]
  refine aA (aM hg) (aN (uZ hf P.nest n 0 [] [] (by have:=hf.1;omega) rfl (by omega) pt0 hp4 (by simp)) fun r ⟨r1,r2⟩=>?_);have hr1:r=ps:=by rw [r1 (by rw [←hp3];simpa using hp1),hp3];rfl
  subst hr1;refine Ev.loop (fun y:List Inst×Int=> ∃k:Nat,y.2=k∧k≤r.length∧y.1=x++(r.take k).flatMap row) (fun y=>r.length-y.2.toNat) ?_ n _ ⟨0,rfl,by omega,by simp⟩ (by dsimp only;omega);rintro again10 ⟨y,z⟩ ⟨k,hz,hk,hy⟩ hr10;dsimp only at hz hy⊢;subst hz;refine aH (fun hlt2=>?_) fun hge2=>?_
  ·have hgk:=cP (show k<r.length by omega);have hmk:=cR hgk;generalize hQ:r[k]=Q at*;have hq:=hp2 _ hmk;have hql:Q.length≤4:=by have:=hq.1;have:=hq.2.1;omega
   have hyl:y.length≤480*4+480:=by
    rw [hy,qA,G3 row _ hrl,rN]
    have:min k r.length*P.body.length≤120*4:=vBA (by omega) q2.2;omega
   refine Ev.loop (fun u:List Inst×Int=> ∃m:Nat,u.2=m∧m≤P.body.length∧u.1=y++(List.range m).map (fun(k:Nat)=>(⟨(i:Int),(k:Int),Q⟩:Inst))) (fun u=>P.body.length-u.2.toNat) ?_ n _ ⟨0,rfl,by omega,by simp⟩ (by dsimp only;omega);rintro again14 ⟨u,z⟩ ⟨m,hz,hmm,hu⟩ hr14;dsimp only at hz hu⊢;subst hz;refine aH (fun hlt3=>?_) fun hge3=>?_
   ·have hul:u.length≤480*4+480+4:=by rw [hu];simp;omega
    refine aA (aM hgk) (aA (eQ _ (by omega)) (aA (bW (by simp;omega)) ?_));rw [aO (by omega)];refine hr14 _ ⟨m+1,by dsimp only;omega,by omega,?_⟩ (by dsimp only;omega);dsimp only;rw [hu,vN,vAO]
   have hme:m=P.body.length:=by omega
   rw [aO (by omega)];refine hr10 _ ⟨k+1,by dsimp only;omega,by omega,?_⟩ (by dsimp only;omega);dsimp only;rw [xI,hgk,vBb,←vAO,←hy,hu,hme];simp [row]
  have hke:k=r.length:=by omega
  rw [aO (by omega)];refine hr _ ⟨i+1,by dsimp only;omega,by omega,?_,?_⟩ (by dsimp only;omega)
  ·dsimp only;rw [insts_take hg,hinst,hy,hke,qG,hx]
  dsimp only;rw [hy,hke,qG,qA,←hinst];omega
 have hie:i=p.parts.length:=by omega
 rw [hx,hie,qG]
theorem aGe{l:List Arr}{i:Nat}{x:Arr}(h:l[i]? =some x):gQ (l.take (i+1))=gQ (l.take i)+W9 x.dims:=by unfold gQ;rw [List.take_add_one,h];simp
theorem aGh{n:Nat}(hn:7000≤n){p:Prog}(hl:p.arrays.length≤4)(hd:fT p.arrays):fJ n p=some (gQ p.arrays):=by
 refine Ev.eq ?_;unfold fJ;refine Ev.loop (fun x:Int×Int=> ∃i:Nat,x.2=i∧i≤p.arrays.length∧x.1=gQ (p.arrays.take i)∧0≤x.1∧x.1≤36*i) (fun x=>p.arrays.length-x.2.toNat) ?_ n _ ⟨0,rfl,by omega,by simp [gQ],by simp,by simp⟩ (by dsimp only;omega);rintro again ⟨x,z⟩ ⟨i,hz,hi,hx,hx0,hx1⟩ hr;dsimp only at hz hx hx0 hx1⊢;subst hz;refine aH (fun hlt=>?_) fun hge=>Ev.some ?_
 ·have hg:=cP (show i<p.arrays.length by omega);have hdm:=hd _ (cR hg);have hsz:=W8 hdm;refine aA (aM hg) (aA (u6 (by omega) hdm) ?_);rw [aO (n:=x+W9 p.arrays[i].dims) (by omega),aO (by omega)];exact hr _ ⟨i+1,by dsimp only;omega,by omega,by dsimp only;rw [aGe hg];omega,by dsimp only;omega,by dsimp only;omega⟩ (by dsimp only;omega)
 have hie:i=p.arrays.length:=by omega
 rw [hx,hie,qG]
theorem aAq{n:Nat}(hn:7000≤n){p:Prog}(hl:p.arrays.length≤4)(hd:fT p.arrays):fJ n p=some (gQ p.arrays):=aGh hn hl hd
def aDh(p:Prog)(m:List Int):Bool:=bM p&&(decide ((m.length:Int)=gQ p.arrays)&&m.all fun x=>decide (0≤x∧x≤999))
theorem M2{n:Nat}(hn:7000≤n){p:Prog}(hp:SmP p){m:List Int}(hm:m.length≤1000):mK n p m=some (aDh p m):=by
 refine Ev.eq ?_;unfold mK;generalize hT:aDh p m=T;unfold aDh at hT;refine Ev.jn (fun z=>z=T) (fun j hj=>aA (eG hn hp) ?_) fun z hz=>Ev.some hz;cases hv:bM p with
 |false=>exact cC (hj _ (by rw [←hT,hv];rfl))
 |true=>
  obtain⟨hl,hd,_⟩:=eN hv;have hc:=nZ (n:=n) (f:=fun q0=>iA n q0) (p:=fun x=> !decide (0≤x∧x≤999)) (l:=m) (fun x _=>by unfold iA;rw [eV];rfl) (by omega) (by omega);have e:(m.any fun x=> !decide (0≤x∧x≤999))= !(m.all fun x=>decide (0≤x∧x≤999)):=by rw [vAZ];simp
  refine cA (aA (aAq hn hl hd) (aH (fun h=>aA hc (hj _ ?_)) fun h=>hj _ ?_))
  ·rw [←hT,hv,decide_eq_true h,e];simp
  rw [←hT,hv,decide_eq_false h];rfl
theorem W7(x:Int):Int.tmod x 1000=if 0≤x then x%1000 else-((-x)%1000):=by
 split
 ·rename_i h;exact Int.tmod_eq_emod_of_nonneg h
 rename_i h;have h2:0≤ -x:=by omega
 have e1:Int.tmod x 1000= -(Int.tmod (-x) 1000):=by rw [Int.neg_tmod,Int.neg_neg]
 rw [e1,Int.tmod_eq_emod_of_nonneg h2]
theorem qN(n:Nat)(x:Int):pK n x=some (x%1000):=by
 unfold pK;rw [W7 x];congr 1;split
 ·rw [aO (n:=x%1000+999) (by omega),aO (by omega),W7,if_pos (by omega)];omega
 rw [aO (n:= -(-x%1000)+999) (by omega),aO (by omega),W7,if_pos (by omega)];omega
def o8:Nat→List Arr→List Int→Expr→List Int→Int
 |0,_,_,_,_=>0
 |L+1,list,m,e,q=>
  if e.kind=1 then e.num
  else if e.kind=2 then dI e.index q%1000
  else if e.kind=3 then m.getD (cK list e.read q 0).toNat 0
  else match e.kids with
   | [a,b]=>if e.kind=4 then(o8 L list m a q+o8 L list m b q)%1000 else if e.kind=5 then(o8 L list m a q-o8 L list m b q)%1000 else(o8 L list m a q*o8 L list m b q)%1000
   |_=>0
def iE(list:List Arr)(m:List Int):Prop:=(m.length:Int)=gQ list∧ ∀x∈m,0≤x∧x≤999
theorem aOW{list:List Arr}{m:List Int}(h:iE list m)(i:Nat):0≤m.getD i 0∧m.getD i 0≤999:=by
 rw [z7];cases hi:m[i]? with
 |none=>simp
 |some x=>exact h.2 x (cR hi)
theorem aGb{list:List Arr}{m:List Int}(hm:iE list m){d:Int}{q:List Int}: ∀{L:Nat} {e:Expr},dQ L e d=true→0≤o8 L list m e q∧o8 L list m e q≤999
 |0,e,h=>by cases h
 |L+1,e,h=>by
  obtain⟨h1,h2,h3⟩:=f9 h;simp only [o8];split
  ·rename_i k1;unfold gD at h2;rw [if_neg (by omega),if_neg (by omega),if_pos k1] at h2;simp only [Bool.and_eq_true,decide_eq_true_eq] at h2;omega
  split
  ·omega
  split
  ·exact aOW hm _
  split
  ·split
   ·omega
   split<;>omega
  omega
theorem aJG{a b:Int}(ha:0≤a∧a≤999)(hb:0≤b∧b≤999):0≤a*b∧a*b≤999000:=by
 constructor
 ·exact vBl ha.1 hb.1
 have:=vBB ha.2 hb.2 (by omega) (by omega);omega
theorem aKD{L:Nat}{e:Expr}{d:Int}(h:dQ (L+1) e d=true)(k1: ¬e.kind=1)(k2: ¬e.kind=2)(k3: ¬e.kind=3):(e.kind=4∨e.kind=5∨e.kind=6)∧ ∃a b,e.kids=[a,b]:=by
 obtain⟨h1,_,_⟩:=f9 h;unfold iL at h1;rw [if_neg (by omega)] at h1;split at h1
 ·rename_i hk;refine⟨hk,?_⟩
  have:e.kids.length=2:=by omega
  match hq:e.kids,this with
  | [a,b],_=>exact⟨a,b,rfl⟩
 omega
theorem yU{p:Prog}(hl:p.arrays.length≤4)(hd:fT p.arrays){m:List Int}(hm:iE p.arrays m){d:Int}{k:Nat}{q:List Int}(hq:qC k q): ∀(L n:Nat) (e:Expr),7000+L≤n→dQ L e d=true→(∀a∈bX L e,0≤cK p.arrays a q 0)→
  i_Program_value (n+1) p m e q=some (o8 L p.arrays m e q)
 |0,n,e,_,h,_=>by cases h
 |L+1,n,e,hn,h,hr=>by
  obtain⟨h1,h2,h3⟩:=f9 h;unfold i_Program_value;refine Ev.eq ?_;simp only [o8];refine aH (fun k1=>Ev.some (by rw [if_pos k1])) fun k1=>?_;rw [if_neg k1];refine aH (fun k2=>?_) fun k2=>?_
  ·rw [if_pos k2];unfold gD at h2;rw [if_pos k2] at h2;simp only [Bool.and_eq_true,b8] at h2;have ha:=h2.2.2.1;exact aA (aI7 (by omega) ha hq) (aA (qN _ _) (Ev.some rfl))
  rw [if_neg k2];refine aH (fun k3=>?_) fun k3=>?_
  ·rw [if_pos k3];have hmem:e.read∈bX (L+1) e:=by simp [bX,k3]
   have ha:=w3 h _ hmem;have hc0:=hr _ hmem;rcases U9 hd e.read q 0 (O3 0) with hc|hc
   ·omega
   have hlt:(cK p.arrays e.read q 0).toNat<m.length:=by have:=hm.1;omega
   have hg:=cP hlt;have hix:ix m (cK p.arrays e.read q 0)=some m[(cK p.arrays e.read q 0).toNat]:=by
    unfold ix;rw [if_pos hc0,hg]
   refine aA (o4 (by omega) hl hd ha hq) (aA hix (Ev.some ?_));rw [z7,hg];rfl
  rw [if_neg k3];obtain⟨hk,a,b,hab⟩:=aKD h k1 k2 k3;obtain⟨n,rfl⟩: ∃j,n=j+1:=⟨n-1,by omega⟩
  have hsa:=h3 a (by rw [hab];simp);have hsb:=h3 b (by rw [hab];simp);have va:=yU hl hd hm hq L n a (by omega) hsa fun x hx=>hr x (by simp only [bX,List.mem_append,List.mem_flatMap];exact .inr ⟨a,by rw [hab];simp,hx⟩);have vb:=yU hl hd hm hq L n b (by omega) hsb fun x hx=>hr x (by simp only [bX,List.mem_append,List.mem_flatMap];exact .inr ⟨b,by rw [hab];simp,hx⟩);have ba:=aGb hm (q:=q) hsa;have bb:=aGb hm (q:=q) hsb;have bm:=aJG ba bb;rw [hab];refine aA (x:=a) rfl (aA va (aA (x:=b) rfl (aA vb ?_)));dsimp only;refine aH (fun k4=>?_) fun k4=>?_
  ·rw [if_pos k4,aO (by omega)];exact aA (qN _ _) (Ev.some rfl)
  rw [if_neg k4];refine aH (fun k5=>?_) fun k5=>?_
  ·rw [if_pos k5,aO (by omega)];exact aA (qN _ _) (Ev.some rfl)
  rw [if_neg k5,aO (by omega)];exact aA (qN _ _) (Ev.some rfl)
def cY(p:Prog)(x:Inst):Prop:= ∃(i k:Nat) (P:Part) (s:Stmt),x.part=i∧x.stmt=k∧p.parts[i]? =some P∧P.body[k]? =some s∧x.point∈dS P
def q6(p:Prog)(x:Inst):Option Stmt:=(p.parts[x.part.toNat]?).bind fun P=>P.body[x.stmt.toNat]?
def runI(p:Prog)(m:List Int)(x:Inst):List Int:=match q6 p x with
 |some s=>m.set (cK p.arrays s.write x.point 0).toNat (o8 5 p.arrays m s.value x.point)
 |none=>m
theorem inst_d{p:Prog}(hv:bM p=true){x:Inst}(hx:cY p x): ∃(i k:Nat) (P:Part) (s:Stmt) (d:Int),x.part=i∧x.stmt=k∧p.parts[i]? =some P∧P.body[k]? =some s∧q6 p x=some s∧fZ s d=true∧qC P.nest.length x.point∧d8 p.arrays s x.point=true:=by obtain⟨hl,hd,h4,hpo,hil⟩:=eN hv;obtain⟨i,k,P,s,e1,e2,e3,e4,e5⟩:=hx;obtain⟨q1,q2,q3,q4⟩:=gS (hpo P (cR e3));obtain⟨hf,hp1,hp2,hp3,hp4⟩:=aD5 q1;have hs:=cR e4;exact⟨i,k,P,s,_,e1,e2,e3,e4,by unfold q6;rw [e1,e2,yF,e3];exact(by rw [yF];exact e4),q3 s hs,hp2 _ e5,(q4 s hs _ e5).1⟩
theorem U8{list:List Arr}{s:Stmt}{q:List Int}(h:d8 list s q=true):0≤cK list s.write q 0∧ ∀a∈bX 5 s.value,0≤cK list a q 0:=by simp only [d8,Bool.and_eq_true,decide_eq_true_eq,List.all_eq_true] at h;exact h
theorem aJF{p:Prog}(hd:fT p.arrays){m:List Int}(hm:iE p.arrays m){a:Access}{q:List Int}(h:0≤cK p.arrays a q 0):(cK p.arrays a q 0).toNat<m.length:=by
 rcases U9 hd a q 0 (O3 0) with hc|hc
 ·omega
 have:=hm.1;omega
theorem aEq{α:Type}{l:List α}{c:Int}(h0:0≤c)(h:c.toNat<l.length)(x:α):dA l c x=some (l.set c.toNat x):=by unfold dA;rw [if_pos ⟨h0,by omega⟩]
theorem aCk{α:Type}{l:List α}{c:Int}(h0:0≤c)(h:c.toNat<l.length):ix l c=some l[c.toNat]:=by unfold ix;rw [if_pos h0,List.getElem?_eq_getElem h]
theorem wW{p:Prog}(hv:bM p=true){m:List Int}(hm:iE p.arrays m){x:Inst}(hx:cY p x):iE p.arrays (runI p m x):=by
 obtain⟨i,k,P,s,d,e1,e2,e3,e4,e5,e6,e7,e8⟩:=inst_d hv hx;unfold runI;rw [e5];refine⟨by rw [vAI];exact hm.1,fun v hv'=>?_⟩;rcases vAW hv' with h|h
 ·exact hm.2 v h
 rw [h];exact aGb hm (jQ e6).2.1
theorem aNf{n:Nat}(hn:7100≤n){p:Prog}(hv:bM p=true){m:List Int}(hm:iE p.arrays m){x:Inst}(hx:cY p x):nQ n p m x=some (runI p m x):=by
 obtain⟨hl,hd,h4,hpo,hil⟩:=eN hv;obtain⟨i,k,P,s,d,e1,e2,e3,e4,e5,e6,e7,e8⟩:=inst_d hv hx;obtain⟨c1,c2⟩:=U8 e8;obtain⟨s1,s2,s3,s4⟩:=jQ e6;obtain⟨n,rfl⟩: ∃j,n=j+1:=⟨n-1,by omega⟩
 have hlt:=aJF hd hm c1;have hst:fB (n+1) p x=some s:=by
  unfold fB;rw [e1,e2,aM e3];show Option.bind (ix P.body (k:Int)) _=_;rw [aM e4];rfl
 refine Ev.eq ?_;unfold nQ;refine aA hst (aA (o4 (by omega) hl hd s1 e7) (aA (yU hl hd hm e7 5 n s.value (by omega) s2 c2) (aA (aCk c1 hlt) (aA (aEq c1 hlt _) (Ev.some ?_)))));unfold runI;rw [e5]
theorem insts_mem{ps:List Part}{x:Inst}(h:x∈insts ps): ∃(i k:Nat) (P:Part) (s:Stmt),x.part=i∧x.stmt=k∧ps[i]? =some P∧P.body[k]? =some s∧x.point∈dS P:=by unfold insts at h;rw [vBM] at h;obtain⟨⟨P,i⟩,h1,h2⟩:=h;unfold instP at h2;rw [vBM] at h2;obtain⟨q,h3,h4⟩:=h2;rw [Q9] at h4;obtain⟨k,h5,rfl⟩:=h4;have hk:=vBQ.1 h5;exact⟨i,k,P,P.body[k],rfl,rfl,vBd.1 h1,cP hk,h3⟩
def cH(p:Prog)(m:List Int)(l:List Inst):List Int:=l.foldl (runI p) m
theorem K9{p:Prog}(hv:bM p=true): ∀{l:List Inst} {m:List Int},(∀x∈l,cY p x)→iE p.arrays m→iE p.arrays (cH p m l)
 | [],_,_,h=>h
 |x::l,m,hl,h=>K9 hv (l:=l) (fun y hy=>hl y (by simp [hy])) (wW hv h (hl x (by simp)))
theorem aEE(p:Prog)(m:List Int)(l:List Inst)(x:Inst):cH p m (l++[x])=runI p (cH p m l) x:=by unfold cH;rw [List.foldl_append];rfl
theorem aPY{p:Prog}{m:List Int}(h:aDh p m=true):bM p=true∧iE p.arrays m:=by simp only [aDh,Bool.and_eq_true,decide_eq_true_eq,List.all_eq_true] at h;exact⟨h.1,h.2.1,h.2.2⟩
theorem aKi{n:Nat}(hn:7100≤n){p:Prog}(hv:bM p=true){m:List Int}(hm:iE p.arrays m){l:List Inst}(hl:l.length≤5000)(hx: ∀x∈l,cY p x){f:List Int→Inst→Option (List Int)}(hf: ∀m x,iE p.arrays m→cY p x→f m x=some (runI p m x)):
  aL (fun again7 ((x4,x5):(List Int)×Int)=>bif decide (x5<(l.length:Int)) then(Option.bind (ix l x5) fun x8=>Option.bind (f x4 x8) fun x9=>Option.bind (fO x4 x9) fun x10=>again7 (x9,wr (x5+1))) else(some (x4,true))) n (m,0)=some (cH p m l,true):=by
 refine Ev.eq ?_;refine Ev.loop (fun x:List Int×Int=> ∃i:Nat,x.2=i∧i≤l.length∧x.1=cH p m (l.take i)) (fun x=>l.length-x.2.toNat) ?_ n _ ⟨0,rfl,by omega,rfl⟩ (by dsimp only;omega);rintro again ⟨x,z⟩ ⟨i,hz,hi,hx1⟩ hr;dsimp only at hz hx1⊢;subst hz;have hok:iE p.arrays x:=by rw [hx1];exact K9 hv (fun y hy=>hx y (vAC hy)) hm
 refine aH (fun hlt=>?_) fun hge=>Ev.some ?_
 ·have hg:=cP (show i<l.length by omega);have hxo:=hx _ (cR hg);have hok2:=wW hv hok hxo;have hsl:fO x (runI p x l[i])=some ():=by
   unfold fO;rw [if_pos]
   have:=hok.1;have:=hok2.1;omega
  refine aA (aM hg) (aA (hf x _ hok hxo) (aA hsl ?_));rw [aO (by omega)];refine hr _ ⟨i+1,by dsimp only;omega,by omega,?_⟩ (by dsimp only;omega);dsimp only;rw [xI,hg];show _=cH p m (l.take i++[l[i]]);rw [aEE,←hx1]
 have hie:i=l.length:=by omega
 rw [hx1,hie,qG]
def aMP(p:Prog)(m:List Int):List Int×Bool:=if aDh p m=true then(cH p m (insts p.parts),true) else([],false)
theorem uI{n:Nat}(hn:7100≤n){p:Prog}(hp:SmP p){m:List Int}(hm:m.length≤1000):gJ n p m=some (aMP p m):=by
 refine Ev.eq ?_;unfold gJ;refine aA (M2 (by omega) hp hm) ?_;unfold aMP;cases hv:aDh p m with
 |false=>exact Ev.some rfl
 |true=>
  obtain⟨h1,h2⟩:=aPY hv;have hil:=(eN h1).2.2.2.2;have hc:m_ownClone m=some m:=by unfold m_ownClone;rw [if_pos (by omega)]
  refine cC (aA hc (aA (uO (by omega) hp) ?_));rw [if_pos h1,if_pos rfl];exact Ev.of (aKi hn h1 h2 (by omega) (fun x hx=>insts_mem hx) fun m x hm hx=>aNf hn h1 hm hx) rfl
end Go.Lift
