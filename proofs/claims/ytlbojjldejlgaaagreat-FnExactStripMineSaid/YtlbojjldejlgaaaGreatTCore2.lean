/- Valid statements. -/
import Derived.Test.YtlbojjldejlgaaaGreatTCore1
set_option maxRecDepth 110000000
set_option linter.unusedVariables false
namespace Go.Lift
open Go
def SmE:Nat→Expr→Prop
 |0,_=>True
 |L+1,e=>e.kids.length≤1100000∧SmA e.index∧B3 e.read.subs∧ ∀k∈e.kids,SmE L k
def cZ:Nat→Expr→Int→Bool
 |0,_,_=>false
 |L+1,e,d=>decide (gS e.kind=e.kids.length)&&(fK e d&&e.kids.all fun k=>cZ L k d)
def rW:Nat→Expr→Int
 |0,_=>1
 |L+1,e=>1+(e.kids.map (rW L)).sum
theorem jV(k:Int):gS k≤2:=by unfold gS;split;omega;split<;>omega
theorem w9(d:Int): ∀(L n:Nat) (e:Expr),5500000+L≤n→L≤1100000→SmE L e→s_l3Shape (n+1) e d (L:Int)=some (cZ L e d)
 |0,n,e,_,_,_=>by unfold s_l3Shape;rfl
 |L+1,n,e,hn,hL,he=>by
  obtain⟨e1,e2,e3,e4⟩:=he;unfold s_l3Shape;refine Ev.eq ?_;refine Ev.jn (fun z=>z= !(decide (gS e.kind=e.kids.length)&&fK e d)) (fun j hj=>aK (fun h=>by omega) fun h=>aB (aB4 n _) (bQ (fun h=>hj _ ?_) fun h=>aB (aDz (by omega) e2 e3 d) (hj _ ?_))) fun z hz=>?_
  ·rw [decide_eq_false h];rfl
  ·rw [decide_eq_true h];rfl
  subst hz;unfold cZ;cases hb:(decide (gS e.kind=e.kids.length)&&fK e d) with
  |false=>exact Ev.some (by rw [←vBc,hb];rfl)
  |true=>
   rw [←vBc,hb,vAS];refine bH ?_;obtain⟨n,rfl⟩: ∃j,n=j+1:=⟨n-1,by omega⟩
   have ew:wr (((L+1:Nat):Int)-1)=(L:Int):=by rw [aM (by omega)];omega
   rw [ew];refine mY (l:=e.kids) (p:=fun _ k=>cZ L k d) (by omega) (by omega) (fun again i x hx hgo hno=>?_) (fun again hall=>?_) (fun⟨i,x,hx,hp⟩=>?_)
   ·have hi:=(cC.1 hx).1;rw [decide_eq_true (show(i:Int)<(e.kids.length:Int) by omega)];refine bV (aB (aS hx) (aB (w9 d L n x (by omega) (by omega) (e4 x (dD hx))) ?_));cases hs:cZ L x d with
    |true=>show Ev (again _) _;rw [aM (by omega)];exact hgo hs
    |false=>exact Ev.some (hno hs)
   ·rw [decide_eq_false (show¬(e.kids.length:Int)<(e.kids.length:Int) by omega)];refine Ev.some ?_;exact(vAH.2 fun c hc=>by obtain⟨i,hi⟩:=vAF hc;exact hall i c hi).symm
   exact(vAJ.2 ⟨x,dD hx,by rw [hp];simp⟩).symm
theorem uP: ∀(L:Nat) (e:Expr),1≤rW L e
 |0,_=>X3 _
 |L+1,e=>by have:=qI (rW L) e.kids fun k _=>uP L k;simp only [rW];omega
theorem aDw{α:Type}(f:α→Int)(M:Int): ∀(l:List α),(∀x∈l,f x≤M)→(l.map f).sum≤l.length*M
 | [],_=>by simp
 |x::l,h=>by have h1:=aDw f M l fun y hy=>h y (by simp [hy]);have h2:=h x (by simp);simp only [List.map_cons,List.sum_cons,List.length_cons,Int.natCast_add,Int.add_mul];omega
theorem iT{L:Nat}{e:Expr}{d:Int}(h:cZ (L+1) e d=true):gS e.kind=e.kids.length∧fK e d=true∧ ∀k∈e.kids,cZ L k d=true:=by simp only [cZ,Bool.and_eq_true,decide_eq_true_eq,List.all_eq_true] at h;exact⟨h.1,h.2.1,h.2.2⟩
theorem aBj: ∀{L:Nat} {e:Expr} {d:Int},cZ L e d=true→rW L e+1≤2^L
 |0,e,d,h=>by cases h
 |L+1,e,d,h=>by
  obtain⟨h1,_,h2⟩:=iT h;have h3:=aDw (rW L) ((2:Int)^L-1) e.kids fun k hk=>by have:=aBj (h2 k hk);omega
  have h4:=jV e.kind;have h5:(e.kids.length:Int)*((2:Int)^L-1)≤2*((2:Int)^L-1):=by
   refine Int.mul_le_mul_of_nonneg_right (by omega) ?_
   have:(0:Int)<2^L:=Int.pow_pos (by omega);omega
  simp only [rW];rw [Int.pow_succ];omega
theorem xB{d:Int}: ∀(L n:Nat) (e:Expr),5500000+L≤n→L≤5→cZ L e d=true→s_l3Count (n+1) e (L:Int)=some (rW L e)
 |0,n,e,_,_,h=>by cases h
 |L+1,n,e,hn,hL,h=>by
  obtain⟨h1,_,h2⟩:=iT h;have h4:=jV e.kind;have hb: ∀k∈e.kids,rW L k≤40:=fun k hk=>by
   have h5:=aBj (h2 k hk);have h6:(2:Int)^L≤40:=by
    match L,hL with
    |0,_=>decide
    |1,_=>decide
    |2,_=>decide
    |3,_=>decide
    |4,_=>decide
   omega
  unfold s_l3Count;refine Ev.eq ?_;obtain⟨n,rfl⟩: ∃j,n=j+1:=⟨n-1,by omega⟩
  have ew:wr (((L+1:Nat):Int)-1)=(L:Int):=by rw [aM (by omega)];omega
  rw [ew];refine Ev.loop (fun x:Int×Int=> ∃i:Nat,x.2=i∧i≤e.kids.length∧x.1=1+((e.kids.take i).map (rW L)).sum) (fun x=>e.kids.length-x.2.toNat) ?_ (n+1) _ ⟨0,rfl,by omega,by simp⟩ (by simp;omega);rintro again ⟨x,k⟩ ⟨i,hk,hi,hx⟩ hr;dsimp only at hk hx⊢;subst hk;refine Ev.jn (fun z=>z=decide (i<e.kids.length)) (fun j hj=>aK (fun h=>hj _ ?_) fun h=>hj _ ?_) fun z hz=>?_
  ·rw [decide_eq_true (show(0:Int)<((L+1:Nat):Int) by omega),decide_eq_true (by omega)]
  ·rw [decide_eq_false (by omega)]
  subst hz;refine aK (fun hlt=>?_) fun hge=>Ev.some ?_
  ·have hk2:=dH hlt;have hm:=dD hk2;refine aB (aS hk2) (aB (xB (d:=d) L n _ (by omega) (by omega) (h2 _ hm)) ?_);have hs:=aDw (rW L) 40 (e.kids.take i) fun y hy=>hb y (vAw hy);have hs2:=qI (rW L) (e.kids.take i) fun y _=>uP L y;have hb2:=hb _ hm;have hb3:=uP L e.kids[i];have hl:((e.kids.take i).length:Int)≤2:=by simp;omega
   rw [aM (n:=x+rW L e.kids[i]) (by omega),aM (by omega)];refine hr _ ⟨i+1,by dsimp only;omega,by omega,?_⟩ (by dsimp only;omega);dsimp only;rw [R5,hk2,vAP,List.sum_append,hx];simp;omega
  have:i=e.kids.length:=by omega
  rw [hx,this,wQ];rfl
def aB9(e:Expr):Bool:=(decide (e.kind=1)||decide (e.num=0))&&((decide (e.kind=2)||iO e.index)&&(decide (e.kind=3)||mF e.read))
theorem oW(d:Int): ∀(L n:Nat) (e:Expr) (c:Int),5500000+L≤n→L≤5→SmE L e→0≤c→c≤12→
  Ev (i_exprScan (n+1) e d (6-(L:Int)) c) (fun r=>r.1=(cZ L e d&&decide (c+rW L e≤12))∧(r.1=true→r.2=c+rW L e))
 |0,n,e,c,hn,hL,he,h0,h1=>by
  unfold i_exprScan;refine Ev.jn (fun z=>z=true) (fun j hj=>aK (fun h=>hj _ rfl) fun h=>hj _ (by decide)) fun z hz=>?_;subst hz;exact Ev.some ⟨rfl,fun h=>by cases h⟩
 |L+1,n,e,c,hn,hL,he,h0,h1=>by
  obtain⟨e1,e2,e3,e4⟩:=he;have hcp:=uP (L+1) e;unfold i_exprScan;have ew:wr (c+1)=c+1:=aM (by omega);have ed:wr (6-(((L+1:Nat)):Int)+1)=6-(L:Int):=by rw [aM (by omega)];omega
  rw [ew,ed];refine Ev.jn (fun z=>z=decide (12<c+1)) (fun j hj=>aK (fun h=>hj _ (decide_eq_true h).symm) fun h=>hj _ ?_) fun z hz=>?_
  ·rw [decide_eq_false h,decide_eq_false (by omega)]
  subst hz;refine aK (fun h=>Ev.some ⟨?_,fun h=>by cases h⟩) fun hc=>?_
  ·rw [decide_eq_false (show¬c+rW (L+1) e≤12 by omega),vAW]
  refine Ev.jn (fun z=>z= !aB9 e) (fun j hj=>?_) fun z hz=>?_
  ·rw [T4,T5];unfold aB9 at hj;simp only [Option.bind];by_cases k1:e.kind=1
   ·have k2: ¬e.kind=2:=by omega
    have k3: ¬e.kind=3:=by omega
    rw [decide_eq_true k1,decide_eq_false k2,decide_eq_false k3] at*;simp only [Bool.not_true,Bool.not_false,cond_true,cond_false,Bool.true_or,Bool.true_and,Bool.false_or] at*;cases ha:iO e.index with
    |false=>exact hj _ (by rw [ha];rfl)
    |true=>exact hj _ (by rw [ha];rfl)
   rw [decide_eq_false k1] at*;simp only [Bool.not_false,cond_true,Bool.false_or] at*;by_cases hnum:e.num=0
   ·rw [decide_eq_true hnum] at*;simp only [Bool.not_true,cond_false,Bool.true_and] at*;by_cases k2:e.kind=2
    ·have k3: ¬e.kind=3:=by omega
     rw [decide_eq_true k2,decide_eq_false k3] at*;simp only [Bool.not_true,Bool.not_false,cond_true,cond_false,Bool.true_or,Bool.true_and,Bool.false_or] at*;exact hj _ rfl
    rw [decide_eq_false k2] at*;simp only [Bool.not_false,cond_true,Bool.false_or] at*;cases ha:iO e.index with
    |false=>exact hj _ (by rw [ha];rfl)
    |true=>
     by_cases k3:e.kind=3
     ·rw [decide_eq_true k3] at*;exact hj _ (by rw [ha];rfl)
     rw [decide_eq_false k3] at*;exact hj _ (by rw [ha];rfl)
   rw [decide_eq_false hnum] at*;exact hj _ rfl
  subst hz;cases hp:aB9 e with
  |false=>
   refine Ev.some ⟨?_,fun h=>by cases h⟩
   have:fK e d=false:=by
    unfold aB9 at hp;unfold fK;by_cases k2:e.kind=2
    ·have k1: ¬e.kind=1:=by omega
     have k3: ¬e.kind=3:=by omega
     rw [if_pos k2];rw [decide_eq_true k2,decide_eq_false k1,decide_eq_false k3] at hp;revert hp;cases decide (e.num=0)<;>cases mF e.read<;>simp
    rw [if_neg k2];by_cases k3:e.kind=3
    ·have k1: ¬e.kind=1:=by omega
     rw [if_pos k3];rw [decide_eq_false k2,decide_eq_false k1,decide_eq_true k3] at hp;revert hp;cases decide (e.num=0)<;>cases iO e.index<;>simp
    rw [if_neg k3];rw [decide_eq_false k2,decide_eq_false k3] at hp;by_cases k1:e.kind=1
    ·rw [if_pos k1];rw [decide_eq_true k1] at hp;revert hp;cases iO e.index<;>cases mF e.read<;>simp
    rw [if_neg k1];rw [decide_eq_false k1] at hp;revert hp;cases decide (e.num=0)<;>cases iO e.index<;>cases mF e.read<;>simp
   unfold cZ;rw [this];simp
  |true=>
   refine bH ?_;unfold aB9 at hp;simp only [Bool.and_eq_true,Bool.or_eq_true,decide_eq_true_eq] at hp;obtain⟨p1,p2,p3⟩:=hp;have leafP: ∀(b:Bool),fK e d=b→gS e.kind=0→ ∀(z:Bool),z=(b&&decide ((e.kids.length:Int)=0))→z=(cZ (L+1) e d&&decide (c+rW (L+1) e≤12))∧(z=true→c+1=c+rW (L+1) e):=by
    intro b hb hk z hz;unfold cZ;rw [hb,hk];by_cases h:e.kids.length=0
    ·have hnil:e.kids=[]:=vAv h;have hcn:rW (L+1) e=1:=by simp [rW,hnil]
     rw [hcn,decide_eq_true (show c+1≤12 by omega)];rw [decide_eq_true (show(e.kids.length:Int)=0 by omega)] at hz;rw [hz,hnil];simp
    rw [decide_eq_false (show¬(e.kids.length:Int)=0 by omega)] at hz;rw [hz,decide_eq_false (show¬(0:Int)=(e.kids.length:Int) by omega)];simp
   by_cases k1:e.kind=1
   ·have k2: ¬e.kind=2:=by omega
    have k3: ¬e.kind=3:=by omega
    rw [decide_eq_true k1];have hown:fK e d=decide (0≤e.num∧e.num≤99):=by
     unfold fK;rw [if_neg k2,if_neg k3,if_pos k1];rcases p2 with h|h
     ·exact absurd h k2
     rcases p3 with h'|h'
     ·exact absurd h' k3
     rw [h,h'];simp
    refine bV (Ev.jn (fun z=>z=(decide (0≤e.num∧e.num≤99)&&decide ((e.kids.length:Int)=0))) (fun j hj=>aB (dV n _ _ _) ?_) fun z hz=>Ev.some ?_)
    ·cases hw:decide (0≤e.num∧e.num≤99) with
     |true=>exact hj _ (by rw [hw];rfl)
     |false=>exact hj _ (by rw [hw];rfl)
    exact leafP _ hown (by unfold gS;rw [if_pos (Or.inl k1)]) _ hz
   rw [decide_eq_false k1];refine bH ?_;have hnum:e.num=0:=by
    rcases p1 with h|h
    ·exact absurd h k1
    exact h
   by_cases k2:e.kind=2
   ·have k3: ¬e.kind=3:=by omega
    rw [decide_eq_true k2];have hown:fK e d=bR e.index d:=by
     unfold fK;rw [if_pos k2,decide_eq_true hnum];rcases p3 with h'|h'
     ·exact absurd h' k3
     rw [h'];simp
    refine bV (Ev.jn (fun z=>z=(bR e.index d&&decide ((e.kids.length:Int)=0))) (fun j hj=>aB (pN (by omega) _ e2) ?_) fun z hz=>Ev.some ?_)
    ·unfold bR at hj;cases hw:bO e.index with
     |false=>exact hj _ (by rw [hw];rfl)
     |true=>
      refine aB (wA (by omega) e2) (aK (fun h=>hj _ ?_) fun h=>hj _ ?_)
      ·rw [hw,decide_eq_true h];rfl
      rw [hw,decide_eq_false h];rfl
    exact leafP _ hown (by unfold gS;rw [if_pos (Or.inr (Or.inl k2))]) _ hz
   rw [decide_eq_false k2];refine bH ?_;have hnaff:iO e.index=true:=by
    rcases p2 with h|h
    ·exact absurd h k2
    exact h
   by_cases k3:e.kind=3
   ·rw [decide_eq_true k3];have hown:fK e d=fO e.read d:=by
     unfold fK;rw [if_neg k2,if_pos k3,decide_eq_true hnum,hnaff];simp
    refine bV (Ev.jn (fun z=>z=(fO e.read d&&decide ((e.kids.length:Int)=0))) (fun j hj=>aB (vF (by omega) e3 d) ?_) fun z hz=>Ev.some ?_)
    ·cases hw:fO e.read d with
     |false=>exact hj _ (by rw [hw];rfl)
     |true=>exact hj _ (by rw [hw];rfl)
    exact leafP _ hown (by unfold gS;rw [if_pos (Or.inr (Or.inr k3))]) _ hz
   rw [decide_eq_false k3];refine bH ?_;have hown:fK e d=true:=by
    unfold fK;rw [if_neg k2,if_neg k3,if_neg k1,decide_eq_true hnum,hnaff];rcases p3 with h'|h'
    ·exact absurd h' k3
    rw [h'];rfl
   have hop:aA3 n e.kind=some (decide (4≤e.kind∧e.kind≤6)):=by unfold aA3;rw [dV];rfl
   have hkn:(gS e.kind=2↔(4≤e.kind∧e.kind≤6))∧(gS e.kind=2∨gS e.kind= -1):=by
    unfold gS;rw [if_neg (by omega)];split<;>omega
   refine Ev.jn (fun z=>z= !(decide (4≤e.kind∧e.kind≤6)&&decide ((e.kids.length:Int)=2))) (fun j hj=>aB hop ?_) fun z hz=>?_
   ·cases hw:decide (4≤e.kind∧e.kind≤6) with
    |false=>exact hj _ (by rw [hw];rfl)
    |true=>exact hj _ (by rw [hw];rfl)
   subst hz;by_cases hk:(4≤e.kind∧e.kind≤6)∧(e.kids.length:Int)=2
   ·rw [decide_eq_true hk.1,decide_eq_true hk.2];refine bH ?_;obtain⟨a,b,hab⟩: ∃a b,e.kids=[a,b]:=by
     have:e.kids.length=2:=by omega
     match hq:e.kids,this with
     | [a,b],_=>exact⟨a,b,rfl⟩
    have hsh:cZ (L+1) e d=(cZ L a d&&cZ L b d):=by
     show(decide (gS e.kind=e.kids.length)&&(fK e d&&e.kids.all fun k=>cZ L k d))=_;rw [hown,hab,decide_eq_true (show gS e.kind=(([a,b]:List Expr).length:Int) by rw [hkn.1.2 hk.1];rfl)];simp
    have hcn:rW (L+1) e=1+(rW L a+rW L b):=by simp [rW,hab]
    have ca:=uP L a;have cb:=uP L b;rw [hsh,hcn];obtain⟨n,rfl⟩: ∃j,n=j+1:=⟨n-1,by omega⟩
    refine Ev.jn (fun z:Int×Bool=>z.2=(cZ L a d&&cZ L b d&&decide (c+(1+(rW L a+rW L b))≤12))∧(z.2=true→z.1=c+(1+(rW L a+rW L b)))) (fun j hj=>?_) fun z hz=>Ev.some hz;refine aB (x:=a) (by rw [hab];rfl) (kD (oW d L n a (c+1) (by omega) (by omega) (e4 a (by rw [hab];simp)) (by omega) (by omega)) fun r ⟨r1,r2⟩=>?_);cases hr:r.1 with
    |false=>
     refine hj _ ⟨?_,fun h=>by cases h⟩;rw [hr] at r1;show false=_;by_cases hsa:cZ L a d=true
     ·rw [hsa,vAS] at r1
      have:=of_decide_eq_false r1.symm;rw [decide_eq_false (show¬c+(1+(rW L a+rW L b))≤12 by omega),vAW]
     rw [Bool.eq_false_iff.2 hsa];rfl
    |true=>
     have r2:=r2 hr;rw [hr] at r1;have r1:=r1.symm;rw [vBx,decide_eq_true_eq] at r1;refine aB (x:=b) (by rw [hab];rfl) ?_;rw [r2];refine kD (oW d L n b (c+1+rW L a) (by omega) (by omega) (e4 b (by rw [hab];simp)) (by omega) (by omega)) fun q ⟨q1,q2⟩=>hj _ ⟨?_,fun h=>?_⟩
     ·show q.1=_;rw [q1,r1.1,vAS];congr 1;exact decide_eq_decide.2 (by omega)
     show q.2=_;rw [q2 h];omega
   have hf:cZ (L+1) e d=false:=by
    unfold cZ;rw [decide_eq_false (show¬gS e.kind=(e.kids.length:Int) by
     intro h;rcases hkn.2 with h2|h2
     ·exact hk ⟨hkn.1.1 h2,by omega⟩
     omega)]
    rfl
   have:(decide (4≤e.kind∧e.kind≤6)&&decide ((e.kids.length:Int)=2))=false:=by
    by_cases g:4≤e.kind∧e.kind≤6
    ·rw [decide_eq_false (show¬(e.kids.length:Int)=2 from fun h=>hk ⟨g,h⟩),vAW]
    rw [decide_eq_false g];rfl
   rw [this,hf];exact Ev.some ⟨rfl,fun h=>by cases h⟩
def fB(s:Stmt)(d:Int):Bool:=decide (0≤d∧d≤4)&&(fO s.write d&&(cZ 5 s.value d&&decide (rW 5 s.value≤12)))
def SmS(s:Stmt):Prop:=B3 s.write.subs∧SmE 5 s.value
theorem M6{n:Nat}(hn:6600000≤n){s:Stmt}(h:SmS s)(d:Int):oE n s d=some (fB s d):=by
 obtain⟨n,rfl⟩: ∃j,n=j+1:=⟨n-1,by omega⟩
 refine Ev.eq ?_;unfold oE;generalize hT:fB s d=T;unfold fB at hT;refine Ev.jn (fun z:Int×Bool=>z.2=T) (fun j hj=>aB (dV _ _ _ _) ?_) fun z hz=>Ev.some hz;cases h1:decide (0≤d∧d≤4) with
 |false=>exact hj (0,false) (by rw [←hT,h1];rfl)
 |true=>
  refine bV (aB (vF (by omega) h.1 d) ?_);cases h2:fO s.write d with
  |false=>exact hj (0,false) (by rw [←hT,h1,h2];rfl)
  |true=>
   refine bV (kD (oW d 5 n s.value 0 (by omega) (by omega) h.2 (by omega) (by omega)) fun r ⟨r1,r2⟩=>hj _ ?_);rw [←hT,h1,h2];show r.1=_;rw [r1];simp
theorem J5{n:Nat}(hn:6600000≤n){s:Stmt}(h:SmS s)(d:Int):n5 n s d=some (fB s d):=by
 obtain⟨n,rfl⟩: ∃j,n=j+1:=⟨n-1,by omega⟩
 refine Ev.eq ?_;unfold n5;generalize hT:fB s d=T;generalize hB:(decide (0≤d∧d≤4)&&(fO s.write d&&cZ 5 s.value d))=B;have hTB:T=(B&&decide (rW 5 s.value≤12)):=by rw [←hT,←hB];unfold fB;simp only [Bool.and_assoc]
 refine Ev.jn (fun z=>z= !B) (fun j hj=>aK (fun h=>hj _ ?_) fun h0=>aK (fun h=>hj _ ?_) fun h4=>aB (u4 (by omega) h.1 d) ?_) fun z hz=>?_
 ·rw [←hB,decide_eq_false (show¬(0≤d∧d≤4) by omega)];rfl
 ·rw [←hB,decide_eq_false (show¬(0≤d∧d≤4) by omega)];rfl
 ·rw [decide_eq_true (show 0≤d∧d≤4 by omega)] at hB;cases h2:fO s.write d with
  |false=>exact bV (hj _ (by rw [←hB,h2];rfl))
  |true=>exact bH (aB (w9 d 5 n s.value (by omega) (by omega) h.2) (hj _ (by rw [←hB,h2];rfl)))
 subst hz;cases hb:B with
 |false=>exact Ev.some (by rw [hTB,hb];rfl)
 |true=>
  rw [hb] at hB;simp only [Bool.and_eq_true] at hB;refine bH (aB (xB (d:=d) 5 n s.value (by omega) (by omega) hB.2.2) (Ev.some ?_));rw [hTB,hb];rfl
def iK(ds:List Int):Bool:=decide (1≤ds.length∧ds.length≤2)&&ds.all fun d=>decide (1≤d∧d≤6)
def vX(list:List Arr)(i:Nat)(x:Arr):Bool:=match i with
 |0=>true
 |i+1=>match list[i]? with
  |some y=>Op.bytesLess y.name x.name
  |none=>false
def F6(list:List Arr)(i:Nat)(x:Arr):Bool:=l8 x.name&&(vX list i x&&iK x.dims)
def fS(list:List Arr):Bool:=zZ (F6 list) list&&decide (list.length≤4)
def SmR(list:List Arr):Prop:=list.length≤1100000∧ ∀x∈list,x.dims.length≤1100000
theorem C4{list:List Arr}{i:Nat}{x y:Arr}(h:list[i]? =some y):vX list (i+1) x=Op.bytesLess y.name x.name:=by simp only [vX,h]
theorem aIR(ds:List Int):(ds.any fun d=> !decide (1≤d∧d≤6))= !(ds.all fun d=>decide (1≤d∧d≤6)):=by rw [vAZ];simp
theorem T6{n:Nat}(hn:6600000≤n){list:List Arr}(h:SmR list):q7 n list=some (fS list):=by
 obtain⟨h0,h1⟩:=h;refine Ev.eq ?_;unfold q7;refine mY (l:=list) (p:=F6 list) (by omega) (by omega) (fun again i x hx hgo hno=>?_) (fun again hall=>?_) (fun⟨i,x,hx,hp⟩=>?_)
 ·have hi:=(cC.1 hx).1;have hm:=h1 x (dD hx);rw [decide_eq_true (show(i:Int)<(list.length:Int) by omega)];have hd:bU n x.dims (fun q0=>eM n q0)=some (!(x.dims.all fun d=>decide (1≤d∧d≤6))):=by
   rw [←aIR];exact rC (fun d _=>by unfold eM;rw [dV];rfl) (by omega) (by omega)
  refine bV (aB (aS hx) (Ev.jn (fun z=>z= !F6 list i x) (fun j hj=>aB (xP n _) ?_) fun z hz=>?_))
  ·unfold F6 iK at hj;cases g1:l8 x.name with
   |false=>exact bV (hj _ (by rw [g1];rfl))
   |true=>
    rw [g1] at hj;refine bH ?_;rw [qZ];have hlast:vX list i x=true→Ev (Option.bind (some (decide (1≤x.dims.length∧x.dims.length≤2))) fun x6=>bif !x6 then j true else Option.bind (bU n x.dims fun q0=>eM n q0) fun x7=>j x7) (fun r=>r=fS list):=by
     intro hp;rw [hp] at hj;show Ev (bif _ then _ else _) _;cases g2:decide (1≤x.dims.length∧x.dims.length≤2) with
     |false=>exact bV (hj _ (by rw [g2];rfl))
     |true=>exact bH (aB hd (hj _ (by rw [g2];rfl)))
    cases i with
    |zero=>exact aK (fun h=>absurd h (by decide)) (fun _=>hlast rfl)
    |succ i=>
     have hy:=dH (show i<list.length by omega);have e:wr (((i+1:Nat):Int)-1)=(i:Int):=by rw [aM (by omega)];omega
     rw [e];refine aK (fun _=>aB (aS hy) ?_) fun h=>absurd (show(0:Int)<((i+1:Nat):Int) by omega) h;have hpp:=C4 (x:=x) hy;cases g3:Op.bytesLess list[i].name x.name with
     |false=>exact bV (hj _ (by rw [hpp,g3];rfl))
     |true=>exact bH (hlast (by rw [hpp,g3]))
  subst hz;cases hb:F6 list i x with
  |true=>show Ev (again _) _;rw [aM (by omega)];exact hgo hb
  |false=>exact Ev.some (hno hb)
 ·rw [decide_eq_false (show¬(list.length:Int)<(list.length:Int) by omega)];refine Ev.some ?_;unfold fS;rw [oB hall,vAS];exact decide_eq_decide.2 (by omega)
 unfold fS;rw [mP hx hp];rfl
theorem aHE(s:List UInt8):(!Op.bytesLess s [68]&& !s==[68])= !(Op.bytesLess s [68]||s==[68]):=by cases Op.bytesLess s [68]<;>cases (s==[68])<;>rfl
theorem S5{n:Nat}(hn:6600000≤n){list:List Arr}(h:SmR list):qL n list=some (fS list):=by
 obtain⟨h0,h1⟩:=h;refine Ev.eq ?_;unfold qL;refine mY (l:=list) (p:=F6 list) (by omega) (by omega) (fun again i x hx hgo hno=>?_) (fun again hall=>?_) (fun⟨i,x,hx,hp⟩=>?_)
 ·have hi:=(cC.1 hx).1;have hm:=h1 x (dD hx);rw [decide_eq_true (show(i:Int)<(list.length:Int) by omega)];refine bV (aB (aS hx) (Ev.jn (fun z=>z= !(l8 x.name&&(vX list i x&&decide (1≤x.dims.length∧x.dims.length≤2)))) (fun j hj=>?_) fun z hz=>?_))
  ·refine bQ (fun hl=>hj _ ?_) fun hl=>?_
   ·rw [qT (by omega)];rfl
   obtain⟨b,hb⟩:=aLC (show x.name.length=1 by omega);rw [aHE];have hless: ∀(y:Arr),Op.bytesLess y.name x.name=Op.bytesLess y.name [b]:=fun y=>by rw [hb]
   have hnm:l8 x.name=decide (65≤b.toNat∧b.toNat≤68):=by rw [hb];rfl
   have l1:Op.bytesLess x.name [65]=decide (b.toNat<65):=by rw [hb];exact L4 b
   have l2:(Op.bytesLess x.name [68]||x.name==[68])=decide (b.toNat≤68):=by rw [hb];exact L3 b
   rw [l1,l2];rw [hnm] at hj;refine aK (fun g1=>hj _ ?_) fun g1=>bQ (fun g2=>hj _ ?_) fun g2=>?_
   ·rw [decide_eq_false (show¬(65≤b.toNat∧b.toNat≤68) by omega)];rfl
   ·rw [decide_eq_false (show¬(65≤b.toNat∧b.toNat≤68) by omega)];rfl
   rw [decide_eq_true (show 65≤b.toNat∧b.toNat≤68 by omega)] at hj;have hlast:vX list i x=true→Ev (bif decide ((x.dims.length:Int)<1) then j true else j (decide ((2:Int)<(x.dims.length:Int)))) (fun r=>r=fS list):=by
    intro hp;rw [hp] at hj;refine aK (fun h=>hj _ ?_) fun h=>hj _ ?_
    ·rw [decide_eq_false (show¬(1≤x.dims.length∧x.dims.length≤2) by omega)];rfl
    by_cases h2:x.dims.length≤2
    ·rw [decide_eq_false (show¬(2:Int)<(x.dims.length:Int) by omega),decide_eq_true (show 1≤x.dims.length∧x.dims.length≤2 by omega)];rfl
    rw [decide_eq_true (show(2:Int)<(x.dims.length:Int) by omega),decide_eq_false (show¬(1≤x.dims.length∧x.dims.length≤2) by omega)];rfl
   cases i with
   |zero=>exact aK (fun h=>absurd h (by decide)) (fun _=>hlast rfl)
   |succ i=>
    have hy:=dH (show i<list.length by omega);have e:wr (((i+1:Nat):Int)-1)=(i:Int):=by rw [aM (by omega)];omega
    rw [e];refine aK (fun _=>aB (aS hy) ?_) fun h=>absurd (show(0:Int)<((i+1:Nat):Int) by omega) h;have hpp:=C4 (x:=x) hy;cases g3:Op.bytesLess list[i].name x.name with
    |false=>exact bV (hj _ (by rw [hpp,g3];rfl))
    |true=>exact bH (hlast (by rw [hpp,g3]))
  subst hz;cases hb:(l8 x.name&&(vX list i x&&decide (1≤x.dims.length∧x.dims.length≤2))) with
  |false=>
   refine Ev.some (hno ?_);unfold F6 iK;rw [←vBc,←vBc];rw [←vBc] at hb;rw [hb];rfl
  |true=>
   have hap:F6 list i x=x.dims.all (fun d=>decide (1≤d∧d≤6)):=by
    unfold F6 iK;rw [←vBc,←vBc];rw [←vBc] at hb;rw [hb];rfl
   refine bH ?_;refine Ev.loop (fun y:Int=> ∃k:Nat,y=k∧k≤x.dims.length∧ ∀(t:Nat) d,t<k→x.dims[t]? =some d→decide (1≤d∧d≤6)=true) (fun y=>x.dims.length-y.toNat) ?_ n _ ⟨0,rfl,by omega,fun t d h=>by omega⟩ (by simp;omega);rintro again8 y ⟨k,rfl,hk,ha⟩ hr;refine aK (fun hlt=>?_) fun hge=>?_
   ·have hd:=dH (show k<x.dims.length by omega);have ek:wr ((k:Int)+1)=((k+1:Nat):Int):=by rw [aM (by omega)];omega
    refine Ev.jn (fun z=>z= !decide (1≤x.dims[k]∧x.dims[k]≤6)) (fun j hj=>aB (aS hd) (aK (fun h=>hj _ ?_) fun h=>hj _ ?_)) fun z hz=>?_
    ·rw [decide_eq_false (by omega)];rfl
    ·by_cases h6:x.dims[k]≤6
     ·rw [decide_eq_false (show¬(6:Int)<x.dims[k] by omega),decide_eq_true (show 1≤x.dims[k]∧x.dims[k]≤6 by omega)];rfl
     rw [decide_eq_true (show(6:Int)<x.dims[k] by omega),decide_eq_false (show¬(1≤x.dims[k]∧x.dims[k]≤6) by omega)];rfl
    subst hz;cases hb2:decide (1≤x.dims[k]∧x.dims[k]≤6) with
    |false=>
     refine Ev.some (hno ?_);rw [hap];exact vAJ.2 ⟨_,dD hd,by rw [hb2];simp⟩
    |true=>
     rw [ek];refine hr _ ⟨k+1,rfl,by omega,fun t d ht hd2=>?_⟩ (by omega);by_cases htk:t=k
     ·subst htk;rw [hd] at hd2;cases hd2;exact hb2
     exact ha t d (by omega) hd2
   have e:wr ((i:Int)+1)=(i:Int)+1:=aM (by omega);rw [e];refine hgo ?_;rw [hap];refine vAH.2 fun d hd=>?_;obtain⟨t,ht⟩:=vAF hd
   have:=(cC.1 ht).1;exact ha t d (by omega) ht
 ·rw [decide_eq_false (show¬(list.length:Int)<(list.length:Int) by omega)];refine Ev.some ?_;unfold fS;rw [oB hall,vAS];exact decide_eq_decide.2 (by omega)
 unfold fS;rw [mP hx hp];rfl
def szL:List Int→Int
 | []=>1
 |d::ds=>d*szL ds
theorem aIG{ds:List Int}(h:iK ds=true):(∃a,ds=[a]∧1≤a∧a≤6)∨ ∃a b,ds=[a,b]∧(1≤a∧a≤6)∧1≤b∧b≤6:=by
 simp only [iK,Bool.and_eq_true,decide_eq_true_eq,List.all_eq_true] at h;obtain⟨⟨h1,h2⟩,h3⟩:=h
 match ds,h1,h2,h3 with
 | [a],_,_,h3=>exact .inl ⟨a,rfl,h3 a (by simp)⟩
 | [a,b],_,_,h3=>exact .inr ⟨a,b,rfl,h3 a (by simp),h3 b (by simp)⟩
theorem aMW{a b:Int}(ha:1≤a∧a≤6)(hb:1≤b∧b≤6):1≤a*b∧a*b≤36:=by
 constructor
 ·have:=vBz ha.1 hb.1 (by omega) (by omega);omega
 have:=vBz ha.2 hb.2 (by omega) (by omega);omega
theorem aKz{ds:List Int}(h:iK ds=true):1≤szL ds∧szL ds≤36:=by
 rcases aIG h with ⟨a,rfl,h1⟩|⟨a,b,rfl,h1,h2⟩
 ·simp [szL];omega
 have:=aMW h1 h2;simp [szL];omega
theorem B9{n:Nat}(hn:6600000≤n){x:Arr}(h:iK x.dims=true):w7 n x=some (szL x.dims):=by
 obtain⟨n,rfl⟩: ∃j,n=j+3:=⟨n-3,by omega⟩
 unfold w7;rcases aIG h with ⟨a,e,h1⟩|⟨a,b,e,h1,h2⟩
 ·rw [e];have e1:wr a=a:=aM (by omega);simp [aL,ix,szL,e1,show wr 1=1 from aM (by omega)]
 rw [e]
 have:=aMW h1 h2;have e1:wr a=a:=aM (by omega);have e2:wr (a*b)=a*b:=aM (by omega);simp [aL,ix,szL,e1,e2,show wr 1=1 from aM (by omega),show wr 2=2 from aM (by omega)]
theorem aGb{n:Nat}(hn:6600000≤n){x:Arr}(h:iK x.dims=true):q8 n x=some (szL x.dims):=B9 hn h
def tD:List Affine→List Int→List Int→Int→Int
 |s::ss,d::ds,p,acc=>if 0≤fN s p∧fN s p<d then tD ss ds p (acc*d+fN s p) else-1
 |_,_,_,acc=>acc
def iS:List Arr→Access→List Int→Int→Int
 | [],_,_,_=> -1
 |x::xs,a,p,base=>if x.name=a.array then(if a.subs.length=x.dims.length then(if tD a.subs x.dims p 0<0 then-1 else base+tD a.subs x.dims p 0) else-1) else iS xs a p (base+szL x.dims)
def oJ(xs:List Arr):Prop:= ∀x∈xs,iK x.dims=true
def aMK(xs:List Arr):Int:=(xs.map fun x=>szL x.dims).sum
theorem rS{a:Access}{d:Int}(h:fO a d=true):1≤a.subs.length∧a.subs.length≤2∧ ∀x∈a.subs,bO x=true:=by
 simp only [fO,Bool.and_eq_true,decide_eq_true_eq,List.all_eq_true] at h;refine⟨h.2.2.1,h.2.2.2,fun x hx=>?_⟩
 have:=h.1 x hx;simp only [bR,Bool.and_eq_true] at this;exact this.1
theorem iR{α:Type}{l:List α}{i:Nat}{x:α}(h:l[i]? =some x):l.drop i=x::l.drop (i+1):=by obtain⟨h1,h2⟩:=cC.1 h;rw [List.drop_eq_getElem_cons h1,h2]
theorem aC8{a d v:Int}(ha:0≤a∧a≤36)(hd:1≤d∧d≤6)(hv:0≤v∧v<d):0≤a*d∧a*d≤216∧0≤a*d+v:=by have h1:=vBj ha.1 (show 0≤d by omega);have h2:=vBz ha.2 hd.2 (by omega) (by omega);omega
theorem aHU{n:Nat}(hn:6600000≤n){a:Access}(h1:a.subs.length≤2)(h2: ∀x∈a.subs,bO x=true){ds:List Int}(hd:iK ds=true)(hl:a.subs.length=ds.length){k:Nat}{p:List Int}(hp:o5 k p)(base:Int)(hb:0≤base∧base≤500000000):
  aL (fun again8 ((x6,x7):Int×Int)=>bif decide (x7<(a.subs.length:Int)) then(Option.bind (ix a.subs x7) fun x9=>Option.bind (cN n x9 p) fun x10=>Option.bind (ix ds x7) fun x11=>Option.bind (b8 n x10 0 (wr (x11-1))) fun x12=>bif !x12 then(some (-1)) else(again8 (wr ((wr (x6*x11))+x10),wr (x7+1)))) else(some (wr (base+x6)))) n (0,0)
   =some (if tD a.subs ds p 0<0 then-1 else base+tD a.subs ds p 0):=by
 have hdm: ∀d∈ds,1≤d∧d≤6:=by
  simp only [iK,Bool.and_eq_true,decide_eq_true_eq,List.all_eq_true] at hd;exact fun d h=>hd.2 d h
 refine Ev.eq ?_;refine Ev.loop (fun x:Int×Int=> ∃i:Nat,x.2=i∧i≤a.subs.length∧0≤x.1∧x.1≤36*i∧(i=0→x.1=0)∧(i=1→x.1≤5)∧tD a.subs ds p 0=tD (a.subs.drop i) (ds.drop i) p x.1) (fun x=>a.subs.length-x.2.toNat) ?_ n _ ⟨0,rfl,by omega,by simp,by simp,fun _=>rfl,fun h=>by omega,rfl⟩ (by simp;omega);rintro again ⟨x,z⟩ ⟨i,hz,hi,hx0,hx1,hx2,hx3,hx⟩ hr;dsimp only at hz hx0 hx1 hx2 hx3 hx⊢;subst hz;refine aK (fun hlt=>?_) fun hge=>Ev.some ?_
 ·have hs:=dH (show i<a.subs.length by omega);have hdd:=dH (show i<ds.length by omega);have hdb:=hdm _ (dD hdd);have ew:wr (ds[i]-1)=ds[i]-1:=aM (by omega);rw [iR hs,iR hdd] at hx;simp only [tD] at hx;refine aB (aS hs) (aB (aHV (by omega) (h2 _ (dD hs)) hp) (aB (aS hdd) (aB (dV _ _ _ _) ?_)));rw [ew];by_cases hc:0≤fN a.subs[i] p∧fN a.subs[i] p<ds[i]
  ·rw [if_pos hc] at hx;rw [decide_eq_true (show 0≤fN a.subs[i] p∧fN a.subs[i] p≤ds[i]-1 by omega)];obtain⟨g1,g2,g3⟩:=aC8 (a:=x) (by omega) hdb hc;refine bH ?_;rw [aM (n:=x*ds[i]) (by omega),aM (n:=x*ds[i]+fN a.subs[i] p) (by omega),aM (by omega)];have hi01:i=0∨i=1:=by omega
   refine hr _ ⟨i+1,by dsimp only;omega,by omega,by dsimp only;omega,?_,fun h=>by omega,fun h=>?_,hx⟩ (by dsimp only;omega)
   ·dsimp only;rcases hi01 with rfl|rfl
    ·rw [hx2 rfl];omega
    have:=hx3 rfl
    have:=vBz this hdb.2 (by omega) (by omega);omega
   dsimp only
   have:i=0:=by omega
   subst this;rw [hx2 rfl];omega
  rw [if_neg hc] at hx;rw [decide_eq_false (show¬(0≤fN a.subs[i] p∧fN a.subs[i] p≤ds[i]-1) by omega)];refine bV (Ev.some ?_);rw [hx];rfl
 have hie:i=a.subs.length:=by omega
 have hdr:tD (a.subs.drop i) (ds.drop i) p x=x:=by
  rw [hie,vBy];unfold tD;rfl
 rw [hdr] at hx;rw [hx,if_neg (by omega),aM (by omega)]
theorem aHo{n:Nat}(hn:6600000≤n){a:Access}(h0:1≤a.subs.length)(h1:a.subs.length≤2)(h2: ∀x∈a.subs,bO x=true){ds:List Int}(hd:iK ds=true){k:Nat}{p:List Int}(hp:o5 k p)(base:Int)(hb:0≤base∧base≤500000000):
  aL (fun again8 ((x6,x7):Int×Int)=>bif decide (x7<(a.subs.length:Int)) then(bif !decide ((a.subs.length:Int)=(ds.length:Int)) then(some (-1)) else(Option.bind (ix a.subs x7) fun x9=>Option.bind (iM n x9 p) fun x10=>jn (fun(x13:Bool)=>bif x13 then(some (-1)) else(Option.bind (ix ds x7) fun x14=>again8 (wr ((wr (x6*x14))+x10),wr (x7+1)))) fun j11=>bif decide (x10<0) then(j11 true) else(Option.bind (ix ds x7) fun x12=>j11 (decide (x12≤x10))))) else(some (wr (base+x6)))) n (0,0)
   =some (if a.subs.length=ds.length then(if tD a.subs ds p 0<0 then-1 else base+tD a.subs ds p 0) else-1):=by
 by_cases hl:a.subs.length=ds.length
 ·rw [if_pos hl];rw [decide_eq_true (show(a.subs.length:Int)=(ds.length:Int) by omega)];have hdm: ∀d∈ds,1≤d∧d≤6:=by
   simp only [iK,Bool.and_eq_true,decide_eq_true_eq,List.all_eq_true] at hd;exact fun d h=>hd.2 d h
  refine Ev.eq ?_;refine Ev.loop (fun x:Int×Int=> ∃i:Nat,x.2=i∧i≤a.subs.length∧0≤x.1∧x.1≤36*i∧(i=0→x.1=0)∧(i=1→x.1≤5)∧tD a.subs ds p 0=tD (a.subs.drop i) (ds.drop i) p x.1) (fun x=>a.subs.length-x.2.toNat) ?_ n _ ⟨0,rfl,by omega,by simp,by simp,fun _=>rfl,fun h=>by omega,rfl⟩ (by simp;omega);rintro again ⟨x,z⟩ ⟨i,hz,hi,hx0,hx1,hx2,hx3,hx⟩ hr;dsimp only at hz hx0 hx1 hx2 hx3 hx⊢;subst hz;refine aK (fun hlt=>?_) fun hge=>Ev.some ?_
  ·have hs:=dH (show i<a.subs.length by omega);have hdd:=dH (show i<ds.length by omega);have hdb:=hdm _ (dD hdd);rw [iR hs,iR hdd] at hx;simp only [tD] at hx;refine bH (aB (aS hs) (aB (aHp (by omega) (h2 _ (dD hs)) hp) (Ev.jn (fun z=>z= !decide (0≤fN a.subs[i] p∧fN a.subs[i] p<ds[i])) (fun j hj=>aK (fun h=>hj _ ?_) fun h=>aB (aS hdd) (hj _ ?_)) fun z hz=>?_)))
   ·rw [decide_eq_false (by omega)];rfl
   ·by_cases hc:ds[i]≤fN a.subs[i] p
    ·rw [decide_eq_true hc,decide_eq_false (by omega)];rfl
    rw [decide_eq_false hc,decide_eq_true (by omega)];rfl
   subst hz;by_cases hc:0≤fN a.subs[i] p∧fN a.subs[i] p<ds[i]
   ·rw [if_pos hc] at hx;rw [decide_eq_true hc];obtain⟨g1,g2,g3⟩:=aC8 (a:=x) (by omega) hdb hc;refine bH (aB (aS hdd) ?_);rw [aM (n:=x*ds[i]) (by omega),aM (n:=x*ds[i]+fN a.subs[i] p) (by omega),aM (by omega)];have hi01:i=0∨i=1:=by omega
    refine hr _ ⟨i+1,by dsimp only;omega,by omega,by dsimp only;omega,?_,fun h=>by omega,fun h=>?_,hx⟩ (by dsimp only;omega)
    ·dsimp only;rcases hi01 with rfl|rfl
     ·rw [hx2 rfl];omega
     have:=hx3 rfl
     have:=vBz this hdb.2 (by omega) (by omega);omega
    dsimp only
    have:i=0:=by omega
    subst this;rw [hx2 rfl];omega
   rw [if_neg hc] at hx;rw [decide_eq_false hc];refine bV (Ev.some ?_);rw [hx];rfl
  have hie:i=a.subs.length:=by omega
  have hdr:tD (a.subs.drop i) (ds.drop i) p x=x:=by
   rw [hie,vBy];unfold tD;rfl
  rw [hdr] at hx;rw [hx,if_neg (by omega),aM (by omega)]
 rw [if_neg hl,decide_eq_false (show¬(a.subs.length:Int)=(ds.length:Int) by omega)];obtain⟨n,rfl⟩: ∃j,n=j+1:=⟨n-1,by omega⟩
 simp only [aL];rw [decide_eq_true (show(0:Int)<(a.subs.length:Int) by omega)];rfl
theorem aAh{n:Nat}(hn:6600000≤n){p:Prog}(hl:p.arrays.length≤4)(hd:oJ p.arrays){a:Access}{d:Int}(ha:fO a d=true){k:Nat}{q:List Int}(hq:o5 k q):gW n p a q=some (iS p.arrays a q 0):=by
 obtain⟨a0,a1,a2⟩:=rS ha;refine Ev.eq ?_;unfold gW;refine Ev.loop (fun x:Int×Int=> ∃i:Nat,x.2=i∧i≤p.arrays.length∧0≤x.1∧x.1≤36*i∧iS p.arrays a q 0=iS (p.arrays.drop i) a q x.1) (fun x=>p.arrays.length-x.2.toNat) ?_ n _ ⟨0,rfl,by omega,by simp,by simp,rfl⟩ (by simp;omega);rintro again ⟨x,z⟩ ⟨i,hz,hi,hx0,hx1,hx⟩ hr;dsimp only at hz hx0 hx1 hx⊢;subst hz;refine aK (fun hlt=>?_) fun hge=>Ev.some ?_
 ·have hy:=dH (show i<p.arrays.length by omega);have hdy:=hd _ (dD hy);have hsz:=aKz hdy;rw [iR hy] at hx;simp only [iS] at hx;refine aB (aS hy) (bQ (fun hne=>?_) fun he=>?_)
  ·rw [if_neg hne] at hx;refine aB (aGb hn hdy) ?_;rw [aM (n:=x+szL p.arrays[i].dims) (by omega),aM (by omega)];exact hr _ ⟨i+1,by dsimp only;omega,by omega,by dsimp only;omega,by dsimp only;omega,hx⟩ (by dsimp only;omega)
  rw [if_pos he] at hx;refine bQ (fun hne=>Ev.some ?_) fun hle=>?_
  ·rw [hx,if_neg (by omega)]
  have hle':a.subs.length=p.arrays[i].dims.length:=by omega
  rw [if_pos hle'] at hx;exact Ev.of (aHU hn a1 a2 hdy hle' hq x (by omega)) hx.symm
 have hie:i=p.arrays.length:=by omega
 rw [hx,hie,vBy];rfl
theorem X9{n:Nat}(hn:6600000≤n){list:List Arr}(hl:list.length≤4)(hd:oJ list){a:Access}{d:Int}(ha:fO a d=true){k:Nat}{q:List Int}(hq:o5 k q):sP n list a q=some (iS list a q 0):=by
 obtain⟨a0,a1,a2⟩:=rS ha;refine Ev.eq ?_;unfold sP;refine Ev.loop (fun x:Int×Int=> ∃i:Nat,x.2=i∧i≤list.length∧0≤x.1∧x.1≤36*i∧iS list a q 0=iS (list.drop i) a q x.1) (fun x=>list.length-x.2.toNat) ?_ n _ ⟨0,rfl,by omega,by simp,by simp,rfl⟩ (by simp;omega);rintro again ⟨x,z⟩ ⟨i,hz,hi,hx0,hx1,hx⟩ hr;dsimp only at hz hx0 hx1 hx⊢;subst hz;refine aK (fun hlt=>?_) fun hge=>Ev.some ?_
 ·have hy:=dH (show i<list.length by omega);have hdy:=hd _ (dD hy);have hsz:=aKz hdy;rw [iR hy] at hx;simp only [iS] at hx;refine aB (aS hy) (bQ (fun hne=>?_) fun he=>?_)
  ·rw [if_neg hne] at hx;refine aB (B9 hn hdy) ?_;rw [aM (n:=x+szL list[i].dims) (by omega),aM (by omega)];exact hr _ ⟨i+1,by dsimp only;omega,by omega,by dsimp only;omega,by dsimp only;omega,hx⟩ (by dsimp only;omega)
  rw [if_pos he] at hx;exact Ev.of (aHo hn a0 a1 a2 hdy hq x (by omega)) hx.symm
 have hie:i=list.length:=by omega
 rw [hx,hie,vBy];rfl
def dJ:Nat→Expr→List Access
 |0,_=>[]
 |L+1,e=>(if e.kind=3 then [e.read] else [])++e.kids.flatMap (dJ L)
theorem zN{d:Int}: ∀{L:Nat} {e:Expr},cZ L e d=true→ ∀a∈dJ L e,fO a d=true
 |0,e,h,a,ha=>by cases h
 |L+1,e,h,a,ha=>by
  obtain⟨h1,h2,h3⟩:=iT h;simp only [dJ,List.mem_append,List.mem_flatMap] at ha;rcases ha with ha|⟨k,hk,ha⟩
  ·split at ha
   ·rename_i hk3;simp at ha;subst ha;unfold fK at h2;rw [if_neg (by omega),if_pos hk3] at h2;simp only [Bool.and_eq_true] at h2;exact h2.2.2
   simp at ha
  exact zN (h3 k hk) a ha
theorem uF: ∀(L:Nat) (e:Expr),((dJ L e).length:Int)≤rW L e
 |0,e=>by simp [dJ,rW]
 |L+1,e=>by
  have h: ∀(l:List Expr),((l.flatMap (dJ L)).length:Int)≤(l.map (rW L)).sum:=by
   intro l;induction l with
   |nil=>simp
   |cons k l ih=>
    have:=uF L k;simp only [List.flatMap_cons,List.length_append,List.map_cons,List.sum_cons];omega
  have:=h e.kids;simp only [dJ,rW,List.length_append];split
  ·rw [List.length_singleton];omega
  rw [List.length_nil];omega
theorem M3{d:Int}: ∀(L n:Nat) (e:Expr),6600000+L≤n→L≤5→cZ L e d=true→i_reads (n+1) e=some (dJ L e)
 |0,n,e,_,_,h=>by cases h
 |L+1,n,e,hn,hL,h=>by
  obtain⟨h1,h2,h3⟩:=iT h;have hk2:=jV e.kind;unfold i_reads;refine Ev.eq (aK (fun h3k=>Ev.some ?_) fun hn3=>?_)
  ·have:e.kids=[]:=by
    have hz:gS e.kind=0:=by unfold gS;rw [if_pos (Or.inr (Or.inr h3k))]
    exact vAv (by omega)
   simp [dJ,h3k,this]
  obtain⟨n,rfl⟩: ∃j,n=j+1:=⟨n-1,by omega⟩
  have hcb: ∀k∈e.kids,((dJ L k).length:Int)≤100:=fun k hk=>by
   have h5:=aBj (h3 k hk);have h6:(2:Int)^L≤40:=by
    match L,hL with
    |0,_=>decide
    |1,_=>decide
    |2,_=>decide
    |3,_=>decide
    |4,_=>decide
   have:=uF L k;omega
  refine Ev.loop (fun x:List Access×Int=> ∃i:Nat,x.2=i∧i≤e.kids.length∧x.1=(e.kids.take i).flatMap (dJ L)∧(x.1.length:Int)≤100*i) (fun x=>e.kids.length-x.2.toNat) ?_ (n+1) _ ⟨0,rfl,by omega,by simp,by simp⟩ (by simp;omega);rintro again ⟨x,k⟩ ⟨i,hk,hi,hx,hxl⟩ hr;dsimp only at hk hx hxl⊢;subst hk;refine aK (fun hlt=>?_) fun hge=>Ev.some ?_
  ·have hk3:=dH (show i<e.kids.length by omega);have hm:=dD hk3;have hb:=hcb _ hm;refine aB (aS hk3) (aB (M3 (d:=d) L n _ (by omega) (by omega) (h3 _ hm)) (aB (dO (by omega)) ?_));rw [aM (by omega)];refine hr _ ⟨i+1,by dsimp only;omega,by omega,?_,by dsimp only;rw [nF];omega⟩ (by dsimp only;omega);dsimp only;rw [R5,hk3,vBf,hx];simp
  have:i=e.kids.length:=by omega
  rw [hx,this,wQ];simp [dJ,hn3]
theorem O4(n:Nat){a:Affine}(h:a.coefs.length≤1100000):fD n a=some a:=by
 unfold fD;refine Ev.eq (aK (fun h0=>Ev.some ?_) fun h0=>aB (dS _ h) (Ev.some rfl));obtain⟨cs,c⟩:=a
 have:cs=[]:=vAv (by simpa using h0);subst this;rfl
theorem wE{n:Nat}(hn:5500000≤n){a:Access}(h:B3 a.subs):fG n a=some a:=by
 obtain⟨h0,h1⟩:=h;refine Ev.eq ?_;unfold fG;refine Ev.loop (fun x:List Affine×Int=> ∃i:Nat,x.2=i∧i≤a.subs.length∧x.1=a.subs.take i) (fun x=>a.subs.length-x.2.toNat) ?_ n _ ⟨0,rfl,by omega,by simp⟩ (by simp;omega);rintro again ⟨x,k⟩ ⟨i,hk,hi,hx⟩ hr;dsimp only at hk hx⊢;subst hk;refine aK (fun hlt=>?_) fun hge=>Ev.some ?_
 ·have hs:=dH (show i<a.subs.length by omega);have hl:x.length=i:=by rw [hx,mH];omega
  refine aB (aS hs) (aB (O4 n (h1 _ (dD hs))) (aB (dO (by simp;omega)) ?_));rw [aM (by omega)];refine hr _ ⟨i+1,by dsimp only;omega,by omega,?_⟩ (by dsimp only;omega);dsimp only;rw [R5,hs,hx];rfl
 have:i=a.subs.length:=by omega
 rw [hx,this,wQ]
theorem aKu{l:List Affine}(h1:l.length≤2)(h2: ∀a∈l,bO a=true):B3 l:=⟨by omega,fun a ha=>by have:=(fT (h2 a ha)).1;unfold SmA;omega⟩
theorem J3{d:Int}: ∀(L n:Nat) (e:Expr) (out:List Access),6600000+L≤n→L≤5→cZ L e d=true→(out.length:Int)≤1100000+200*(6-(L:Int))→s_l3Reads (n+1) out e=some (out++dJ L e)
 |0,n,e,out,_,_,h,_=>by cases h
 |L+1,n,e,out,hn,hL,h,ho=>by
  obtain⟨h1,h2,h3⟩:=iT h;have hk2:=jV e.kind;unfold s_l3Reads;refine Ev.eq (Ev.jn (fun z=>z=out++(if e.kind=3 then [e.read] else [])) (fun j hj=>aK (fun h3k=>?_) fun hn3=>hj _ (by rw [if_neg hn3];simp)) fun z hz=>?_)
  ·have ha:=zN h e.read (by simp [dJ,h3k]);obtain⟨_,b1,b2⟩:=rS ha;exact aB (wE (by omega) (aKu b1 b2)) (aB (dO (by simp;omega)) (hj _ (by rw [if_pos h3k])))
  subst hz;obtain⟨n,rfl⟩: ∃j,n=j+1:=⟨n-1,by omega⟩
  by_cases h3k:e.kind=3
  ·have hnil:e.kids=[]:=by
    have hz:gS e.kind=0:=by unfold gS;rw [if_pos (Or.inr (Or.inr h3k))]
    exact vAv (by omega)
   rw [hnil];refine Ev.some ?_;simp [dJ,h3k,hnil]
  have hcb: ∀k∈e.kids,((dJ L k).length:Int)≤100:=fun k hk=>by
   have h5:=aBj (h3 k hk);have h6:(2:Int)^L≤40:=by
    match L,hL with
    |0,_=>decide
    |1,_=>decide
    |2,_=>decide
    |3,_=>decide
    |4,_=>decide
   have:=uF L k;omega
  rw [if_neg h3k,vBt];refine Ev.loop (fun x:List Access×Int=> ∃i:Nat,x.2=i∧i≤e.kids.length∧x.1=out++(e.kids.take i).flatMap (dJ L)∧(x.1.length:Int)≤out.length+100*i) (fun x=>e.kids.length-x.2.toNat) ?_ (n+1) _ ⟨0,rfl,by omega,by simp,by simp⟩ (by simp;omega);rintro again ⟨x,k⟩ ⟨i,hk,hi,hx,hxl⟩ hr;dsimp only at hk hx hxl⊢;subst hk;refine aK (fun hlt=>?_) fun hge=>Ev.some ?_
  ·have hk3:=dH (show i<e.kids.length by omega);have hm:=dD hk3;have hb:=hcb _ hm;refine aB (aS hk3) (aB (J3 (d:=d) L n _ x (by omega) (by omega) (h3 _ hm) (by omega)) ?_);rw [aM (by omega)];refine hr _ ⟨i+1,by dsimp only;omega,by omega,?_,by dsimp only;rw [nF];omega⟩ (by dsimp only;omega);dsimp only;rw [R5,hk3,vBf,hx];simp
  have:i=e.kids.length:=by omega
  rw [hx,this,wQ];simp [dJ,h3k]
theorem aHw{nest:List Loop}(hf:Fit nest): ∀(ls:List Loop) (k:Nat) (p q:List Int),nest.drop k=ls→k≤nest.length→o5 k p→q∈pts ls p→o5 nest.length q
 | [],k,p,q,hd,hk,hp,hq=>by
  have:=xV hd hk;simp only [pts,List.mem_singleton] at hq;subst hq;subst this;exact hp
 |l::ls,k,p,q,hd,hk,hp,hq=>by obtain⟨d1,d2,d3⟩:=uN hd;obtain⟨s1,s2⟩:=hf.2 k l d1;have hf1:=hf.1;simp only [pts,List.mem_flatMap] at hq;obtain⟨v,hv,hq⟩:=hq;exact aHw hf ls (k+1) _ q d2 (by omega) (G2 s1 s2 hp (by omega) (aJS.1 hv)) hq
theorem aIY{nest:List Loop}{ps:List (List Int)}(h:NP nest=some ps):Fit nest∧ps.length≤120∧(∀q∈ps,o5 nest.length q)∧ps=pts nest []∧wk nest []≤1200:=by
 unfold NP at h;split at h
 ·rename_i hc;cases h;have hf:=aA5 hc.1;exact⟨hf,hc.2.2,fun q hq=>aHw hf nest 0 [] q rfl (by omega) pt0 hq,rfl,hc.2.1⟩
 cases h
def dN(list:List Arr)(s:Stmt)(q:List Int):Bool:=decide (0≤iS list s.write q 0)&&(dJ 5 s.value).all fun a=>decide (0≤iS list a q 0)
theorem qJ{s:Stmt}{d:Int}(h:fB s d=true):fO s.write d=true∧cZ 5 s.value d=true∧(∀a∈dJ 5 s.value,fO a d=true)∧(dJ 5 s.value).length≤12:=by
 simp only [fB,Bool.and_eq_true,decide_eq_true_eq] at h;obtain⟨_,h1,h2,h3⟩:=h
 have:=uF 5 s.value;exact⟨h1,h2,zN h2,by omega⟩
theorem aCm{n:Nat}(hn:7700000≤n){p:Prog}(hl:p.arrays.length≤4)(hd:oJ p.arrays){s:Stmt}{d:Int}(hs:fB s d=true){k:Nat}{q:List Int}(hq:o5 k q):iI n p s q=some (dN p.arrays s q):=by
 obtain⟨h1,h2,h3,h4⟩:=qJ hs;obtain⟨n,rfl⟩: ∃j,n=j+1:=⟨n-1,by omega⟩
 refine Ev.eq ?_;unfold iI;generalize hT:dN p.arrays s q=T;unfold dN at hT;refine Ev.jn (fun z=>z=T) (fun j hj=>aB (aAh (by omega) hl hd h1 hq) (aK (fun h=>?_) fun h=>hj _ ?_)) fun z hz=>Ev.some hz
 ·have hc:=E7 (n:=n+1) (f:=fun q0=>d9 (n+1) q0 p q) (p:=fun a=>decide (iS p.arrays a q 0<0)) (l:=dJ 5 s.value)
   (fun a ha=>by unfold d9;rw [aAh (by omega) hl hd (h3 a ha) hq];rfl) (by omega) (by omega)
  refine aB (M3 (d:=d) 5 n s.value (by omega) (by omega) h2) (aB hc (hj _ ?_));rw [←hT,decide_eq_true h,vAS,vAZ];congr 1;apply congrArg fun f=>List.any (dJ 5 s.value) f;funext a;rw [ltd]
 rw [←hT,decide_eq_false h];rfl
theorem aAQ{n:Nat}(hn:7700000≤n){list:List Arr}(hl:list.length≤4)(hd:oJ list){s:Stmt}{d:Int}(hs:fB s d=true){k:Nat}{q:List Int}(hq:o5 k q):
  uA n list s q=some (if dN list s q=true then((dJ 5 s.value).map fun a=>iS list a q 0,iS list s.write q 0,true) else([],0,false)):=by
 obtain⟨h1,h2,h3,h4⟩:=qJ hs;obtain⟨n,rfl⟩: ∃j,n=j+1:=⟨n-1,by omega⟩
 refine Ev.eq ?_;unfold uA;refine aB (J3 (d:=d) 5 n s.value [] (by omega) (by omega) h2 (by simp)) ?_;rw [List.nil_append];generalize hR:dJ 5 s.value=R at*;have hco:dN list s q=(decide (0≤iS list s.write q 0)&&R.all fun a=>decide (0≤iS list a q 0)):=by unfold dN;rw [hR]
 refine Ev.loop (fun x:List Int×Int=> ∃i:Nat,x.2=i∧i≤R.length∧x.1=(R.take i).map (fun a=>iS list a q 0)∧ ∀(t:Nat) a,t<i→R[t]? =some a→0≤iS list a q 0) (fun x=>R.length-x.2.toNat) ?_ (n+1) _ ⟨0,rfl,by omega,by simp,fun t a h=>by omega⟩ (by dsimp only;omega);rintro again ⟨x,z⟩ ⟨i,hz,hi,hx,ha⟩ hr;dsimp only at hz hx ha⊢;subst hz;refine aK (fun hlt=>?_) fun hge=>?_
 ·have hg:=dH (show i<R.length by omega);have hm:=dD hg;refine aB (aS hg) (aB (X9 (by omega) hl hd (h3 _ hm) hq) (aK (fun hneg=>Ev.some ?_) fun hpos=>?_))
  ·rw [if_neg];rw [hco];intro h;rw [vBx] at h
   have:=vAH.1 h.2 _ hm;rw [decide_eq_true_eq] at this;omega
  have hl2:x.length≤12:=by rw [hx,I2,mH];omega
  refine aB (dO (by simp;omega)) ?_;rw [aM (by omega)];refine hr _ ⟨i+1,by dsimp only;omega,by omega,?_,fun t a ht hta=>?_⟩ (by dsimp only;omega)
  ·dsimp only;rw [R5,hg,vAP,hx];rfl
  by_cases hti:t=i
  ·subst hti;rw [hg] at hta;cases hta;omega
  exact ha t a (by omega) hta
 have hie:i=R.length:=by omega
 have hall:R.all (fun a=>decide (0≤iS list a q 0))=true:=vAH.2 (fun a hm=>by
  obtain⟨t,ht⟩:=vAF hm
  have:=(cC.1 ht).1;exact decide_eq_true (ha t a (by omega) ht))
 rw [hco,hall,Bool.and_true];refine aB (X9 (by omega) hl hd h1 hq) (aK (fun hneg=>Ev.some ?_) fun hpos=>Ev.some ?_)
 ·rw [if_neg (by rw [decide_eq_true_eq];omega)]
 rw [if_pos (by rw [decide_eq_true_eq];omega),hx,hie,wQ]
def ptV(q:List Int):Bool:=decide (q.length≤4)&&q.all fun x=>decide (-9999≤x∧x≤9999)
theorem aA2{n:Nat}(hn:5500000≤n){q:List Int}(h:q.length≤1100000):uL n q=some (ptV q):=by
 unfold uL ptV;have hc:=rC (n:=n) (f:=fun q0=>lV n q0) (p:=fun x=> !decide (-9999≤x∧x≤9999)) (l:=q) (fun x _=>by unfold lV;rw [dV];rfl) (by omega) (by omega);simp only [jn,Option.bind];rw [hc];have e:(q.any fun x=> !decide (-9999≤x∧x≤9999))= !(q.all fun x=>decide (-9999≤x∧x≤9999)):=by rw [vAZ];simp
 rw [e,show decide ((q.length:Int)≤4)=decide (q.length≤4) from decide_eq_decide.2 (by omega)];cases decide (q.length≤4)<;>simp
theorem aAT{n:Nat}(hn:5500000≤n){q:List Int}(h:q.length≤1100000):uB n q=some (ptV q):=by
 refine Ev.eq ?_;unfold uB;refine mY (l:=q) (p:=fun _ x=>decide (-9999≤x∧x≤9999)) (by omega) (by omega) (fun again i x hx hgo hno=>?_) (fun again hall=>?_) (fun⟨i,x,hx,hp⟩=>?_)
 ·have hi:=(cC.1 hx).1;rw [decide_eq_true (show(i:Int)<(q.length:Int) by omega)];refine bV (aB (aS hx) (aB (sM n x 9999 (by omega)) ?_));cases hp:decide (-9999≤x∧x≤9999) with
  |true=>show Ev (again _) _;rw [aM (by omega)];exact hgo hp
  |false=>exact Ev.some (hno hp)
 ·rw [decide_eq_false (show¬(q.length:Int)<(q.length:Int) by omega)];refine Ev.some ?_;unfold ptV;rw [vAH.2 (fun c hc=>by obtain⟨i,hi⟩:=vAF hc;exact hall i c hi),Bool.and_true];exact decide_eq_decide.2 (by omega)
 unfold ptV;rw [vAJ.2 ⟨x,dD hx,by rw [hp];simp⟩,vAW]
theorem aC7{α:Type}(p q:α→Bool): ∀l:List α,(l.all p&&l.all q)=l.all (fun x=>p x&&q x)
 | []=>rfl
 |x::l=>by simp only [List.all_cons,←aC7 p q l];cases p x<;>cases q x<;>cases l.all p<;>cases l.all q<;>rfl
def yN(part:Part):Bool:=decide (1≤part.body.length∧part.body.length≤4)&&part.body.all fun s=>fB s (part.nest.length:Int)
def gH(part:Part):List (List Int):=(NP part.nest).getD []
def cK(list:List Arr)(part:Part):Bool:=(NP part.nest).isSome&&(yN part&&part.body.all fun s=>(gH part).all fun q=>dN list s q&&ptV q)
def aES(x:Part):Prop:=SmN x.nest∧x.body.length≤1100000∧ ∀s∈x.body,SmS s
def SmP(p:Prog):Prop:=SmR p.arrays∧p.parts.length≤1100000∧ ∀x∈p.parts,aES x
theorem jR{list:List Arr}{x:Part}(h:cK list x=true):NP x.nest=some (gH x)∧(1≤x.body.length∧x.body.length≤4)∧(∀s∈x.body,fB s (x.nest.length:Int)=true)∧ ∀s∈x.body,∀q∈gH x,dN list s q=true∧ptV q=true:=by
 simp only [cK,yN,Bool.and_eq_true,decide_eq_true_eq,List.all_eq_true] at h;refine⟨?_,h.2.1.1,h.2.1.2,h.2.2⟩;unfold gH;cases hn:NP x.nest with
 |none=>rw [hn] at h;simp at h
 |some ps=>rfl
theorem aEQ{list:List Arr}(h:fS list=true):list.length≤4∧oJ list:=by
 simp only [fS,Bool.and_eq_true,decide_eq_true_eq] at h;refine⟨h.2,fun x hx=>?_⟩;obtain⟨i,hi⟩:=vAF hx
 have:=v8 h.1 hi;simp only [F6,Bool.and_eq_true] at this;exact this.2.2
theorem aB2{n:Nat}(hn:7700000≤n){list:List Arr}(hl:list.length≤4)(hd:oJ list){x:Part}(hx:aES x):
  w8 n list x=some (if cK list x=true then(((gH x).length:Int)*(x.body.length:Int),true) else(0,false)):=by
 obtain⟨h1,h2,h3⟩:=hx;refine Ev.eq ?_;unfold w8;generalize hT:(if cK list x=true then(((gH x).length:Int)*(x.body.length:Int),true) else((0:Int),false))=T;refine aB (E1 (by omega) h1) ?_;have hbad:cK list x=false→((0:Int),false)=T:=fun h=>by rw [←hT,h];rfl
 refine Ev.jn (fun z=>z= !((NP x.nest).isSome&&decide (1≤x.body.length∧x.body.length≤4))) (fun j hj=>?_) fun z hz=>?_
 ·cases hN:NP x.nest with
  |none=>exact bV (hj _ (by rw [hN];rfl))
  |some ps=>
   refine bH (aK (fun h=>hj _ ?_) fun h=>hj _ ?_)
   ·rw [hN,decide_eq_false (by omega)];rfl
   rw [hN];by_cases h4:x.body.length≤4
   ·rw [decide_eq_false (show¬(4:Int)<(x.body.length:Int) by omega),decide_eq_true (by omega)];rfl
   rw [decide_eq_true (show(4:Int)<(x.body.length:Int) by omega),decide_eq_false (by omega)];rfl
 subst hz;cases hN:NP x.nest with
 |none=>exact Ev.some (hbad (by unfold cK;rw [hN];rfl))
 |some ps=>
  obtain⟨hf,hp1,hp2,hp3,hp4⟩:=aIY hN;have hpp:gH x=ps:=by unfold gH;rw [hN];rfl
  by_cases hb:1≤x.body.length∧x.body.length≤4
  ·rw [decide_eq_true hb];refine bH ?_;have hok:cK list x=x.body.all (fun s=>fB s (x.nest.length:Int)&&ps.all fun q=>dN list s q&&ptV q):=by
    unfold cK yN;rw [hN,hpp,decide_eq_true hb,Option.isSome_some,vAS,vAS];exact aC7 _ _ _
   refine Ev.loop (fun y:Int=> ∃i:Nat,y=i∧i≤x.body.length∧ ∀(t:Nat) s,t<i→x.body[t]? =some s→(fB s (x.nest.length:Int)&&ps.all fun q=>dN list s q&&ptV q)=true) (fun y=>x.body.length-y.toNat) ?_ n _ ⟨0,rfl,by omega,fun t s h=>by omega⟩ (by simp;omega);rintro again y ⟨i,rfl,hi,ha⟩ hr;refine aK (fun hlt=>?_) fun hge=>Ev.some ?_
   ·have hg:=dH (show i<x.body.length by omega);have hm:=dD hg;refine aB (aS hg) (aB (J5 (by omega) (h3 _ hm) _) ?_);cases hsv:fB x.body[i] (x.nest.length:Int) with
    |false=>
     refine bV (Ev.some (hbad ?_));rw [hok];exact vAJ.2 ⟨_,hm,by rw [hsv];simp⟩
    |true=>
     refine bH ?_;show Ev (aL (fun again9 (x8:Int)=>bif decide (x8<(ps.length:Int)) then _ else _) n 0) _;refine Ev.loop (fun y:Int=> ∃k:Nat,y=k∧k≤ps.length∧ ∀(t:Nat) q,t<k→ps[t]? =some q→(dN list x.body[i] q&&ptV q)=true) (fun y=>ps.length-y.toNat) ?_ n _ ⟨0,rfl,by omega,fun t s h=>by omega⟩ (by simp;omega);rintro again9 y ⟨k,rfl,hk,hak⟩ hr9;refine aK (fun hlt9=>?_) fun hge9=>?_
     ·have hgk:=dH (show k<ps.length by omega);have hmk:=dD hgk;have hq:=hp2 _ hmk;have hql:ps[k].length≤1100000:=by have:=hq.1;have:=hq.2.1;omega
      refine aB (aS hgk) (aB (aAQ (by omega) hl hd hsv hq) (Ev.jn (fun z=>z= !(dN list x.body[i] ps[k]&&ptV ps[k])) (fun j hj=>?_) fun z hz=>?_))
      ·cases hc:dN list x.body[i] ps[k] with
       |false=>
        rw [hc] at hj;exact bV (hj _ rfl)
       |true=>
        rw [hc] at hj;exact bH (aB (aAT (by omega) hql) (hj _ rfl))
      subst hz;cases hc:(dN list x.body[i] ps[k]&&ptV ps[k]) with
      |false=>
       refine Ev.some (hbad ?_);rw [hok];refine vAJ.2 ⟨_,hm,?_⟩;rw [hsv,vAS];rw [vAJ.2 ⟨_,hmk,by rw [hc];simp⟩];simp
      |true=>
       show Ev (again9 _) _;rw [aM (by omega)];refine hr9 _ ⟨k+1,by omega,by omega,fun t q ht htq=>?_⟩ (by omega);by_cases htk:t=k
       ·subst htk;rw [hgk] at htq;cases htq;exact hc
       exact hak t q (by omega) htq
     rw [aM (by omega)];refine hr _ ⟨i+1,by omega,by omega,fun t s ht hts=>?_⟩ (by omega);by_cases hti:t=i
     ·subst hti;rw [hg] at hts;cases hts;rw [hsv,vAS];refine vAH.2 fun q hq=>?_;obtain⟨t',ht'⟩:=vAF hq
      have:=(cC.1 ht').1;exact hak t' q (by omega) ht'
     exact ha t s (by omega) hts
   have hall:cK list x=true:=by
    rw [hok];refine vAH.2 fun s hs=>?_;obtain⟨t,ht⟩:=vAF hs
    have:=(cC.1 ht).1;exact ha t s (by omega) ht
   rw [←hT,hall,if_pos rfl,hpp];show(wr ((ps.length:Int)*(x.body.length:Int)),true)=_;have hb1:(0:Int)≤(ps.length:Int)*(x.body.length:Int):=vBj (by omega) (by omega);have hb2:(ps.length:Int)*(x.body.length:Int)≤120*4:=vBz (by omega) (by omega) (by omega) (by omega);rw [aM (by omega)]
  rw [decide_eq_false hb];refine Ev.some (hbad ?_);unfold cK yN;rw [decide_eq_false hb];simp
def fQ(x:Part):Int:=((gH x).length:Int)*(x.body.length:Int)
def instP(i:Nat)(x:Part):List Inst:=(gH x).flatMap fun q=>(List.range x.body.length).map fun(k:Nat)=>(⟨(i:Int),(k:Int),q⟩:Inst)
def insts(ps:List Part):List Inst:=ps.zipIdx.flatMap fun y=>instP y.2 y.1
def qD(p:Prog):Bool:=fS p.arrays&&(decide (p.parts.length≤4)&&p.parts.all (cK p.arrays))
def eY(p:Prog):Bool:=qD p&&decide ((p.parts.map fQ).sum≤120)
theorem insts_snoc(l:List Part)(x:Part):insts (l++[x])=insts l++instP l.length x:=by unfold insts;rw [List.zipIdx_append,vBf];simp
theorem insts_take{l:List Part}{i:Nat}{x:Part}(h:l[i]? =some x):insts (l.take (i+1))=insts (l.take i)++instP i x:=by have hi:=(cC.1 h).1;rw [R5,h];show insts (l.take i++[x])=_;rw [insts_snoc,mH,vBI (Nat.le_of_lt hi)]
theorem M9{α β:Type}(f:α→List β)(m:Nat)(h: ∀x,(f x).length=m): ∀l:List α,(l.flatMap f).length=l.length*m
 | []=>by simp
 |x::l=>by rw [List.flatMap_cons,nF,h,M9 f m h l,List.length_cons,jJ];omega
theorem instP_len(i:Nat)(x:Part):((instP i x).length:Int)=fQ x:=by unfold instP fQ;rw [M9 _ x.body.length fun q=>by simp];exact Int.natCast_mul _ _
theorem aBV{l:List Part}{i:Nat}{x:Part}(h:l[i]? =some x):((l.take (i+1)).map fQ).sum=((l.take i).map fQ).sum+fQ x:=by rw [R5,h];simp
theorem insts_len: ∀(l:List Part) (i:Nat),i≤l.length→((insts (l.take i)).length:Int)=((l.take i).map fQ).sum
 |l,0,_=>by simp [insts]
 |l,i+1,h=>by
  have hg:=dH (show i<l.length by omega);rw [insts_take hg,nF,aBV hg]
  have:=insts_len l i (by omega)
  have:=instP_len i l[i];omega
theorem insts_len'(l:List Part):((insts l).length:Int)=(l.map fQ).sum:=by
 have:=insts_len l l.length (kF _)
 rwa [wQ] at this
theorem aAt{list:List Arr}{x:Part}(h:cK list x=true):0≤fQ x∧fQ x≤480:=by
 obtain⟨h1,h2,_⟩:=jR h;obtain⟨_,h3,_⟩:=aIY h1;unfold fQ;refine⟨vBj (by omega) (by omega),?_⟩
 have:=vBz (show((gH x).length:Int)≤120 by omega) (show(x.body.length:Int)≤4 by omega) (by omega) (by omega);omega
theorem jO{n:Nat}(hn:7700000≤n){p:Prog}(hp:SmP p):gQ n p=some (eY p):=by
 obtain⟨h1,h2,h3⟩:=hp;refine Ev.eq ?_;unfold gQ;generalize hT:eY p=T;unfold eY qD at hT;refine Ev.jn (fun z=>z= !(fS p.arrays&&decide (p.parts.length≤4))) (fun j hj=>aB (S5 (by omega) h1) ?_) fun z hz=>?_
 ·cases ha:fS p.arrays with
  |false=>exact bV (hj _ (by rw [ha];rfl))
  |true=>
   refine bH (hj _ ?_);rw [ha];by_cases h4:p.parts.length≤4
   ·rw [decide_eq_false (show¬(4:Int)<(p.parts.length:Int) by omega),decide_eq_true h4];rfl
   rw [decide_eq_true (show(4:Int)<(p.parts.length:Int) by omega),decide_eq_false h4];rfl
 subst hz;cases hb:(fS p.arrays&&decide (p.parts.length≤4)) with
 |false=>
  refine Ev.some ?_;rw [←hT,←vBc,hb];rfl
 |true=>
  have hT':T=(p.parts.all (cK p.arrays)&&decide ((p.parts.map fQ).sum≤120)):=by rw [←hT,←vBc,hb];rfl
  rw [vBx,decide_eq_true_eq] at hb;obtain⟨hl,hd⟩:=aEQ hb.1;refine bH ?_;refine Ev.loop (fun x:Int×Int=> ∃i:Nat,x.2=i∧i≤p.parts.length∧x.1=((p.parts.take i).map fQ).sum∧0≤x.1∧x.1≤480*i∧ ∀(t:Nat) y,t<i→p.parts[t]? =some y→cK p.arrays y=true) (fun x=>p.parts.length-x.2.toNat) ?_ n _ ⟨0,rfl,by omega,by simp,by simp,by simp,fun t y h=>by omega⟩ (by dsimp only;omega);rintro again ⟨x,z⟩ ⟨i,hz,hi,hx,hx0,hx1,ha⟩ hr;dsimp only at hz hx hx0 hx1 ha⊢;subst hz;refine aK (fun hlt=>?_) fun hge=>Ev.some ?_
  ·have hg:=dH (show i<p.parts.length by omega);have hm:=dD hg;refine aB (aS hg) (aB (aB2 (by omega) hl hd (h3 _ hm)) ?_);cases hpo:cK p.arrays p.parts[i] with
   |false=>
    rw [if_neg (by simp)];refine Ev.some ?_;rw [hT',vAJ.2 ⟨_,hm,by rw [hpo];simp⟩];rfl
   |true=>
    rw [if_pos rfl];have hcb:=aAt hpo;show Ev (again (wr (x+fQ p.parts[i]),wr ((i:Int)+1))) _;rw [aM (n:=x+fQ p.parts[i]) (by omega),aM (by omega)];refine hr _ ⟨i+1,by dsimp only;omega,by omega,by dsimp only;rw [aBV hg];omega,by dsimp only;omega,by dsimp only;omega,fun t y ht hty=>?_⟩ (by dsimp only;omega);by_cases hti:t=i
    ·subst hti;rw [hg] at hty;cases hty;exact hpo
    exact ha t y (by omega) hty
  have hie:i=p.parts.length:=by omega
  have hall:p.parts.all (cK p.arrays)=true:=vAH.2 (fun y hy=>by
   obtain⟨t,ht⟩:=vAF hy
   have:=(cC.1 ht).1;exact ha t y (by omega) ht)
  rw [hT',hall,vAS,hx,hie,wQ]
theorem K0{α:Type}(f:Nat→α)(k:Nat):(List.range (k+1)).map f=(List.range k).map f++[f k]:=by rw [List.range_succ,vAP];rfl
theorem M4{n:Nat}(hn:7700000≤n){p:Prog}(hp:SmP p):e9 n p=some (if qD p=true then(insts p.parts,decide ((insts p.parts).length≤120)) else([],false)):=by
 obtain⟨h1,h2,h3⟩:=hp;refine Ev.eq ?_;unfold e9;generalize hT:(if qD p=true then(insts p.parts,decide ((insts p.parts).length≤120)) else([],false))=T;have hbad:qD p=false→(([]:List Inst),false)=T:=fun h=>by rw [←hT,h];rfl
 refine Ev.jn (fun z=>z= !(fS p.arrays&&decide (p.parts.length≤4))) (fun j hj=>aB (T6 (by omega) h1) ?_) fun z hz=>?_
 ·cases ha:fS p.arrays with
  |false=>exact bV (hj _ (by rw [ha];rfl))
  |true=>
   refine bH (hj _ ?_);rw [ha];by_cases h4:p.parts.length≤4
   ·rw [decide_eq_false (show¬(4:Int)<(p.parts.length:Int) by omega),decide_eq_true h4];rfl
   rw [decide_eq_true (show(4:Int)<(p.parts.length:Int) by omega),decide_eq_false h4];rfl
 subst hz;cases hb:(fS p.arrays&&decide (p.parts.length≤4)) with
 |false=>exact Ev.some (hbad (by unfold qD;rw [←vBc,hb];rfl))
 |true=>
  have hall':qD p=p.parts.all (cK p.arrays):=by unfold qD;rw [←vBc,hb];rfl
  rw [vBx,decide_eq_true_eq] at hb;obtain⟨hl,hd⟩:=aEQ hb.1;refine bH ?_;refine Ev.loop (fun x:List Inst×Int=> ∃i:Nat,x.2=i∧i≤p.parts.length∧x.1=insts (p.parts.take i)∧x.1.length≤480*i∧ ∀(t:Nat) y,t<i→p.parts[t]? =some y→cK p.arrays y=true) (fun x=>p.parts.length-x.2.toNat) ?_ n _ ⟨0,rfl,by omega,by simp [insts],by simp,fun t y h=>by omega⟩ (by dsimp only;omega);rintro again ⟨x,z⟩ ⟨i,hz,hi,hx,hxl,ha⟩ hr;dsimp only at hz hx hxl ha⊢;subst hz;refine aK (fun hlt=>?_) fun hge=>Ev.some ?_
  ·have hg:=dH (show i<p.parts.length by omega);have hm:=dD hg;obtain⟨s1,s2,s3⟩:=h3 _ hm;generalize hP:p.parts[i]=P at*;have hpb:cK p.arrays P=false→qD p=false:=fun h=>by rw [hall'];exact vAJ.2 ⟨_,hm,by rw [h];simp⟩
   refine aB (aS hg) (aB (E6 (by omega) s1) (Ev.jn (fun z=>z= !((NP P.nest).isSome&&yN P)) (fun j hj=>?_) fun z hz=>?_))
   ·cases hN:NP P.nest with
    |none=>exact bV (hj _ (by rw [hN];rfl))
    |some ps=>
     refine bH ?_;have hw:b8 n (P.body.length:Int) 1 4=some (decide (1≤P.body.length∧P.body.length≤4)):=by
      rw [dV];congr 1;exact decide_eq_decide.2 (by omega)
     refine aB hw ?_;have hc:=T9 (n:=n) (f:=fun q0=>cX n q0 P) (p:=fun s=> !fB s (P.nest.length:Int)) (l:=P.body) (fun s hs=>by unfold cX;rw [M6 (by omega) (s3 s hs)];rfl) (by omega) (by omega);have e:(P.body.any fun s=> !fB s (P.nest.length:Int))= !(P.body.all fun s=>fB s (P.nest.length:Int)):=by rw [vAZ];simp
     cases hw2:decide (1≤P.body.length∧P.body.length≤4) with
     |false=>exact bV (hj _ (by unfold yN;rw [hN,hw2];rfl))
     |true=>exact bH (aB hc (hj _ (by unfold yN;rw [hN,hw2,e];rfl)))
   subst hz;cases hN:NP P.nest with
   |none=>exact Ev.some (hbad (hpb (by unfold cK;rw [hN];rfl)))
   |some ps=>
    obtain⟨hf,hp1,hp2,hp3,hp4⟩:=aIY hN;have hpp:gH P=ps:=by unfold gH;rw [hN];rfl
    cases hbv:yN P with
    |false=>exact Ev.some (hbad (hpb (by unfold cK;rw [hbv];simp)))
    |true=>
     have hbv':=hbv;simp only [yN,Bool.and_eq_true,decide_eq_true_eq,List.all_eq_true] at hbv';obtain⟨⟨hb1,hb2⟩,hb3⟩:=hbv';have hok:cK p.arrays P=P.body.all (fun s=>ps.all fun q=>dN p.arrays s q&&ptV q):=by
      unfold cK;rw [hN,hbv,hpp];rfl
     let row:List Int→List Inst:=fun q=>(List.range P.body.length).map fun(k:Nat)=>(⟨(i:Int),(k:Int),q⟩:Inst)
     have hrl: ∀q,(row q).length=P.body.length:=fun q=>by simp [row]
     have hinst:instP i P=ps.flatMap row:=by unfold instP;rw [hpp]
     refine bH ?_;rw [show(aEn (some ps)).1=ps from rfl];refine Ev.loop (fun y:List Inst×Int=> ∃k:Nat,y.2=k∧k≤ps.length∧y.1=x++(ps.take k).flatMap row∧ ∀(t:Nat) q,t<k→ps[t]? =some q→ptV q=true∧ ∀s∈P.body,dN p.arrays s q=true) (fun y=>ps.length-y.2.toNat) ?_ n _ ⟨0,rfl,by omega,by simp,fun t q h=>by omega⟩ (by dsimp only;omega);rintro again17 ⟨y,z⟩ ⟨k,hz,hk,hy,hak⟩ hr17;dsimp only at hz hy hak⊢;subst hz;refine aK (fun hlt2=>?_) fun hge2=>?_
     ·have hgk:=dH (show k<ps.length by omega);have hmk:=dD hgk;generalize hQ:ps[k]=Q at*;have hq:=hp2 _ hmk;have hql:Q.length≤4:=by have:=hq.1;have:=hq.2.1;omega
      refine aB (aS hgk) (aB (aA2 (by omega) (by omega)) ?_);have hyl:y.length≤480*4+480:=by
       rw [hy,nF,M9 row _ hrl,mH]
       have:min k ps.length*P.body.length≤120*4:=vBG (by omega) hb2;omega
      cases hpv:ptV Q with
      |false=>
       refine bV (Ev.some (hbad (hpb ?_)));rw [hok];obtain⟨s0,hs0⟩: ∃s0,s0∈P.body:=List.exists_mem_of_length_pos (by omega);refine vAJ.2 ⟨s0,hs0,?_⟩;rw [vAJ.2 ⟨Q,hmk,by rw [hpv];simp⟩];simp
      |true=>
       refine bH ?_;refine Ev.loop (fun u:List Inst×Int=> ∃m:Nat,u.2=m∧m≤P.body.length∧u.1=y++(List.range m).map (fun(k:Nat)=>(⟨(i:Int),(k:Int),Q⟩:Inst))∧ ∀(t:Nat) s,t<m→P.body[t]? =some s→dN p.arrays s Q=true) (fun u=>P.body.length-u.2.toNat) ?_ n _ ⟨0,rfl,by omega,by simp,fun t s h=>by omega⟩ (by dsimp only;omega);rintro again23 ⟨u,z⟩ ⟨m,hz,hmm,hu,ham⟩ hr23;dsimp only at hz hu ham⊢;subst hz;refine aK (fun hlt3=>?_) fun hge3=>?_
       ·have hgm:=dH (show m<P.body.length by omega);have hmem:=dD hgm;refine aB (aS hgm) (aB (aCm (by omega) hl hd (hb3 _ hmem) hq) ?_);cases hco:dN p.arrays P.body[m] Q with
        |false=>
         refine bV (Ev.some (hbad (hpb ?_)));rw [hok];refine vAJ.2 ⟨_,hmem,?_⟩;rw [vAJ.2 ⟨Q,hmk,by rw [hco];simp⟩];simp
        |true=>
         have hcl:m_ownClone Q=some Q:=by unfold m_ownClone;rw [if_pos (by omega)]
         have hul:u.length≤480*4+480+4:=by rw [hu];simp;omega
         refine bH (aB hcl (aB (dO (by simp;omega)) ?_));rw [aM (by omega)];refine hr23 _ ⟨m+1,by dsimp only;omega,by omega,?_,fun t s ht hts=>?_⟩ (by dsimp only;omega)
         ·dsimp only;rw [hu,K0,vAO]
         by_cases htm:t=m
         ·subst htm;rw [hgm] at hts;cases hts;exact hco
         exact ham t s (by omega) hts
       have hme:m=P.body.length:=by omega
       rw [aM (by omega)];refine hr17 _ ⟨k+1,by dsimp only;omega,by omega,?_,fun t q ht htq=>?_⟩ (by dsimp only;omega)
       ·dsimp only;rw [R5,hgk,vBf,←vAO,←hy,hu,hme];simp [row]
       by_cases htk:t=k
       ·subst htk;rw [hgk] at htq;cases htq;refine⟨hpv,fun s hs=>?_⟩;obtain⟨t',ht'⟩:=vAF hs
        have:=(cC.1 ht').1;exact ham t' s (by omega) ht'
       exact hak t q (by omega) htq
     have hke:k=ps.length:=by omega
     have hpo:cK p.arrays P=true:=by
      rw [hok];refine vAH.2 fun s hs=>vAH.2 fun q hq=>?_;obtain⟨t,ht⟩:=vAF hq
      have:=(cC.1 ht).1;obtain⟨g1,g2⟩:=hak t q (by omega) ht;rw [g1,g2 s hs];rfl
     have hcb:=aAt hpo;have hil:=instP_len i P;rw [aM (by omega)];refine hr _ ⟨i+1,by dsimp only;omega,by omega,?_,?_,fun t y ht hty=>?_⟩ (by dsimp only;omega)
     ·dsimp only;rw [insts_take hg,hinst,hy,hke,wQ,hx]
     ·dsimp only;rw [hy,hke,wQ,nF,←hinst];omega
     by_cases hti:t=i
     ·subst hti;rw [hg] at hty;cases hty;exact hpo
     exact ha t y (by omega) hty
  have hie:i=p.parts.length:=by omega
  have hall:qD p=true:=by
   rw [hall'];exact vAH.2 (fun y hy=>by
    obtain⟨t,ht⟩:=vAF hy
    have:=(cC.1 ht).1;exact ha t y (by omega) ht)
  rw [←hT,if_pos hall,hx,hie,wQ];congr 1;exact decide_eq_decide.2 (by omega)
theorem gJ{n:Nat}(hn:7700000≤n){p:Prog}(hp:SmP p):gX n p=some (eY p):=by
 unfold gX;rw [M4 hn hp];unfold eY;cases h:qD p with
 |false=>rfl
 |true=>
  rw [if_pos rfl];show some (decide _)=_;rw [vAS];congr 1
  have:=insts_len' p.parts;exact decide_eq_decide.2 (by omega)
theorem K1{p:Prog}(h:eY p=true):p.arrays.length≤4∧oJ p.arrays∧p.parts.length≤4∧(∀x∈p.parts,cK p.arrays x=true)∧(insts p.parts).length≤120:=by
 simp only [eY,qD,Bool.and_eq_true,decide_eq_true_eq,List.all_eq_true] at h;obtain⟨⟨h1,h2,h3⟩,h4⟩:=h;obtain⟨a,b⟩:=aEQ h1
 have:=insts_len' p.parts;exact⟨a,b,h2,h3,by omega⟩
def S4:Nat→List Arr→List Int→Expr→List Int→Int
 |0,_,_,_,_=>0
 |L+1,list,m,e,q=>
  if e.kind=1 then e.num
  else if e.kind=2 then fN e.index q%1000
  else if e.kind=3 then m.getD (iS list e.read q 0).toNat 0
  else match e.kids with
   | [a,b]=>if e.kind=4 then(S4 L list m a q+S4 L list m b q)%1000 else if e.kind=5 then(S4 L list m a q-S4 L list m b q)%1000 else(S4 L list m a q*S4 L list m b q)%1000
   |_=>0
def R4(list:List Arr)(m:List Int):Prop:=(m.length:Int)=aMK list∧ ∀x∈m,0≤x∧x≤999
theorem aLR{list:List Arr}{m:List Int}(h:R4 list m)(i:Nat):0≤m.getD i 0∧m.getD i 0≤999:=by
 rw [vBh];cases hi:m[i]? with
 |none=>simp
 |some x=>exact h.2 x (dD hi)
theorem aLe{list:List Arr}{m:List Int}(hm:R4 list m){d:Int}{q:List Int}: ∀{L:Nat} {e:Expr},cZ L e d=true→0≤S4 L list m e q∧S4 L list m e q≤999
 |0,e,h=>by cases h
 |L+1,e,h=>by
  obtain⟨h1,h2,h3⟩:=iT h;simp only [S4];split
  ·rename_i k1;unfold fK at h2;rw [if_neg (by omega),if_neg (by omega),if_pos k1] at h2;simp only [Bool.and_eq_true,decide_eq_true_eq] at h2;omega
  split
  ·omega
  split
  ·exact aLR hm _
  split
  ·split
   ·omega
   split<;>omega
  omega
def B4(p:Prog)(x:Inst):Prop:= ∃(i k:Nat) (P:Part) (s:Stmt),x.part=i∧x.stmt=k∧p.parts[i]? =some P∧P.body[k]? =some s∧x.point∈gH P
def aDy(p:Prog)(x:Inst):Option Stmt:=(p.parts[x.part.toNat]?).bind fun P=>P.body[x.stmt.toNat]?
def vU(p:Prog)(m:List Int)(x:Inst):List Int:=match aDy p x with
 |some s=>m.set (iS p.arrays s.write x.point 0).toNat (S4 5 p.arrays m s.value x.point)
 |none=>m
theorem inst_d{p:Prog}(hv:eY p=true){x:Inst}(hx:B4 p x): ∃(i k:Nat) (P:Part) (s:Stmt) (d:Int),x.part=i∧x.stmt=k∧p.parts[i]? =some P∧P.body[k]? =some s∧aDy p x=some s∧fB s d=true∧o5 P.nest.length x.point∧dN p.arrays s x.point=true:=by obtain⟨hl,hd,h4,hpo,hil⟩:=K1 hv;obtain⟨i,k,P,s,e1,e2,e3,e4,e5⟩:=hx;obtain⟨q1,q2,q3,q4⟩:=jR (hpo P (dD e3));obtain⟨hf,hp1,hp2,hp3,hp4⟩:=aIY q1;have hs:=dD e4;exact⟨i,k,P,s,_,e1,e2,e3,e4,by unfold aDy;rw [e1,e2,vAD,e3];exact(by rw [vAD];exact e4),q3 s hs,hp2 _ e5,(q4 s hs _ e5).1⟩
theorem aFc{p:Prog}(hv:eY p=true){m:List Int}(hm:R4 p.arrays m){x:Inst}(hx:B4 p x):R4 p.arrays (vU p m x):=by
 obtain⟨i,k,P,s,d,e1,e2,e3,e4,e5,e6,e7,e8⟩:=inst_d hv hx;unfold vU;rw [e5];refine⟨by rw [List.length_set];exact hm.1,fun v hv'=>?_⟩;rcases vBb hv' with h|h
 ·exact hm.2 v h
 rw [h];exact aLe hm (qJ e6).2.1
def l6(p:Prog)(m:List Int)(l:List Inst):List Int:=l.foldl (vU p) m
end Go.Lift
