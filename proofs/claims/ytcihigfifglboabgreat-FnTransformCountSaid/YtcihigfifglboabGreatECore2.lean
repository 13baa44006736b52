/- Valid statements. -/
import Derived.Test.YtcihigfifglboabGreatECore1
set_option maxRecDepth 100000
set_option linter.unusedVariables false
namespace Go.Lift
open Go
def SmE:Nat→Expr→Prop
 |0,_=>True
 |L+1,e=>e.kids.length≤1000∧SmA e.index∧U8 e.read.subs∧ ∀k∈e.kids,SmE L k
def dP:Nat→Expr→Int→Bool
 |0,_,_=>false
 |L+1,e,d=>decide (iX e.kind=e.kids.length)&&(gH e d&&e.kids.all fun k=>dP L k d)
def uS:Nat→Expr→Int
 |0,_=>1
 |L+1,e=>1+(e.kids.map (uS L)).sum
theorem m4(k:Int):iX k≤2:=by unfold iX;split;omega;split<;>omega
theorem C8(d:Int): ∀(L n:Nat) (e:Expr),5000+L≤n→L≤1000→SmE L e→s_l3Shape (n+1) e d (L:Int)=some (dP L e d)
 |0,n,e,_,_,_=>by unfold s_l3Shape;rfl
 |L+1,n,e,hn,hL,he=>by
  obtain⟨e1,e2,e3,e4⟩:=he;unfold s_l3Shape;refine Ev.eq ?_;refine Ev.jn (fun z=>z= !(decide (iX e.kind=e.kids.length)&&gH e d)) (fun j hj=>aG (fun h=>by omega) fun h=>aA (aEP n _) (cZ (fun h=>hj _ ?_) fun h=>aA (aGy (by omega) e2 e3 d) (hj _ ?_))) fun z hz=>?_
  ·rw [decide_eq_false h];rfl
  ·rw [decide_eq_true h];rfl
  subst hz;unfold dP;cases hb:(decide (iX e.kind=e.kids.length)&&gH e d) with
  |false=>exact Ev.some (by rw [←vBg,hb];rfl)
  |true=>
   rw [←vBg,hb,vAZ];refine b7 ?_;obtain⟨n,rfl⟩: ∃j,n=j+1:=⟨n-1,by omega⟩
   have ew:wr (((L+1:Nat):Int)-1)=(L:Int):=by rw [aN (by omega)];omega
   rw [ew];refine oJ (l:=e.kids) (p:=fun _ k=>dP L k d) (by omega) (by omega) (fun again i x hx hgo hno=>?_) (fun again hall=>?_) (fun⟨i,x,hx,hp⟩=>?_)
   ·have hi:=(cX.1 hx).1;rw [decide_eq_true (show(i:Int)<(e.kids.length:Int) by omega)];refine bZ (aA (aI hx) (aA (C8 d L n x (by omega) (by omega) (e4 x (cR hx))) ?_));cases hs:dP L x d with
    |true=>show Ev (again _) _;rw [aN (by omega)];exact hgo hs
    |false=>exact Ev.some (hno hs)
   ·rw [decide_eq_false (show¬(e.kids.length:Int)<(e.kids.length:Int) by omega)];refine Ev.some ?_;exact(vAI.2 fun c hc=>by obtain⟨i,hi⟩:=vAL hc;exact hall i c hi).symm
   exact(vAM.2 ⟨x,cR hx,by rw [hp];simp⟩).symm
theorem xQ: ∀(L:Nat) (e:Expr),1≤uS L e
 |0,_=>Y3 _
 |L+1,e=>by have:=o8 (uS L) e.kids fun k _=>xQ L k;simp only [uS];omega
theorem aDk{α:Type}(f:α→Int)(M:Int): ∀(l:List α),(∀x∈l,f x≤M)→(l.map f).sum≤l.length*M
 | [],_=>by simp
 |x::l,h=>by have h1:=aDk f M l fun y hy=>h y (by simp [hy]);have h2:=h x (by simp);simp only [List.map_cons,List.sum_cons,List.length_cons,Int.natCast_add,Int.add_mul];omega
theorem iI{L:Nat}{e:Expr}{d:Int}(h:dP (L+1) e d=true):iX e.kind=e.kids.length∧gH e d=true∧ ∀k∈e.kids,dP L k d=true:=by simp only [dP,Bool.and_eq_true,decide_eq_true_eq,List.all_eq_true] at h;exact⟨h.1,h.2.1,h.2.2⟩
theorem aD3: ∀{L:Nat} {e:Expr} {d:Int},dP L e d=true→uS L e+1≤2^L
 |0,e,d,h=>by cases h
 |L+1,e,d,h=>by
  obtain⟨h1,_,h2⟩:=iI h;have h3:=aDk (uS L) ((2:Int)^L-1) e.kids fun k hk=>by have:=aD3 (h2 k hk);omega
  have h4:=m4 e.kind;have h5:(e.kids.length:Int)*((2:Int)^L-1)≤2*((2:Int)^L-1):=by
   refine Int.mul_le_mul_of_nonneg_right (by omega) ?_
   have:(0:Int)<2^L:=Int.pow_pos (by omega);omega
  simp only [uS];rw [Int.pow_succ];omega
theorem D0{d:Int}: ∀(L n:Nat) (e:Expr),5000+L≤n→L≤5→dP L e d=true→s_l3Count (n+1) e (L:Int)=some (uS L e)
 |0,n,e,_,_,h=>by cases h
 |L+1,n,e,hn,hL,h=>by
  obtain⟨h1,_,h2⟩:=iI h;have h4:=m4 e.kind;have hb: ∀k∈e.kids,uS L k≤40:=fun k hk=>by
   have h5:=aD3 (h2 k hk);have h6:(2:Int)^L≤40:=by
    match L,hL with
    |0,_=>decide
    |1,_=>decide
    |2,_=>decide
    |3,_=>decide
    |4,_=>decide
   omega
  unfold s_l3Count;refine Ev.eq ?_;obtain⟨n,rfl⟩: ∃j,n=j+1:=⟨n-1,by omega⟩
  have ew:wr (((L+1:Nat):Int)-1)=(L:Int):=by rw [aN (by omega)];omega
  rw [ew];refine Ev.loop (fun x:Int×Int=> ∃i:Nat,x.2=i∧i≤e.kids.length∧x.1=1+((e.kids.take i).map (uS L)).sum) (fun x=>e.kids.length-x.2.toNat) ?_ (n+1) _ ⟨0,rfl,by omega,by simp⟩ (by simp;omega);rintro again ⟨x,k⟩ ⟨i,hk,hi,hx⟩ hr;dsimp only at hk hx⊢;subst hk;refine Ev.jn (fun z=>z=decide (i<e.kids.length)) (fun j hj=>aG (fun h=>hj _ ?_) fun h=>hj _ ?_) fun z hz=>?_
  ·rw [decide_eq_true (show(0:Int)<((L+1:Nat):Int) by omega),decide_eq_true (by omega)]
  ·rw [decide_eq_false (by omega)]
  subst hz;refine aG (fun hlt=>?_) fun hge=>Ev.some ?_
  ·have hk2:=cP hlt;have hm:=cR hk2;refine aA (aI hk2) (aA (D0 (d:=d) L n _ (by omega) (by omega) (h2 _ hm)) ?_);have hs:=aDk (uS L) 40 (e.kids.take i) fun y hy=>hb y (vAF hy);have hs2:=o8 (uS L) (e.kids.take i) fun y _=>xQ L y;have hb2:=hb _ hm;have hb3:=xQ L e.kids[i];have hl:((e.kids.take i).length:Int)≤2:=by simp;omega
   rw [aN (n:=x+uS L e.kids[i]) (by omega),aN (by omega)];refine hr _ ⟨i+1,by dsimp only;omega,by omega,?_⟩ (by dsimp only;omega);dsimp only;rw [xT,hk2,vAK,List.sum_append,hx];simp;omega
  have:i=e.kids.length:=by omega
  rw [hx,this,pY];rfl
def aE0(e:Expr):Bool:=(decide (e.kind=1)||decide (e.num=0))&&((decide (e.kind=2)||kC e.index)&&(decide (e.kind=3)||nI e.read))
theorem rC(d:Int): ∀(L n:Nat) (e:Expr) (c:Int),5000+L≤n→L≤5→SmE L e→0≤c→c≤12→
  Ev (i_exprScan (n+1) e d (6-(L:Int)) c) (fun r=>r.1=(dP L e d&&decide (c+uS L e≤12))∧(r.1=true→r.2=c+uS L e))
 |0,n,e,c,hn,hL,he,h0,h1=>by
  unfold i_exprScan;refine Ev.jn (fun z=>z=true) (fun j hj=>aG (fun h=>hj _ rfl) fun h=>hj _ (by decide)) fun z hz=>?_;subst hz;exact Ev.some ⟨rfl,fun h=>by cases h⟩
 |L+1,n,e,c,hn,hL,he,h0,h1=>by
  obtain⟨e1,e2,e3,e4⟩:=he;have hcp:=xQ (L+1) e;unfold i_exprScan;have ew:wr (c+1)=c+1:=aN (by omega);have ed:wr (6-(((L+1:Nat)):Int)+1)=6-(L:Int):=by rw [aN (by omega)];omega
  rw [ew,ed];refine Ev.jn (fun z=>z=decide (12<c+1)) (fun j hj=>aG (fun h=>hj _ (decide_eq_true h).symm) fun h=>hj _ ?_) fun z hz=>?_
  ·rw [decide_eq_false h,decide_eq_false (by omega)]
  subst hz;refine aG (fun h=>Ev.some ⟨?_,fun h=>by cases h⟩) fun hc=>?_
  ·rw [decide_eq_false (show¬c+uS (L+1) e≤12 by omega),vBm]
  refine Ev.jn (fun z=>z= !aE0 e) (fun j hj=>?_) fun z hz=>?_
  ·rw [aBQ,aBR];unfold aE0 at hj;simp only [Option.bind];by_cases k1:e.kind=1
   ·have k2: ¬e.kind=2:=by omega
    have k3: ¬e.kind=3:=by omega
    rw [decide_eq_true k1,decide_eq_false k2,decide_eq_false k3] at*;simp only [Bool.not_true,Bool.not_false,cond_true,cond_false,Bool.true_or,Bool.true_and,Bool.false_or] at*;cases ha:kC e.index with
    |false=>exact hj _ (by rw [ha];rfl)
    |true=>exact hj _ (by rw [ha];rfl)
   rw [decide_eq_false k1] at*;simp only [Bool.not_false,cond_true,Bool.false_or] at*;by_cases hnum:e.num=0
   ·rw [decide_eq_true hnum] at*;simp only [Bool.not_true,cond_false,Bool.true_and] at*;by_cases k2:e.kind=2
    ·have k3: ¬e.kind=3:=by omega
     rw [decide_eq_true k2,decide_eq_false k3] at*;simp only [Bool.not_true,Bool.not_false,cond_true,cond_false,Bool.true_or,Bool.true_and,Bool.false_or] at*;exact hj _ rfl
    rw [decide_eq_false k2] at*;simp only [Bool.not_false,cond_true,Bool.false_or] at*;cases ha:kC e.index with
    |false=>exact hj _ (by rw [ha];rfl)
    |true=>
     by_cases k3:e.kind=3
     ·rw [decide_eq_true k3] at*;exact hj _ (by rw [ha];rfl)
     rw [decide_eq_false k3] at*;exact hj _ (by rw [ha];rfl)
   rw [decide_eq_false hnum] at*;exact hj _ rfl
  subst hz;cases hp:aE0 e with
  |false=>
   refine Ev.some ⟨?_,fun h=>by cases h⟩
   have:gH e d=false:=by
    unfold aE0 at hp;unfold gH;by_cases k2:e.kind=2
    ·have k1: ¬e.kind=1:=by omega
     have k3: ¬e.kind=3:=by omega
     rw [if_pos k2];rw [decide_eq_true k2,decide_eq_false k1,decide_eq_false k3] at hp;revert hp;cases decide (e.num=0)<;>cases nI e.read<;>simp
    rw [if_neg k2];by_cases k3:e.kind=3
    ·have k1: ¬e.kind=1:=by omega
     rw [if_pos k3];rw [decide_eq_false k2,decide_eq_false k1,decide_eq_true k3] at hp;revert hp;cases decide (e.num=0)<;>cases kC e.index<;>simp
    rw [if_neg k3];rw [decide_eq_false k2,decide_eq_false k3] at hp;by_cases k1:e.kind=1
    ·rw [if_pos k1];rw [decide_eq_true k1] at hp;revert hp;cases kC e.index<;>cases nI e.read<;>simp
    rw [if_neg k1];rw [decide_eq_false k1] at hp;revert hp;cases decide (e.num=0)<;>cases kC e.index<;>cases nI e.read<;>simp
   unfold dP;rw [this];simp
  |true=>
   refine b7 ?_;unfold aE0 at hp;simp only [Bool.and_eq_true,Bool.or_eq_true,decide_eq_true_eq] at hp;obtain⟨p1,p2,p3⟩:=hp;have leafP: ∀(b:Bool),gH e d=b→iX e.kind=0→ ∀(z:Bool),z=(b&&decide ((e.kids.length:Int)=0))→z=(dP (L+1) e d&&decide (c+uS (L+1) e≤12))∧(z=true→c+1=c+uS (L+1) e):=by
    intro b hb hk z hz;unfold dP;rw [hb,hk];by_cases h:e.kids.length=0
    ·have hnil:e.kids=[]:=vAB h;have hcn:uS (L+1) e=1:=by simp [uS,hnil]
     rw [hcn,decide_eq_true (show c+1≤12 by omega)];rw [decide_eq_true (show(e.kids.length:Int)=0 by omega)] at hz;rw [hz,hnil];simp
    rw [decide_eq_false (show¬(e.kids.length:Int)=0 by omega)] at hz;rw [hz,decide_eq_false (show¬(0:Int)=(e.kids.length:Int) by omega)];simp
   by_cases k1:e.kind=1
   ·have k2: ¬e.kind=2:=by omega
    have k3: ¬e.kind=3:=by omega
    rw [decide_eq_true k1];have hown:gH e d=decide (0≤e.num∧e.num≤99):=by
     unfold gH;rw [if_neg k2,if_neg k3,if_pos k1];rcases p2 with h|h
     ·exact absurd h k2
     rcases p3 with h'|h'
     ·exact absurd h' k3
     rw [h,h'];simp
    refine bZ (Ev.jn (fun z=>z=(decide (0≤e.num∧e.num≤99)&&decide ((e.kids.length:Int)=0))) (fun j hj=>aA (fD n _ _ _) ?_) fun z hz=>Ev.some ?_)
    ·cases hw:decide (0≤e.num∧e.num≤99) with
     |true=>exact hj _ (by rw [hw];rfl)
     |false=>exact hj _ (by rw [hw];rfl)
    exact leafP _ hown (by unfold iX;rw [if_pos (Or.inl k1)]) _ hz
   rw [decide_eq_false k1];refine b7 ?_;have hnum:e.num=0:=by
    rcases p1 with h|h
    ·exact absurd h k1
    exact h
   by_cases k2:e.kind=2
   ·have k3: ¬e.kind=3:=by omega
    rw [decide_eq_true k2];have hown:gH e d=bY e.index d:=by
     unfold gH;rw [if_pos k2,decide_eq_true hnum];rcases p3 with h'|h'
     ·exact absurd h' k3
     rw [h'];simp
    refine bZ (Ev.jn (fun z=>z=(bY e.index d&&decide ((e.kids.length:Int)=0))) (fun j hj=>aA (sP (by omega) _ e2) ?_) fun z hz=>Ev.some ?_)
    ·unfold bY at hj;cases hw:bI e.index with
     |false=>exact hj _ (by rw [hw];rfl)
     |true=>
      refine aA (zD (by omega) e2) (aG (fun h=>hj _ ?_) fun h=>hj _ ?_)
      ·rw [hw,decide_eq_true h];rfl
      rw [hw,decide_eq_false h];rfl
    exact leafP _ hown (by unfold iX;rw [if_pos (Or.inr (Or.inl k2))]) _ hz
   rw [decide_eq_false k2];refine b7 ?_;have hnaff:kC e.index=true:=by
    rcases p2 with h|h
    ·exact absurd h k2
    exact h
   by_cases k3:e.kind=3
   ·rw [decide_eq_true k3];have hown:gH e d=iB e.read d:=by
     unfold gH;rw [if_neg k2,if_pos k3,decide_eq_true hnum,hnaff];simp
    refine bZ (Ev.jn (fun z=>z=(iB e.read d&&decide ((e.kids.length:Int)=0))) (fun j hj=>aA (yG (by omega) e3 d) ?_) fun z hz=>Ev.some ?_)
    ·cases hw:iB e.read d with
     |false=>exact hj _ (by rw [hw];rfl)
     |true=>exact hj _ (by rw [hw];rfl)
    exact leafP _ hown (by unfold iX;rw [if_pos (Or.inr (Or.inr k3))]) _ hz
   rw [decide_eq_false k3];refine b7 ?_;have hown:gH e d=true:=by
    unfold gH;rw [if_neg k2,if_neg k3,if_neg k1,decide_eq_true hnum,hnaff];rcases p3 with h'|h'
    ·exact absurd h' k3
    rw [h'];rfl
   have hop:aDJ n e.kind=some (decide (4≤e.kind∧e.kind≤6)):=by unfold aDJ;rw [fD];rfl
   have hkn:(iX e.kind=2↔(4≤e.kind∧e.kind≤6))∧(iX e.kind=2∨iX e.kind= -1):=by
    unfold iX;rw [if_neg (by omega)];split<;>omega
   refine Ev.jn (fun z=>z= !(decide (4≤e.kind∧e.kind≤6)&&decide ((e.kids.length:Int)=2))) (fun j hj=>aA hop ?_) fun z hz=>?_
   ·cases hw:decide (4≤e.kind∧e.kind≤6) with
    |false=>exact hj _ (by rw [hw];rfl)
    |true=>exact hj _ (by rw [hw];rfl)
   subst hz;by_cases hk:(4≤e.kind∧e.kind≤6)∧(e.kids.length:Int)=2
   ·rw [decide_eq_true hk.1,decide_eq_true hk.2];refine b7 ?_;obtain⟨a,b,hab⟩: ∃a b,e.kids=[a,b]:=by
     have:e.kids.length=2:=by omega
     match hq:e.kids,this with
     | [a,b],_=>exact⟨a,b,rfl⟩
    have hsh:dP (L+1) e d=(dP L a d&&dP L b d):=by
     show(decide (iX e.kind=e.kids.length)&&(gH e d&&e.kids.all fun k=>dP L k d))=_;rw [hown,hab,decide_eq_true (show iX e.kind=(([a,b]:List Expr).length:Int) by rw [hkn.1.2 hk.1];rfl)];simp
    have hcn:uS (L+1) e=1+(uS L a+uS L b):=by simp [uS,hab]
    have ca:=xQ L a;have cb:=xQ L b;rw [hsh,hcn];obtain⟨n,rfl⟩: ∃j,n=j+1:=⟨n-1,by omega⟩
    refine Ev.jn (fun z:Int×Bool=>z.2=(dP L a d&&dP L b d&&decide (c+(1+(uS L a+uS L b))≤12))∧(z.2=true→z.1=c+(1+(uS L a+uS L b)))) (fun j hj=>?_) fun z hz=>Ev.some hz;refine aA (x:=a) (by rw [hab];rfl) (aK (rC d L n a (c+1) (by omega) (by omega) (e4 a (by rw [hab];simp)) (by omega) (by omega)) fun r ⟨r1,r2⟩=>?_);cases hr:r.1 with
    |false=>
     refine hj _ ⟨?_,fun h=>by cases h⟩;rw [hr] at r1;show false=_;by_cases hsa:dP L a d=true
     ·rw [hsa,vAZ] at r1
      have:=of_decide_eq_false r1.symm;rw [decide_eq_false (show¬c+(1+(uS L a+uS L b))≤12 by omega),vBm]
     rw [Bool.eq_false_iff.2 hsa];rfl
    |true=>
     have r2:=r2 hr;rw [hr] at r1;have r1:=r1.symm;rw [vBt,decide_eq_true_eq] at r1;refine aA (x:=b) (by rw [hab];rfl) ?_;rw [r2];refine aK (rC d L n b (c+1+uS L a) (by omega) (by omega) (e4 b (by rw [hab];simp)) (by omega) (by omega)) fun q ⟨q1,q2⟩=>hj _ ⟨?_,fun h=>?_⟩
     ·show q.1=_;rw [q1,r1.1,vAZ];congr 1;exact decide_eq_decide.2 (by omega)
     show q.2=_;rw [q2 h];omega
   have hf:dP (L+1) e d=false:=by
    unfold dP;rw [decide_eq_false (show¬iX e.kind=(e.kids.length:Int) by
     intro h;rcases hkn.2 with h2|h2
     ·exact hk ⟨hkn.1.1 h2,by omega⟩
     omega)]
    rfl
   have:(decide (4≤e.kind∧e.kind≤6)&&decide ((e.kids.length:Int)=2))=false:=by
    by_cases g:4≤e.kind∧e.kind≤6
    ·rw [decide_eq_false (show¬(e.kids.length:Int)=2 from fun h=>hk ⟨g,h⟩),vBm]
    rw [decide_eq_false g];rfl
   rw [this,hf];exact Ev.some ⟨rfl,fun h=>by cases h⟩
def fW(s:Stmt)(d:Int):Bool:=decide (0≤d∧d≤4)&&(iB s.write d&&(dP 5 s.value d&&decide (uS 5 s.value≤12)))
def SmS(s:Stmt):Prop:=U8 s.write.subs∧SmE 5 s.value
theorem aAN{n:Nat}(hn:6000≤n){s:Stmt}(h:SmS s)(d:Int):qJ n s d=some (fW s d):=by
 obtain⟨n,rfl⟩: ∃j,n=j+1:=⟨n-1,by omega⟩
 refine Ev.eq ?_;unfold qJ;generalize hT:fW s d=T;unfold fW at hT;refine Ev.jn (fun z:Int×Bool=>z.2=T) (fun j hj=>aA (fD _ _ _ _) ?_) fun z hz=>Ev.some hz;cases h1:decide (0≤d∧d≤4) with
 |false=>exact hj (0,false) (by rw [←hT,h1];rfl)
 |true=>
  refine bZ (aA (yG (by omega) h.1 d) ?_);cases h2:iB s.write d with
  |false=>exact hj (0,false) (by rw [←hT,h1,h2];rfl)
  |true=>
   refine bZ (aK (rC d 5 n s.value 0 (by omega) (by omega) h.2 (by omega) (by omega)) fun r ⟨r1,r2⟩=>hj _ ?_);rw [←hT,h1,h2];show r.1=_;rw [r1];simp
theorem vG{n:Nat}(hn:6000≤n){s:Stmt}(h:SmS s)(d:Int):kU n s d=some (fW s d):=by
 obtain⟨n,rfl⟩: ∃j,n=j+1:=⟨n-1,by omega⟩
 refine Ev.eq ?_;unfold kU;generalize hT:fW s d=T;generalize hB:(decide (0≤d∧d≤4)&&(iB s.write d&&dP 5 s.value d))=B;have hTB:T=(B&&decide (uS 5 s.value≤12)):=by rw [←hT,←hB];unfold fW;simp only [Bool.and_assoc]
 refine Ev.jn (fun z=>z= !B) (fun j hj=>aG (fun h=>hj _ ?_) fun h0=>aG (fun h=>hj _ ?_) fun h4=>aA (yB (by omega) h.1 d) ?_) fun z hz=>?_
 ·rw [←hB,decide_eq_false (show¬(0≤d∧d≤4) by omega)];rfl
 ·rw [←hB,decide_eq_false (show¬(0≤d∧d≤4) by omega)];rfl
 ·rw [decide_eq_true (show 0≤d∧d≤4 by omega)] at hB;cases h2:iB s.write d with
  |false=>exact bZ (hj _ (by rw [←hB,h2];rfl))
  |true=>exact b7 (aA (C8 d 5 n s.value (by omega) (by omega) h.2) (hj _ (by rw [←hB,h2];rfl)))
 subst hz;cases hb:B with
 |false=>exact Ev.some (by rw [hTB,hb];rfl)
 |true=>
  rw [hb] at hB;simp only [Bool.and_eq_true] at hB;refine b7 (aA (D0 (d:=d) 5 n s.value (by omega) (by omega) hB.2.2) (Ev.some ?_));rw [hTB,hb];rfl
def jT(ds:List Int):Bool:=decide (1≤ds.length∧ds.length≤2)&&ds.all fun d=>decide (1≤d∧d≤6)
def yT(list:List Arr)(i:Nat)(x:Arr):Bool:=match i with
 |0=>true
 |i+1=>match list[i]? with
  |some y=>Op.bytesLess y.name x.name
  |none=>false
def aB4(list:List Arr)(i:Nat)(x:Arr):Bool:=pE x.name&&(yT list i x&&jT x.dims)
def jD(list:List Arr):Bool:=aAJ (aB4 list) list&&decide (list.length≤4)
def SmR(list:List Arr):Prop:=list.length≤1000∧ ∀x∈list,x.dims.length≤1000
theorem Q7{list:List Arr}{i:Nat}{x y:Arr}(h:list[i]? =some y):yT list (i+1) x=Op.bytesLess y.name x.name:=by simp only [yT,h]
theorem aMy(ds:List Int):(ds.any fun d=> !decide (1≤d∧d≤6))= !(ds.all fun d=>decide (1≤d∧d≤6)):=by rw [vBd];simp
theorem aBS{n:Nat}(hn:6000≤n){list:List Arr}(h:SmR list):tW n list=some (jD list):=by
 obtain⟨h0,h1⟩:=h;refine Ev.eq ?_;unfold tW;refine oJ (l:=list) (p:=aB4 list) (by omega) (by omega) (fun again i x hx hgo hno=>?_) (fun again hall=>?_) (fun⟨i,x,hx,hp⟩=>?_)
 ·have hi:=(cX.1 hx).1;have hm:=h1 x (cR hx);rw [decide_eq_true (show(i:Int)<(list.length:Int) by omega)];have hd:b9 n x.dims (fun q0=>fO n q0)=some (!(x.dims.all fun d=>decide (1≤d∧d≤6))):=by
   rw [←aMy];exact t8 (fun d _=>by unfold fO;rw [fD];rfl) (by omega) (by omega)
  refine bZ (aA (aI hx) (Ev.jn (fun z=>z= !aB4 list i x) (fun j hj=>aA (G8 n _) ?_) fun z hz=>?_))
  ·unfold aB4 jT at hj;cases g1:pE x.name with
   |false=>exact bZ (hj _ (by rw [g1];rfl))
   |true=>
    rw [g1] at hj;refine b7 ?_;rw [tV];have hlast:yT list i x=true→Ev (Option.bind (some (decide (1≤x.dims.length∧x.dims.length≤2))) fun x6=>bif !x6 then j true else Option.bind (b9 n x.dims fun q0=>fO n q0) fun x7=>j x7) (fun r=>r=jD list):=by
     intro hp;rw [hp] at hj;show Ev (bif _ then _ else _) _;cases g2:decide (1≤x.dims.length∧x.dims.length≤2) with
     |false=>exact bZ (hj _ (by rw [g2];rfl))
     |true=>exact b7 (aA hd (hj _ (by rw [g2];rfl)))
    cases i with
    |zero=>exact aG (fun h=>absurd h (by decide)) (fun _=>hlast rfl)
    |succ i=>
     have hy:=cP (show i<list.length by omega);have e:wr (((i+1:Nat):Int)-1)=(i:Int):=by rw [aN (by omega)];omega
     rw [e];refine aG (fun _=>aA (aI hy) ?_) fun h=>absurd (show(0:Int)<((i+1:Nat):Int) by omega) h;have hpp:=Q7 (x:=x) hy;cases g3:Op.bytesLess list[i].name x.name with
     |false=>exact bZ (hj _ (by rw [hpp,g3];rfl))
     |true=>exact b7 (hlast (by rw [hpp,g3]))
  subst hz;cases hb:aB4 list i x with
  |true=>show Ev (again _) _;rw [aN (by omega)];exact hgo hb
  |false=>exact Ev.some (hno hb)
 ·rw [decide_eq_false (show¬(list.length:Int)<(list.length:Int) by omega)];refine Ev.some ?_;unfold jD;rw [qF hall,vAZ];exact decide_eq_decide.2 (by omega)
 unfold jD;rw [nV hx hp];rfl
theorem aLb(s:List UInt8):(!Op.bytesLess s [68]&& !s==[68])= !(Op.bytesLess s [68]||s==[68]):=by cases Op.bytesLess s [68]<;>cases (s==[68])<;>rfl
theorem aBM{n:Nat}(hn:6000≤n){list:List Arr}(h:SmR list):tM n list=some (jD list):=by
 obtain⟨h0,h1⟩:=h;refine Ev.eq ?_;unfold tM;refine oJ (l:=list) (p:=aB4 list) (by omega) (by omega) (fun again i x hx hgo hno=>?_) (fun again hall=>?_) (fun⟨i,x,hx,hp⟩=>?_)
 ·have hi:=(cX.1 hx).1;have hm:=h1 x (cR hx);rw [decide_eq_true (show(i:Int)<(list.length:Int) by omega)];refine bZ (aA (aI hx) (Ev.jn (fun z=>z= !(pE x.name&&(yT list i x&&decide (1≤x.dims.length∧x.dims.length≤2)))) (fun j hj=>?_) fun z hz=>?_))
  ·refine cZ (fun hl=>hj _ ?_) fun hl=>?_
   ·rw [yZ (by omega)];rfl
   obtain⟨b,hb⟩:=aPz (show x.name.length=1 by omega);rw [aLb];have hless: ∀(y:Arr),Op.bytesLess y.name x.name=Op.bytesLess y.name [b]:=fun y=>by rw [hb]
   have hnm:pE x.name=decide (65≤b.toNat∧b.toNat≤68):=by rw [hb];rfl
   have l1:Op.bytesLess x.name [65]=decide (b.toNat<65):=by rw [hb];exact aAz b
   have l2:(Op.bytesLess x.name [68]||x.name==[68])=decide (b.toNat≤68):=by rw [hb];exact aAy b
   rw [l1,l2];rw [hnm] at hj;refine aG (fun g1=>hj _ ?_) fun g1=>cZ (fun g2=>hj _ ?_) fun g2=>?_
   ·rw [decide_eq_false (show¬(65≤b.toNat∧b.toNat≤68) by omega)];rfl
   ·rw [decide_eq_false (show¬(65≤b.toNat∧b.toNat≤68) by omega)];rfl
   rw [decide_eq_true (show 65≤b.toNat∧b.toNat≤68 by omega)] at hj;have hlast:yT list i x=true→Ev (bif decide ((x.dims.length:Int)<1) then j true else j (decide ((2:Int)<(x.dims.length:Int)))) (fun r=>r=jD list):=by
    intro hp;rw [hp] at hj;refine aG (fun h=>hj _ ?_) fun h=>hj _ ?_
    ·rw [decide_eq_false (show¬(1≤x.dims.length∧x.dims.length≤2) by omega)];rfl
    by_cases h2:x.dims.length≤2
    ·rw [decide_eq_false (show¬(2:Int)<(x.dims.length:Int) by omega),decide_eq_true (show 1≤x.dims.length∧x.dims.length≤2 by omega)];rfl
    rw [decide_eq_true (show(2:Int)<(x.dims.length:Int) by omega),decide_eq_false (show¬(1≤x.dims.length∧x.dims.length≤2) by omega)];rfl
   cases i with
   |zero=>exact aG (fun h=>absurd h (by decide)) (fun _=>hlast rfl)
   |succ i=>
    have hy:=cP (show i<list.length by omega);have e:wr (((i+1:Nat):Int)-1)=(i:Int):=by rw [aN (by omega)];omega
    rw [e];refine aG (fun _=>aA (aI hy) ?_) fun h=>absurd (show(0:Int)<((i+1:Nat):Int) by omega) h;have hpp:=Q7 (x:=x) hy;cases g3:Op.bytesLess list[i].name x.name with
    |false=>exact bZ (hj _ (by rw [hpp,g3];rfl))
    |true=>exact b7 (hlast (by rw [hpp,g3]))
  subst hz;cases hb:(pE x.name&&(yT list i x&&decide (1≤x.dims.length∧x.dims.length≤2))) with
  |false=>
   refine Ev.some (hno ?_);unfold aB4 jT;rw [←vBg,←vBg];rw [←vBg] at hb;rw [hb];rfl
  |true=>
   have hap:aB4 list i x=x.dims.all (fun d=>decide (1≤d∧d≤6)):=by
    unfold aB4 jT;rw [←vBg,←vBg];rw [←vBg] at hb;rw [hb];rfl
   refine b7 ?_;refine Ev.loop (fun y:Int=> ∃k:Nat,y=k∧k≤x.dims.length∧ ∀(t:Nat) d,t<k→x.dims[t]? =some d→decide (1≤d∧d≤6)=true) (fun y=>x.dims.length-y.toNat) ?_ n _ ⟨0,rfl,by omega,fun t d h=>by omega⟩ (by simp;omega);rintro again8 y ⟨k,rfl,hk,ha⟩ hr;refine aG (fun hlt=>?_) fun hge=>?_
   ·have hd:=cP (show k<x.dims.length by omega);have ek:wr ((k:Int)+1)=((k+1:Nat):Int):=by rw [aN (by omega)];omega
    refine Ev.jn (fun z=>z= !decide (1≤x.dims[k]∧x.dims[k]≤6)) (fun j hj=>aA (aI hd) (aG (fun h=>hj _ ?_) fun h=>hj _ ?_)) fun z hz=>?_
    ·rw [decide_eq_false (by omega)];rfl
    ·by_cases h6:x.dims[k]≤6
     ·rw [decide_eq_false (show¬(6:Int)<x.dims[k] by omega),decide_eq_true (show 1≤x.dims[k]∧x.dims[k]≤6 by omega)];rfl
     rw [decide_eq_true (show(6:Int)<x.dims[k] by omega),decide_eq_false (show¬(1≤x.dims[k]∧x.dims[k]≤6) by omega)];rfl
    subst hz;cases hb2:decide (1≤x.dims[k]∧x.dims[k]≤6) with
    |false=>
     refine Ev.some (hno ?_);rw [hap];exact vAM.2 ⟨_,cR hd,by rw [hb2];simp⟩
    |true=>
     rw [ek];refine hr _ ⟨k+1,rfl,by omega,fun t d ht hd2=>?_⟩ (by omega);by_cases htk:t=k
     ·subst htk;rw [hd] at hd2;cases hd2;exact hb2
     exact ha t d (by omega) hd2
   have e:wr ((i:Int)+1)=(i:Int)+1:=aN (by omega);rw [e];refine hgo ?_;rw [hap];refine vAI.2 fun d hd=>?_;obtain⟨t,ht⟩:=vAL hd
   have:=(cX.1 ht).1;exact ha t d (by omega) ht
 ·rw [decide_eq_false (show¬(list.length:Int)<(list.length:Int) by omega)];refine Ev.some ?_;unfold jD;rw [qF hall,vAZ];exact decide_eq_decide.2 (by omega)
 unfold jD;rw [nV hx hp];rfl
def Y9:List Int→Int
 | []=>1
 |d::ds=>d*Y9 ds
theorem aHq{ds:List Int}(h:jT ds=true):(∃a,ds=[a]∧1≤a∧a≤6)∨ ∃a b,ds=[a,b]∧(1≤a∧a≤6)∧1≤b∧b≤6:=by
 simp only [jT,Bool.and_eq_true,decide_eq_true_eq,List.all_eq_true] at h;obtain⟨⟨h1,h2⟩,h3⟩:=h
 match ds,h1,h2,h3 with
 | [a],_,_,h3=>exact .inl ⟨a,rfl,h3 a (by simp)⟩
 | [a,b],_,_,h3=>exact .inr ⟨a,b,rfl,h3 a (by simp),h3 b (by simp)⟩
theorem aQR{a b:Int}(ha:1≤a∧a≤6)(hb:1≤b∧b≤6):1≤a*b∧a*b≤36:=by
 constructor
 ·have:=vBO ha.1 hb.1 (by omega) (by omega);omega
 have:=vBO ha.2 hb.2 (by omega) (by omega);omega
theorem Y8{ds:List Int}(h:jT ds=true):1≤Y9 ds∧Y9 ds≤36:=by
 rcases aHq h with ⟨a,rfl,h1⟩|⟨a,b,rfl,h1,h2⟩
 ·simp [Y9];omega
 have:=aQR h1 h2;simp [Y9];omega
theorem u9{n:Nat}(hn:6000≤n){x:Arr}(h:jT x.dims=true):C3 n x=some (Y9 x.dims):=by
 obtain⟨n,rfl⟩: ∃j,n=j+3:=⟨n-3,by omega⟩
 unfold C3;rcases aHq h with ⟨a,e,h1⟩|⟨a,b,e,h1,h2⟩
 ·rw [e];have e1:wr a=a:=aN (by omega);simp [aJ,ix,Y9,e1,show wr 1=1 from aN (by omega)]
 rw [e]
 have:=aQR h1 h2;have e1:wr a=a:=aN (by omega);have e2:wr (a*b)=a*b:=aN (by omega);simp [aJ,ix,Y9,e1,e2,show wr 1=1 from aN (by omega),show wr 2=2 from aN (by omega)]
theorem aJC{n:Nat}(hn:6000≤n){x:Arr}(h:jT x.dims=true):oB n x=some (Y9 x.dims):=u9 hn h
def l9:List Affine→List Int→List Int→Int→Int
 |s::ss,d::ds,p,acc=>if 0≤cC s p∧cC s p<d then l9 ss ds p (acc*d+cC s p) else-1
 |_,_,_,acc=>acc
def dD:List Arr→Access→List Int→Int→Int
 | [],_,_,_=> -1
 |x::xs,a,p,base=>if x.name=a.array then(if a.subs.length=x.dims.length then(if l9 a.subs x.dims p 0<0 then-1 else base+l9 a.subs x.dims p 0) else-1) else dD xs a p (base+Y9 x.dims)
def gL(xs:List Arr):Prop:= ∀x∈xs,jT x.dims=true
theorem aQ1{ds:List Int}(hd:jT ds=true){ss:List Affine}(hl:ss.length=ds.length)(p:List Int):l9 ss ds p 0= -1∨(0≤l9 ss ds p 0∧l9 ss ds p 0<Y9 ds):=by
 rcases aHq hd with ⟨a,rfl,h1⟩|⟨a,b,rfl,h1,h2⟩
 ·match ss,hl with
  | [s],_=>
   simp only [l9,Y9,Int.zero_mul,Int.zero_add,Int.mul_one];split<;>omega
 match ss,hl with
 | [s,t],_=>
  simp only [l9,Y9,Int.zero_mul,Int.zero_add,Int.mul_one];split
  ·rename_i hs;split
   ·rename_i ht;refine .inr ⟨?_,?_⟩
    ·have:=vBx hs.1 (show 0≤b by omega);omega
    have:=Int.mul_le_mul_of_nonneg_right (show cC s p≤a-1 by omega) (show 0≤b by omega);rw [Int.sub_mul] at this;omega
   exact .inl rfl
  exact .inl rfl
def iP(xs:List Arr):Int:=(xs.map fun x=>Y9 x.dims).sum
theorem aIX: ∀{xs:List Arr},gL xs→ ∀(a:Access) (p:List Int) (base:Int),0≤base→dD xs a p base= -1∨(base≤dD xs a p base∧dD xs a p base<base+iP xs)
 | [],_,a,p,base,_=> .inl rfl
 |x::xs,hd,a,p,base,hb=>by
  have hx:=hd x (by simp);have hs:=Y8 hx;have hxs:gL xs:=fun y hy=>hd y (by simp [hy]);have ht:0≤iP xs:=by
   have:=o8 (fun x:Arr=>Y9 x.dims) xs fun y hy=>(Y8 (hxs y hy)).1;unfold iP;omega
  have e:iP (x::xs)=Y9 x.dims+iP xs:=by simp [iP]
  rw [e];simp only [dD];split
  ·split
   ·rename_i hl;rcases aQ1 hx hl p with h|h
    ·rw [if_pos (by omega)];exact .inl rfl
    rw [if_neg (by omega)];exact .inr ⟨by omega,by omega⟩
   exact .inl rfl
  rcases aIX hxs a p (base+Y9 x.dims) (by omega) with h|h
  ·exact .inl h
  exact .inr ⟨by omega,by omega⟩
theorem uQ{a:Access}{d:Int}(h:iB a d=true):1≤a.subs.length∧a.subs.length≤2∧ ∀x∈a.subs,bI x=true:=by
 simp only [iB,Bool.and_eq_true,decide_eq_true_eq,List.all_eq_true] at h;refine⟨h.2.2.1,h.2.2.2,fun x hx=>?_⟩
 have:=h.1 x hx;simp only [bY,Bool.and_eq_true] at this;exact this.1
theorem jA{α:Type}{l:List α}{i:Nat}{x:α}(h:l[i]? =some x):l.drop i=x::l.drop (i+1):=by obtain⟨h1,h2⟩:=cX.1 h;rw [vBh h1,h2]
theorem aF3{a d v:Int}(ha:0≤a∧a≤36)(hd:1≤d∧d≤6)(hv:0≤v∧v<d):0≤a*d∧a*d≤216∧0≤a*d+v:=by have h1:=vBx ha.1 (show 0≤d by omega);have h2:=vBO ha.2 hd.2 (by omega) (by omega);omega
theorem aLz{n:Nat}(hn:6000≤n){a:Access}(h1:a.subs.length≤2)(h2: ∀x∈a.subs,bI x=true){ds:List Int}(hd:jT ds=true)(hl:a.subs.length=ds.length){k:Nat}{p:List Int}(hp:rO k p)(base:Int)(hb:0≤base∧base≤1000000):
  aJ (fun again8 ((x6,x7):Int×Int)=>bif decide (x7<(a.subs.length:Int)) then(Option.bind (ix a.subs x7) fun x9=>Option.bind (dM n x9 p) fun x10=>Option.bind (ix ds x7) fun x11=>Option.bind (dB n x10 0 (wr (x11-1))) fun x12=>bif !x12 then(some (-1)) else(again8 (wr ((wr (x6*x11))+x10),wr (x7+1)))) else(some (wr (base+x6)))) n (0,0)
   =some (if l9 a.subs ds p 0<0 then-1 else base+l9 a.subs ds p 0):=by
 have hdm: ∀d∈ds,1≤d∧d≤6:=by
  simp only [jT,Bool.and_eq_true,decide_eq_true_eq,List.all_eq_true] at hd;exact fun d h=>hd.2 d h
 refine Ev.eq ?_;refine Ev.loop (fun x:Int×Int=> ∃i:Nat,x.2=i∧i≤a.subs.length∧0≤x.1∧x.1≤36*i∧(i=0→x.1=0)∧(i=1→x.1≤5)∧l9 a.subs ds p 0=l9 (a.subs.drop i) (ds.drop i) p x.1) (fun x=>a.subs.length-x.2.toNat) ?_ n _ ⟨0,rfl,by omega,by simp,by simp,fun _=>rfl,fun h=>by omega,rfl⟩ (by simp;omega);rintro again ⟨x,z⟩ ⟨i,hz,hi,hx0,hx1,hx2,hx3,hx⟩ hr;dsimp only at hz hx0 hx1 hx2 hx3 hx⊢;subst hz;refine aG (fun hlt=>?_) fun hge=>Ev.some ?_
 ·have hs:=cP (show i<a.subs.length by omega);have hdd:=cP (show i<ds.length by omega);have hdb:=hdm _ (cR hdd);have ew:wr (ds[i]-1)=ds[i]-1:=aN (by omega);rw [jA hs,jA hdd] at hx;simp only [l9] at hx;refine aA (aI hs) (aA (aLA (by omega) (h2 _ (cR hs)) hp) (aA (aI hdd) (aA (fD _ _ _ _) ?_)));rw [ew];by_cases hc:0≤cC a.subs[i] p∧cC a.subs[i] p<ds[i]
  ·rw [if_pos hc] at hx;rw [decide_eq_true (show 0≤cC a.subs[i] p∧cC a.subs[i] p≤ds[i]-1 by omega)];obtain⟨g1,g2,g3⟩:=aF3 (a:=x) (by omega) hdb hc;refine b7 ?_;rw [aN (n:=x*ds[i]) (by omega),aN (n:=x*ds[i]+cC a.subs[i] p) (by omega),aN (by omega)];have hi01:i=0∨i=1:=by omega
   refine hr _ ⟨i+1,by dsimp only;omega,by omega,by dsimp only;omega,?_,fun h=>by omega,fun h=>?_,hx⟩ (by dsimp only;omega)
   ·dsimp only;rcases hi01 with rfl|rfl
    ·rw [hx2 rfl];omega
    have:=hx3 rfl
    have:=vBO this hdb.2 (by omega) (by omega);omega
   dsimp only
   have:i=0:=by omega
   subst this;rw [hx2 rfl];omega
  rw [if_neg hc] at hx;rw [decide_eq_false (show¬(0≤cC a.subs[i] p∧cC a.subs[i] p≤ds[i]-1) by omega)];refine bZ (Ev.some ?_);rw [hx];rfl
 have hie:i=a.subs.length:=by omega
 have hdr:l9 (a.subs.drop i) (ds.drop i) p x=x:=by
  rw [hie,vBu];unfold l9;rfl
 rw [hdr] at hx;rw [hx,if_neg (by omega),aN (by omega)]
theorem aKQ{n:Nat}(hn:6000≤n){a:Access}(h0:1≤a.subs.length)(h1:a.subs.length≤2)(h2: ∀x∈a.subs,bI x=true){ds:List Int}(hd:jT ds=true){k:Nat}{p:List Int}(hp:rO k p)(base:Int)(hb:0≤base∧base≤1000000):
  aJ (fun again8 ((x6,x7):Int×Int)=>bif decide (x7<(a.subs.length:Int)) then(bif !decide ((a.subs.length:Int)=(ds.length:Int)) then(some (-1)) else(Option.bind (ix a.subs x7) fun x9=>Option.bind (jY n x9 p) fun x10=>jn (fun(x13:Bool)=>bif x13 then(some (-1)) else(Option.bind (ix ds x7) fun x14=>again8 (wr ((wr (x6*x14))+x10),wr (x7+1)))) fun j11=>bif decide (x10<0) then(j11 true) else(Option.bind (ix ds x7) fun x12=>j11 (decide (x12≤x10))))) else(some (wr (base+x6)))) n (0,0)
   =some (if a.subs.length=ds.length then(if l9 a.subs ds p 0<0 then-1 else base+l9 a.subs ds p 0) else-1):=by
 by_cases hl:a.subs.length=ds.length
 ·rw [if_pos hl];rw [decide_eq_true (show(a.subs.length:Int)=(ds.length:Int) by omega)];have hdm: ∀d∈ds,1≤d∧d≤6:=by
   simp only [jT,Bool.and_eq_true,decide_eq_true_eq,List.all_eq_true] at hd;exact fun d h=>hd.2 d h
  refine Ev.eq ?_;refine Ev.loop (fun x:Int×Int=> ∃i:Nat,x.2=i∧i≤a.subs.length∧0≤x.1∧x.1≤36*i∧(i=0→x.1=0)∧(i=1→x.1≤5)∧l9 a.subs ds p 0=l9 (a.subs.drop i) (ds.drop i) p x.1) (fun x=>a.subs.length-x.2.toNat) ?_ n _ ⟨0,rfl,by omega,by simp,by simp,fun _=>rfl,fun h=>by omega,rfl⟩ (by simp;omega);rintro again ⟨x,z⟩ ⟨i,hz,hi,hx0,hx1,hx2,hx3,hx⟩ hr;dsimp only at hz hx0 hx1 hx2 hx3 hx⊢;subst hz;refine aG (fun hlt=>?_) fun hge=>Ev.some ?_
  ·have hs:=cP (show i<a.subs.length by omega);have hdd:=cP (show i<ds.length by omega);have hdb:=hdm _ (cR hdd);rw [jA hs,jA hdd] at hx;simp only [l9] at hx;refine b7 (aA (aI hs) (aA (aKR (by omega) (h2 _ (cR hs)) hp) (Ev.jn (fun z=>z= !decide (0≤cC a.subs[i] p∧cC a.subs[i] p<ds[i])) (fun j hj=>aG (fun h=>hj _ ?_) fun h=>aA (aI hdd) (hj _ ?_)) fun z hz=>?_)))
   ·rw [decide_eq_false (by omega)];rfl
   ·by_cases hc:ds[i]≤cC a.subs[i] p
    ·rw [decide_eq_true hc,decide_eq_false (by omega)];rfl
    rw [decide_eq_false hc,decide_eq_true (by omega)];rfl
   subst hz;by_cases hc:0≤cC a.subs[i] p∧cC a.subs[i] p<ds[i]
   ·rw [if_pos hc] at hx;rw [decide_eq_true hc];obtain⟨g1,g2,g3⟩:=aF3 (a:=x) (by omega) hdb hc;refine b7 (aA (aI hdd) ?_);rw [aN (n:=x*ds[i]) (by omega),aN (n:=x*ds[i]+cC a.subs[i] p) (by omega),aN (by omega)];have hi01:i=0∨i=1:=by omega
    refine hr _ ⟨i+1,by dsimp only;omega,by omega,by dsimp only;omega,?_,fun h=>by omega,fun h=>?_,hx⟩ (by dsimp only;omega)
    ·dsimp only;rcases hi01 with rfl|rfl
     ·rw [hx2 rfl];omega
     have:=hx3 rfl
     have:=vBO this hdb.2 (by omega) (by omega);omega
    dsimp only
    have:i=0:=by omega
    subst this;rw [hx2 rfl];omega
   rw [if_neg hc] at hx;rw [decide_eq_false hc];refine bZ (Ev.some ?_);rw [hx];rfl
  have hie:i=a.subs.length:=by omega
  have hdr:l9 (a.subs.drop i) (ds.drop i) p x=x:=by
   rw [hie,vBu];unfold l9;rfl
  rw [hdr] at hx;rw [hx,if_neg (by omega),aN (by omega)]
 rw [if_neg hl,decide_eq_false (show¬(a.subs.length:Int)=(ds.length:Int) by omega)];obtain⟨n,rfl⟩: ∃j,n=j+1:=⟨n-1,by omega⟩
 simp only [aJ];rw [decide_eq_true (show(0:Int)<(a.subs.length:Int) by omega)];rfl
theorem xL{n:Nat}(hn:6000≤n){p:Prog}(hl:p.arrays.length≤4)(hd:gL p.arrays){a:Access}{d:Int}(ha:iB a d=true){k:Nat}{q:List Int}(hq:rO k q):eV n p a q=some (dD p.arrays a q 0):=by
 obtain⟨a0,a1,a2⟩:=uQ ha;refine Ev.eq ?_;unfold eV;refine Ev.loop (fun x:Int×Int=> ∃i:Nat,x.2=i∧i≤p.arrays.length∧0≤x.1∧x.1≤36*i∧dD p.arrays a q 0=dD (p.arrays.drop i) a q x.1) (fun x=>p.arrays.length-x.2.toNat) ?_ n _ ⟨0,rfl,by omega,by simp,by simp,rfl⟩ (by simp;omega);rintro again ⟨x,z⟩ ⟨i,hz,hi,hx0,hx1,hx⟩ hr;dsimp only at hz hx0 hx1 hx⊢;subst hz;refine aG (fun hlt=>?_) fun hge=>Ev.some ?_
 ·have hy:=cP (show i<p.arrays.length by omega);have hdy:=hd _ (cR hy);have hsz:=Y8 hdy;rw [jA hy] at hx;simp only [dD] at hx;refine aA (aI hy) (cZ (fun hne=>?_) fun he=>?_)
  ·rw [if_neg hne] at hx;refine aA (aJC hn hdy) ?_;rw [aN (n:=x+Y9 p.arrays[i].dims) (by omega),aN (by omega)];exact hr _ ⟨i+1,by dsimp only;omega,by omega,by dsimp only;omega,by dsimp only;omega,hx⟩ (by dsimp only;omega)
  rw [if_pos he] at hx;refine cZ (fun hne=>Ev.some ?_) fun hle=>?_
  ·rw [hx,if_neg (by omega)]
  have hle':a.subs.length=p.arrays[i].dims.length:=by omega
  rw [if_pos hle'] at hx;exact Ev.of (aLz hn a1 a2 hdy hle' hq x (by omega)) hx.symm
 have hie:i=p.arrays.length:=by omega
 rw [hx,hie,vBu];rfl
theorem aCi{n:Nat}(hn:6000≤n){list:List Arr}(hl:list.length≤4)(hd:gL list){a:Access}{d:Int}(ha:iB a d=true){k:Nat}{q:List Int}(hq:rO k q):vC n list a q=some (dD list a q 0):=by
 obtain⟨a0,a1,a2⟩:=uQ ha;refine Ev.eq ?_;unfold vC;refine Ev.loop (fun x:Int×Int=> ∃i:Nat,x.2=i∧i≤list.length∧0≤x.1∧x.1≤36*i∧dD list a q 0=dD (list.drop i) a q x.1) (fun x=>list.length-x.2.toNat) ?_ n _ ⟨0,rfl,by omega,by simp,by simp,rfl⟩ (by simp;omega);rintro again ⟨x,z⟩ ⟨i,hz,hi,hx0,hx1,hx⟩ hr;dsimp only at hz hx0 hx1 hx⊢;subst hz;refine aG (fun hlt=>?_) fun hge=>Ev.some ?_
 ·have hy:=cP (show i<list.length by omega);have hdy:=hd _ (cR hy);have hsz:=Y8 hdy;rw [jA hy] at hx;simp only [dD] at hx;refine aA (aI hy) (cZ (fun hne=>?_) fun he=>?_)
  ·rw [if_neg hne] at hx;refine aA (u9 hn hdy) ?_;rw [aN (n:=x+Y9 list[i].dims) (by omega),aN (by omega)];exact hr _ ⟨i+1,by dsimp only;omega,by omega,by dsimp only;omega,by dsimp only;omega,hx⟩ (by dsimp only;omega)
  rw [if_pos he] at hx;exact Ev.of (aKQ hn a0 a1 a2 hdy hq x (by omega)) hx.symm
 have hie:i=list.length:=by omega
 rw [hx,hie,vBu];rfl
def b8:Nat→Expr→List Access
 |0,_=>[]
 |L+1,e=>(if e.kind=3 then [e.read] else [])++e.kids.flatMap (b8 L)
theorem M3{d:Int}: ∀{L:Nat} {e:Expr},dP L e d=true→ ∀a∈b8 L e,iB a d=true
 |0,e,h,a,ha=>by cases h
 |L+1,e,h,a,ha=>by
  obtain⟨h1,h2,h3⟩:=iI h;simp only [b8,List.mem_append,List.mem_flatMap] at ha;rcases ha with ha|⟨k,hk,ha⟩
  ·split at ha
   ·rename_i hk3;simp at ha;subst ha;unfold gH at h2;rw [if_neg (by omega),if_pos hk3] at h2;simp only [Bool.and_eq_true] at h2;exact h2.2.2
   simp at ha
  exact M3 (h3 k hk) a ha
theorem xA: ∀(L:Nat) (e:Expr),((b8 L e).length:Int)≤uS L e
 |0,e=>by simp [b8,uS]
 |L+1,e=>by
  have h: ∀(l:List Expr),((l.flatMap (b8 L)).length:Int)≤(l.map (uS L)).sum:=by
   intro l;induction l with
   |nil=>simp
   |cons k l ih=>
    have:=xA L k;simp only [List.flatMap_cons,List.length_append,List.map_cons,List.sum_cons];omega
  have:=h e.kids;simp only [b8,uS,List.length_append];split
  ·rw [vAY];omega
  rw [List.length_nil];omega
theorem zC{d:Int}: ∀(L n:Nat) (e:Expr),6000+L≤n→L≤5→dP L e d=true→i_reads (n+1) e=some (b8 L e)
 |0,n,e,_,_,h=>by cases h
 |L+1,n,e,hn,hL,h=>by
  obtain⟨h1,h2,h3⟩:=iI h;have hk2:=m4 e.kind;unfold i_reads;refine Ev.eq (aG (fun h3k=>Ev.some ?_) fun hn3=>?_)
  ·have:e.kids=[]:=by
    have hz:iX e.kind=0:=by unfold iX;rw [if_pos (Or.inr (Or.inr h3k))]
    exact vAB (by omega)
   simp [b8,h3k,this]
  obtain⟨n,rfl⟩: ∃j,n=j+1:=⟨n-1,by omega⟩
  have hcb: ∀k∈e.kids,((b8 L k).length:Int)≤100:=fun k hk=>by
   have h5:=aD3 (h3 k hk);have h6:(2:Int)^L≤40:=by
    match L,hL with
    |0,_=>decide
    |1,_=>decide
    |2,_=>decide
    |3,_=>decide
    |4,_=>decide
   have:=xA L k;omega
  refine Ev.loop (fun x:List Access×Int=> ∃i:Nat,x.2=i∧i≤e.kids.length∧x.1=(e.kids.take i).flatMap (b8 L)∧(x.1.length:Int)≤100*i) (fun x=>e.kids.length-x.2.toNat) ?_ (n+1) _ ⟨0,rfl,by omega,by simp,by simp⟩ (by simp;omega);rintro again ⟨x,k⟩ ⟨i,hk,hi,hx,hxl⟩ hr;dsimp only at hk hx hxl⊢;subst hk;refine aG (fun hlt=>?_) fun hge=>Ev.some ?_
  ·have hk3:=cP (show i<e.kids.length by omega);have hm:=cR hk3;have hb:=hcb _ hm;refine aA (aI hk3) (aA (zC (d:=d) L n _ (by omega) (by omega) (h3 _ hm)) (aA (bJ (by omega)) ?_));rw [aN (by omega)];refine hr _ ⟨i+1,by dsimp only;omega,by omega,?_,by dsimp only;rw [pV];omega⟩ (by dsimp only;omega);dsimp only;rw [xT,hk3,vBa,hx];simp
  have:i=e.kids.length:=by omega
  rw [hx,this,pY];simp [b8,hn3]
theorem zJ(n:Nat){a:Affine}(h:a.coefs.length≤1000):eM n a=some a:=by
 unfold eM;refine Ev.eq (aG (fun h0=>Ev.some ?_) fun h0=>aA (eH _ h) (Ev.some rfl));obtain⟨cs,c⟩:=a
 have:cs=[]:=vAB (by simpa using h0);subst this;rfl
theorem zK{n:Nat}(hn:5000≤n){a:Access}(h:U8 a.subs):f9 n a=some a:=by
 obtain⟨h0,h1⟩:=h;refine Ev.eq ?_;unfold f9;refine Ev.loop (fun x:List Affine×Int=> ∃i:Nat,x.2=i∧i≤a.subs.length∧x.1=a.subs.take i) (fun x=>a.subs.length-x.2.toNat) ?_ n _ ⟨0,rfl,by omega,by simp⟩ (by simp;omega);rintro again ⟨x,k⟩ ⟨i,hk,hi,hx⟩ hr;dsimp only at hk hx⊢;subst hk;refine aG (fun hlt=>?_) fun hge=>Ev.some ?_
 ·have hs:=cP (show i<a.subs.length by omega);have hl:x.length=i:=by rw [hx,rQ];omega
  refine aA (aI hs) (aA (zJ n (h1 _ (cR hs))) (aA (bJ (by simp;omega)) ?_));rw [aN (by omega)];refine hr _ ⟨i+1,by dsimp only;omega,by omega,?_⟩ (by dsimp only;omega);dsimp only;rw [xT,hs,hx];rfl
 have:i=a.subs.length:=by omega
 rw [hx,this,pY]
theorem aOs{l:List Affine}(h1:l.length≤2)(h2: ∀a∈l,bI a=true):U8 l:=⟨by omega,fun a ha=>by have:=(d6 (h2 a ha)).1;unfold SmA;omega⟩
theorem Z4{d:Int}: ∀(L n:Nat) (e:Expr) (out:List Access),6000+L≤n→L≤5→dP L e d=true→(out.length:Int)≤1000+200*(6-(L:Int))→s_l3Reads (n+1) out e=some (out++b8 L e)
 |0,n,e,out,_,_,h,_=>by cases h
 |L+1,n,e,out,hn,hL,h,ho=>by
  obtain⟨h1,h2,h3⟩:=iI h;have hk2:=m4 e.kind;unfold s_l3Reads;refine Ev.eq (Ev.jn (fun z=>z=out++(if e.kind=3 then [e.read] else [])) (fun j hj=>aG (fun h3k=>?_) fun hn3=>hj _ (by rw [if_neg hn3];simp)) fun z hz=>?_)
  ·have ha:=M3 h e.read (by simp [b8,h3k]);obtain⟨_,b1,b2⟩:=uQ ha;exact aA (zK (by omega) (aOs b1 b2)) (aA (bJ (by simp;omega)) (hj _ (by rw [if_pos h3k])))
  subst hz;obtain⟨n,rfl⟩: ∃j,n=j+1:=⟨n-1,by omega⟩
  by_cases h3k:e.kind=3
  ·have hnil:e.kids=[]:=by
    have hz:iX e.kind=0:=by unfold iX;rw [if_pos (Or.inr (Or.inr h3k))]
    exact vAB (by omega)
   rw [hnil];refine Ev.some ?_;simp [b8,h3k,hnil]
  have hcb: ∀k∈e.kids,((b8 L k).length:Int)≤100:=fun k hk=>by
   have h5:=aD3 (h3 k hk);have h6:(2:Int)^L≤40:=by
    match L,hL with
    |0,_=>decide
    |1,_=>decide
    |2,_=>decide
    |3,_=>decide
    |4,_=>decide
   have:=xA L k;omega
  rw [if_neg h3k,vBo];refine Ev.loop (fun x:List Access×Int=> ∃i:Nat,x.2=i∧i≤e.kids.length∧x.1=out++(e.kids.take i).flatMap (b8 L)∧(x.1.length:Int)≤out.length+100*i) (fun x=>e.kids.length-x.2.toNat) ?_ (n+1) _ ⟨0,rfl,by omega,by simp,by simp⟩ (by simp;omega);rintro again ⟨x,k⟩ ⟨i,hk,hi,hx,hxl⟩ hr;dsimp only at hk hx hxl⊢;subst hk;refine aG (fun hlt=>?_) fun hge=>Ev.some ?_
  ·have hk3:=cP (show i<e.kids.length by omega);have hm:=cR hk3;have hb:=hcb _ hm;refine aA (aI hk3) (aA (Z4 (d:=d) L n _ x (by omega) (by omega) (h3 _ hm) (by omega)) ?_);rw [aN (by omega)];refine hr _ ⟨i+1,by dsimp only;omega,by omega,?_,by dsimp only;rw [pV];omega⟩ (by dsimp only;omega);dsimp only;rw [xT,hk3,vBa,hx];simp
  have:i=e.kids.length:=by omega
  rw [hx,this,pY];simp [b8,h3k]
theorem aK5{nest:List Loop}(hf:Fit nest): ∀(ls:List Loop) (k:Nat) (p q:List Int),nest.drop k=ls→k≤nest.length→rO k p→q∈pts ls p→rO nest.length q
 | [],k,p,q,hd,hk,hp,hq=>by
  have:=H8 hd hk;simp only [pts,List.mem_singleton] at hq;subst hq;subst this;exact hp
 |l::ls,k,p,q,hd,hk,hp,hq=>by obtain⟨d1,d2,d3⟩:=xO hd;obtain⟨s1,s2⟩:=hf.2 k l d1;have hf1:=hf.1;simp only [pts,List.mem_flatMap] at hq;obtain⟨v,hv,hq⟩:=hq;exact aK5 hf ls (k+1) _ q d2 (by omega) (W5 s1 s2 hp (by omega) (aNF.1 hv)) hq
theorem aEp{nest:List Loop}{ps:List (List Int)}(h:NP nest=some ps):Fit nest∧ps.length≤120∧(∀q∈ps,rO nest.length q)∧ps=pts nest []∧wk nest []≤1200:=by
 unfold NP at h;split at h
 ·rename_i hc;cases h;have hf:=aDO hc.1;exact⟨hf,hc.2.2,fun q hq=>aK5 hf nest 0 [] q rfl (by omega) pt0 hq,rfl,hc.2.1⟩
 cases h
def dX(list:List Arr)(s:Stmt)(q:List Int):Bool:=decide (0≤dD list s.write q 0)&&(b8 5 s.value).all fun a=>decide (0≤dD list a q 0)
theorem kO{s:Stmt}{d:Int}(h:fW s d=true):iB s.write d=true∧dP 5 s.value d=true∧(∀a∈b8 5 s.value,iB a d=true)∧(b8 5 s.value).length≤12:=by
 simp only [fW,Bool.and_eq_true,decide_eq_true_eq] at h;obtain⟨_,h1,h2,h3⟩:=h
 have:=xA 5 s.value;exact⟨h1,h2,M3 h2,by omega⟩
theorem aFd{n:Nat}(hn:7000≤n){p:Prog}(hl:p.arrays.length≤4)(hd:gL p.arrays){s:Stmt}{d:Int}(hs:fW s d=true){k:Nat}{q:List Int}(hq:rO k q):jO n p s q=some (dX p.arrays s q):=by
 obtain⟨h1,h2,h3,h4⟩:=kO hs;obtain⟨n,rfl⟩: ∃j,n=j+1:=⟨n-1,by omega⟩
 refine Ev.eq ?_;unfold jO;generalize hT:dX p.arrays s q=T;unfold dX at hT;refine Ev.jn (fun z=>z=T) (fun j hj=>aA (xL (by omega) hl hd h1 hq) (aG (fun h=>?_) fun h=>hj _ ?_)) fun z hz=>Ev.some hz
 ·have hc:=T6 (n:=n+1) (f:=fun q0=>eU (n+1) q0 p q) (p:=fun a=>decide (dD p.arrays a q 0<0)) (l:=b8 5 s.value)
   (fun a ha=>by unfold eU;rw [xL (by omega) hl hd (h3 a ha) hq];rfl) (by omega) (by omega)
  refine aA (zC (d:=d) 5 n s.value (by omega) (by omega) h2) (aA hc (hj _ ?_));rw [←hT,decide_eq_true h,vAZ,vBd];congr 1;apply congrArg fun f=>List.any (b8 5 s.value) f;funext a;rw [ltd]
 rw [←hT,decide_eq_false h];rfl
theorem C5{n:Nat}(hn:7000≤n){list:List Arr}(hl:list.length≤4)(hd:gL list){s:Stmt}{d:Int}(hs:fW s d=true){k:Nat}{q:List Int}(hq:rO k q):
  oO n list s q=some (if dX list s q=true then((b8 5 s.value).map fun a=>dD list a q 0,dD list s.write q 0,true) else([],0,false)):=by
 obtain⟨h1,h2,h3,h4⟩:=kO hs;obtain⟨n,rfl⟩: ∃j,n=j+1:=⟨n-1,by omega⟩
 refine Ev.eq ?_;unfold oO;refine aA (Z4 (d:=d) 5 n s.value [] (by omega) (by omega) h2 (by simp)) ?_;rw [List.nil_append];generalize hR:b8 5 s.value=R at*;have hco:dX list s q=(decide (0≤dD list s.write q 0)&&R.all fun a=>decide (0≤dD list a q 0)):=by unfold dX;rw [hR]
 refine Ev.loop (fun x:List Int×Int=> ∃i:Nat,x.2=i∧i≤R.length∧x.1=(R.take i).map (fun a=>dD list a q 0)∧ ∀(t:Nat) a,t<i→R[t]? =some a→0≤dD list a q 0) (fun x=>R.length-x.2.toNat) ?_ (n+1) _ ⟨0,rfl,by omega,by simp,fun t a h=>by omega⟩ (by dsimp only;omega);rintro again ⟨x,z⟩ ⟨i,hz,hi,hx,ha⟩ hr;dsimp only at hz hx ha⊢;subst hz;refine aG (fun hlt=>?_) fun hge=>?_
 ·have hg:=cP (show i<R.length by omega);have hm:=cR hg;refine aA (aI hg) (aA (aCi (by omega) hl hd (h3 _ hm) hq) (aG (fun hneg=>Ev.some ?_) fun hpos=>?_))
  ·rw [if_neg];rw [hco];intro h;rw [vBt] at h
   have:=vAI.1 h.2 _ hm;rw [decide_eq_true_eq] at this;omega
  have hl2:x.length≤12:=by rw [hx,o7,rQ];omega
  refine aA (bJ (by simp;omega)) ?_;rw [aN (by omega)];refine hr _ ⟨i+1,by dsimp only;omega,by omega,?_,fun t a ht hta=>?_⟩ (by dsimp only;omega)
  ·dsimp only;rw [xT,hg,vAK,hx];rfl
  by_cases hti:t=i
  ·subst hti;rw [hg] at hta;cases hta;omega
  exact ha t a (by omega) hta
 have hie:i=R.length:=by omega
 have hall:R.all (fun a=>decide (0≤dD list a q 0))=true:=vAI.2 (fun a hm=>by
  obtain⟨t,ht⟩:=vAL hm
  have:=(cX.1 ht).1;exact decide_eq_true (ha t a (by omega) ht))
 rw [hco,hall,Bool.and_true];refine aA (aCi (by omega) hl hd h1 hq) (aG (fun hneg=>Ev.some ?_) fun hpos=>Ev.some ?_)
 ·rw [if_neg (by rw [decide_eq_true_eq];omega)]
 rw [if_pos (by rw [decide_eq_true_eq];omega),hx,hie,pY]
def ptV(q:List Int):Bool:=decide (q.length≤4)&&q.all fun x=>decide (-9999≤x∧x≤9999)
theorem aDI{n:Nat}(hn:5000≤n){q:List Int}(h:q.length≤1000):xK n q=some (ptV q):=by
 unfold xK ptV;have hc:=t8 (n:=n) (f:=fun q0=>m5 n q0) (p:=fun x=> !decide (-9999≤x∧x≤9999)) (l:=q) (fun x _=>by unfold m5;rw [fD];rfl) (by omega) (by omega);simp only [jn,Option.bind];rw [hc];have e:(q.any fun x=> !decide (-9999≤x∧x≤9999))= !(q.all fun x=>decide (-9999≤x∧x≤9999)):=by rw [vBd];simp
 rw [e,show decide ((q.length:Int)≤4)=decide (q.length≤4) from decide_eq_decide.2 (by omega)];cases decide (q.length≤4)<;>simp
theorem aDp{n:Nat}(hn:5000≤n){q:List Int}(h:q.length≤1000):w6 n q=some (ptV q):=by
 refine Ev.eq ?_;unfold w6;refine oJ (l:=q) (p:=fun _ x=>decide (-9999≤x∧x≤9999)) (by omega) (by omega) (fun again i x hx hgo hno=>?_) (fun again hall=>?_) (fun⟨i,x,hx,hp⟩=>?_)
 ·have hi:=(cX.1 hx).1;rw [decide_eq_true (show(i:Int)<(q.length:Int) by omega)];refine bZ (aA (aI hx) (aA (u4 n x 9999 (by omega)) ?_));cases hp:decide (-9999≤x∧x≤9999) with
  |true=>show Ev (again _) _;rw [aN (by omega)];exact hgo hp
  |false=>exact Ev.some (hno hp)
 ·rw [decide_eq_false (show¬(q.length:Int)<(q.length:Int) by omega)];refine Ev.some ?_;unfold ptV;rw [vAI.2 (fun c hc=>by obtain⟨i,hi⟩:=vAL hc;exact hall i c hi),Bool.and_true];exact decide_eq_decide.2 (by omega)
 unfold ptV;rw [vAM.2 ⟨x,cR hx,by rw [hp];simp⟩,vBm]
theorem aF0{α:Type}(p q:α→Bool): ∀l:List α,(l.all p&&l.all q)=l.all (fun x=>p x&&q x)
 | []=>rfl
 |x::l=>by simp only [List.all_cons,←aF0 p q l];cases p x<;>cases q x<;>cases l.all p<;>cases l.all q<;>rfl
def K8(part:Part):Bool:=decide (1≤part.body.length∧part.body.length≤4)&&part.body.all fun s=>fW s (part.nest.length:Int)
def dE(part:Part):List (List Int):=(NP part.nest).getD []
def cL(list:List Arr)(part:Part):Bool:=(NP part.nest).isSome&&(K8 part&&part.body.all fun s=>(dE part).all fun q=>dX list s q&&ptV q)
def aEi(x:Part):Prop:=SmN x.nest∧x.body.length≤1000∧ ∀s∈x.body,SmS s
def SmP(p:Prog):Prop:=SmR p.arrays∧p.parts.length≤1000∧ ∀x∈p.parts,aEi x
theorem fL{list:List Arr}{x:Part}(h:cL list x=true):NP x.nest=some (dE x)∧(1≤x.body.length∧x.body.length≤4)∧(∀s∈x.body,fW s (x.nest.length:Int)=true)∧ ∀s∈x.body,∀q∈dE x,dX list s q=true∧ptV q=true:=by
 simp only [cL,K8,Bool.and_eq_true,decide_eq_true_eq,List.all_eq_true] at h;refine⟨?_,h.2.1.1,h.2.1.2,h.2.2⟩;unfold dE;cases hn:NP x.nest with
 |none=>rw [hn] at h;simp at h
 |some ps=>rfl
theorem aH3{list:List Arr}(h:jD list=true):list.length≤4∧gL list:=by
 simp only [jD,Bool.and_eq_true,decide_eq_true_eq] at h;refine⟨h.2,fun x hx=>?_⟩;obtain⟨i,hi⟩:=vAL hx
 have:=aAI h.1 hi;simp only [aB4,Bool.and_eq_true] at this;exact this.2.2
theorem vA{n:Nat}(hn:7000≤n){list:List Arr}(hl:list.length≤4)(hd:gL list){x:Part}(hx:aEi x):
  sA n list x=some (if cL list x=true then(((dE x).length:Int)*(x.body.length:Int),true) else(0,false)):=by
 obtain⟨h1,h2,h3⟩:=hx;refine Ev.eq ?_;unfold sA;generalize hT:(if cL list x=true then(((dE x).length:Int)*(x.body.length:Int),true) else((0:Int),false))=T;refine aA (T1 (by omega) h1) ?_;have hbad:cL list x=false→((0:Int),false)=T:=fun h=>by rw [←hT,h];rfl
 refine Ev.jn (fun z=>z= !((NP x.nest).isSome&&decide (1≤x.body.length∧x.body.length≤4))) (fun j hj=>?_) fun z hz=>?_
 ·cases hN:NP x.nest with
  |none=>exact bZ (hj _ (by rw [hN];rfl))
  |some ps=>
   refine b7 (aG (fun h=>hj _ ?_) fun h=>hj _ ?_)
   ·rw [hN,decide_eq_false (by omega)];rfl
   rw [hN];by_cases h4:x.body.length≤4
   ·rw [decide_eq_false (show¬(4:Int)<(x.body.length:Int) by omega),decide_eq_true (by omega)];rfl
   rw [decide_eq_true (show(4:Int)<(x.body.length:Int) by omega),decide_eq_false (by omega)];rfl
 subst hz;cases hN:NP x.nest with
 |none=>exact Ev.some (hbad (by unfold cL;rw [hN];rfl))
 |some ps=>
  obtain⟨hf,hp1,hp2,hp3,hp4⟩:=aEp hN;have hpp:dE x=ps:=by unfold dE;rw [hN];rfl
  by_cases hb:1≤x.body.length∧x.body.length≤4
  ·rw [decide_eq_true hb];refine b7 ?_;have hok:cL list x=x.body.all (fun s=>fW s (x.nest.length:Int)&&ps.all fun q=>dX list s q&&ptV q):=by
    unfold cL K8;rw [hN,hpp,decide_eq_true hb,Option.isSome_some,vAZ,vAZ];exact aF0 _ _ _
   refine Ev.loop (fun y:Int=> ∃i:Nat,y=i∧i≤x.body.length∧ ∀(t:Nat) s,t<i→x.body[t]? =some s→(fW s (x.nest.length:Int)&&ps.all fun q=>dX list s q&&ptV q)=true) (fun y=>x.body.length-y.toNat) ?_ n _ ⟨0,rfl,by omega,fun t s h=>by omega⟩ (by simp;omega);rintro again y ⟨i,rfl,hi,ha⟩ hr;refine aG (fun hlt=>?_) fun hge=>Ev.some ?_
   ·have hg:=cP (show i<x.body.length by omega);have hm:=cR hg;refine aA (aI hg) (aA (vG (by omega) (h3 _ hm) _) ?_);cases hsv:fW x.body[i] (x.nest.length:Int) with
    |false=>
     refine bZ (Ev.some (hbad ?_));rw [hok];exact vAM.2 ⟨_,hm,by rw [hsv];simp⟩
    |true=>
     refine b7 ?_;show Ev (aJ (fun again9 (x8:Int)=>bif decide (x8<(ps.length:Int)) then _ else _) n 0) _;refine Ev.loop (fun y:Int=> ∃k:Nat,y=k∧k≤ps.length∧ ∀(t:Nat) q,t<k→ps[t]? =some q→(dX list x.body[i] q&&ptV q)=true) (fun y=>ps.length-y.toNat) ?_ n _ ⟨0,rfl,by omega,fun t s h=>by omega⟩ (by simp;omega);rintro again9 y ⟨k,rfl,hk,hak⟩ hr9;refine aG (fun hlt9=>?_) fun hge9=>?_
     ·have hgk:=cP (show k<ps.length by omega);have hmk:=cR hgk;have hq:=hp2 _ hmk;have hql:ps[k].length≤1000:=by have:=hq.1;have:=hq.2.1;omega
      refine aA (aI hgk) (aA (C5 (by omega) hl hd hsv hq) (Ev.jn (fun z=>z= !(dX list x.body[i] ps[k]&&ptV ps[k])) (fun j hj=>?_) fun z hz=>?_))
      ·cases hc:dX list x.body[i] ps[k] with
       |false=>
        rw [hc] at hj;exact bZ (hj _ rfl)
       |true=>
        rw [hc] at hj;exact b7 (aA (aDp (by omega) hql) (hj _ rfl))
      subst hz;cases hc:(dX list x.body[i] ps[k]&&ptV ps[k]) with
      |false=>
       refine Ev.some (hbad ?_);rw [hok];refine vAM.2 ⟨_,hm,?_⟩;rw [hsv,vAZ];rw [vAM.2 ⟨_,hmk,by rw [hc];simp⟩];simp
      |true=>
       show Ev (again9 _) _;rw [aN (by omega)];refine hr9 _ ⟨k+1,by omega,by omega,fun t q ht htq=>?_⟩ (by omega);by_cases htk:t=k
       ·subst htk;rw [hgk] at htq;cases htq;exact hc
       exact hak t q (by omega) htq
     rw [aN (by omega)];refine hr _ ⟨i+1,by omega,by omega,fun t s ht hts=>?_⟩ (by omega);by_cases hti:t=i
     ·subst hti;rw [hg] at hts;cases hts;rw [hsv,vAZ];refine vAI.2 fun q hq=>?_;obtain⟨t',ht'⟩:=vAL hq
      have:=(cX.1 ht').1;exact hak t' q (by omega) ht'
     exact ha t s (by omega) hts
   have hall:cL list x=true:=by
    rw [hok];refine vAI.2 fun s hs=>?_;obtain⟨t,ht⟩:=vAL hs
    have:=(cX.1 ht).1;exact ha t s (by omega) ht
   rw [←hT,hall,if_pos rfl,hpp];show(wr ((ps.length:Int)*(x.body.length:Int)),true)=_;have hb1:(0:Int)≤(ps.length:Int)*(x.body.length:Int):=vBx (by omega) (by omega);have hb2:(ps.length:Int)*(x.body.length:Int)≤120*4:=vBO (by omega) (by omega) (by omega) (by omega);rw [aN (by omega)]
  rw [decide_eq_false hb];refine Ev.some (hbad ?_);unfold cL K8;rw [decide_eq_false hb];simp
def gM(x:Part):Int:=((dE x).length:Int)*(x.body.length:Int)
def instP(i:Nat)(x:Part):List Inst:=(dE x).flatMap fun q=>(List.range x.body.length).map fun(k:Nat)=>(⟨(i:Int),(k:Int),q⟩:Inst)
def insts(ps:List Part):List Inst:=ps.zipIdx.flatMap fun y=>instP y.2 y.1
def qX(p:Prog):Bool:=jD p.arrays&&(decide (p.parts.length≤4)&&p.parts.all (cL p.arrays))
def bF(p:Prog):Bool:=qX p&&decide ((p.parts.map gM).sum≤120)
theorem insts_snoc(l:List Part)(x:Part):insts (l++[x])=insts l++instP l.length x:=by unfold insts;rw [List.zipIdx_append,vBa];simp
theorem insts_take{l:List Part}{i:Nat}{x:Part}(h:l[i]? =some x):insts (l.take (i+1))=insts (l.take i)++instP i x:=by have hi:=(cX.1 h).1;rw [xT,h];show insts (l.take i++[x])=_;rw [insts_snoc,rQ,Nat.min_eq_left (Nat.le_of_lt hi)]
theorem H4{α β:Type}(f:α→List β)(m:Nat)(h: ∀x,(f x).length=m): ∀l:List α,(l.flatMap f).length=l.length*m
 | []=>by simp
 |x::l=>by rw [vBI,pV,h,H4 f m h l,List.length_cons,o6];omega
theorem instP_len(i:Nat)(x:Part):((instP i x).length:Int)=gM x:=by unfold instP gM;rw [H4 _ x.body.length fun q=>by simp];exact Int.natCast_mul _ _
theorem aEJ{l:List Part}{i:Nat}{x:Part}(h:l[i]? =some x):((l.take (i+1)).map gM).sum=((l.take i).map gM).sum+gM x:=by rw [xT,h];simp
theorem insts_len: ∀(l:List Part) (i:Nat),i≤l.length→((insts (l.take i)).length:Int)=((l.take i).map gM).sum
 |l,0,_=>by simp [insts]
 |l,i+1,h=>by
  have hg:=cP (show i<l.length by omega);rw [insts_take hg,pV,aEJ hg]
  have:=insts_len l i (by omega)
  have:=instP_len i l[i];omega
theorem insts_len'(l:List Part):((insts l).length:Int)=(l.map gM).sum:=by
 have:=insts_len l l.length (kH _)
 rwa [pY] at this
theorem P0{list:List Arr}{x:Part}(h:cL list x=true):0≤gM x∧gM x≤480:=by
 obtain⟨h1,h2,_⟩:=fL h;obtain⟨_,h3,_⟩:=aEp h1;unfold gM;refine⟨vBx (by omega) (by omega),?_⟩
 have:=vBO (show((dE x).length:Int)≤120 by omega) (show(x.body.length:Int)≤4 by omega) (by omega) (by omega);omega
theorem kX{n:Nat}(hn:7000≤n){p:Prog}(hp:SmP p):eN n p=some (bF p):=by
 obtain⟨h1,h2,h3⟩:=hp;refine Ev.eq ?_;unfold eN;generalize hT:bF p=T;unfold bF qX at hT;refine Ev.jn (fun z=>z= !(jD p.arrays&&decide (p.parts.length≤4))) (fun j hj=>aA (aBM (by omega) h1) ?_) fun z hz=>?_
 ·cases ha:jD p.arrays with
  |false=>exact bZ (hj _ (by rw [ha];rfl))
  |true=>
   refine b7 (hj _ ?_);rw [ha];by_cases h4:p.parts.length≤4
   ·rw [decide_eq_false (show¬(4:Int)<(p.parts.length:Int) by omega),decide_eq_true h4];rfl
   rw [decide_eq_true (show(4:Int)<(p.parts.length:Int) by omega),decide_eq_false h4];rfl
 subst hz;cases hb:(jD p.arrays&&decide (p.parts.length≤4)) with
 |false=>
  refine Ev.some ?_;rw [←hT,←vBg,hb];rfl
 |true=>
  have hT':T=(p.parts.all (cL p.arrays)&&decide ((p.parts.map gM).sum≤120)):=by rw [←hT,←vBg,hb];rfl
  rw [vBt,decide_eq_true_eq] at hb;obtain⟨hl,hd⟩:=aH3 hb.1;refine b7 ?_;refine Ev.loop (fun x:Int×Int=> ∃i:Nat,x.2=i∧i≤p.parts.length∧x.1=((p.parts.take i).map gM).sum∧0≤x.1∧x.1≤480*i∧ ∀(t:Nat) y,t<i→p.parts[t]? =some y→cL p.arrays y=true) (fun x=>p.parts.length-x.2.toNat) ?_ n _ ⟨0,rfl,by omega,by simp,by simp,by simp,fun t y h=>by omega⟩ (by dsimp only;omega);rintro again ⟨x,z⟩ ⟨i,hz,hi,hx,hx0,hx1,ha⟩ hr;dsimp only at hz hx hx0 hx1 ha⊢;subst hz;refine aG (fun hlt=>?_) fun hge=>Ev.some ?_
  ·have hg:=cP (show i<p.parts.length by omega);have hm:=cR hg;refine aA (aI hg) (aA (vA (by omega) hl hd (h3 _ hm)) ?_);cases hpo:cL p.arrays p.parts[i] with
   |false=>
    rw [if_neg (by simp)];refine Ev.some ?_;rw [hT',vAM.2 ⟨_,hm,by rw [hpo];simp⟩];rfl
   |true=>
    rw [if_pos rfl];have hcb:=P0 hpo;show Ev (again (wr (x+gM p.parts[i]),wr ((i:Int)+1))) _;rw [aN (n:=x+gM p.parts[i]) (by omega),aN (by omega)];refine hr _ ⟨i+1,by dsimp only;omega,by omega,by dsimp only;rw [aEJ hg];omega,by dsimp only;omega,by dsimp only;omega,fun t y ht hty=>?_⟩ (by dsimp only;omega);by_cases hti:t=i
    ·subst hti;rw [hg] at hty;cases hty;exact hpo
    exact ha t y (by omega) hty
  have hie:i=p.parts.length:=by omega
  have hall:p.parts.all (cL p.arrays)=true:=vAI.2 (fun y hy=>by
   obtain⟨t,ht⟩:=vAL hy
   have:=(cX.1 ht).1;exact ha t y (by omega) ht)
  rw [hT',hall,vAZ,hx,hie,pY]
theorem vO{α:Type}(f:Nat→α)(k:Nat):(List.range (k+1)).map f=(List.range k).map f++[f k]:=by rw [vBq,vAK];rfl
theorem pH{n:Nat}(hn:7000≤n){p:Prog}(hp:SmP p):cI n p=some (if qX p=true then(insts p.parts,decide ((insts p.parts).length≤120)) else([],false)):=by
 obtain⟨h1,h2,h3⟩:=hp;refine Ev.eq ?_;unfold cI;generalize hT:(if qX p=true then(insts p.parts,decide ((insts p.parts).length≤120)) else([],false))=T;have hbad:qX p=false→(([]:List Inst),false)=T:=fun h=>by rw [←hT,h];rfl
 refine Ev.jn (fun z=>z= !(jD p.arrays&&decide (p.parts.length≤4))) (fun j hj=>aA (aBS (by omega) h1) ?_) fun z hz=>?_
 ·cases ha:jD p.arrays with
  |false=>exact bZ (hj _ (by rw [ha];rfl))
  |true=>
   refine b7 (hj _ ?_);rw [ha];by_cases h4:p.parts.length≤4
   ·rw [decide_eq_false (show¬(4:Int)<(p.parts.length:Int) by omega),decide_eq_true h4];rfl
   rw [decide_eq_true (show(4:Int)<(p.parts.length:Int) by omega),decide_eq_false h4];rfl
 subst hz;cases hb:(jD p.arrays&&decide (p.parts.length≤4)) with
 |false=>exact Ev.some (hbad (by unfold qX;rw [←vBg,hb];rfl))
 |true=>
  have hall':qX p=p.parts.all (cL p.arrays):=by unfold qX;rw [←vBg,hb];rfl
  rw [vBt,decide_eq_true_eq] at hb;obtain⟨hl,hd⟩:=aH3 hb.1;refine b7 ?_;refine Ev.loop (fun x:List Inst×Int=> ∃i:Nat,x.2=i∧i≤p.parts.length∧x.1=insts (p.parts.take i)∧x.1.length≤480*i∧ ∀(t:Nat) y,t<i→p.parts[t]? =some y→cL p.arrays y=true) (fun x=>p.parts.length-x.2.toNat) ?_ n _ ⟨0,rfl,by omega,by simp [insts],by simp,fun t y h=>by omega⟩ (by dsimp only;omega);rintro again ⟨x,z⟩ ⟨i,hz,hi,hx,hxl,ha⟩ hr;dsimp only at hz hx hxl ha⊢;subst hz;refine aG (fun hlt=>?_) fun hge=>Ev.some ?_
  ·have hg:=cP (show i<p.parts.length by omega);have hm:=cR hg;obtain⟨s1,s2,s3⟩:=h3 _ hm;generalize hP:p.parts[i]=P at*;have hpb:cL p.arrays P=false→qX p=false:=fun h=>by rw [hall'];exact vAM.2 ⟨_,hm,by rw [h];simp⟩
   refine aA (aI hg) (aA (T4 (by omega) s1) (Ev.jn (fun z=>z= !((NP P.nest).isSome&&K8 P)) (fun j hj=>?_) fun z hz=>?_))
   ·cases hN:NP P.nest with
    |none=>exact bZ (hj _ (by rw [hN];rfl))
    |some ps=>
     refine b7 ?_;have hw:dB n (P.body.length:Int) 1 4=some (decide (1≤P.body.length∧P.body.length≤4)):=by
      rw [fD];congr 1;exact decide_eq_decide.2 (by omega)
     refine aA hw ?_;have hc:=aBV (n:=n) (f:=fun q0=>dT n q0 P) (p:=fun s=> !fW s (P.nest.length:Int)) (l:=P.body) (fun s hs=>by unfold dT;rw [aAN (by omega) (s3 s hs)];rfl) (by omega) (by omega);have e:(P.body.any fun s=> !fW s (P.nest.length:Int))= !(P.body.all fun s=>fW s (P.nest.length:Int)):=by rw [vBd];simp
     cases hw2:decide (1≤P.body.length∧P.body.length≤4) with
     |false=>exact bZ (hj _ (by unfold K8;rw [hN,hw2];rfl))
     |true=>exact b7 (aA hc (hj _ (by unfold K8;rw [hN,hw2,e];rfl)))
   subst hz;cases hN:NP P.nest with
   |none=>exact Ev.some (hbad (hpb (by unfold cL;rw [hN];rfl)))
   |some ps=>
    obtain⟨hf,hp1,hp2,hp3,hp4⟩:=aEp hN;have hpp:dE P=ps:=by unfold dE;rw [hN];rfl
    cases hbv:K8 P with
    |false=>exact Ev.some (hbad (hpb (by unfold cL;rw [hbv];simp)))
    |true=>
     have hbv':=hbv;simp only [K8,Bool.and_eq_true,decide_eq_true_eq,List.all_eq_true] at hbv';obtain⟨⟨hb1,hb2⟩,hb3⟩:=hbv';have hok:cL p.arrays P=P.body.all (fun s=>ps.all fun q=>dX p.arrays s q&&ptV q):=by
      unfold cL;rw [hN,hbv,hpp];rfl
     let row:List Int→List Inst:=fun q=>(List.range P.body.length).map fun(k:Nat)=>(⟨(i:Int),(k:Int),q⟩:Inst)
     have hrl: ∀q,(row q).length=P.body.length:=fun q=>by simp [row]
     have hinst:instP i P=ps.flatMap row:=by unfold instP;rw [hpp]
     refine b7 ?_;rw [show(aHn (some ps)).1=ps from rfl];refine Ev.loop (fun y:List Inst×Int=> ∃k:Nat,y.2=k∧k≤ps.length∧y.1=x++(ps.take k).flatMap row∧ ∀(t:Nat) q,t<k→ps[t]? =some q→ptV q=true∧ ∀s∈P.body,dX p.arrays s q=true) (fun y=>ps.length-y.2.toNat) ?_ n _ ⟨0,rfl,by omega,by simp,fun t q h=>by omega⟩ (by dsimp only;omega);rintro again17 ⟨y,z⟩ ⟨k,hz,hk,hy,hak⟩ hr17;dsimp only at hz hy hak⊢;subst hz;refine aG (fun hlt2=>?_) fun hge2=>?_
     ·have hgk:=cP (show k<ps.length by omega);have hmk:=cR hgk;generalize hQ:ps[k]=Q at*;have hq:=hp2 _ hmk;have hql:Q.length≤4:=by have:=hq.1;have:=hq.2.1;omega
      refine aA (aI hgk) (aA (aDI (by omega) (by omega)) ?_);have hyl:y.length≤480*4+480:=by
       rw [hy,pV,H4 row _ hrl,rQ]
       have:min k ps.length*P.body.length≤120*4:=vBw (by omega) hb2;omega
      cases hpv:ptV Q with
      |false=>
       refine bZ (Ev.some (hbad (hpb ?_)));rw [hok];obtain⟨s0,hs0⟩: ∃s0,s0∈P.body:=List.exists_mem_of_length_pos (by omega);refine vAM.2 ⟨s0,hs0,?_⟩;rw [vAM.2 ⟨Q,hmk,by rw [hpv];simp⟩];simp
      |true=>
       refine b7 ?_;refine Ev.loop (fun u:List Inst×Int=> ∃m:Nat,u.2=m∧m≤P.body.length∧u.1=y++(List.range m).map (fun(k:Nat)=>(⟨(i:Int),(k:Int),Q⟩:Inst))∧ ∀(t:Nat) s,t<m→P.body[t]? =some s→dX p.arrays s Q=true) (fun u=>P.body.length-u.2.toNat) ?_ n _ ⟨0,rfl,by omega,by simp,fun t s h=>by omega⟩ (by dsimp only;omega);rintro again23 ⟨u,z⟩ ⟨m,hz,hmm,hu,ham⟩ hr23;dsimp only at hz hu ham⊢;subst hz;refine aG (fun hlt3=>?_) fun hge3=>?_
       ·have hgm:=cP (show m<P.body.length by omega);have hmem:=cR hgm;refine aA (aI hgm) (aA (aFd (by omega) hl hd (hb3 _ hmem) hq) ?_);cases hco:dX p.arrays P.body[m] Q with
        |false=>
         refine bZ (Ev.some (hbad (hpb ?_)));rw [hok];refine vAM.2 ⟨_,hmem,?_⟩;rw [vAM.2 ⟨Q,hmk,by rw [hco];simp⟩];simp
        |true=>
         have hcl:m_ownClone Q=some Q:=by unfold m_ownClone;rw [if_pos (by omega)]
         have hul:u.length≤480*4+480+4:=by rw [hu];simp;omega
         refine b7 (aA hcl (aA (bJ (by simp;omega)) ?_));rw [aN (by omega)];refine hr23 _ ⟨m+1,by dsimp only;omega,by omega,?_,fun t s ht hts=>?_⟩ (by dsimp only;omega)
         ·dsimp only;rw [hu,vO,vAR]
         by_cases htm:t=m
         ·subst htm;rw [hgm] at hts;cases hts;exact hco
         exact ham t s (by omega) hts
       have hme:m=P.body.length:=by omega
       rw [aN (by omega)];refine hr17 _ ⟨k+1,by dsimp only;omega,by omega,?_,fun t q ht htq=>?_⟩ (by dsimp only;omega)
       ·dsimp only;rw [xT,hgk,vBa,←vAR,←hy,hu,hme];simp [row]
       by_cases htk:t=k
       ·subst htk;rw [hgk] at htq;cases htq;refine⟨hpv,fun s hs=>?_⟩;obtain⟨t',ht'⟩:=vAL hs
        have:=(cX.1 ht').1;exact ham t' s (by omega) ht'
       exact hak t q (by omega) htq
     have hke:k=ps.length:=by omega
     have hpo:cL p.arrays P=true:=by
      rw [hok];refine vAI.2 fun s hs=>vAI.2 fun q hq=>?_;obtain⟨t,ht⟩:=vAL hq
      have:=(cX.1 ht).1;obtain⟨g1,g2⟩:=hak t q (by omega) ht;rw [g1,g2 s hs];rfl
     have hcb:=P0 hpo;have hil:=instP_len i P;rw [aN (by omega)];refine hr _ ⟨i+1,by dsimp only;omega,by omega,?_,?_,fun t y ht hty=>?_⟩ (by dsimp only;omega)
     ·dsimp only;rw [insts_take hg,hinst,hy,hke,pY,hx]
     ·dsimp only;rw [hy,hke,pY,pV,←hinst];omega
     by_cases hti:t=i
     ·subst hti;rw [hg] at hty;cases hty;exact hpo
     exact ha t y (by omega) hty
  have hie:i=p.parts.length:=by omega
  have hall:qX p=true:=by
   rw [hall'];exact vAI.2 (fun y hy=>by
    obtain⟨t,ht⟩:=vAL hy
    have:=(cX.1 ht).1;exact ha t y (by omega) ht)
  rw [←hT,if_pos hall,hx,hie,pY];congr 1;exact decide_eq_decide.2 (by omega)
theorem lI{n:Nat}(hn:7000≤n){p:Prog}(hp:SmP p):i8 n p=some (bF p):=by
 unfold i8;rw [pH hn hp];unfold bF;cases h:qX p with
 |false=>rfl
 |true=>
  rw [if_pos rfl];show some (decide _)=_;rw [vAZ];congr 1
  have:=insts_len' p.parts;exact decide_eq_decide.2 (by omega)
theorem lO{n:Nat}(hn:7000≤n){p:Prog}(hp:SmP p):bK n p=some (if bF p=true then insts p.parts else []):=by
 unfold bK;rw [pH hn hp];unfold bF;cases h:qX p with
 |false=>rfl
 |true=>
  rw [if_pos rfl,vAZ]
  have:=insts_len' p.parts;by_cases hl:(insts p.parts).length≤120
  ·rw [decide_eq_true hl,decide_eq_true (by omega),if_pos rfl];rfl
  rw [decide_eq_false hl,decide_eq_false (by omega),if_neg (by simp)];rfl
theorem gC{p:Prog}(h:bF p=true):p.arrays.length≤4∧gL p.arrays∧p.parts.length≤4∧(∀x∈p.parts,cL p.arrays x=true)∧(insts p.parts).length≤120:=by
 simp only [bF,qX,Bool.and_eq_true,decide_eq_true_eq,List.all_eq_true] at h;obtain⟨⟨h1,h2,h3⟩,h4⟩:=h;obtain⟨a,b⟩:=aH3 h1
 have:=insts_len' p.parts;exact⟨a,b,h2,h3,by omega⟩
theorem vF{n:Nat}(hn:7000≤n){p:Prog}(hv:bF p=true):jX n p=some (insts p.parts):=by
 obtain⟨hl,hd,h4,hpo,hil⟩:=gC hv;refine Ev.eq ?_;unfold jX;refine Ev.loop (fun x:List Inst×Int=> ∃i:Nat,x.2=i∧i≤p.parts.length∧x.1=insts (p.parts.take i)∧x.1.length≤480*i) (fun x=>p.parts.length-x.2.toNat) ?_ n _ ⟨0,rfl,by omega,by simp [insts],by simp⟩ (by dsimp only;omega);rintro again ⟨x,z⟩ ⟨i,hz,hi,hx,hxl⟩ hr;dsimp only at hz hx hxl⊢;subst hz;refine aG (fun hlt=>?_) fun hge=>Ev.some ?_
 ·have hg:=cP (show i<p.parts.length by omega);have hm:=cR hg;have hpP:=hpo _ hm;generalize hP:p.parts[i]=P at*;obtain⟨q1,q2,q3,q4⟩:=fL hpP;obtain⟨hf,hp1,hp2,hp3,hp4⟩:=aEp q1;generalize hpp:dE P=ps at*;have hcb:=P0 hpP;have hil':=instP_len i P;let row:List Int→List Inst:=fun q=>(List.range P.body.length).map fun(k:Nat)=>(⟨(i:Int),(k:Int),q⟩:Inst)
  have hrl: ∀q,(row q).length=P.body.length:=fun q=>by simp [row]
  have hinst:instP i P=ps.flatMap row:=by unfold instP;rw [hpp]
  refine aA (aI hg) (aK (u5 hf P.nest n 0 [] [] (by have:=hf.1;omega) rfl (by omega) pt0 hp4 (by simp)) fun r ⟨r1,r2⟩=>?_);have hr1:r=ps:=by rw [r1 (by rw [←hp3];simpa using hp1),hp3];rfl
  subst hr1;refine Ev.loop (fun y:List Inst×Int=> ∃k:Nat,y.2=k∧k≤r.length∧y.1=x++(r.take k).flatMap row) (fun y=>r.length-y.2.toNat) ?_ n _ ⟨0,rfl,by omega,by simp⟩ (by dsimp only;omega);rintro again10 ⟨y,z⟩ ⟨k,hz,hk,hy⟩ hr10;dsimp only at hz hy⊢;subst hz;refine aG (fun hlt2=>?_) fun hge2=>?_
  ·have hgk:=cP (show k<r.length by omega);have hmk:=cR hgk;generalize hQ:r[k]=Q at*;have hq:=hp2 _ hmk;have hql:Q.length≤4:=by have:=hq.1;have:=hq.2.1;omega
   have hyl:y.length≤480*4+480:=by
    rw [hy,pV,H4 row _ hrl,rQ]
    have:min k r.length*P.body.length≤120*4:=vBw (by omega) q2.2;omega
   refine Ev.loop (fun u:List Inst×Int=> ∃m:Nat,u.2=m∧m≤P.body.length∧u.1=y++(List.range m).map (fun(k:Nat)=>(⟨(i:Int),(k:Int),Q⟩:Inst))) (fun u=>P.body.length-u.2.toNat) ?_ n _ ⟨0,rfl,by omega,by simp⟩ (by dsimp only;omega);rintro again14 ⟨u,z⟩ ⟨m,hz,hmm,hu⟩ hr14;dsimp only at hz hu⊢;subst hz;refine aG (fun hlt3=>?_) fun hge3=>?_
   ·have hul:u.length≤480*4+480+4:=by rw [hu];simp;omega
    refine aA (aI hgk) (aA (eH _ (by omega)) (aA (bJ (by simp;omega)) ?_));rw [aN (by omega)];refine hr14 _ ⟨m+1,by dsimp only;omega,by omega,?_⟩ (by dsimp only;omega);dsimp only;rw [hu,vO,vAR]
   have hme:m=P.body.length:=by omega
   rw [aN (by omega)];refine hr10 _ ⟨k+1,by dsimp only;omega,by omega,?_⟩ (by dsimp only;omega);dsimp only;rw [xT,hgk,vBa,←vAR,←hy,hu,hme];simp [row]
  have hke:k=r.length:=by omega
  rw [aN (by omega)];refine hr _ ⟨i+1,by dsimp only;omega,by omega,?_,?_⟩ (by dsimp only;omega)
  ·dsimp only;rw [insts_take hg,hinst,hy,hke,pY,hx]
  dsimp only;rw [hy,hke,pY,pV,←hinst];omega
 have hie:i=p.parts.length:=by omega
 rw [hx,hie,pY]
theorem aGu{l:List Arr}{i:Nat}{x:Arr}(h:l[i]? =some x):iP (l.take (i+1))=iP (l.take i)+Y9 x.dims:=by unfold iP;rw [List.take_add_one,h];simp
theorem aGx{n:Nat}(hn:7000≤n){p:Prog}(hl:p.arrays.length≤4)(hd:gL p.arrays):gW n p=some (iP p.arrays):=by
 refine Ev.eq ?_;unfold gW;refine Ev.loop (fun x:Int×Int=> ∃i:Nat,x.2=i∧i≤p.arrays.length∧x.1=iP (p.arrays.take i)∧0≤x.1∧x.1≤36*i) (fun x=>p.arrays.length-x.2.toNat) ?_ n _ ⟨0,rfl,by omega,by simp [iP],by simp,by simp⟩ (by dsimp only;omega);rintro again ⟨x,z⟩ ⟨i,hz,hi,hx,hx0,hx1⟩ hr;dsimp only at hz hx hx0 hx1⊢;subst hz;refine aG (fun hlt=>?_) fun hge=>Ev.some ?_
 ·have hg:=cP (show i<p.arrays.length by omega);have hdm:=hd _ (cR hg);have hsz:=Y8 hdm;refine aA (aI hg) (aA (u9 (by omega) hdm) ?_);rw [aN (n:=x+Y9 p.arrays[i].dims) (by omega),aN (by omega)];exact hr _ ⟨i+1,by dsimp only;omega,by omega,by dsimp only;rw [aGu hg];omega,by dsimp only;omega,by dsimp only;omega⟩ (by dsimp only;omega)
 have hie:i=p.arrays.length:=by omega
 rw [hx,hie,pY]
theorem aG3{n:Nat}(hn:7000≤n){p:Prog}(hl:p.arrays.length≤4)(hd:gL p.arrays):gW n p=some (iP p.arrays):=aGx hn hl hd
def qZ:Nat→List Arr→List Int→Expr→List Int→Int
 |0,_,_,_,_=>0
 |L+1,list,m,e,q=>
  if e.kind=1 then e.num
  else if e.kind=2 then cC e.index q%1000
  else if e.kind=3 then m.getD (dD list e.read q 0).toNat 0
  else match e.kids with
   | [a,b]=>if e.kind=4 then(qZ L list m a q+qZ L list m b q)%1000 else if e.kind=5 then(qZ L list m a q-qZ L list m b q)%1000 else(qZ L list m a q*qZ L list m b q)%1000
   |_=>0
def aBD(list:List Arr)(m:List Int):Prop:=(m.length:Int)=iP list∧ ∀x∈m,0≤x∧x≤999
theorem aPJ{list:List Arr}{m:List Int}(h:aBD list m)(i:Nat):0≤m.getD i 0∧m.getD i 0≤999:=by
 rw [wW];cases hi:m[i]? with
 |none=>simp
 |some x=>exact h.2 x (cR hi)
theorem aPb{list:List Arr}{m:List Int}(hm:aBD list m){d:Int}{q:List Int}: ∀{L:Nat} {e:Expr},dP L e d=true→0≤qZ L list m e q∧qZ L list m e q≤999
 |0,e,h=>by cases h
 |L+1,e,h=>by
  obtain⟨h1,h2,h3⟩:=iI h;simp only [qZ];split
  ·rename_i k1;unfold gH at h2;rw [if_neg (by omega),if_neg (by omega),if_pos k1] at h2;simp only [Bool.and_eq_true,decide_eq_true_eq] at h2;omega
  split
  ·omega
  split
  ·exact aPJ hm _
  split
  ·split
   ·omega
   split<;>omega
  omega
def eA(p:Prog)(x:Inst):Prop:= ∃(i k:Nat) (P:Part) (s:Stmt),x.part=i∧x.stmt=k∧p.parts[i]? =some P∧P.body[k]? =some s∧x.point∈dE P
def q5(p:Prog)(x:Inst):Option Stmt:=(p.parts[x.part.toNat]?).bind fun P=>P.body[x.stmt.toNat]?
def runI(p:Prog)(m:List Int)(x:Inst):List Int:=match q5 p x with
 |some s=>m.set (dD p.arrays s.write x.point 0).toNat (qZ 5 p.arrays m s.value x.point)
 |none=>m
theorem inst_d{p:Prog}(hv:bF p=true){x:Inst}(hx:eA p x): ∃(i k:Nat) (P:Part) (s:Stmt) (d:Int),x.part=i∧x.stmt=k∧p.parts[i]? =some P∧P.body[k]? =some s∧q5 p x=some s∧fW s d=true∧rO P.nest.length x.point∧dX p.arrays s x.point=true:=by obtain⟨hl,hd,h4,hpo,hil⟩:=gC hv;obtain⟨i,k,P,s,e1,e2,e3,e4,e5⟩:=hx;obtain⟨q1,q2,q3,q4⟩:=fL (hpo P (cR e3));obtain⟨hf,hp1,hp2,hp3,hp4⟩:=aEp q1;have hs:=cR e4;exact⟨i,k,P,s,_,e1,e2,e3,e4,by unfold q5;rw [e1,e2,A3,e3];exact(by rw [A3];exact e4),q3 s hs,hp2 _ e5,(q4 s hs _ e5).1⟩
theorem aD4{list:List Arr}{s:Stmt}{q:List Int}(h:dX list s q=true):0≤dD list s.write q 0∧ ∀a∈b8 5 s.value,0≤dD list a q 0:=by simp only [dX,Bool.and_eq_true,decide_eq_true_eq,List.all_eq_true] at h;exact h
theorem aKN{α:Type}{l:List α}{c:Int}(h0:0≤c)(h:c.toNat<l.length)(x:α):cQ l c x=some (l.set c.toNat x):=by unfold cQ;rw [if_pos ⟨h0,by omega⟩]
theorem aIE{α:Type}{l:List α}{c:Int}(h0:0≤c)(h:c.toNat<l.length):ix l c=some l[c.toNat]:=by unfold ix;rw [if_pos h0,List.getElem?_eq_getElem h]
theorem aIn{p:Prog}(hv:bF p=true){m:List Int}(hm:aBD p.arrays m){x:Inst}(hx:eA p x):aBD p.arrays (runI p m x):=by
 obtain⟨i,k,P,s,d,e1,e2,e3,e4,e5,e6,e7,e8⟩:=inst_d hv hx;unfold runI;rw [e5];refine⟨by rw [L5];exact hm.1,fun v hv'=>?_⟩;rcases vAW hv' with h|h
 ·exact hm.2 v h
 rw [h];exact aPb hm (kO e6).2.1
theorem insts_mem{ps:List Part}{x:Inst}(h:x∈insts ps): ∃(i k:Nat) (P:Part) (s:Stmt),x.part=i∧x.stmt=k∧ps[i]? =some P∧P.body[k]? =some s∧x.point∈dE P:=by unfold insts at h;rw [List.mem_flatMap] at h;obtain⟨⟨P,i⟩,h1,h2⟩:=h;unfold instP at h2;rw [List.mem_flatMap] at h2;obtain⟨q,h3,h4⟩:=h2;rw [V3] at h4;obtain⟨k,h5,rfl⟩:=h4;have hk:=vBS.1 h5;exact⟨i,k,P,P.body[k],rfl,rfl,vBj.1 h1,cP hk,h3⟩
def nC(p:Prog)(m:List Int)(l:List Inst):List Int:=l.foldl (runI p) m
end Go.Lift
