/- Marks: they come to an end, count upward, and keep every length. -/
import Derived.Test.YtcihigfifglboaaGreatUExG
import Derived.Test.YtcihigfifglboaaGreatUModels
set_option maxRecDepth 100000
set_option linter.unusedVariables false
namespace Go.Lift
open Go
theorem bX{α:Type}{a b:List α}(h:b.length=a.length):cF a b=some ():=by unfold cF;rw [if_pos h]
theorem lD{n:Nat}(hn:2000000≤n){k:Int}(h0:0≤k)(h1:k≤1099511627776): ∃t,eK n k=some t:=by
 have:Ev (eK n k) (fun _=>True):=by
  unfold eK;refine aL (fun _=>Ev.some trivial) fun _=>?_;refine Ev.loop (fun z:Int×List UInt8=> ∃j:Nat,z.2.length=j∧0≤z.1∧z.1≤1099511627776∧j≤13∧z.1<10^(13-j)) (fun z=>14-z.2.length) ?_ n _ ⟨0,rfl,h0,h1,by omega,Int.lt_of_le_of_lt h1 (by decide)⟩ (by dsimp only;omega);rintro again ⟨x1,x2⟩ ⟨j,hj,g0,g3,g1,g2⟩ hr;dsimp only at hj g0 g2 g3⊢;refine aL (fun hp=>?_) fun _=>aB (aD3 (by simp;omega)) (Ev.some trivial);have hj1:j<13:=by
   apply vAU;intro h;rw [show 13-j=0 by omega] at g2
   have:(10:Int)^0=1:=by decide
   omega
  refine aB (aD3 (by simp;omega)) ?_;rw [Int.tdiv_eq_ediv_of_nonneg g0,aN (by omega)];refine hr _ ⟨j+1,by simp [hj],by dsimp only;omega,by dsimp only;omega,by omega,?_⟩ (by simp;omega);dsimp only;have hpow:(10:Int)^(13-j)=10^(13-(j+1))*10:=by rw [←Int.pow_succ];congr 1;omega
  rw [hpow] at g2;exact Int.ediv_lt_of_lt_mul (by decide) g2
 obtain⟨t,h,_⟩:=this;exact⟨t,h⟩
def upF(k:Int)(m:Nat):List Int:=(List.range m).map fun i:Nat=>k+i
theorem mL(k:Int)(m:Nat):(upF k m).length=m:=by simp [upF]
theorem aCo(k:Int)(m:Nat):upF k (m+1)=upF k m++[k+m]:=by simp [upF,List.range_succ]
theorem lF{n:Nat}(hn:2000000≤n){a:List Int}(ha:a.length≤1048576){k:Int}(h0:0≤k)(h1:k+a.length≤1099511627776):fP n a k=some (k+a.length,upF k a.length):=by
 unfold fP;refine Ev.eq (Ev.loop (fun z:Int×List Int×Int=> ∃j:Nat,z.2.2=j∧j≤a.length∧z.1=k+j∧z.2.1=upF k j++a.drop j) (fun z=>a.length-z.2.2.toNat) ?_ n _ ⟨0,rfl,by omega,by simp,by simp [upF]⟩ (by dsimp only;omega));rintro again ⟨k1,l,i⟩ ⟨j,rfl,hj,rfl,rfl⟩ hr;dsimp only;have hl:(upF k j++a.drop j).length=a.length:=by simp [mL];omega
 refine aL (fun hlt=>?_) fun hge=>?_
 ·have hlt:j<a.length:=by rw [hl] at hlt;omega
  refine aB (aT (dC (show j<_ by rw [hl];exact hlt))) (aB (fM (by rw [hl];omega) _) ?_);rw [aN (by omega),aN (by omega),vAO];refine hr _ ⟨j+1,by dsimp only;omega,by omega,by dsimp only;omega,?_⟩ (by dsimp only;omega);dsimp only;rw [List.set_append_right _ _ (by rw [mL];omega),mL,Nat.sub_self,List.drop_eq_getElem_cons hlt,List.set_cons_zero,aCo,U9];rfl
 have:j=a.length:=by rw [hl] at hge;omega
 subst this;exact Ev.some (by simp)
theorem mT{α:Type}{a:List α}{n:Nat}{c:α→Nat}{k:Int}{F:(Int×List α×Int→Option (Int×List α))→Int×List α×Int→Option (Int×List α)}(hn:2000000≤n)(ha:a.length≤1048576)(h0:0≤k)(h1:k+5*(kS c a:Nat)≤1099511627776)
  (hF: ∀(Q:Int×List α→Prop) (again:Int×List α×Int→Option (Int×List α)) (k':Int) (l:List α) (j:Nat) (x:α),l[j]? =some x→x∈a→j<l.length→j≤1048576→0≤k'→k'+5*(1+c x:Nat)≤1099511627776→
   (∀(k'':Int) (y:α),k'≤k''→k''≤k'+5*(1+c x:Nat)→Ev (again (k'',l.set j y,(j:Int)+1)) Q)→Ev (F again (k',l,j)) Q)
  (hE: ∀(again:Int×List α×Int→Option (Int×List α)) (k':Int) (l:List α),F again (k',l,l.length)=some (k',l)):
  ∃r,aM F n (k,a,0)=some r∧k≤r.1∧r.1≤k+5*(kS c a:Nat)∧r.2.length=a.length:=by
 refine Ev.loop (Q:=fun r:Int×List α=>k≤r.1∧r.1≤k+5*(kS c a:Nat)∧r.2.length=a.length) (fun z:Int×List α×Int=> ∃j:Nat,z.2.2=j∧j≤a.length∧z.2.1.length=a.length∧z.2.1.drop j=a.drop j∧k≤z.1∧z.1≤k+5*(j+((a.take j).map c).sum:Nat)) (fun z=>a.length-z.2.2.toNat) ?_ n _ ⟨0,rfl,by omega,rfl,rfl,A8 _,by simp⟩ (by dsimp only;omega);rintro again ⟨k1,l,i⟩ ⟨j,rfl,hj,hl,hd,g0,g1⟩ hr;dsimp only at hl hd g0 g1;have htot: ∀i,((a.take i).map c).sum≤(a.map c).sum:=fun i=>by
  have:=congrArg (fun l=>(l.map c).sum) (vBu i a);simp only [List.map_append,List.sum_append] at this;omega
 by_cases hlt:j<a.length
 ·have hx:=dC hlt;generalize a[j]=x at hx;have hlx:l[j]? =some x:=by
   have e1:(l.drop j)[0]? =(a.drop j)[0]? :=by rw [hd]
   rw [U6,U6] at e1;simp only [Nat.add_zero] at e1;rw [e1];exact hx
  have hs:=D0 c hx;have ht:=htot (j+1);unfold kS at h1;refine hF _ again k1 l j x hlx (dB hx) (by omega) (by omega) (by omega) (by omega) fun k'' y b1 b2=>?_;refine hr _ ⟨j+1,by dsimp only;omega,by omega,by simpa using hl,?_,by dsimp only;omega,by dsimp only;rw [hs];omega⟩ (by dsimp only;omega);dsimp only;rw [List.drop_set_of_lt (by omega)]
  have:=congrArg (List.drop 1) hd;simpa [List.drop_drop,Nat.add_comm] using this
 have:j=l.length:=by omega
 subst this;rw [hE];refine Ev.some ⟨g0,?_,hl⟩
 have:=htot l.length;dsimp only;unfold kS;omega
theorem aGC{n:Nat}(hn:2000000≤n){a:List Arr}(ha:a.length≤1048576)(h2: ∀x∈a,QR 1048576 x){k:Int}(h0:0≤k)(h1:k+5*(kS kR a:Nat)≤1099511627776):
  ∃r,iU n a k=some r∧k≤r.1∧r.1≤k+5*(kS kR a:Nat)∧r.2.length=a.length:=by
 unfold iU;refine mT hn ha h0 h1 (fun Q again k' l j x hx hm hl hj g0 g1 hr=>?_) fun again k' l=>by dsimp only;rw [decide_eq_false (by omega)];rfl
 dsimp only;refine aL (fun _=>?_) fun h=>absurd hl (by omega);unfold kR at g1 hr;obtain⟨t,ht⟩:=lD hn g0 (by omega);refine aB (aT hx) (aB ht ?_);rw [aN (by omega),aN (by omega)];refine aB (lF hn (h2 x hm).2 (by omega) (by omega)) (aB (bX (mL _ _)) (aB (fM (by omega) _) ?_));rw [vAO];exact hr _ _ (by omega) (by omega)
theorem xH{n:Nat}(hn:2000000≤n){a:List Affine}(ha:QAs 1048576 a){k:Int}(h0:0≤k)(h1:k+5*(kS kA a:Nat)≤1099511627776):
  ∃r,cN n a k=some r∧k≤r.1∧r.1≤k+5*(kS kA a:Nat)∧r.2.length=a.length:=by
 unfold cN;refine mT hn ha.1 h0 h1 (fun Q again k' l j x hx hm hl hj g0 g1 hr=>?_) fun again k' l=>by dsimp only;rw [decide_eq_false (by omega)];rfl
 dsimp only;refine aL (fun _=>?_) fun h=>absurd hl (by omega);unfold kA at g1 hr;refine aB (aT hx) (aB (lF hn (ha.2 x hm) g0 (by omega)) (aB (bX (mL _ _)) (aB (fM (by omega) _) ?_)));rw [aN (by dsimp only;omega),aN (by omega),vAO];exact hr _ _ (by dsimp only;omega) (by dsimp only;omega)
theorem aFm{n:Nat}(hn:2000000≤n){a:List Loop}(ha:a.length≤1048576)(h2: ∀x∈a,QL 1048576 x){k:Int}(h0:0≤k)(h1:k+5*(kS kL a:Nat)≤1099511627776):
  ∃r,kY n a k=some r∧k≤r.1∧r.1≤k+5*(kS kL a:Nat)∧r.2.length=a.length:=by
 unfold kY;refine mT hn ha h0 h1 (fun Q again k' l j x hx hm hl hj g0 g1 hr=>?_) fun again k' l=>by dsimp only;rw [decide_eq_false (by omega)];rfl
 dsimp only;refine aL (fun _=>?_) fun h=>absurd hl (by omega);unfold kL at g1 hr;obtain⟨p1,e1,b1,b2,b3⟩:=xH hn (h2 x hm).1 g0 (by omega);obtain⟨p2,e2,d1,d2,d3⟩:=xH hn (h2 x hm).2 (k:=p1.1) (by omega) (by omega);refine aB (aT hx) (aB e1 (aB (bX b3) (aB e2 (aB (bX d3) (aB (fM (by omega) _) ?_)))));rw [aN (by omega),vAO];exact hr _ _ (by omega) (by omega)
theorem aA1: ∀(m n:Nat) {a:List Expr},2000001+m≤n→a.length≤1048576→(∀x∈a,QE 1048576 m x)→ ∀{k:Int},0≤k→k+5*(kS (kE m) a:Nat)≤1099511627776→
  ∃r,v_markExprS n a k=some r∧k≤r.1∧r.1≤k+5*(kS (kE m) a:Nat)∧r.2.length=a.length
 |0,n,a,hn,ha,h2,k,h0,h1=>by
  obtain⟨n,rfl⟩: ∃j,n=j+1:=⟨n-1,by omega⟩
  rw [v_markExprS.eq_def];dsimp only;exact mT (by omega) ha h0 h1 (fun Q again k' l j x hx hm hl hj g0 g1 hr=>(h2 x hm).elim) (fun again k' l=>by dsimp only;rw [decide_eq_false (by omega)];rfl)
 |m+1,n,a,hn,ha,h2,k,h0,h1=>by
  obtain⟨n,rfl⟩: ∃j,n=j+1:=⟨n-1,by omega⟩
  have hn':2000000≤n:=by omega
  rw [v_markExprS.eq_def];dsimp only;refine mT (by omega) ha h0 h1 (fun Q again k' l j x hx hm hl hj g0 g1 hr=>?_) fun again k' l=>by dsimp only;rw [decide_eq_false (by omega)];rfl
  dsimp only;refine aL (fun _=>?_) fun h=>absurd hl (by omega);obtain⟨q1,q2,q3,q4⟩:=h2 x hm;unfold kE kA kC at g1 hr;refine aB (aT hx) ?_;rw [aN (n:=k'+1) (by omega),aN (n:=k'+1+1) (by omega)];refine aB (lF hn' q1 (by omega) (by omega)) (aB (bX (mL _ _)) ?_);dsimp only;generalize hu:x.index.coefs.length=u at g1 hr;rw [aN (n:=k'+1+1+(u:Int)+1) (by omega)];obtain⟨t,ht⟩:=lD hn' (k:=k'+1+1+(u:Int)+1) (by omega) (by omega);refine aB ht ?_;rw [aN (n:=k'+1+1+(u:Int)+1+1) (by omega)];obtain⟨p1,e1,b1,b2,b3⟩:=xH hn' q2.2 (k:=k'+1+1+(u:Int)+1+1) (by omega) (by omega);obtain⟨p2,e2,d1,d2,d3⟩:=aA1 m n (by omega) q3 q4 (k:=p1.1) (by omega) (by omega);refine aB e1 (aB (bX b3) (aB e2 (aB (bX d3) (aB (fM (by omega) _) ?_))));rw [aN (by omega),vAO];exact hr _ _ (by omega) (by omega)
theorem aFk{m n:Nat}(hn:2000001+m≤n){a:List Stmt}(ha:a.length≤1048576)(h2: ∀x∈a,QS 1048576 m x){k:Int}(h0:0≤k)(h1:k+5*(kS (kSt m) a:Nat)≤1099511627776):
  ∃r,kX n a k=some r∧k≤r.1∧r.1≤k+5*(kS (kSt m) a:Nat)∧r.2.length=a.length:=by
 have hn':2000000≤n:=by omega
 unfold kX;refine mT hn' ha h0 h1 (fun Q again k' l j x hx hm hl hj g0 g1 hr=>?_) fun again k' l=>by dsimp only;rw [decide_eq_false (by omega)];rfl
 dsimp only;refine aL (fun _=>?_) fun h=>absurd hl (by omega);obtain⟨w1,w2⟩:=h2 x hm
 match m,w2 with
 |m+1,w2=>
  obtain⟨q1,q2,q3,q4⟩:=w2;unfold kSt kE kA kC at g1 hr;obtain⟨t,ht⟩:=lD hn' g0 (by omega);refine aB (aT hx) (aB ht ?_);rw [aN (n:=k'+1) (by omega)];obtain⟨p0,e0,c1,c2,c3⟩:=xH hn' w1.2 (k:=k'+1) (by omega) (by omega);refine aB e0 (aB (bX c3) ?_);rw [aN (n:=p0.1+1) (by omega),aN (n:=p0.1+1+1) (by omega)];refine aB (lF hn' q1 (by omega) (by omega)) (aB (bX (mL _ _)) ?_);dsimp only;generalize hu:x.value.index.coefs.length=u at g1 hr;rw [aN (n:=p0.1+1+1+(u:Int)+1) (by omega)];obtain⟨t2,ht2⟩:=lD hn' (k:=p0.1+1+1+(u:Int)+1) (by omega) (by omega);refine aB ht2 ?_;rw [aN (n:=p0.1+1+1+(u:Int)+1+1) (by omega)];obtain⟨p1,e1,b1,b2,b3⟩:=xH hn' q2.2 (k:=p0.1+1+1+(u:Int)+1+1) (by omega) (by omega);obtain⟨p2,e2,d1,d2,d3⟩:=aA1 m n (by omega) q3 q4 (k:=p1.1) (by omega) (by omega);refine aB e1 (aB (bX b3) (aB e2 (aB (bX d3) (aB (fM (by omega) _) ?_))));rw [aN (by omega),vAO];exact hr _ _ (by omega) (by omega)
theorem aFl{m n:Nat}(hn:2000001+m≤n){a:List Part}(ha:a.length≤1048576)(h2: ∀x∈a,QPt 1048576 m x){k:Int}(h0:0≤k)(h1:k+5*(kS (kPt m) a:Nat)≤1099511627776):
  ∃r,iJ n a k=some r∧k≤r.1∧r.1≤k+5*(kS (kPt m) a:Nat)∧r.2.length=a.length:=by
 unfold iJ;refine mT (by omega) ha h0 h1 (fun Q again k' l j x hx hm hl hj g0 g1 hr=>?_) fun again k' l=>by dsimp only;rw [decide_eq_false (by omega)];rfl
 dsimp only;refine aL (fun _=>?_) fun h=>absurd hl (by omega);unfold kPt at g1 hr;obtain⟨p1,e1,b1,b2,b3⟩:=aFm (n:=n) (by omega) (h2 x hm).1.1 (h2 x hm).1.2 g0 (by omega);obtain⟨p2,e2,d1,d2,d3⟩:=aFk hn (h2 x hm).2.1 (h2 x hm).2.2 (k:=p1.1) (by omega) (by omega);refine aB (aT hx) (aB e1 (aB (bX b3) (aB e2 (aB (bX d3) (aB (fM (by omega) _) ?_)))));rw [aN (by omega),vAO];exact hr _ _ (by omega) (by omega)
theorem aGB{m n:Nat}(hn:2000001+m≤n){p:Prog}(h:QP 1048576 m p){k:Int}(h0:0≤k)(h1:k+5*(kP m p:Nat)≤1099511627776): ∃r,gZ n p k=some r∧k≤r.1∧r.1≤k+5*(kP m p:Nat):=by unfold kP at h1;obtain⟨p1,e1,b1,b2,_⟩:=aGC (n:=n) (by omega) h.1.1 h.1.2 h0 (by omega);obtain⟨p2,e2,d1,d2,_⟩:=aFl hn h.2.1 h.2.2 (k:=p1.1) (by omega) (by omega);refine⟨(p2.1,p1.2,p2.2),?_,by dsimp only;omega,by dsimp only;unfold kP;omega⟩;unfold gZ;rw [e1];show Option.bind (iJ n p.parts p1.1) _=_;rw [e2];rfl
end Go.Lift
