/- Programs of any size: what is counted, copied and compared; the law of misses for every argument. (Its numbers are those of putx.py.) -/
import Derived.Test.YtaedfpoebdhocaaGreatQTran1
set_option maxRecDepth 100000
set_option linter.unusedVariables false
namespace Go.Lift
open Go
def QA(B:Nat)(a:Affine):Prop:=a.coefs.length≤B
def QAs(B:Nat)(l:List Affine):Prop:=l.length≤B∧ ∀a∈l,QA B a
def QC(B:Nat)(a:Access):Prop:=a.array.length≤B∧QAs B a.subs
def QE(B:Nat):Nat→Expr→Prop
 |0,_=>False
 |m+1,e=>QA B e.index∧QC B e.read∧e.kids.length≤B∧ ∀k∈e.kids,QE B m k
def QS(B m:Nat)(s:Stmt):Prop:=QC B s.write∧QE B m s.value
def QL(B:Nat)(l:Loop):Prop:=QAs B l.lo∧QAs B l.hi
def QPt(B m:Nat)(x:Part):Prop:=(x.nest.length≤B∧ ∀l∈x.nest,QL B l)∧x.body.length≤B∧ ∀s∈x.body,QS B m s
def QR(B:Nat)(x:Arr):Prop:=x.name.length≤B∧x.dims.length≤B
def QP(B m:Nat)(p:Prog):Prop:=(p.arrays.length≤B∧ ∀x∈p.arrays,QR B x)∧p.parts.length≤B∧ ∀x∈p.parts,QPt B m x
theorem aFN: ∀{m:Nat} {e:Expr},QE 1048576 m e→ ∀j,SmE j e
 |0,e,h,_=>h.elim
 |m+1,e,h,0=>trivial
 |m+1,e,h,j+1=>by
  obtain⟨h1,h2,h3,h4⟩:=h;unfold QA at h1;refine⟨by omega,?_,⟨?_,fun a ha=>?_⟩,fun k hk=>aFN (h4 k hk) j⟩
  ·unfold SmA;omega
  ·have:=h2.2.1;omega
  have:=h2.2.2 a ha;unfold QA at this;unfold SmA;omega
theorem aAB{l:List Affine}(h:QAs 1048576 l):u7 l:=⟨by have:=h.1;omega,fun a ha=>by have:=h.2 a ha;unfold QA at this;unfold SmA;omega⟩
theorem aFM{m:Nat}{p:Prog}(h:QP 1048576 m p):SmP p:=by obtain⟨⟨h1,h2⟩,h3,h4⟩:=h;refine⟨⟨by omega,fun x hx=>by have:=(h2 x hx).2;omega⟩,by omega,fun x hx=>?_⟩;obtain⟨⟨g1,g2⟩,g3,g4⟩:=h4 x hx;exact⟨⟨by omega,fun l hl=>⟨aAB (g2 l hl).1,aAB (g2 l hl).2⟩⟩,by omega,fun s hs=>⟨aAB (g4 s hs).1.2,aFN (g4 s hs).2 _⟩⟩
def SZ(w:Int→Option Int)(P:Prop):Prop:= ∀left:Int,0≤left→left≤1048576→ ∃r,w left=some r∧(r= -1∨(0≤r∧r≤left∧P))
theorem SZ.mono{w:Int→Option Int}{P Q:Prop}(h:SZ w P)(k:P→Q):SZ w Q:=fun left h0 h1=>by obtain⟨r,e,hr⟩:=h left h0 h1;exact⟨r,e,hr.imp id fun h=>⟨h.1,h.2.1,k h.2.2⟩⟩
theorem SZ.two{w v:Int→Option Int}{P Q:Prop}(h:SZ w P)(k:SZ v Q):SZ (fun left=>Option.bind (w left) fun x1=>bif decide (x1<0) then some (-1) else v x1) (P∧Q):=fun left h0 h1=>by
 obtain⟨r,e,hr⟩:=h left h0 h1;dsimp only;rw [e];rcases hr with rfl|⟨h2,h3,hP⟩
 ·exact⟨-1,rfl,.inl rfl⟩
 obtain⟨s,e2,hs⟩:=k r h2 (by omega);refine⟨s,?_,?_⟩
 ·show(bif decide (r<0) then some (-1) else v r)=some s;rw [decide_eq_false (by omega)];exact e2
 rcases hs with rfl|⟨h4,h5,hQ⟩
 ·exact .inl rfl
 exact .inr ⟨h4,by omega,hP,hQ⟩
theorem SZ.end{w:Int→Option Int}{P:Prop}(h:SZ w P):SZ (fun left=>Option.bind (w left) fun x1=>bif decide (x1<0) then some (-1) else some x1) P:=
 (h.two (v:=fun x=>some x) (Q:=True) fun left h0 _=>⟨left,rfl,.inr ⟨h0,v2 _,trivial⟩⟩).mono And.left
theorem SZ.len{k:Nat}(hk:k≤9223372036854775807){v:Int→Option Int}{Q:Prop}(h:SZ v Q):SZ (fun left=>bif decide (wr (left-(k:Int))<0) then some (-1) else v (wr (left-(k:Int)))) (k≤1048576∧Q):=fun left h0 h1=>by
 dsimp only;rw [aM (by omega)];by_cases hlt:left-(k:Int)<0
 ·rw [decide_eq_true hlt];exact⟨-1,rfl,.inl rfl⟩
 rw [decide_eq_false hlt];obtain⟨s,e,hs⟩:=h (left-(k:Int)) (by omega) (by omega);refine⟨s,e,?_⟩;rcases hs with rfl|⟨h4,h5,hQ⟩
 ·exact .inl rfl
 exact .inr ⟨h4,by omega,by omega,hQ⟩
theorem aGk{α:Type}{a:List α}{g:α→Int→Option Int}{P:α→Prop}{n:Nat}(ha:a.length≤1048576)(hn:2000000≤n)(hg: ∀x∈a,SZ (g x) (P x)):
  SZ (fun left=>aH (fun again3 ((x1,x2):Int×Int)=>
   bif decide (x2<(a.length:Int)) then(
    Option.bind (ix a x2) fun x4=>
    Option.bind (g x4 x1) fun x5=>
    bif decide (x5<0) then(
     some (-1)
    ) else(
     again3 (x5,wr (x2+1))
    )
   ) else(
    some x1
   )
  ) n (left,0)) (∀x∈a,P x):=fun left h0 h1=>by
 refine Ev.loop (Q:=fun r=>r= -1∨(0≤r∧r≤left∧ ∀x∈a,P x)) (fun z:Int×Int=> ∃j:Nat,z.2=j∧j≤a.length∧0≤z.1∧z.1≤left∧ ∀x∈a.take j,P x) (fun z=>a.length-z.2.toNat) ?_ n _ ⟨0,rfl,by omega,h0,v2 _,fun x hx=>by simp at hx⟩ (by dsimp only;omega);rintro again ⟨z1,z2⟩ ⟨j,rfl,hj,g0,g1,hs⟩ hr;dsimp only at g0 g1⊢;refine aF (fun hlt=>?_) fun hge=>Ev.some (.inr ⟨g0,g1,by rw [vAW (by omega)] at hs;exact hs⟩);have hx:=cE (show j<a.length by omega);generalize a[j]=x at hx;obtain⟨s,e,h2⟩:=hg x (cK hx) z1 g0 (by omega);refine aA (aI hx) (aA e ?_);rcases h2 with rfl|⟨h4,h5,hP⟩
 ·exact aF (fun _=>Ev.some (.inl rfl)) fun h=>absurd h (by decide)
 refine aF (fun h=>absurd h (by omega)) fun _=>?_;rw [aM (by omega)];refine hr _ ⟨j+1,by dsimp only;omega,by omega,h4,by dsimp only;omega,fun y hy=>?_⟩ (by dsimp only;omega);rw [nR hx] at hy;rcases yJ.1 hy with hy|hy
 ·exact hs y hy
 rw [List.mem_singleton.1 hy];exact hP
theorem sV{α:Type}{a:List α}{g:α→Int→Option Int}{P:α→Prop}{n:Nat}(ha:a.length≤9223372036854775807)(hn:2000000≤n)(hg: ∀x∈a,SZ (g x) (P x)):
  SZ (fun left=>bif decide (wr (left-(a.length:Int))<0) then some (-1) else aH (fun again3 ((x1,x2):Int×Int)=>
   bif decide (x2<(a.length:Int)) then(
    Option.bind (ix a x2) fun x4=>
    Option.bind (g x4 x1) fun x5=>
    bif decide (x5<0) then(
     some (-1)
    ) else(
     again3 (x5,wr (x2+1))
    )
   ) else(
    some x1
   )
  ) n (wr (left-(a.length:Int)),0)) (a.length≤1048576∧ ∀x∈a,P x):=fun left h0 h1=>by
 by_cases hb:a.length≤1048576
 ·exact(SZ.len ha (aGk hb hn hg)) left h0 h1
 dsimp only;rw [aM (by omega),decide_eq_true (by omega)];exact⟨-1,rfl,.inl rfl⟩
theorem aAK{n:Nat}{a:List Int}(h:a.length≤9223372036854775807):SZ (pS n a) (a.length≤1048576):=by have:=(SZ.len h (v:=fun x=>some x) (Q:=True) fun left h0 _=>⟨left,rfl,.inr ⟨h0,v2 _,trivial⟩⟩).mono And.left;exact this
theorem aGj{n:Nat}{a:Arr}(h:QR 9223372036854775807 a):SZ (sN n a) (QR 1048576 a):=SZ.len h.1 ((aAK h.2).end)
theorem aEW{n:Nat}(hn:2000000≤n){a:List Arr}(h:a.length≤9223372036854775807)(h2: ∀x∈a,QR 9223372036854775807 x):SZ (oU n a) (a.length≤1048576∧ ∀x∈a,QR 1048576 x):=sV h hn fun x hx=>aGj (h2 x hx)
theorem aCH{n:Nat}{a:Affine}(h:QA 9223372036854775807 a):SZ (lR n a) (QA 1048576 a):=(aAK h).end
theorem D7{n:Nat}(hn:2000000≤n){a:List Affine}(h:QAs 9223372036854775807 a):SZ (gY n a) (QAs 1048576 a):=sV h.1 hn fun x hx=>aCH (h.2 x hx)
theorem aCI{n:Nat}(hn:2000000≤n){a:Access}(h:QC 9223372036854775807 a):SZ (lT n a) (QC 1048576 a):=SZ.len h.1 ((D7 hn h.2).end)
theorem aAL: ∀(m n:Nat) {e:Expr},2000000+m≤n→QE 9223372036854775807 m e→SZ (w_szExpr n e) (QE 1048576 m e)
 |0,n,e,_,h=>h.elim
 |m+1,n,e,hn,h=>by
  obtain⟨n,rfl⟩: ∃j,n=j+1:=⟨n-1,by omega⟩
  obtain⟨h1,h2,h3,h4⟩:=h;have hk:SZ (sM n (w_szExpr n) e.kids) (e.kids.length≤1048576∧ ∀k∈e.kids,QE 1048576 m k):=sV h3 (by omega) fun k hk=>aAL m n (by omega) (h4 k hk);exact SZ.mono ((aCH (n:=n) h1).two ((aCI (n:=n) (by omega) h2).two hk.end)) (fun⟨a,b,c,d⟩=>⟨a,b,c,d⟩)
theorem aET{m n:Nat}(hn:2000000+m≤n){s:Stmt}(h:QS 9223372036854775807 m s):SZ (vX n s) (QS 1048576 m s):=(aCI (by omega) h.1).two ((aAL m n hn h.2).end)
theorem aCG{m n:Nat}(hn:2000000+m≤n){a:List Stmt}(h:a.length≤9223372036854775807)(h2: ∀x∈a,QS 9223372036854775807 m x):SZ (sJ n a) (a.length≤1048576∧ ∀x∈a,QS 1048576 m x):=sV h (by omega) fun x hx=>aET hn (h2 x hx)
theorem aHc{n:Nat}(hn:2000000≤n){l:Loop}(h:QL 9223372036854775807 l):SZ (vZ n l) (QL 1048576 l):=(D7 hn h.1).two ((D7 hn h.2).end)
theorem aGi{n:Nat}(hn:2000000≤n){a:List Loop}(h:a.length≤9223372036854775807)(h2: ∀x∈a,QL 9223372036854775807 x):SZ (sK n a) (a.length≤1048576∧ ∀x∈a,QL 1048576 x):=sV h hn fun x hx=>aHc hn (h2 x hx)
theorem aEV{m n:Nat}(hn:2000000+m≤n){x:Part}(h:QPt 9223372036854775807 m x):SZ (vY n x) (QPt 1048576 m x):=(aGi (by omega) h.1.1 h.1.2).two ((aCG hn h.2.1 h.2.2).end)
theorem aEU{m n:Nat}(hn:2000000+m≤n){p:Prog}(h:QP 9223372036854775807 m p):SZ (mV n p) (QP 1048576 m p):=
 (aEW (by omega) h.1.1 h.1.2).two (SZ.end (sV h.2.1 (by omega) fun x hx=>aEV hn (h.2.2 x hx)))
theorem gE{α:Type}{a:List α}{g:α→Option α}{z:α}{n:Nat}(ha:a.length≤1048576)(hn:2000000≤n)(hg: ∀x∈a,g x=some x):
  (Option.bind (mk (a.length:Int) z) fun x1=>
 aH (fun again5 ((x2,x3):(List α)×Int)=>
  bif decide (x3<(a.length:Int)) then(
   Option.bind (ix a x3) fun x6=>
   Option.bind (g x6) fun x7=>
   Option.bind (ix x2 x3) fun x8=>
   Option.bind (o1 x2 x3 x7) fun x9=>
   again5 (x9,wr (x3+1))
  ) else(
   some x2
  )
 ) n (x1,0))=some a:=by
 refine Ev.eq (aA (aHk ⟨by omega,by omega⟩ z) (Ev.loop (fun x:List α×Int=> ∃j:Nat,x.2=j∧j≤a.length∧x.1=a.take j++List.replicate (a.length-j) z) (fun x=>a.length-x.2.toNat) ?_ n _ ⟨0,rfl,by omega,by simp⟩ (by dsimp only;omega)));rintro again ⟨b,i⟩ ⟨j,rfl,hj,rfl⟩ hr;dsimp only;have hlen:(a.take j++List.replicate (a.length-j) z).length=a.length:=by simp;omega
 refine aF (fun hlt=>?_) fun hge=>Ev.some (by rw [show a.length-j=0 by omega,vAW (by omega)];simp);have hlt:j<a.length:=by omega
 have hx:=cE hlt;generalize a[j]=x at hx;refine aA (aI hx) (aA (hg x (cK hx)) (aA (aI (cE (show j<_ by rw [hlen];exact hlt))) (aA (aEY (by rw [hlen];omega) _) ?_)));rw [aM (by omega),Int.toNat_natCast];refine hr _ ⟨j+1,by dsimp only;omega,by omega,?_⟩ (by dsimp only;omega);dsimp only;rw [nR hx,List.set_append_right _ _ (by rw [nQ];omega),nQ,vBz (by omega),Nat.sub_self,show a.length-j=(a.length-(j+1))+1 by omega,List.replicate_succ,List.set_cons_zero];simp
theorem aAH{n:Nat}(hn:2000000≤n){a:List Int}(h:a.length≤1048576):mU n a=some a:=by
 unfold mU
 have:=gE (z:=(0:Int)) (g:=fun x=>some x) h hn fun x _=>rfl;exact this
theorem aCD{n:Nat}(hn:2000000≤n){a:Affine}(h:QA 1048576 a):iZ n a=some a:=by unfold iZ;rw [aAH hn h];rfl
theorem D6{n:Nat}(hn:2000000≤n){a:List Affine}(h:QAs 1048576 a):gX n a=some a:=gE h.1 hn fun x hx=>aCD hn (h.2 x hx)
theorem aCE{n:Nat}(hn:2000000≤n){a:Access}(h:QC 1048576 a):i8 n a=some a:=by unfold i8;rw [D6 hn h.2];rfl
theorem aGg{n:Nat}(hn:2000000≤n){a:Arr}(h:QR 1048576 a):nO n a=some a:=by unfold nO;rw [aAH hn h.2];rfl
theorem aAI: ∀(m n:Nat) {e:Expr},2000000+m≤n→QE 1048576 m e→w_toExpr n e=some e
 |0,n,e,_,h=>h.elim
 |m+1,n,e,hn,h=>by
  obtain⟨n,rfl⟩: ∃j,n=j+1:=⟨n-1,by omega⟩
  obtain⟨h1,h2,h3,h4⟩:=h;have hk:sH n (w_toExpr n) e.kids=some e.kids:=gE h3 (by omega) fun k hk=>aAI m n (by omega) (h4 k hk);unfold w_toExpr;rw [aCD (by omega) h1,aCE (by omega) h2,hk];cases e;rfl
theorem aEQ{m n:Nat}(hn:2000000+m≤n){s:Stmt}(h:QS 1048576 m s):pP n s=some s:=by unfold pP;rw [aCE (by omega) h.1,aAI m n hn h.2];rfl
theorem aCC{m n:Nat}(hn:2000000+m≤n){a:List Stmt}(h:a.length≤1048576)(h2: ∀x∈a,QS 1048576 m x):sC n a=some a:=gE h (by omega) fun x hx=>aEQ hn (h2 x hx)
theorem aHa{n:Nat}(hn:2000000≤n){l:Loop}(h:QL 1048576 l):pR n l=some l:=by unfold pR;rw [D6 hn h.1,D6 hn h.2];rfl
theorem aGf{n:Nat}(hn:2000000≤n){a:List Loop}(h:a.length≤1048576)(h2: ∀x∈a,QL 1048576 x):sG n a=some a:=gE h hn fun x hx=>aHa hn (h2 x hx)
theorem aES{m n:Nat}(hn:2000000+m≤n){x:Part}(h:QPt 1048576 m x):pQ n x=some x:=by unfold pQ;rw [aGf (by omega) h.1.1 h.1.2,aCC hn h.2.1 h.2.2];rfl
theorem aER{m n:Nat}(hn:2000000+m≤n){p:Prog}(h:QP 1048576 m p):fO n p=some p:=by unfold fO;rw [show oS n p.arrays=some p.arrays from gE h.1.1 (by omega) (fun x hx=>aGg (by omega) (h.1.2 x hx)),show sD n p.parts=some p.parts from gE h.2.1 (by omega) fun x hx=>aES hn (h.2.2 x hx)];rfl
theorem tR{α:Type}{a:List α}{g:α→α→Option Bool}{n:Nat}(ha:a.length≤1048576)(hn:2000000≤n)(hg: ∀x∈a,g x x=some true):
  (bif !decide ((a.length:Int)=(a.length:Int)) then(
  some false
 ) else(
  aH (fun again2 (x1:Int)=>
   bif decide (x1<(a.length:Int)) then(
    Option.bind (ix a x1) fun x3=>
    Option.bind (ix a x1) fun x4=>
    Option.bind (g x3 x4) fun x5=>
    bif !x5 then(
     some false
    ) else(
     again2 (wr (x1+1))
    )
   ) else(
    some true
   )
  ) n 0
 ))=some true:=by rw [decide_eq_true rfl];refine Ev.eq (bE (Ev.loop (fun x:Int=> ∃j:Nat,x=j∧j≤a.length) (fun x=>a.length-x.toNat) ?_ n _ ⟨0,rfl,by omega⟩ (by omega)));rintro again i ⟨j,rfl,hj⟩ hr;refine aF (fun hlt=>?_) fun _=>Ev.some rfl;have hx:=cE (show j<a.length by omega);refine aA (aI hx) (aA (aI hx) (aA (hg _ (cK hx)) ?_));rw [aM (by omega)];exact bE (hr _ ⟨j+1,by omega,by omega⟩ (by omega))
theorem aA5{n:Nat}(hn:2000000≤n){a:List Int}(h:a.length≤1048576):mW n a a=some true:=by unfold mW;rw [decide_eq_true rfl];refine Ev.eq (bE (Ev.loop (fun x:Int=> ∃j:Nat,x=j∧j≤a.length) (fun x=>a.length-x.toNat) ?_ n _ ⟨0,rfl,by omega⟩ (by omega)));rintro again i ⟨j,rfl,hj⟩ hr;refine aF (fun hlt=>?_) fun _=>Ev.some rfl;have hx:=cE (show j<a.length by omega);refine aA (aI hx) (aA (aI hx) (d8 (fun h=>absurd rfl h) fun _=>?_));rw [aM (by omega)];exact hr _ ⟨j+1,by omega,by omega⟩ (by omega)
theorem aDP{n:Nat}(hn:2000000≤n){a:Affine}(h:QA 1048576 a):jA n a a=some true:=by unfold jA;rw [aA5 hn h];exact Ev.eq (aA rfl (bE (d8 (fun h=>absurd rfl h) fun _=>Ev.some rfl)))
theorem H6{n:Nat}(hn:2000000≤n){a:List Affine}(h:QAs 1048576 a):gZ n a a=some true:=tR h.1 hn fun x hx=>aDP hn (h.2 x hx)
theorem aDQ{n:Nat}(hn:2000000≤n){a:Access}(h:QC 1048576 a):jB n a a=some true:=by unfold jB;exact Ev.eq (d8 (fun h=>absurd rfl h) fun _=>aA (H6 hn h.2) (Ev.some rfl))
theorem aGC{n:Nat}(hn:2000000≤n){a:Arr}(h:QR 1048576 a):nP n a a=some true:=by unfold nP;exact Ev.eq (d8 (fun h=>absurd rfl h) fun _=>aA (aA5 hn h.2) (Ev.some rfl))
theorem aA6: ∀(m n:Nat) {e:Expr},2000000+m≤n→QE 1048576 m e→w_eqExpr n e e=some true
 |0,n,e,_,h=>h.elim
 |m+1,n,e,hn,h=>by
  obtain⟨n,rfl⟩: ∃j,n=j+1:=⟨n-1,by omega⟩
  obtain⟨h1,h2,h3,h4⟩:=h;have hk:sS n (w_eqExpr n) e.kids e.kids=some true:=tR h3 (by omega) fun k hk=>aA6 m n (by omega) (h4 k hk);unfold w_eqExpr;exact Ev.eq (d8 (fun h=>absurd rfl h) fun _=>d8 (fun h=>absurd rfl h) fun _=>aA (aDP (by omega) h1) (bE (aA (aDQ (by omega) h2) (bE (aA hk (bE (Ev.some rfl)))))))
theorem aFo{m n:Nat}(hn:2000000+m≤n){s:Stmt}(h:QS 1048576 m s):pT n s s=some true:=by unfold pT;exact Ev.eq (aA (aDQ (by omega) h.1) (bE (aA (aA6 m n hn h.2) (bE (Ev.some rfl)))))
theorem aHv{n:Nat}(hn:2000000≤n){l:Loop}(h:QL 1048576 l):pV n l l=some true:=by unfold pV;exact Ev.eq (aA (H6 hn h.1) (bE (aA (H6 hn h.2) (bE (Ev.some rfl)))))
theorem aFq{m n:Nat}(hn:2000000+m≤n){x:Part}(h:QPt 1048576 m x):pU n x x=some true:=by unfold pU;exact Ev.eq (aA (show sQ n x.nest x.nest=some true from tR h.1.1 (by omega) fun l hl=>aHv (by omega) (h.1.2 l hl)) (bE (aA (show sO n x.body x.body=some true from tR h.2.1 (by omega) fun s hs=>aFo hn (h.2.2 s hs)) (bE (Ev.some rfl)))))
theorem aFp{m n:Nat}(hn:2000000+m≤n){p:Prog}(h:QP 1048576 m p):jV n p p=some true:=by unfold jV;exact Ev.eq (aA (show oW n p.arrays p.arrays=some true from tR h.1.1 (by omega) fun x hx=>aGC (by omega) (h.1.2 x hx)) (bE (aA (show sP n p.parts p.parts=some true from tR h.2.1 (by omega) fun x hx=>aFq hn (h.2.2 x hx)) (bE (Ev.some rfl)))))
def aFb(p:Prog)(size:Int):Int:=if dD p=true then(if 0≤size∧size≤40 then(bW size.toNat [] ((r8 p).take 600):Int) else-1) else-1
theorem aGv{n:Nat}(hn:22000000≤n){p:Prog}(hp:SmP p)(size:Int):fH n p size=some (aFb p size):=by
 unfold fH aFb;rw [q8 (by omega) hp];by_cases hv:dD p=true
 ·rw [if_pos hv,hv];show Option.bind (eE n p) _=_;rw [aBJ hn hp hv];show Option.bind (m_lru _ size) _=_;have hl:((r8 p).take 600).length≤600:=by rw [nQ];omega
  unfold m_lru;by_cases h:0≤size∧size≤40
  ·rw [if_pos ⟨hl,h⟩,if_pos h];rfl
  rw [if_neg fun e=>h e.2,if_neg h];rfl
 rw [if_neg hv,Bool.eq_false_iff.2 hv];rfl
theorem aGl{n:Nat}(hn:22000000≤n){p:Prog}(hp:SmP p)(size:Int):fD n p size=some (aFb p size):=by
 unfold fD aFb;have hV:=qL (n:=n) (by omega) hp;rw [hV];by_cases hv:dD p=true
 ·rw [if_pos hv,hv];show Option.bind (eA n p) _=_;rw [aBs hn (by rw [hV,hv]) hv];show Option.bind (d9 n _ size) _=_;have hl:((r8 p).take 600).length≤600:=by rw [nQ];omega
  by_cases h:0≤size∧size≤40
  ·rw [aCN hn hl h.1 h.2,if_pos h];rfl
  rw [aCM fun e=>h e.2,if_neg h];rfl
 rw [if_neg hv,Bool.eq_false_iff.2 hv];rfl
theorem u4{m:Nat}{p:Prog}(hp:QP 9223372036854775807 m p)(size:Int):dM (30000000+m) p size=some true:=by
 have hn:2000000+m≤30000000+m:=by omega
 generalize hN:30000000+m=n at hn;obtain⟨r,e,hr⟩:=aEU hn hp 1048576 (by omega) (by omega);unfold dM;refine Ev.eq (aA e ?_);rcases hr with rfl|⟨h0,_,hb⟩
 ·exact aF (fun _=>Ev.some rfl) fun h=>absurd h (by decide)
 have ht:=aER hn hb;refine aF (fun h=>absurd h (by omega)) fun _=>aA ht (aA (aGl (by omega) (aFM hb) size) (aA ht (aA (aGv (by omega) (aFM hb) size) (d8 (fun h=>absurd rfl h) fun _=>aA ht (aA (aFp hn hb) (bE (Ev.some rfl)))))))
end Go.Lift
