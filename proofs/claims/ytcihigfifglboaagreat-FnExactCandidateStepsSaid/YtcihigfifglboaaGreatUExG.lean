/- Programs of any size: what is counted, copied and compared. (Its numbers are those of putx.py.) -/
import Derived.Test.YtcihigfifglboaaGreatURun1
set_option maxRecDepth 100000
set_option linter.unusedVariables false
namespace Go.Lift
open Go
def QA(B:Nat)(a:Affine):Prop:=a.coefs.length≤B
def QAs(B:Nat)(l:List Affine):Prop:=l.length≤B∧ ∀a∈l,QA B a
def QC(B:Nat)(a:Access):Prop:=a.array.length≤B∧QAs B a.subs
def QE(B:Nat):Nat→Expr→Prop
 |0,_=>False
 |m+1,e=>QA B e.index∧QC B e.read∧e.kids.length≤B∧ ∀k∈e.kids,QE B m k
def QS(B m:Nat)(s:Stmt):Prop:=QC B s.write∧QE B m s.value
def QL(B:Nat)(l:Loop):Prop:=QAs B l.lo∧QAs B l.hi
def QPt(B m:Nat)(x:Part):Prop:=(x.nest.length≤B∧ ∀l∈x.nest,QL B l)∧x.body.length≤B∧ ∀s∈x.body,QS B m s
def QR(B:Nat)(x:Arr):Prop:=x.name.length≤B∧x.dims.length≤B
def QP(B m:Nat)(p:Prog):Prop:=(p.arrays.length≤B∧ ∀x∈p.arrays,QR B x)∧p.parts.length≤B∧ ∀x∈p.parts,QPt B m x
theorem aF2: ∀{m:Nat} {e:Expr},QE 1048576 m e→ ∀j,SmE j e
 |0,e,h,_=>h.elim
 |m+1,e,h,0=>trivial
 |m+1,e,h,j+1=>by
  obtain⟨h1,h2,h3,h4⟩:=h;unfold QA at h1;refine⟨by omega,?_,⟨?_,fun a ha=>?_⟩,fun k hk=>aF2 (h4 k hk) j⟩
  ·unfold SmA;omega
  ·have:=h2.2.1;omega
  have:=h2.2.2 a ha;unfold QA at this;unfold SmA;omega
theorem aAE{l:List Affine}(h:QAs 1048576 l):vY l:=⟨by have:=h.1;omega,fun a ha=>by have:=h.2 a ha;unfold QA at this;unfold SmA;omega⟩
theorem aF1{m:Nat}{p:Prog}(h:QP 1048576 m p):SmP p:=by obtain⟨⟨h1,h2⟩,h3,h4⟩:=h;refine⟨⟨by omega,fun x hx=>by have:=(h2 x hx).2;omega⟩,by omega,fun x hx=>?_⟩;obtain⟨⟨g1,g2⟩,g3,g4⟩:=h4 x hx;exact⟨⟨by omega,fun l hl=>⟨aAE (g2 l hl).1,aAE (g2 l hl).2⟩⟩,by omega,fun s hs=>⟨aAE (g4 s hs).1.2,aF2 (g4 s hs).2 _⟩⟩
def kS{α:Type}(c:α→Nat)(l:List α):Nat:=l.length+(l.map c).sum
def kA(a:Affine):Nat:=a.coefs.length
def kC(a:Access):Nat:=kS kA a.subs
def kE:Nat→Expr→Nat
 |0,_=>0
 |m+1,e=>kA e.index+(kC e.read+kS (kE m) e.kids)
def kSt(m:Nat)(s:Stmt):Nat:=kC s.write+kE m s.value
def kL(l:Loop):Nat:=kS kA l.lo+kS kA l.hi
def kPt(m:Nat)(x:Part):Nat:=kS kL x.nest+kS (kSt m) x.body
def kR(x:Arr):Nat:=x.dims.length
def kP(m:Nat)(p:Prog):Nat:=kS kR p.arrays+kS (kPt m) p.parts
def SZ(w:Int→Option Int)(C:Nat)(P:Prop):Prop:= ∀left:Int,0≤left→left≤1048576→ ∃r,w left=some r∧(r= -1∨(0≤r∧r+C≤left∧P))
theorem SZ.mono{w:Int→Option Int}{C D:Nat}{P Q:Prop}(h:SZ w C P)(hD:D≤C)(k:P→Q):SZ w D Q:=fun left h0 h1=>by obtain⟨r,e,hr⟩:=h left h0 h1;exact⟨r,e,hr.imp id fun h=>⟨h.1,by omega,k h.2.2⟩⟩
theorem SZ.two{w v:Int→Option Int}{C D:Nat}{P Q:Prop}(h:SZ w C P)(k:SZ v D Q):SZ (fun left=>Option.bind (w left) fun x1=>bif decide (x1<0) then some (-1) else v x1) (C+D) (P∧Q):=fun left h0 h1=>by
 obtain⟨r,e,hr⟩:=h left h0 h1;dsimp only;rw [e];rcases hr with rfl|⟨h2,h3,hP⟩
 ·exact⟨-1,rfl,.inl rfl⟩
 obtain⟨s,e2,hs⟩:=k r h2 (by omega);refine⟨s,?_,?_⟩
 ·show(bif decide (r<0) then some (-1) else v r)=some s;rw [decide_eq_false (by omega)];exact e2
 rcases hs with rfl|⟨h4,h5,hQ⟩
 ·exact .inl rfl
 exact .inr ⟨h4,by omega,hP,hQ⟩
theorem SZ.end{w:Int→Option Int}{C:Nat}{P:Prop}(h:SZ w C P):SZ (fun left=>Option.bind (w left) fun x1=>bif decide (x1<0) then some (-1) else some x1) C P:=
 (h.two (v:=fun x=>some x) (D:=0) (Q:=True) fun left h0 _=>⟨left,rfl,.inr ⟨h0,by omega,trivial⟩⟩).mono (iV _) And.left
theorem SZ.len{k:Nat}(hk:k≤9223372036854775807){v:Int→Option Int}{D:Nat}{Q:Prop}(h:SZ v D Q):SZ (fun left=>bif decide (wr (left-(k:Int))<0) then some (-1) else v (wr (left-(k:Int)))) (k+D) (k≤1048576∧Q):=fun left h0 h1=>by
 dsimp only;rw [aN (by omega)];by_cases hlt:left-(k:Int)<0
 ·rw [decide_eq_true hlt];exact⟨-1,rfl,.inl rfl⟩
 rw [decide_eq_false hlt];obtain⟨s,e,hs⟩:=h (left-(k:Int)) (by omega) (by omega);refine⟨s,e,?_⟩;rcases hs with rfl|⟨h4,h5,hQ⟩
 ·exact .inl rfl
 exact .inr ⟨h4,by omega,by omega,hQ⟩
theorem D0{α:Type}{l:List α}{i:Nat}{x:α}(c:α→Nat)(h:l[i]? =some x):((l.take (i+1)).map c).sum=((l.take i).map c).sum+c x:=by rw [tI h];simp
theorem aGx{α:Type}{a:List α}{g:α→Int→Option Int}{c:α→Nat}{P:α→Prop}{n:Nat}(ha:a.length≤1048576)(hn:2000000≤n)(hg: ∀x∈a,SZ (g x) (c x) (P x)):
  SZ (fun left=>aM (fun again3 ((x1,x2):Int×Int)=>
   bif decide (x2<(a.length:Int)) then(
    Option.bind (ix a x2) fun x4=>
    Option.bind (g x4 x1) fun x5=>
    bif decide (x5<0) then(
     some (-1)
    ) else(
     again3 (x5,wr (x2+1))
    )
   ) else(
    some x1
   )
  ) n (left,0)) (a.map c).sum (∀x∈a,P x):=fun left h0 h1=>by
 refine Ev.loop (Q:=fun r=>r= -1∨(0≤r∧r+((a.map c).sum:Nat)≤left∧ ∀x∈a,P x)) (fun z:Int×Int=> ∃j:Nat,z.2=j∧j≤a.length∧0≤z.1∧z.1+(((a.take j).map c).sum:Nat)≤left∧ ∀x∈a.take j,P x) (fun z=>a.length-z.2.toNat) ?_ n _ ⟨0,rfl,by omega,h0,by simp,fun x hx=>by simp at hx⟩ (by dsimp only;omega);rintro again ⟨z1,z2⟩ ⟨j,rfl,hj,g0,g1,hs⟩ hr;dsimp only at g0 g1⊢;refine aL (fun hlt=>?_) fun hge=>Ev.some (.inr ⟨g0,by rw [List.take_of_length_le (by omega)] at g1;exact g1,by rw [List.take_of_length_le (by omega)] at hs;exact hs⟩);have hx:=dC (show j<a.length by omega);generalize a[j]=x at hx;obtain⟨s,e,h2⟩:=hg x (dB hx) z1 g0 (by omega);refine aB (aT hx) (aB e ?_);rcases h2 with rfl|⟨h4,h5,hP⟩
 ·exact aL (fun _=>Ev.some (.inl rfl)) fun h=>absurd h (by decide)
 refine aL (fun h=>absurd h (by omega)) fun _=>?_;rw [aN (by omega)];refine hr _ ⟨j+1,by dsimp only;omega,by omega,h4,by dsimp only;rw [D0 c hx];omega,fun y hy=>?_⟩ (by dsimp only;omega);rw [tI hx] at hy;rcases zB.1 hy with hy|hy
 ·exact hs y hy
 rw [vBo.1 hy];exact hP
theorem tJ{α:Type}{a:List α}{g:α→Int→Option Int}{c:α→Nat}{P:α→Prop}{n:Nat}(ha:a.length≤9223372036854775807)(hn:2000000≤n)(hg: ∀x∈a,SZ (g x) (c x) (P x)):
  SZ (fun left=>bif decide (wr (left-(a.length:Int))<0) then some (-1) else aM (fun again3 ((x1,x2):Int×Int)=>
   bif decide (x2<(a.length:Int)) then(
    Option.bind (ix a x2) fun x4=>
    Option.bind (g x4 x1) fun x5=>
    bif decide (x5<0) then(
     some (-1)
    ) else(
     again3 (x5,wr (x2+1))
    )
   ) else(
    some x1
   )
  ) n (wr (left-(a.length:Int)),0)) (kS c a) (a.length≤1048576∧ ∀x∈a,P x):=fun left h0 h1=>by
 by_cases hb:a.length≤1048576
 ·exact(SZ.len ha (aGx hb hn hg)) left h0 h1
 dsimp only;rw [aN (by omega),decide_eq_true (by omega)];exact⟨-1,rfl,.inl rfl⟩
theorem aAQ{n:Nat}{a:List Int}(h:a.length≤9223372036854775807):SZ (qW n a) a.length (a.length≤1048576):=by have:=(SZ.len h (v:=fun x=>some x) (D:=0) (Q:=True) fun left h0 _=>⟨left,rfl,.inr ⟨h0,by omega,trivial⟩⟩).mono (iV _) And.left;exact this
theorem aGw{n:Nat}{a:Arr}(h:QR 9223372036854775807 a):SZ (s9 n a) (kR a) (QR 1048576 a):=(SZ.len h.1 ((aAQ h.2).end)).mono (Nat.le_add_left _ _) id
theorem aE4{n:Nat}(hn:2000000≤n){a:List Arr}(h:a.length≤9223372036854775807)(h2: ∀x∈a,QR 9223372036854775807 x):SZ (pV n a) (kS kR a) (a.length≤1048576∧ ∀x∈a,QR 1048576 x):=tJ h hn fun x hx=>aGw (h2 x hx)
theorem aCN{n:Nat}{a:Affine}(h:QA 9223372036854775807 a):SZ (mJ n a) (kA a) (QA 1048576 a):=(aAQ h).end
theorem H4{n:Nat}(hn:2000000≤n){a:List Affine}(h:QAs 9223372036854775807 a):SZ (iG n a) (kS kA a) (QAs 1048576 a):=tJ h.1 hn fun x hx=>aCN (h.2 x hx)
theorem aCO{n:Nat}(hn:2000000≤n){a:Access}(h:QC 9223372036854775807 a):SZ (mK n a) (kC a) (QC 1048576 a):=(SZ.len h.1 ((H4 hn h.2).end)).mono (Nat.le_add_left _ _) id
theorem aAR: ∀(m n:Nat) {e:Expr},2000000+m≤n→QE 9223372036854775807 m e→SZ (w_szExpr n e) (kE m e) (QE 1048576 m e)
 |0,n,e,_,h=>h.elim
 |m+1,n,e,hn,h=>by
  obtain⟨n,rfl⟩: ∃j,n=j+1:=⟨n-1,by omega⟩
  obtain⟨h1,h2,h3,h4⟩:=h;have hk:SZ (s8 n (w_szExpr n) e.kids) (kS (kE m) e.kids) (e.kids.length≤1048576∧ ∀k∈e.kids,QE 1048576 m k):=tJ h3 (by omega) fun k hk=>aAR m n (by omega) (h4 k hk);exact SZ.mono ((aCN (n:=n) h1).two ((aCO (n:=n) (by omega) h2).two hk.end)) (iV _) (fun⟨a,b,c,d⟩=>⟨a,b,c,d⟩)
theorem aE1{m n:Nat}(hn:2000000+m≤n){s:Stmt}(h:QS 9223372036854775807 m s):SZ (wL n s) (kSt m s) (QS 1048576 m s):=(aCO (by omega) h.1).two ((aAR m n hn h.2).end)
theorem aCM{m n:Nat}(hn:2000000+m≤n){a:List Stmt}(h:a.length≤9223372036854775807)(h2: ∀x∈a,QS 9223372036854775807 m x):SZ (s6 n a) (kS (kSt m) a) (a.length≤1048576∧ ∀x∈a,QS 1048576 m x):=tJ h (by omega) fun x hx=>aE1 hn (h2 x hx)
theorem aHp{n:Nat}(hn:2000000≤n){l:Loop}(h:QL 9223372036854775807 l):SZ (wN n l) (kL l) (QL 1048576 l):=(H4 hn h.1).two ((H4 hn h.2).end)
theorem aGv{n:Nat}(hn:2000000≤n){a:List Loop}(h:a.length≤9223372036854775807)(h2: ∀x∈a,QL 9223372036854775807 x):SZ (s7 n a) (kS kL a) (a.length≤1048576∧ ∀x∈a,QL 1048576 x):=tJ h hn fun x hx=>aHp hn (h2 x hx)
theorem aE3{m n:Nat}(hn:2000000+m≤n){x:Part}(h:QPt 9223372036854775807 m x):SZ (wM n x) (kPt m x) (QPt 1048576 m x):=(aGv (by omega) h.1.1 h.1.2).two ((aCM hn h.2.1 h.2.2).end)
theorem aE2{m n:Nat}(hn:2000000+m≤n){p:Prog}(h:QP 9223372036854775807 m p):SZ (nR n p) (kP m p) (QP 1048576 m p):=
 (aE4 (by omega) h.1.1 h.1.2).two (SZ.end (tJ h.2.1 (by omega) fun x hx=>aE3 hn (h.2.2 x hx)))
theorem gN{α:Type}{a:List α}{g:α→Option α}{z:α}{n:Nat}(ha:a.length≤1048576)(hn:2000000≤n)(hg: ∀x∈a,g x=some x):
  (Option.bind (mk (a.length:Int) z) fun x1=>
 aM (fun again5 ((x2,x3):(List α)×Int)=>
  bif decide (x3<(a.length:Int)) then(
   Option.bind (ix a x3) fun x6=>
   Option.bind (g x6) fun x7=>
   Option.bind (ix x2 x3) fun x8=>
   Option.bind (gP x2 x3 x7) fun x9=>
   again5 (x9,wr (x3+1))
  ) else(
   some x2
  )
 ) n (x1,0))=some a:=by
 refine Ev.eq (aB (aHx ⟨by omega,by omega⟩ z) (Ev.loop (fun x:List α×Int=> ∃j:Nat,x.2=j∧j≤a.length∧x.1=a.take j++List.replicate (a.length-j) z) (fun x=>a.length-x.2.toNat) ?_ n _ ⟨0,rfl,by omega,by simp⟩ (by dsimp only;omega)));rintro again ⟨b,i⟩ ⟨j,rfl,hj,rfl⟩ hr;dsimp only;have hlen:(a.take j++List.replicate (a.length-j) z).length=a.length:=by simp;omega
 refine aL (fun hlt=>?_) fun hge=>Ev.some (by rw [show a.length-j=0 by omega,List.take_of_length_le (by omega)];simp);have hlt:j<a.length:=by omega
 have hx:=dC hlt;generalize a[j]=x at hx;refine aB (aT hx) (aB (hg x (dB hx)) (aB (aT (dC (show j<_ by rw [hlen];exact hlt))) (aB (fM (by rw [hlen];omega) _) ?_)));rw [aN (by omega),vAO];refine hr _ ⟨j+1,by dsimp only;omega,by omega,?_⟩ (by dsimp only;omega);dsimp only;rw [tI hx,List.set_append_right _ _ (by rw [A7];omega),A7,Nat.min_eq_left (by omega),Nat.sub_self,show a.length-j=(a.length-(j+1))+1 by omega,List.replicate_succ,List.set_cons_zero];simp
theorem aAM{n:Nat}(hn:2000000≤n){a:List Int}(h:a.length≤1048576):nQ n a=some a:=by
 unfold nQ
 have:=gN (z:=(0:Int)) (g:=fun x=>some x) h hn fun x _=>rfl;exact this
theorem aCK{n:Nat}(hn:2000000≤n){a:Affine}(h:QA 1048576 a):jQ n a=some a:=by unfold jQ;rw [aAM hn h];rfl
theorem H3{n:Nat}(hn:2000000≤n){a:List Affine}(h:QAs 1048576 a):iF n a=some a:=gN h.1 hn fun x hx=>aCK hn (h.2 x hx)
theorem aCL{n:Nat}(hn:2000000≤n){a:Access}(h:QC 1048576 a):jR n a=some a:=by unfold jR;rw [H3 hn h.2];rfl
theorem aGt{n:Nat}(hn:2000000≤n){a:Arr}(h:QR 1048576 a):oZ n a=some a:=by unfold oZ;rw [aAM hn h.2];rfl
theorem aAN: ∀(m n:Nat) {e:Expr},2000000+m≤n→QE 1048576 m e→w_toExpr n e=some e
 |0,n,e,_,h=>h.elim
 |m+1,n,e,hn,h=>by
  obtain⟨n,rfl⟩: ∃j,n=j+1:=⟨n-1,by omega⟩
  obtain⟨h1,h2,h3,h4⟩:=h;have hk:s5 n (w_toExpr n) e.kids=some e.kids:=gN h3 (by omega) fun k hk=>aAN m n (by omega) (h4 k hk);unfold w_toExpr;rw [aCK (by omega) h1,aCL (by omega) h2,hk];cases e;rfl
theorem aEY{m n:Nat}(hn:2000000+m≤n){s:Stmt}(h:QS 1048576 m s):qT n s=some s:=by unfold qT;rw [aCL (by omega) h.1,aAN m n hn h.2];rfl
theorem aCJ{m n:Nat}(hn:2000000+m≤n){a:List Stmt}(h:a.length≤1048576)(h2: ∀x∈a,QS 1048576 m x):sY n a=some a:=gN h (by omega) fun x hx=>aEY hn (h2 x hx)
theorem aHn{n:Nat}(hn:2000000≤n){l:Loop}(h:QL 1048576 l):qV n l=some l:=by unfold qV;rw [H3 hn h.1,H3 hn h.2];rfl
theorem aGs{n:Nat}(hn:2000000≤n){a:List Loop}(h:a.length≤1048576)(h2: ∀x∈a,QL 1048576 x):s4 n a=some a:=gN h hn fun x hx=>aHn hn (h2 x hx)
theorem aE0{m n:Nat}(hn:2000000+m≤n){x:Part}(h:QPt 1048576 m x):qU n x=some x:=by unfold qU;rw [aGs (by omega) h.1.1 h.1.2,aCJ hn h.2.1 h.2.2];rfl
theorem aEZ{m n:Nat}(hn:2000000+m≤n){p:Prog}(h:QP 1048576 m p):eJ n p=some p:=by unfold eJ;rw [show pU n p.arrays=some p.arrays from gN h.1.1 (by omega) (fun x hx=>aGt (by omega) (h.1.2 x hx)),show sZ n p.parts=some p.parts from gN h.2.1 (by omega) fun x hx=>aE0 hn (h.2.2 x hx)];rfl
theorem qJ{α:Type}{a:List α}{g:α→α→Option Bool}{n:Nat}(ha:a.length≤1048576)(hn:2000000≤n)(hg: ∀x∈a,g x x=some true):
  (bif !decide ((a.length:Int)=(a.length:Int)) then(
  some false
 ) else(
  aM (fun again2 (x1:Int)=>
   bif decide (x1<(a.length:Int)) then(
    Option.bind (ix a x1) fun x3=>
    Option.bind (ix a x1) fun x4=>
    Option.bind (g x3 x4) fun x5=>
    bif !x5 then(
     some false
    ) else(
     again2 (wr (x1+1))
    )
   ) else(
    some true
   )
  ) n 0
 ))=some true:=by rw [decide_eq_true rfl];refine Ev.eq (bF (Ev.loop (fun x:Int=> ∃j:Nat,x=j∧j≤a.length) (fun x=>a.length-x.toNat) ?_ n _ ⟨0,rfl,by omega⟩ (by omega)));rintro again i ⟨j,rfl,hj⟩ hr;refine aL (fun hlt=>?_) fun _=>Ev.some rfl;have hx:=dC (show j<a.length by omega);refine aB (aT hx) (aB (aT hx) (aB (hg _ (dB hx)) ?_));rw [aN (by omega)];exact bF (hr _ ⟨j+1,by omega,by omega⟩ (by omega))
theorem aBc{n:Nat}(hn:2000000≤n){a:List Int}(h:a.length≤1048576):nS n a a=some true:=by unfold nS;rw [decide_eq_true rfl];refine Ev.eq (bF (Ev.loop (fun x:Int=> ∃j:Nat,x=j∧j≤a.length) (fun x=>a.length-x.toNat) ?_ n _ ⟨0,rfl,by omega⟩ (by omega)));rintro again i ⟨j,rfl,hj⟩ hr;refine aL (fun hlt=>?_) fun _=>Ev.some rfl;have hx:=dC (show j<a.length by omega);refine aB (aT hx) (aB (aT hx) (b6 (fun h=>absurd rfl h) fun _=>?_));rw [aN (by omega)];exact hr _ ⟨j+1,by omega,by omega⟩ (by omega)
theorem aDX{n:Nat}(hn:2000000≤n){a:Affine}(h:QA 1048576 a):jS n a a=some true:=by unfold jS;rw [aBc hn h];exact Ev.eq (aB rfl (bF (b6 (fun h=>absurd rfl h) fun _=>Ev.some rfl)))
theorem K3{n:Nat}(hn:2000000≤n){a:List Affine}(h:QAs 1048576 a):iI n a a=some true:=qJ h.1 hn fun x hx=>aDX hn (h.2 x hx)
theorem aDY{n:Nat}(hn:2000000≤n){a:Access}(h:QC 1048576 a):jT n a a=some true:=by unfold jT;exact Ev.eq (b6 (fun h=>absurd rfl h) fun _=>aB (K3 hn h.2) (Ev.some rfl))
theorem aGP{n:Nat}(hn:2000000≤n){a:Arr}(h:QR 1048576 a):o0 n a a=some true:=by unfold o0;exact Ev.eq (b6 (fun h=>absurd rfl h) fun _=>aB (aBc hn h.2) (Ev.some rfl))
theorem aBd: ∀(m n:Nat) {e:Expr},2000000+m≤n→QE 1048576 m e→w_eqExpr n e e=some true
 |0,n,e,_,h=>h.elim
 |m+1,n,e,hn,h=>by
  obtain⟨n,rfl⟩: ∃j,n=j+1:=⟨n-1,by omega⟩
  obtain⟨h1,h2,h3,h4⟩:=h;have hk:tF n (w_eqExpr n) e.kids e.kids=some true:=qJ h3 (by omega) fun k hk=>aBd m n (by omega) (h4 k hk);unfold w_eqExpr;exact Ev.eq (b6 (fun h=>absurd rfl h) fun _=>b6 (fun h=>absurd rfl h) fun _=>aB (aDX (by omega) h1) (bF (aB (aDY (by omega) h2) (bF (aB hk (bF (Ev.some rfl)))))))
theorem aFy{m n:Nat}(hn:2000000+m≤n){s:Stmt}(h:QS 1048576 m s):qX n s s=some true:=by unfold qX;exact Ev.eq (aB (aDY (by omega) h.1) (bF (aB (aBd m n hn h.2) (bF (Ev.some rfl)))))
theorem aHM{n:Nat}(hn:2000000≤n){l:Loop}(h:QL 1048576 l):qZ n l l=some true:=by unfold qZ;exact Ev.eq (aB (K3 hn h.1) (bF (aB (K3 hn h.2) (bF (Ev.some rfl)))))
theorem aFA{m n:Nat}(hn:2000000+m≤n){x:Part}(h:QPt 1048576 m x):qY n x x=some true:=by unfold qY;exact Ev.eq (aB (show tE n x.nest x.nest=some true from qJ h.1.1 (by omega) fun l hl=>aHM (by omega) (h.1.2 l hl)) (bF (aB (show tC n x.body x.body=some true from qJ h.2.1 (by omega) fun s hs=>aFy hn (h.2.2 s hs)) (bF (Ev.some rfl)))))
theorem aFz{m n:Nat}(hn:2000000+m≤n){p:Prog}(h:QP 1048576 m p):kW n p p=some true:=by unfold kW;exact Ev.eq (aB (show pW n p.arrays p.arrays=some true from qJ h.1.1 (by omega) fun x hx=>aGP (by omega) (h.1.2 x hx)) (bF (aB (show tD n p.parts p.parts=some true from qJ h.2.1 (by omega) fun x hx=>aFA hn (h.2.2 x hx)) (bF (Ev.some rfl)))))
end Go.Lift
