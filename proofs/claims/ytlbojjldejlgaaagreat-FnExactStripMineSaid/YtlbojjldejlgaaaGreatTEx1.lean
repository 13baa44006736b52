/- Programs of any size: what is counted, copied and compared. (Its numbers are those of putx.py.) -/
import Derived.Test.YtlbojjldejlgaaaGreatTRun1
import Derived.Test.YtlbojjldejlgaaaGreatTTran1
import Derived.Test.YtlbojjldejlgaaaGreatTModels
set_option maxRecDepth 100000
set_option linter.unusedVariables false
namespace Go.Lift
open Go
def QA(B:Nat)(a:Affine):Prop:=a.coefs.length≤B
def QAs(B:Nat)(l:List Affine):Prop:=l.length≤B∧ ∀a∈l,QA B a
def QC(B:Nat)(a:Access):Prop:=a.array.length≤B∧QAs B a.subs
def QE(B:Nat):Nat→Expr→Prop
 |0,_=>False
 |m+1,e=>QA B e.index∧QC B e.read∧e.kids.length≤B∧ ∀k∈e.kids,QE B m k
def QS(B m:Nat)(s:Stmt):Prop:=QC B s.write∧QE B m s.value
def QL(B:Nat)(l:Loop):Prop:=QAs B l.lo∧QAs B l.hi
def QPt(B m:Nat)(x:Part):Prop:=(x.nest.length≤B∧ ∀l∈x.nest,QL B l)∧x.body.length≤B∧ ∀s∈x.body,QS B m s
def QR(B:Nat)(x:Arr):Prop:=x.name.length≤B∧x.dims.length≤B
def QP(B m:Nat)(p:Prog):Prop:=(p.arrays.length≤B∧ ∀x∈p.arrays,QR B x)∧p.parts.length≤B∧ ∀x∈p.parts,QPt B m x
theorem aKV: ∀{m:Nat} {e:Expr},QE 1048576 m e→ ∀j,SmE j e
 |0,e,h,_=>h.elim
 |m+1,e,h,0=>trivial
 |m+1,e,h,j+1=>by
  obtain⟨h1,h2,h3,h4⟩:=h;unfold QA at h1;refine⟨by omega,?_,⟨?_,fun a ha=>?_⟩,fun k hk=>aKV (h4 k hk) j⟩
  ·unfold SmA;omega
  ·have:=h2.2.1;omega
  have:=h2.2.2 a ha;unfold QA at this;unfold SmA;omega
theorem aEY{l:List Affine}(h:QAs 1048576 l):B3 l:=⟨by have:=h.1;omega,fun a ha=>by have:=h.2 a ha;unfold QA at this;unfold SmA;omega⟩
theorem aKU{m:Nat}{p:Prog}(h:QP 1048576 m p):SmP p:=by obtain⟨⟨h1,h2⟩,h3,h4⟩:=h;refine⟨⟨by omega,fun x hx=>by have:=(h2 x hx).2;omega⟩,by omega,fun x hx=>?_⟩;obtain⟨⟨g1,g2⟩,g3,g4⟩:=h4 x hx;exact⟨⟨by omega,fun l hl=>⟨aEY (g2 l hl).1,aEY (g2 l hl).2⟩⟩,by omega,fun s hs=>⟨aEY (g4 s hs).1.2,aKV (g4 s hs).2 _⟩⟩
def kS{α:Type}(c:α→Nat)(l:List α):Nat:=l.length+(l.map c).sum
def kAX(a:Affine):Nat:=a.coefs.length
def kC(a:Access):Nat:=kS kAX a.subs
def kE:Nat→Expr→Nat
 |0,_=>0
 |m+1,e=>kAX e.index+(kC e.read+kS (kE m) e.kids)
def kSt(m:Nat)(s:Stmt):Nat:=kC s.write+kE m s.value
def kL(l:Loop):Nat:=kS kAX l.lo+kS kAX l.hi
def kPt(m:Nat)(x:Part):Nat:=kS kL x.nest+kS (kSt m) x.body
def kR(x:Arr):Nat:=x.dims.length
def kP(m:Nat)(p:Prog):Nat:=kS kR p.arrays+kS (kPt m) p.parts
def SZ(w:Int→Option Int)(C:Nat)(P:Prop):Prop:= ∀left:Int,0≤left→left≤1048576→ ∃r,w left=some r∧(r= -1∨(0≤r∧r+C≤left∧P))
theorem SZ.mono{w:Int→Option Int}{C D:Nat}{P Q:Prop}(h:SZ w C P)(hD:D≤C)(k:P→Q):SZ w D Q:=fun left h0 h1=>by obtain⟨r,e,hr⟩:=h left h0 h1;exact⟨r,e,hr.imp id fun h=>⟨h.1,by omega,k h.2.2⟩⟩
theorem SZ.two{w v:Int→Option Int}{C D:Nat}{P Q:Prop}(h:SZ w C P)(k:SZ v D Q):SZ (fun left=>Option.bind (w left) fun x1=>bif decide (x1<0) then some (-1) else v x1) (C+D) (P∧Q):=fun left h0 h1=>by
 obtain⟨r,e,hr⟩:=h left h0 h1;dsimp only;rw [e];rcases hr with rfl|⟨h2,h3,hP⟩
 ·exact⟨-1,rfl,.inl rfl⟩
 obtain⟨s,e2,hs⟩:=k r h2 (by omega);refine⟨s,?_,?_⟩
 ·show(bif decide (r<0) then some (-1) else v r)=some s;rw [decide_eq_false (by omega)];exact e2
 rcases hs with rfl|⟨h4,h5,hQ⟩
 ·exact .inl rfl
 exact .inr ⟨h4,by omega,hP,hQ⟩
theorem SZ.end{w:Int→Option Int}{C:Nat}{P:Prop}(h:SZ w C P):SZ (fun left=>Option.bind (w left) fun x1=>bif decide (x1<0) then some (-1) else some x1) C P:=
 (h.two (v:=fun x=>some x) (D:=0) (Q:=True) fun left h0 _=>⟨left,rfl,.inr ⟨h0,by omega,trivial⟩⟩).mono (kF _) And.left
theorem SZ.len{k:Nat}(hk:k≤9223372036854775807){v:Int→Option Int}{D:Nat}{Q:Prop}(h:SZ v D Q):SZ (fun left=>bif decide (wr (left-(k:Int))<0) then some (-1) else v (wr (left-(k:Int)))) (k+D) (k≤1048576∧Q):=fun left h0 h1=>by
 dsimp only;rw [aM (by omega)];by_cases hlt:left-(k:Int)<0
 ·rw [decide_eq_true hlt];exact⟨-1,rfl,.inl rfl⟩
 rw [decide_eq_false hlt];obtain⟨s,e,hs⟩:=h (left-(k:Int)) (by omega) (by omega);refine⟨s,e,?_⟩;rcases hs with rfl|⟨h4,h5,hQ⟩
 ·exact .inl rfl
 exact .inr ⟨h4,by omega,by omega,hQ⟩
theorem Z8{α:Type}{l:List α}{i:Nat}{x:α}(c:α→Nat)(h:l[i]? =some x):((l.take (i+1)).map c).sum=((l.take i).map c).sum+c x:=by rw [tX h];simp
theorem aLx{α:Type}{a:List α}{g:α→Int→Option Int}{c:α→Nat}{P:α→Prop}{n:Nat}(ha:a.length≤1048576)(hn:2000000≤n)(hg: ∀x∈a,SZ (g x) (c x) (P x)):
  SZ (fun left=>aL (fun again3 ((x1,x2):Int×Int)=>
   bif decide (x2<(a.length:Int)) then(
    Option.bind (ix a x2) fun x4=>
    Option.bind (g x4 x1) fun x5=>
    bif decide (x5<0) then(
     some (-1)
    ) else(
     again3 (x5,wr (x2+1))
    )
   ) else(
    some x1
   )
  ) n (left,0)) (a.map c).sum (∀x∈a,P x):=fun left h0 h1=>by
 refine Ev.loop (Q:=fun r=>r= -1∨(0≤r∧r+((a.map c).sum:Nat)≤left∧ ∀x∈a,P x)) (fun z:Int×Int=> ∃j:Nat,z.2=j∧j≤a.length∧0≤z.1∧z.1+(((a.take j).map c).sum:Nat)≤left∧ ∀x∈a.take j,P x) (fun z=>a.length-z.2.toNat) ?_ n _ ⟨0,rfl,by omega,h0,by simp,fun x hx=>by simp at hx⟩ (by dsimp only;omega);rintro again ⟨z1,z2⟩ ⟨j,rfl,hj,g0,g1,hs⟩ hr;dsimp only at g0 g1⊢;refine aK (fun hlt=>?_) fun hge=>Ev.some (.inr ⟨g0,by rw [vAQ (by omega)] at g1;exact g1,by rw [vAQ (by omega)] at hs;exact hs⟩);have hx:=dH (show j<a.length by omega);generalize a[j]=x at hx;obtain⟨s,e,h2⟩:=hg x (dD hx) z1 g0 (by omega);refine aB (aS hx) (aB e ?_);rcases h2 with rfl|⟨h4,h5,hP⟩
 ·exact aK (fun _=>Ev.some (.inl rfl)) fun h=>absurd h (by decide)
 refine aK (fun h=>absurd h (by omega)) fun _=>?_;rw [aM (by omega)];refine hr _ ⟨j+1,by dsimp only;omega,by omega,h4,by dsimp only;rw [Z8 c hx];omega,fun y hy=>?_⟩ (by dsimp only;omega);rw [tX hx] at hy;rcases B6.1 hy with hy|hy
 ·exact hs y hy
 rw [List.mem_singleton.1 hy];exact hP
theorem zI{α:Type}{a:List α}{g:α→Int→Option Int}{c:α→Nat}{P:α→Prop}{n:Nat}(ha:a.length≤9223372036854775807)(hn:2000000≤n)(hg: ∀x∈a,SZ (g x) (c x) (P x)):
  SZ (fun left=>bif decide (wr (left-(a.length:Int))<0) then some (-1) else aL (fun again3 ((x1,x2):Int×Int)=>
   bif decide (x2<(a.length:Int)) then(
    Option.bind (ix a x2) fun x4=>
    Option.bind (g x4 x1) fun x5=>
    bif decide (x5<0) then(
     some (-1)
    ) else(
     again3 (x5,wr (x2+1))
    )
   ) else(
    some x1
   )
  ) n (wr (left-(a.length:Int)),0)) (kS c a) (a.length≤1048576∧ ∀x∈a,P x):=fun left h0 h1=>by
 by_cases hb:a.length≤1048576
 ·exact(SZ.len ha (aLx hb hn hg)) left h0 h1
 dsimp only;rw [aM (by omega),decide_eq_true (by omega)];exact⟨-1,rfl,.inl rfl⟩
theorem aE9{n:Nat}{a:List Int}(h:a.length≤9223372036854775807):SZ (wV n a) a.length (a.length≤1048576):=by have:=(SZ.len h (v:=fun x=>some x) (D:=0) (Q:=True) fun left h0 _=>⟨left,rfl,.inr ⟨h0,by omega,trivial⟩⟩).mono (kF _) And.left;exact this
theorem aLw{n:Nat}{a:Arr}(h:QR 9223372036854775807 a):SZ (zB n a) (kR a) (QR 1048576 a):=(SZ.len h.1 ((aE9 h.2).end)).mono (Nat.le_add_left _ _) id
theorem aJN{n:Nat}(hn:2000000≤n){a:List Arr}(h:a.length≤9223372036854775807)(h2: ∀x∈a,QR 9223372036854775807 x):SZ (vP n a) (kS kR a) (a.length≤1048576∧ ∀x∈a,QR 1048576 x):=zI h hn fun x hx=>aLw (h2 x hx)
theorem aHj{n:Nat}{a:Affine}(h:QA 9223372036854775807 a):SZ (qG n a) (kAX a) (QA 1048576 a):=(aE9 h).end
theorem aAN{n:Nat}(hn:2000000≤n){a:List Affine}(h:QAs 9223372036854775807 a):SZ (lQ n a) (kS kAX a) (QAs 1048576 a):=zI h.1 hn fun x hx=>aHj (h.2 x hx)
theorem aHk{n:Nat}(hn:2000000≤n){a:Access}(h:QC 9223372036854775807 a):SZ (qH n a) (kC a) (QC 1048576 a):=(SZ.len h.1 ((aAN hn h.2).end)).mono (Nat.le_add_left _ _) id
theorem aFa: ∀(m n:Nat) {e:Expr},2000000+m≤n→QE 9223372036854775807 m e→SZ (w_szExpr n e) (kE m e) (QE 1048576 m e)
 |0,n,e,_,h=>h.elim
 |m+1,n,e,hn,h=>by
  obtain⟨n,rfl⟩: ∃j,n=j+1:=⟨n-1,by omega⟩
  obtain⟨h1,h2,h3,h4⟩:=h;have hk:SZ (yZ n (w_szExpr n) e.kids) (kS (kE m) e.kids) (e.kids.length≤1048576∧ ∀k∈e.kids,QE 1048576 m k):=zI h3 (by omega) fun k hk=>aFa m n (by omega) (h4 k hk);exact SZ.mono ((aHj (n:=n) h1).two ((aHk (n:=n) (by omega) h2).two hk.end)) (kF _) (fun⟨a,b,c,d⟩=>⟨a,b,c,d⟩)
theorem aJK{m n:Nat}(hn:2000000+m≤n){s:Stmt}(h:QS 9223372036854775807 m s):SZ (H6 n s) (kSt m s) (QS 1048576 m s):=(aHk (by omega) h.1).two ((aFa m n hn h.2).end)
theorem aHi{m n:Nat}(hn:2000000+m≤n){a:List Stmt}(h:a.length≤9223372036854775807)(h2: ∀x∈a,QS 9223372036854775807 m x):SZ (yX n a) (kS (kSt m) a) (a.length≤1048576∧ ∀x∈a,QS 1048576 m x):=zI h (by omega) fun x hx=>aJK hn (h2 x hx)
theorem aMN{n:Nat}(hn:2000000≤n){l:Loop}(h:QL 9223372036854775807 l):SZ (H8 n l) (kL l) (QL 1048576 l):=(aAN hn h.1).two ((aAN hn h.2).end)
theorem aLv{n:Nat}(hn:2000000≤n){a:List Loop}(h:a.length≤9223372036854775807)(h2: ∀x∈a,QL 9223372036854775807 x):SZ (yY n a) (kS kL a) (a.length≤1048576∧ ∀x∈a,QL 1048576 x):=zI h hn fun x hx=>aMN hn (h2 x hx)
theorem aJM{m n:Nat}(hn:2000000+m≤n){x:Part}(h:QPt 9223372036854775807 m x):SZ (H7 n x) (kPt m x) (QPt 1048576 m x):=(aLv (by omega) h.1.1 h.1.2).two ((aHi hn h.2.1 h.2.2).end)
theorem aJL{m n:Nat}(hn:2000000+m≤n){p:Prog}(h:QP 9223372036854775807 m p):SZ (nX n p) (kP m p) (QP 1048576 m p):=
 (aJN (by omega) h.1.1 h.1.2).two (SZ.end (zI h.2.1 (by omega) fun x hx=>aJM hn (h.2.2 x hx)))
theorem kM{α:Type}{a:List α}{g:α→Option α}{z:α}{n:Nat}(ha:a.length≤1048576)(hn:2000000≤n)(hg: ∀x∈a,g x=some x):
  (Option.bind (mk (a.length:Int) z) fun x1=>
 aL (fun again5 ((x2,x3):(List α)×Int)=>
  bif decide (x3<(a.length:Int)) then(
   Option.bind (ix a x3) fun x6=>
   Option.bind (g x6) fun x7=>
   Option.bind (ix x2 x3) fun x8=>
   Option.bind (dM x2 x3 x7) fun x9=>
   again5 (x9,wr (x3+1))
  ) else(
   some x2
  )
 ) n (x1,0))=some a:=by
 refine Ev.eq (aB (aMX ⟨by omega,by omega⟩ z) (Ev.loop (fun x:List α×Int=> ∃j:Nat,x.2=j∧j≤a.length∧x.1=a.take j++List.replicate (a.length-j) z) (fun x=>a.length-x.2.toNat) ?_ n _ ⟨0,rfl,by omega,by simp⟩ (by dsimp only;omega)));rintro again ⟨b,i⟩ ⟨j,rfl,hj,rfl⟩ hr;dsimp only;have hlen:(a.take j++List.replicate (a.length-j) z).length=a.length:=by simp;omega
 refine aK (fun hlt=>?_) fun hge=>Ev.some (by rw [show a.length-j=0 by omega,vAQ (by omega)];simp);have hlt:j<a.length:=by omega
 have hx:=dH hlt;generalize a[j]=x at hx;refine aB (aS hx) (aB (hg x (dD hx)) (aB (aS (dH (show j<_ by rw [hlen];exact hlt))) (aB (iC (by rw [hlen];omega) _) ?_)));rw [aM (by omega),vAD];refine hr _ ⟨j+1,by dsimp only;omega,by omega,?_⟩ (by dsimp only;omega);dsimp only;rw [tX hx,vBm _ _ (by rw [mH];omega),mH,vBI (by omega),vBk,show a.length-j=(a.length-(j+1))+1 by omega,List.replicate_succ,vBB];simp
theorem aE6{n:Nat}(hn:2000000≤n){a:List Int}(h:a.length≤1048576):r5 n a=some a:=by
 unfold r5
 have:=kM (z:=(0:Int)) (g:=fun x=>some x) h hn fun x _=>rfl;exact this
theorem aHg{n:Nat}(hn:2000000≤n){a:Affine}(h:QA 1048576 a):nA n a=some a:=by unfold nA;rw [aE6 hn h];rfl
theorem aAM{n:Nat}(hn:2000000≤n){a:List Affine}(h:QAs 1048576 a):lP n a=some a:=kM h.1 hn fun x hx=>aHg hn (h.2 x hx)
theorem aHh{n:Nat}(hn:2000000≤n){a:Access}(h:QC 1048576 a):nB n a=some a:=by unfold nB;rw [aAM hn h.2];rfl
theorem aLt{n:Nat}(hn:2000000≤n){a:Arr}(h:QR 1048576 a):tV n a=some a:=by unfold tV;rw [aE6 hn h.2];rfl
theorem aE7: ∀(m n:Nat) {e:Expr},2000000+m≤n→QE 1048576 m e→w_toExpr n e=some e
 |0,n,e,_,h=>h.elim
 |m+1,n,e,hn,h=>by
  obtain⟨n,rfl⟩: ∃j,n=j+1:=⟨n-1,by omega⟩
  obtain⟨h1,h2,h3,h4⟩:=h;have hk:yW n (w_toExpr n) e.kids=some e.kids:=kM h3 (by omega) fun k hk=>aE7 m n (by omega) (h4 k hk);unfold w_toExpr;rw [aHg (by omega) h1,aHh (by omega) h2,hk];cases e;rfl
theorem aJH{m n:Nat}(hn:2000000+m≤n){s:Stmt}(h:QS 1048576 m s):wS n s=some s:=by unfold wS;rw [aHh (by omega) h.1,aE7 m n hn h.2];rfl
theorem aHf{m n:Nat}(hn:2000000+m≤n){a:List Stmt}(h:a.length≤1048576)(h2: ∀x∈a,QS 1048576 m x):yT n a=some a:=kM h (by omega) fun x hx=>aJH hn (h2 x hx)
theorem aML{n:Nat}(hn:2000000≤n){l:Loop}(h:QL 1048576 l):wU n l=some l:=by unfold wU;rw [aAM hn h.1,aAM hn h.2];rfl
theorem aLs{n:Nat}(hn:2000000≤n){a:List Loop}(h:a.length≤1048576)(h2: ∀x∈a,QL 1048576 x):yV n a=some a:=kM h hn fun x hx=>aML hn (h2 x hx)
theorem aJJ{m n:Nat}(hn:2000000+m≤n){x:Part}(h:QPt 1048576 m x):wT n x=some x:=by unfold wT;rw [aLs (by omega) h.1.1 h.1.2,aHf hn h.2.1 h.2.2];rfl
theorem aJI{m n:Nat}(hn:2000000+m≤n){p:Prog}(h:QP 1048576 m p):dB n p=some p:=by unfold dB;rw [show vO n p.arrays=some p.arrays from kM h.1.1 (by omega) (fun x hx=>aLt (by omega) (h.1.2 x hx)),show yU n p.parts=some p.parts from kM h.2.1 (by omega) fun x hx=>aJJ hn (h.2.2 x hx)];rfl
theorem A6{α:Type}{a:List α}{g:α→α→Option Bool}{n:Nat}(ha:a.length≤1048576)(hn:2000000≤n)(hg: ∀x∈a,g x x=some true):
  (bif !decide ((a.length:Int)=(a.length:Int)) then(
  some false
 ) else(
  aL (fun again2 (x1:Int)=>
   bif decide (x1<(a.length:Int)) then(
    Option.bind (ix a x1) fun x3=>
    Option.bind (ix a x1) fun x4=>
    Option.bind (g x3 x4) fun x5=>
    bif !x5 then(
     some false
    ) else(
     again2 (wr (x1+1))
    )
   ) else(
    some true
   )
  ) n 0
 ))=some true:=by rw [decide_eq_true rfl];refine Ev.eq (bH (Ev.loop (fun x:Int=> ∃j:Nat,x=j∧j≤a.length) (fun x=>a.length-x.toNat) ?_ n _ ⟨0,rfl,by omega⟩ (by omega)));rintro again i ⟨j,rfl,hj⟩ hr;refine aK (fun hlt=>?_) fun _=>Ev.some rfl;have hx:=dH (show j<a.length by omega);refine aB (aS hx) (aB (aS hx) (aB (hg _ (dD hx)) ?_));rw [aM (by omega)];exact bH (hr _ ⟨j+1,by omega,by omega⟩ (by omega))
theorem aFA{n:Nat}(hn:2000000≤n){a:List Int}(h:a.length≤1048576):r6 n a a=some true:=by unfold r6;rw [decide_eq_true rfl];refine Ev.eq (bH (Ev.loop (fun x:Int=> ∃j:Nat,x=j∧j≤a.length) (fun x=>a.length-x.toNat) ?_ n _ ⟨0,rfl,by omega⟩ (by omega)));rintro again i ⟨j,rfl,hj⟩ hr;refine aK (fun hlt=>?_) fun _=>Ev.some rfl;have hx:=dH (show j<a.length by omega);refine aB (aS hx) (aB (aS hx) (bQ (fun h=>absurd rfl h) fun _=>?_));rw [aM (by omega)];exact hr _ ⟨j+1,by omega,by omega⟩ (by omega)
theorem aIC{n:Nat}(hn:2000000≤n){a:Affine}(h:QA 1048576 a):nC n a a=some true:=by unfold nC;rw [aFA hn h];exact Ev.eq (aB rfl (bH (bQ (fun h=>absurd rfl h) fun _=>Ev.some rfl)))
theorem aBg{n:Nat}(hn:2000000≤n){a:List Affine}(h:QAs 1048576 a):lR n a a=some true:=A6 h.1 hn fun x hx=>aIC hn (h.2 x hx)
theorem aID{n:Nat}(hn:2000000≤n){a:Access}(h:QC 1048576 a):nD n a a=some true:=by unfold nD;exact Ev.eq (bQ (fun h=>absurd rfl h) fun _=>aB (aBg hn h.2) (Ev.some rfl))
theorem aLZ{n:Nat}(hn:2000000≤n){a:Arr}(h:QR 1048576 a):tW n a a=some true:=by unfold tW;exact Ev.eq (bQ (fun h=>absurd rfl h) fun _=>aB (aFA hn h.2) (Ev.some rfl))
theorem aFB: ∀(m n:Nat) {e:Expr},2000000+m≤n→QE 1048576 m e→w_eqExpr n e e=some true
 |0,n,e,_,h=>h.elim
 |m+1,n,e,hn,h=>by
  obtain⟨n,rfl⟩: ∃j,n=j+1:=⟨n-1,by omega⟩
  obtain⟨h1,h2,h3,h4⟩:=h;have hk:zF n (w_eqExpr n) e.kids e.kids=some true:=A6 h3 (by omega) fun k hk=>aFB m n (by omega) (h4 k hk);unfold w_eqExpr;exact Ev.eq (bQ (fun h=>absurd rfl h) fun _=>bQ (fun h=>absurd rfl h) fun _=>aB (aIC (by omega) h1) (bH (aB (aID (by omega) h2) (bH (aB hk (bH (Ev.some rfl)))))))
theorem aKk{m n:Nat}(hn:2000000+m≤n){s:Stmt}(h:QS 1048576 m s):wW n s s=some true:=by unfold wW;exact Ev.eq (aB (aID (by omega) h.1) (bH (aB (aFB m n hn h.2) (bH (Ev.some rfl)))))
theorem aNf{n:Nat}(hn:2000000≤n){l:Loop}(h:QL 1048576 l):wY n l l=some true:=by unfold wY;exact Ev.eq (aB (aBg hn h.1) (bH (aB (aBg hn h.2) (bH (Ev.some rfl)))))
theorem aKl{m n:Nat}(hn:2000000+m≤n){x:Part}(h:QPt 1048576 m x):wX n x x=some true:=by unfold wX;exact Ev.eq (aB (show zE n x.nest x.nest=some true from A6 h.1.1 (by omega) fun l hl=>aNf (by omega) (h.1.2 l hl)) (bH (aB (show zC n x.body x.body=some true from A6 h.2.1 (by omega) fun s hs=>aKk hn (h.2.2 s hs)) (bH (Ev.some rfl)))))
theorem aFz{m n:Nat}(hn:2000000+m≤n){p:Prog}(h:QP 1048576 m p):dC n p p=some true:=by unfold dC;exact Ev.eq (aB (show vQ n p.arrays p.arrays=some true from A6 h.1.1 (by omega) fun x hx=>aLZ (by omega) (h.1.2 x hx)) (bH (aB (show zD n p.parts p.parts=some true from A6 h.2.1 (by omega) fun x hx=>aKl hn (h.2.2 x hx)) (bH (Ev.some rfl)))))
theorem n8{n:Nat}(hn:2000000≤n){k:Int}(h0:0≤k)(h1:k≤1099511627776): ∃t,b9 n k=some t:=by
 have:Ev (b9 n k) (fun _=>True):=by
  unfold b9;refine aK (fun _=>Ev.some trivial) fun _=>?_;refine Ev.loop (fun z:Int×List UInt8=> ∃j:Nat,z.2.length=j∧0≤z.1∧z.1≤1099511627776∧j≤13∧z.1<10^(13-j)) (fun z=>14-z.2.length) ?_ n _ ⟨0,rfl,h0,h1,by omega,Int.lt_of_le_of_lt h1 (by decide)⟩ (by dsimp only;omega);rintro again ⟨x1,x2⟩ ⟨j,hj,g0,g3,g1,g2⟩ hr;dsimp only at hj g0 g2 g3⊢;refine aK (fun hp=>?_) fun _=>aB (aIK (by simp;omega)) (Ev.some trivial);have hj1:j<13:=by
   apply vAY;intro h;rw [show 13-j=0 by omega] at g2
   have:(10:Int)^0=1:=by decide
   omega
  refine aB (aIK (by simp;omega)) ?_;rw [Int.tdiv_eq_ediv_of_nonneg g0,aM (by omega)];refine hr _ ⟨j+1,by simp [hj],by dsimp only;omega,by dsimp only;omega,by omega,?_⟩ (by simp;omega);dsimp only;have hpow:(10:Int)^(13-j)=10^(13-(j+1))*10:=by rw [←Int.pow_succ];congr 1;omega
  rw [hpow] at g2;exact Int.ediv_lt_of_lt_mul (by decide) g2
 obtain⟨t,h,_⟩:=this;exact⟨t,h⟩
def upF(k:Int)(m:Nat):List Int:=(List.range m).map fun i:Nat=>k+i
theorem n4(k:Int)(m:Nat):(upF k m).length=m:=by simp [upF]
theorem aJl{k:Int}{m i:Nat}(h:i<m):(upF k m)[i]? =some (k+i):=by simp [upF,h]
theorem aGW(k:Int)(m:Nat):upF k (m+1)=upF k m++[k+m]:=by simp [upF,List.range_succ]
theorem n9{n:Nat}(hn:2000000≤n){a:List Int}(ha:a.length≤1048576){k:Int}(h0:0≤k)(h1:k+a.length≤1099511627776):iX n a k=some (k+a.length,upF k a.length):=by
 unfold iX;refine Ev.eq (Ev.loop (fun z:Int×List Int×Int=> ∃j:Nat,z.2.2=j∧j≤a.length∧z.1=k+j∧z.2.1=upF k j++a.drop j) (fun z=>a.length-z.2.2.toNat) ?_ n _ ⟨0,rfl,by omega,by simp,by simp [upF]⟩ (by dsimp only;omega));rintro again ⟨k1,l,i⟩ ⟨j,rfl,hj,rfl,rfl⟩ hr;dsimp only;have hl:(upF k j++a.drop j).length=a.length:=by simp [n4];omega
 refine aK (fun hlt=>?_) fun hge=>?_
 ·have hlt:j<a.length:=by rw [hl] at hlt;omega
  refine aB (aS (dH (show j<_ by rw [hl];exact hlt))) (aB (iC (by rw [hl];omega) _) ?_);rw [aM (by omega),aM (by omega),vAD];refine hr _ ⟨j+1,by dsimp only;omega,by omega,by dsimp only;omega,?_⟩ (by dsimp only;omega);dsimp only;rw [vBm _ _ (by rw [n4];omega),n4,vBk,List.drop_eq_getElem_cons hlt,vBB,aGW,vAO];rfl
 have:j=a.length:=by rw [hl] at hge;omega
 subst this;exact Ev.some (by simp)
def HB{α:Type}(B:(Int×Int→Option Int)→α→Int→Int→Option Int)(k:Int)(y:α)(k':Int):Prop:= ∀(again:Int×Int→Option Int) (Q:Int→Prop) (j:Nat),j≤1048576→Ev (again (k',(j:Int)+1)) Q→Ev (B again y k j) Q
inductive Ch {α:Type} (H:Int→α→Int→Prop):Int→List α→Int→Prop
 |nil (k:Int):Ch H k [] k
 |cons {k k' k'':Int} {x:α} {l:List α} (h:H k x k') (t:Ch H k' l k''):Ch H k (x::l) k''
theorem Ch.snoc{α:Type}{H:Int→α→Int→Prop}{k k' k'':Int}{x:α}{l:List α}(t:Ch H k l k')(h:H k' x k''):Ch H k (l++[x]) k'':=by
 induction t with
 |nil k=>exact .cons h (.nil _)
 |cons g _ ih=>exact .cons g (ih h)
theorem m7{α:Type}{B:(Int×Int→Option Int)→α→Int→Int→Option Int}{l:List α}{n:Nat}{k k'':Int}(hn:2000000≤n)(hl:l.length≤1048576)(hc:Ch (HB B) k l k''):
  aL (fun again3 ((x1,x2):Int×Int)=>bif decide (x2<(l.length:Int)) then(Option.bind (ix l x2) fun x4=>B again3 x4 x1 x2) else(some x1)) n (k,0)=some k'':=by
 refine Ev.eq (Ev.loop (fun z:Int×Int=> ∃j:Nat,z.2=j∧j≤l.length∧Ch (HB B) z.1 (l.drop j) k'') (fun z=>l.length-z.2.toNat) ?_ n _ ⟨0,rfl,by omega,hc⟩ (by dsimp only;omega));rintro again ⟨k1,i⟩ ⟨j,rfl,hj,hc⟩ hr;dsimp only at hc⊢;refine aK (fun hlt=>?_) fun hge=>?_
 ·have hlt:j<l.length:=by omega
  refine aB (aS (dH hlt)) ?_;rw [List.drop_eq_getElem_cons hlt] at hc;cases hc with
  |cons h t=>exact h again _ j (by omega) (hr _ ⟨j+1,by dsimp only;omega,by omega,t⟩ (by dsimp only;omega))
 rw [List.drop_eq_nil_of_le (by omega)] at hc;cases hc;exact Ev.some rfl
theorem xT{n m:Nat}(hn:2000000≤n)(hm:m≤1048576){k:Int}(h0:0≤k)(h1:k+m≤1099511627776):d5 n (upF k m) k=some (k+m):=by unfold d5;refine Ev.eq (Ev.loop (fun z:Int×Int=> ∃j:Nat,z.2=j∧j≤m∧z.1=k+j) (fun z=>m-z.2.toNat) ?_ n _ ⟨0,rfl,by omega,by simp⟩ (by dsimp only;omega));rintro again ⟨k1,i⟩ ⟨j,rfl,hj,rfl⟩ hr;dsimp only;rw [n4];refine aK (fun hlt=>?_) fun hge=>Ev.some (show k+(j:Int)=k+(m:Int) by omega);refine aB (aS (aJl (by omega))) (bQ (fun h=>absurd rfl h) fun _=>?_);rw [aM (by omega),aM (by omega)];exact hr _ ⟨j+1,by dsimp only;omega,by omega,by dsimp only;omega⟩ (by dsimp only;omega)
def hbR(n:Nat)(again3:Int×Int→Option Int)(x4:Arr)(x1 x2:Int):Option Int:=Option.bind (b9 n x1) fun x5=>bif !decide (x4.name=x5) then some (-1) else(Option.bind (d5 n x4.dims (wr (x1+1))) fun x6=>bif decide (x6<0) then some (-1) else(again3 (x6,wr (x2+1))))
theorem aM6{n:Nat}(hn:2000000≤n)(l:List Arr)(k k'':Int)(hl:l.length≤1048576)(hc:Ch (HB (hbR n)) k l k''):iA n l k=some k'':=by unfold iA;exact m7 hn hl hc
def hbA(n:Nat)(again3:Int×Int→Option Int)(x4:Affine)(x1 x2:Int):Option Int:=Option.bind (d5 n x4.coefs x1) fun x5=>bif decide (x5<0) then some (-1) else(bif !decide (x4.const=x5) then some (-1) else(again3 (wr (x5+1),wr (x2+1))))
theorem aM7{n:Nat}(hn:2000000≤n)(l:List Affine)(k k'':Int)(hl:l.length≤1048576)(hc:Ch (HB (hbA n)) k l k''):bN n l k=some k'':=by unfold bN;exact m7 hn hl hc
def hbL(n:Nat)(again3:Int×Int→Option Int)(x4:Loop)(x1 x2:Int):Option Int:=Option.bind (bN n x4.lo x1) fun x5=>bif decide (x5<0) then some (-1) else(Option.bind (bN n x4.hi x5) fun x6=>bif decide (x6<0) then some (-1) else(again3 (x6,wr (x2+1))))
theorem aLQ{n:Nat}(hn:2000000≤n)(l:List Loop)(k k'':Int)(hl:l.length≤1048576)(hc:Ch (HB (hbL n)) k l k''):gN n l k=some k'':=by unfold gN;exact m7 hn hl hc
def hbE(n:Nat)(again3:Int×Int→Option Int)(x4:Expr)(x1 x2:Int):Option Int:=bif !decide (x4.kind=x1) then some (-1) else(bif !decide (x4.num=wr (x1+1)) then some (-1) else(Option.bind (d5 n x4.index.coefs (wr ((wr (x1+1))+1))) fun x5=>bif decide (x5<0) then some (-1) else(bif !decide (x4.index.const=x5) then some (-1) else(Option.bind (b9 n (wr (x5+1))) fun x6=>bif !decide (x4.read.array=x6) then some (-1) else(Option.bind (bN n x4.read.subs (wr ((wr (x5+1))+1))) fun x7=>bif decide (x7<0) then some (-1) else(Option.bind (w_heldExprS n x4.kids x7) fun x8=>bif decide (x8<0) then some (-1) else(again3 (x8,wr (x2+1)))))))))
theorem aHY{n:Nat}(hn:2000000≤n)(l:List Expr)(k k'':Int)(hl:l.length≤1048576)(hc:Ch (HB (hbE n)) k l k''):w_heldExprS (n+1) l k=some k'':=by rw [w_heldExprS.eq_def];exact m7 hn hl hc
def hbS(n:Nat)(again3:Int×Int→Option Int)(x4:Stmt)(x1 x2:Int):Option Int:=Option.bind (b9 n x1) fun x5=>bif !decide (x4.write.array=x5) then some (-1) else(Option.bind (bN n x4.write.subs (wr (x1+1))) fun x6=>bif decide (x6<0) then some (-1) else(bif !decide (x4.value.kind=x6) then some (-1) else(bif !decide (x4.value.num=wr (x6+1)) then some (-1) else(Option.bind (d5 n x4.value.index.coefs (wr ((wr (x6+1))+1))) fun x7=>bif decide (x7<0) then some (-1) else(bif !decide (x4.value.index.const=x7) then some (-1) else(Option.bind (b9 n (wr (x7+1))) fun x8=>bif !decide (x4.value.read.array=x8) then some (-1) else(Option.bind (bN n x4.value.read.subs (wr ((wr (x7+1))+1))) fun x9=>bif decide (x9<0) then some (-1) else(Option.bind (w_heldExprS n x4.value.kids x9) fun x10=>bif decide (x10<0) then some (-1) else(again3 (x10,wr (x2+1)))))))))))
theorem aLO{n:Nat}(hn:2000000≤n)(l:List Stmt)(k k'':Int)(hl:l.length≤1048576)(hc:Ch (HB (hbS n)) k l k''):gM n l k=some k'':=by unfold gM;exact m7 hn hl hc
def hbP(n:Nat)(again3:Int×Int→Option Int)(x4:Part)(x1 x2:Int):Option Int:=Option.bind (gN n x4.nest x1) fun x5=>bif decide (x5<0) then some (-1) else(Option.bind (gM n x4.body x5) fun x6=>bif decide (x6<0) then some (-1) else(again3 (x6,wr (x2+1))))
theorem aLP{n:Nat}(hn:2000000≤n)(l:List Part)(k k'':Int)(hl:l.length≤1048576)(hc:Ch (HB (hbP n)) k l k''):jC n l k=some k'':=by unfold jC;exact m7 hn hl hc
theorem qU{α:Type}{B:(Int×Int→Option Int)→α→Int→Int→Option Int}{Hh:List α→Int→Option Int}{a:List α}{n:Nat}{c:α→Nat}{k:Int}{F:(Int×List α×Int→Option (Int×List α))→Int×List α×Int→Option (Int×List α)}(hH: ∀(l:List α) (k k'':Int),l.length≤1048576→Ch (HB B) k l k''→Hh l k=some k'')(hn:2000000≤n)(ha:a.length≤1048576)(h0:0≤k)(h1:k+5*(kS c a:Nat)≤1099511627776)
  (hF: ∀(Q:Int×List α→Prop) (again:Int×List α×Int→Option (Int×List α)) (k':Int) (l:List α) (j:Nat) (x:α),l[j]? =some x→x∈a→j<l.length→j≤1048576→0≤k'→k'+5*(1+c x:Nat)≤1099511627776→
   (∀(k'':Int) (y:α),k'≤k''→k''≤k'+5*(1+c x:Nat)→HB B k' y k''→Ev (again (k'',l.set j y,(j:Int)+1)) Q)→Ev (F again (k',l,j)) Q)
  (hE: ∀(again:Int×List α×Int→Option (Int×List α)) (k':Int) (l:List α),F again (k',l,l.length)=some (k',l)):
  ∃r,aL F n (k,a,0)=some r∧k≤r.1∧r.1≤k+5*(kS c a:Nat)∧r.2.length=a.length∧
   Hh r.2 k=some r.1:=by
 suffices H:Ev (aL F n (k,a,0)) (fun r=>k≤r.1∧r.1≤k+5*(kS c a:Nat)∧r.2.length=a.length∧Ch (HB B) k r.2 r.1) by
  obtain⟨r,e1,e2,e3,e4,e5⟩:=H;exact⟨r,e1,e2,e3,e4,hH _ _ _ (by rw [e4];exact ha) e5⟩
 refine Ev.loop (fun z:Int×List α×Int=> ∃j:Nat,z.2.2=j∧j≤a.length∧z.2.1.length=a.length∧z.2.1.drop j=a.drop j∧k≤z.1∧z.1≤k+5*(j+((a.take j).map c).sum:Nat)∧Ch (HB B) k (z.2.1.take j) z.1) (fun z=>a.length-z.2.2.toNat) ?_ n _ ⟨0,rfl,by omega,rfl,rfl,X3 _,by simp,.nil _⟩ (by dsimp only;omega);rintro again ⟨k1,l,i⟩ ⟨j,rfl,hj,hl,hd,g0,g1,g2⟩ hr;dsimp only at hl hd g0 g1 g2;have htot: ∀i,((a.take i).map c).sum≤(a.map c).sum:=fun i=>by
  have:=congrArg (fun l=>(l.map c).sum) (vBF i a);simp only [List.map_append,List.sum_append] at this;omega
 by_cases hlt:j<a.length
 ·have hx:=dH hlt;generalize a[j]=x at hx;have hlx:l[j]? =some x:=by
   have e1:(l.drop j)[0]? =(a.drop j)[0]? :=by rw [hd]
   rw [D9,D9] at e1;simp only [Nat.add_zero] at e1;rw [e1];exact hx
  have hs:=Z8 c hx;have ht:=htot (j+1);unfold kS at h1;refine hF _ again k1 l j x hlx (dD hx) (by omega) (by omega) (by omega) (by omega) fun k'' y b1 b2 b3=>?_;refine hr _ ⟨j+1,by dsimp only;omega,by omega,by simpa using hl,?_,by dsimp only;omega,by dsimp only;rw [hs];omega,?_⟩ (by dsimp only;omega);rotate_left
  ·dsimp only;rw [tX (vAu (by omega)),List.take_set_of_le (kF _)];exact g2.snoc b3
  dsimp only;rw [List.drop_set_of_lt (by omega)]
  have:=congrArg (List.drop 1) hd;simpa [List.drop_drop,Nat.add_comm] using this
 have:j=l.length:=by omega
 subst this;rw [hE];rw [wQ] at g2;refine Ev.some ⟨g0,?_,hl,g2⟩
 have:=htot l.length;dsimp only;unfold kS;omega
theorem aLB{n:Nat}(hn:2000000≤n){a:List Arr}(ha:a.length≤1048576)(h2: ∀x∈a,QR 1048576 x){k:Int}(h0:0≤k)(h1:k+5*(kS kR a:Nat)≤1099511627776):
  ∃r,mG n a k=some r∧k≤r.1∧r.1≤k+5*(kS kR a:Nat)∧r.2.length=a.length∧iA n r.2 k=some r.1:=by
 unfold mG;refine qU (Hh:=iA n) (aM6 (by omega)) hn ha h0 h1 (fun Q again k' l j x hx hm hl hj g0 g1 hr=>?_) fun again k' l=>by dsimp only;rw [decide_eq_false (by omega)];rfl
 dsimp only;refine aK (fun _=>?_) fun h=>absurd hl (by omega);unfold kR at g1 hr;obtain⟨t,ht⟩:=n8 hn g0 (by omega);refine aB (aS hx) (aB ht ?_);rw [aM (by omega),aM (by omega)];refine aB (n9 hn (h2 x hm).2 (by omega) (by omega)) (aB (bK (n4 _ _)) (aB (iC (by omega) _) ?_));rw [vAD];refine hr _ _ (by omega) (by omega) fun ag Q j hj hq=>?_;unfold hbR;refine aB ht (bQ (fun h=>absurd rfl h) fun _=>?_);rw [aM (n:=k'+1) (by omega)];refine aB (xT hn (h2 x hm).2 (by omega) (by omega)) (aK (fun h=>absurd h (by omega)) fun _=>?_);rw [aM (by omega)];exact hq
theorem L2{n:Nat}(hn:2000000≤n){a:List Affine}(ha:QAs 1048576 a){k:Int}(h0:0≤k)(h1:k+5*(kS kAX a:Nat)≤1099511627776):
  ∃r,dP n a k=some r∧k≤r.1∧r.1≤k+5*(kS kAX a:Nat)∧r.2.length=a.length∧bN n r.2 k=some r.1:=by
 unfold dP;refine qU (Hh:=bN n) (aM7 (by omega)) hn ha.1 h0 h1 (fun Q again k' l j x hx hm hl hj g0 g1 hr=>?_) fun again k' l=>by dsimp only;rw [decide_eq_false (by omega)];rfl
 dsimp only;refine aK (fun _=>?_) fun h=>absurd hl (by omega);unfold kAX at g1 hr;refine aB (aS hx) (aB (n9 hn (ha.2 x hm) g0 (by omega)) (aB (bK (n4 _ _)) (aB (iC (by omega) _) ?_)));rw [aM (by dsimp only;omega),aM (by omega),vAD];refine hr _ _ (by dsimp only;omega) (by dsimp only;omega) fun ag Q j hj hq=>?_;unfold hbA;refine aB (xT hn (ha.2 x hm) g0 (by omega)) (aK (fun h=>absurd h (by omega)) fun _=>bQ (fun h=>absurd rfl h) fun _=>?_);rw [aM (by omega),aM (by omega)];exact hq
theorem aJ4{n:Nat}(hn:2000000≤n){a:List Loop}(ha:a.length≤1048576)(h2: ∀x∈a,QL 1048576 x){k:Int}(h0:0≤k)(h1:k+5*(kS kL a:Nat)≤1099511627776):
  ∃r,nZ n a k=some r∧k≤r.1∧r.1≤k+5*(kS kL a:Nat)∧r.2.length=a.length∧gN n r.2 k=some r.1:=by
 unfold nZ;refine qU (Hh:=gN n) (aLQ (by omega)) hn ha h0 h1 (fun Q again k' l j x hx hm hl hj g0 g1 hr=>?_) fun again k' l=>by dsimp only;rw [decide_eq_false (by omega)];rfl
 dsimp only;refine aK (fun _=>?_) fun h=>absurd hl (by omega);unfold kL at g1 hr;obtain⟨p1,e1,b1,b2,b3,b4⟩:=L2 hn (h2 x hm).1 g0 (by omega);obtain⟨p2,e2,d1,d2,d3,d4⟩:=L2 hn (h2 x hm).2 (k:=p1.1) (by omega) (by omega);refine aB (aS hx) (aB e1 (aB (bK b3) (aB e2 (aB (bK d3) (aB (iC (by omega) _) ?_)))));rw [aM (by omega),vAD];refine hr _ _ (by omega) (by omega) fun ag Q j hj hq=>?_;unfold hbL;refine aB b4 (aK (fun h=>absurd h (by omega)) fun _=>aB d4 (aK (fun h=>absurd h (by omega)) fun _=>?_));rw [aM (by omega)];exact hq
theorem aFm: ∀(m n:Nat) {a:List Expr},2000001+m≤n→a.length≤1048576→(∀x∈a,QE 1048576 m x)→ ∀{k:Int},0≤k→k+5*(kS (kE m) a:Nat)≤1099511627776→
  ∃r,v_markExprS n a k=some r∧k≤r.1∧r.1≤k+5*(kS (kE m) a:Nat)∧r.2.length=a.length∧w_heldExprS n r.2 k=some r.1
 |0,n,a,hn,ha,h2,k,h0,h1=>by
  obtain⟨n,rfl⟩: ∃j,n=j+1:=⟨n-1,by omega⟩
  rw [v_markExprS.eq_def];dsimp only;exact qU (Hh:=w_heldExprS (n+1)) (aHY (by omega)) (by omega) ha h0 h1 (fun Q again k' l j x hx hm hl hj g0 g1 hr=>(h2 x hm).elim) (fun again k' l=>by dsimp only;rw [decide_eq_false (by omega)];rfl)
 |m+1,n,a,hn,ha,h2,k,h0,h1=>by
  obtain⟨n,rfl⟩: ∃j,n=j+1:=⟨n-1,by omega⟩
  have hn':2000000≤n:=by omega
  rw [v_markExprS.eq_def];dsimp only;refine qU (Hh:=w_heldExprS (n+1)) (aHY (by omega)) (by omega) ha h0 h1 (fun Q again k' l j x hx hm hl hj g0 g1 hr=>?_) fun again k' l=>by dsimp only;rw [decide_eq_false (by omega)];rfl
  dsimp only;refine aK (fun _=>?_) fun h=>absurd hl (by omega);obtain⟨q1,q2,q3,q4⟩:=h2 x hm;unfold kE kAX kC at g1 hr;refine aB (aS hx) ?_;rw [aM (n:=k'+1) (by omega),aM (n:=k'+1+1) (by omega)];refine aB (n9 hn' q1 (by omega) (by omega)) (aB (bK (n4 _ _)) ?_);dsimp only;generalize hu:x.index.coefs.length=u at g1 hr;rw [aM (n:=k'+1+1+(u:Int)+1) (by omega)];obtain⟨t,ht⟩:=n8 hn' (k:=k'+1+1+(u:Int)+1) (by omega) (by omega);refine aB ht ?_;rw [aM (n:=k'+1+1+(u:Int)+1+1) (by omega)];obtain⟨p1,e1,b1,b2,b3,b4⟩:=L2 hn' q2.2 (k:=k'+1+1+(u:Int)+1+1) (by omega) (by omega);obtain⟨p2,e2,d1,d2,d3,d4⟩:=aFm m n (by omega) q3 q4 (k:=p1.1) (by omega) (by omega);refine aB e1 (aB (bK b3) (aB e2 (aB (bK d3) (aB (iC (by omega) _) ?_))));rw [aM (by omega),vAD];refine hr _ _ (by omega) (by omega) fun ag Q j hj hq=>?_;unfold hbE;refine bQ (fun h=>absurd rfl h) fun _=>?_;rw [aM (n:=k'+1) (by omega)];refine bQ (fun h=>absurd rfl h) fun _=>?_;rw [aM (n:=k'+1+1) (by omega)];refine aB (xT hn' (hu▸q1) (by omega) (by omega)) (aK (fun h=>absurd h (by omega)) fun _=>bQ (fun h=>absurd rfl h) fun _=>?_);rw [aM (n:=k'+1+1+(u:Int)+1) (by omega)];refine aB ht (bQ (fun h=>absurd rfl h) fun _=>?_);rw [aM (n:=k'+1+1+(u:Int)+1+1) (by omega)];refine aB b4 (aK (fun h=>absurd h (by omega)) fun _=>aB d4 (aK (fun h=>absurd h (by omega)) fun _=>?_));rw [aM (by omega)];exact hq
theorem aJ2{m n:Nat}(hn:2000001+m≤n){a:List Stmt}(ha:a.length≤1048576)(h2: ∀x∈a,QS 1048576 m x){k:Int}(h0:0≤k)(h1:k+5*(kS (kSt m) a:Nat)≤1099511627776):
  ∃r,nY n a k=some r∧k≤r.1∧r.1≤k+5*(kS (kSt m) a:Nat)∧r.2.length=a.length∧gM n r.2 k=some r.1:=by
 have hn':2000000≤n:=by omega
 unfold nY;refine qU (Hh:=gM n) (aLO (by omega)) hn' ha h0 h1 (fun Q again k' l j x hx hm hl hj g0 g1 hr=>?_) fun again k' l=>by dsimp only;rw [decide_eq_false (by omega)];rfl
 dsimp only;refine aK (fun _=>?_) fun h=>absurd hl (by omega);obtain⟨w1,w2⟩:=h2 x hm;cases m with
 |zero=>exact w2.elim
 |succ m=>
  obtain⟨q1,q2,q3,q4⟩:=w2;unfold kSt kE kAX kC at g1 hr;obtain⟨t,ht⟩:=n8 hn' g0 (by omega);refine aB (aS hx) (aB ht ?_);rw [aM (n:=k'+1) (by omega)];obtain⟨p0,e0,c1,c2,c3,c4⟩:=L2 hn' w1.2 (k:=k'+1) (by omega) (by omega);refine aB e0 (aB (bK c3) ?_);rw [aM (n:=p0.1+1) (by omega),aM (n:=p0.1+1+1) (by omega)];refine aB (n9 hn' q1 (by omega) (by omega)) (aB (bK (n4 _ _)) ?_);dsimp only;generalize hu:x.value.index.coefs.length=u at g1 hr;rw [aM (n:=p0.1+1+1+(u:Int)+1) (by omega)];obtain⟨t2,ht2⟩:=n8 hn' (k:=p0.1+1+1+(u:Int)+1) (by omega) (by omega);refine aB ht2 ?_;rw [aM (n:=p0.1+1+1+(u:Int)+1+1) (by omega)];obtain⟨p1,e1,b1,b2,b3,b4⟩:=L2 hn' q2.2 (k:=p0.1+1+1+(u:Int)+1+1) (by omega) (by omega);obtain⟨p2,e2,d1,d2,d3,d4⟩:=aFm m n (by omega) q3 q4 (k:=p1.1) (by omega) (by omega);refine aB e1 (aB (bK b3) (aB e2 (aB (bK d3) (aB (iC (by omega) _) ?_))));rw [aM (by omega),vAD];refine hr _ _ (by omega) (by omega) fun ag Q j hj hq=>?_;unfold hbS;refine aB ht (bQ (fun h=>absurd rfl h) fun _=>?_);rw [aM (n:=k'+1) (by omega)];refine aB c4 (aK (fun h=>absurd h (by omega)) fun _=>?_);refine bQ (fun h=>absurd rfl h) fun _=>?_;rw [aM (n:=p0.1+1) (by omega)];refine bQ (fun h=>absurd rfl h) fun _=>?_;rw [aM (n:=p0.1+1+1) (by omega)];refine aB (xT hn' (hu▸q1) (by omega) (by omega)) (aK (fun h=>absurd h (by omega)) fun _=>bQ (fun h=>absurd rfl h) fun _=>?_);rw [aM (n:=p0.1+1+1+(u:Int)+1) (by omega)];refine aB ht2 (bQ (fun h=>absurd rfl h) fun _=>?_);rw [aM (n:=p0.1+1+1+(u:Int)+1+1) (by omega)];refine aB b4 (aK (fun h=>absurd h (by omega)) fun _=>aB d4 (aK (fun h=>absurd h (by omega)) fun _=>?_));rw [aM (by omega)];exact hq
theorem aJ3{m n:Nat}(hn:2000001+m≤n){a:List Part}(ha:a.length≤1048576)(h2: ∀x∈a,QPt 1048576 m x){k:Int}(h0:0≤k)(h1:k+5*(kS (kPt m) a:Nat)≤1099511627776):
  ∃r,lT n a k=some r∧k≤r.1∧r.1≤k+5*(kS (kPt m) a:Nat)∧r.2.length=a.length∧jC n r.2 k=some r.1:=by
 unfold lT;refine qU (Hh:=jC n) (aLP (by omega)) (by omega) ha h0 h1 (fun Q again k' l j x hx hm hl hj g0 g1 hr=>?_) fun again k' l=>by dsimp only;rw [decide_eq_false (by omega)];rfl
 dsimp only;refine aK (fun _=>?_) fun h=>absurd hl (by omega);unfold kPt at g1 hr;obtain⟨p1,e1,b1,b2,b3,b4⟩:=aJ4 (n:=n) (by omega) (h2 x hm).1.1 (h2 x hm).1.2 g0 (by omega);obtain⟨p2,e2,d1,d2,d3,d4⟩:=aJ2 hn (h2 x hm).2.1 (h2 x hm).2.2 (k:=p1.1) (by omega) (by omega);refine aB (aS hx) (aB e1 (aB (bK b3) (aB e2 (aB (bK d3) (aB (iC (by omega) _) ?_)))));rw [aM (by omega),vAD];refine hr _ _ (by omega) (by omega) fun ag Q j hj hq=>?_;unfold hbP;refine aB b4 (aK (fun h=>absurd h (by omega)) fun _=>aB d4 (aK (fun h=>absurd h (by omega)) fun _=>?_));rw [aM (by omega)];exact hq
theorem aHG{m n:Nat}(hn:2000001+m≤n){p:Prog}(h:QP 1048576 m p){k:Int}(h0:0≤k)(h1:k+5*(kP m p:Nat)≤1099511627776): ∃r,eU n p k=some r∧k≤r.1∧r.1≤k+5*(kP m p:Nat)∧r.2.1.length=p.arrays.length∧r.2.2.length=p.parts.length∧eS n ⟨r.2.1,r.2.2⟩ k=some r.1:=by
 unfold kP at h1;obtain⟨p1,e1,b1,b2,b3,b4⟩:=aLB (n:=n) (by omega) h.1.1 h.1.2 h0 (by omega);obtain⟨p2,e2,d1,d2,d3,d4⟩:=aJ3 hn h.2.1 h.2.2 (k:=p1.1) (by omega) (by omega);refine⟨(p2.1,p1.2,p2.2),?_,by dsimp only;omega,by dsimp only;unfold kP;omega,b3,d3,?_⟩;rotate_left
 ·unfold eS;exact Ev.eq (aB b4 (aK (fun h=>absurd h (by omega)) fun _=>aB d4 (aK (fun h=>absurd h (by omega)) fun _=>Ev.some rfl)))
 unfold eU;rw [e1];show Option.bind (lT n p.parts p1.1) _=_;rw [e2];rfl
def aD7(n:Nat)(aP:Prog)(S I:Prog→Option (Prog×Bool)):Option Bool:=(
 Option.bind (nX n aP 1048576) fun x1=>
 bif decide (x1<0) then(
  some true
 ) else(
  Option.bind (dB n aP) fun x2=>
  Option.bind (S x2) fun x3=>
  Option.bind (dB n aP) fun x4=>
  Option.bind (I x4) fun x5=>
  jn (fun(x8:Bool)=>
   bif x8 then(
    some false
   ) else(
    Option.bind (dB n aP) fun x9=>
    Option.bind (dC n x4 x9) fun x10=>
    bif !x10 then(
     some false
    ) else(
     Option.bind (eU n x4 1) fun x11=>
     jn (fun(x14:Bool)=>
      bif x14 then(
       some false
      ) else(
       Option.bind (eU n x5.1 1) fun x15=>
       Option.bind (bT x5.1.arrays x15.2.1) fun _=>
       Option.bind (bT x5.1.parts x15.2.2) fun _=>
       Option.bind (eS n (⟨x15.2.1,x15.2.2⟩:Prog) 1) fun x16=>
       bif decide (x16<0) then(
        some false
       ) else(
        bif !decide (x16=x15.1) then(
         some false
        ) else(
         Option.bind (dB n aP) fun x17=>
         Option.bind (I x17) fun x18=>
         jn (fun(x21:Bool)=>
          bif x21 then(
           some false
          ) else(
           Option.bind (eS n (⟨x15.2.1,x15.2.2⟩:Prog) 1) fun x22=>
           bif decide (x22<0) then(
            some false
           ) else(
            bif !decide (x22=x15.1) then(
             some false
            ) else(
             some true
            )
           )
          )
         ) (fun j19=>
          Option.bind (dC n x18.1 x3.1) fun x20=>
          bif !x20 then(
           j19 true
          ) else(
           j19 (!(x18.2==x3.2))
          )
         )
        )
       )
      )
     ) (fun j12=>
      bif decide (x11.1<0) then(
       j12 true
      ) else(
       Option.bind (dC n x5.1 x3.1) fun x13=>
       bif !x13 then(
        j12 true
       ) else(
        j12 (!(x5.2==x3.2))
       )
      )
     )
    )
   )
  ) (fun j6=>
   Option.bind (dC n x5.1 x3.1) fun x7=>
   bif !x7 then(
    j6 true
   ) else(
    j6 (!(x5.2==x3.2))
   )
  )
 ))
theorem aKE{a:Affine}(h:bO a=true):QA 4 a:=by have:=(fT h).1;unfold QA;omega
theorem aDE{l:List Affine}(h1:l.length≤2)(h2: ∀x∈l,bO x=true):QAs 4 l:=⟨by omega,fun a ha=>aKE (h2 a ha)⟩
theorem aKF{s:List UInt8}(h:l8 s=true):s.length≤4:=by
 by_cases hl:s.length=1
 ·omega
 rw [qT hl] at h;cases h
theorem aKD{a:Access}{d:Int}(h:fO a d=true):QC 4 a:=⟨aKF (by simp only [fO,Bool.and_eq_true] at h;exact h.2.1),aDE (rS h).2.1 (rS h).2.2⟩
theorem aKC{d:Int}: ∀{L:Nat} {e:Expr},cZ L e d=true→QE 4 L e
 |0,_,h=>by cases h
 |L+1,e,h=>by
  obtain⟨hk,ho,hs⟩:=iT h
  have:=jV e.kind;refine⟨?_,?_,by omega,fun k hk=>aKC (hs k hk)⟩
  ·by_cases h2:e.kind=2
   ·exact aKE (s4 ho h2).1
   by_cases h3:e.kind=3
   ·rw [pE (sZ ho h3).2];unfold QA;simp
   rw [pE (K3 ho h2 h3).1];unfold QA;simp
  by_cases h3:e.kind=3
  ·exact aKD (sZ ho h3).1
  by_cases h2:e.kind=2
  ·rw [pF (s4 ho h2).2];exact⟨by simp,by simp,fun x hx=>by cases hx⟩
  rw [pF (K3 ho h2 h3).2];exact⟨by simp,by simp,fun x hx=>by cases hx⟩
theorem aMS{p:Prog}(h:eY p=true):QP 4 5 p:=by
 have ha:fS p.arrays=true:=by
  simp only [eY,qD,Bool.and_eq_true] at h;exact h.1.1
 obtain⟨h1,h2,h3,h4,_⟩:=K1 h;refine⟨⟨h1,fun x hx=>⟨?_,?_⟩⟩,h3,fun x hx=>?_⟩
 ·obtain⟨i,hi⟩:=vAF hx
  have:=v8 (show zZ (F6 p.arrays) p.arrays=true by simp only [fS,Bool.and_eq_true] at ha;exact ha.1) hi;simp only [F6,Bool.and_eq_true] at this;exact aKF this.1
 ·have:=h2 x hx;simp only [iK,Bool.and_eq_true,decide_eq_true_eq] at this;omega
 obtain⟨g1,g2⟩:=qQ (h4 x hx);obtain⟨_,g4,g5,_⟩:=jR (h4 x hx);exact⟨⟨g1,fun l hl=>⟨aDE (g2 l hl).1.1 (g2 l hl).1.2,aDE (g2 l hl).2.1 (g2 l hl).2.2⟩⟩,g4.2,fun s hs=>by obtain⟨a,b,_⟩:=qJ (g5 s hs);exact⟨aKD a,aKC b⟩⟩
theorem aKX{B C:Nat}(h:B≤C){a:Affine}(k:QA B a):QA C a:=r8 k h
theorem aEX{B C:Nat}(h:B≤C){l:List Affine}(k:QAs B l):QAs C l:=⟨r8 k.1 h,fun a ha=>aKX h (k.2 a ha)⟩
theorem aKW{B C:Nat}(h:B≤C){a:Access}(k:QC B a):QC C a:=⟨r8 k.1 h,aEX h k.2⟩
theorem aIX{B C:Nat}(h:B≤C): ∀{m:Nat} {e:Expr},QE B m e→QE C m e
 |0,_,k=>k.elim
 |m+1,e,⟨a,b,c,d⟩=>⟨aKX h a,aKW h b,r8 c h,fun k hk=>aIX h (d k hk)⟩
theorem aNm{B C m:Nat}(h:B≤C){p:Prog}(k:QP B m p):QP C m p:=⟨⟨r8 k.1.1 h,fun x hx=>⟨r8 (k.1.2 x hx).1 h,r8 (k.1.2 x hx).2 h⟩⟩,r8 k.2.1 h,fun x hx=>by obtain⟨⟨a,b⟩,c,d⟩:=k.2.2 x hx;exact⟨⟨r8 a h,fun l hl=>⟨aEX h (b l hl).1,aEX h (b l hl).2⟩⟩,r8 c h,fun s hs=>⟨aKW h (d s hs).1,aIX h (d s hs).2⟩⟩⟩
theorem aAa{α:Type}{c:α→Nat}{C:Nat}: ∀{l:List α},l.length≤4→(∀x∈l,c x≤C)→kS c l≤4+4*C:=by
 intro l h1 h2
 have: ∀l:List α,(∀x∈l,c x≤C)→(l.map c).sum≤l.length*C:=by
  intro l;induction l with
  |nil=>intro _;simp
  |cons x l ih=>
   intro h;have a:=h x uX;have b:=ih fun y hy=>h y (r9 _ hy);simp only [List.map_cons,List.sum_cons,List.length_cons,Nat.add_mul];omega
 have h3:=this l h2;have h4:l.length*C≤4*C:=jL _ h1;unfold kS;omega
theorem aFp{l:List Affine}(h:QAs 4 l):kS kAX l≤20:=aAa (C:=4) h.1 h.2
theorem aKJ: ∀{m:Nat} {e:Expr},QE 4 m e→kE m e≤100*5^m
 |0,_,h=>h.elim
 |m+1,e,⟨a,b,c,d⟩=>by have h1:=aFp b.2;have h2:kS (kE m) e.kids≤4+4*(100*5^m):=aAa c fun k hk=>aKJ (d k hk);have h3:0<5^m:=Nat.pow_pos (by omega);have h4:kAX e.index≤4:=a;unfold kE kC;rw [Nat.pow_succ];omega
theorem aM1{p:Prog}(h:QP 4 5 p):kP 5 p≤1000000000:=by
 have h1:=aAa (c:=kR) (C:=4) h.1.1 fun x hx=>(h.1.2 x hx).2;have h2:=aAa (c:=kPt 5) (C:=4+4*40+(4+4*312520)) h.2.1 (fun x hx=>by
  obtain⟨⟨a,b⟩,c,d⟩:=h.2.2 x hx;have e1:=aAa (c:=kL) (C:=40) a (fun l hl=>by
   have:=aFp (b l hl).1
   have:=aFp (b l hl).2;unfold kL;omega)
  have e2:=aAa (c:=kSt 5) (C:=312520) c (fun s hs=>by
   have:=aFp (d s hs).1.2
   have:=aKJ (d s hs).2;have e:100*5^5=312500:=by decide
   unfold kSt kC;omega)
  unfold kPt;omega)
 unfold kP;omega
theorem aNI{m n:Nat}{e:Expr}(hn:6600000+m≤n)(h:QE 1048576 m e):s_l16OwnExpr n e=some e:=by
 obtain⟨n,rfl⟩: ∃j,n=j+1:=⟨n-1,by omega⟩
 have: ∀{m:Nat} {e:Expr},QE 1048576 m e→BE 1100000 m e:=by
  intro m;induction m with
  |zero=>intro e h;exact h.elim
  |succ m ih=>
   rintro e ⟨a,b,c,d⟩;exact⟨by omega,r8 a (by omega),⟨r8 b.2.1 (by omega),fun x hx=>r8 (b.2.2 x hx) (by omega)⟩,fun k hk=>ih (d k hk)⟩
 exact v2 m n e (by omega) (this h)
theorem aNH{m n:Nat}(hn:6600000+m≤n){p:Prog}(h:QP 1048576 m p):eG n p=some p:=by
 obtain⟨⟨h1,h2⟩,h3,h4⟩:=h;have ha: ∀{l:List Affine},QAs 1048576 l→cE n l=some l:=fun h=>qS (by omega) ⟨r8 h.1 (by omega),fun x hx=>r8 (h.2 x hx) (by omega)⟩;have e1:dF n p.arrays=some p.arrays:=by
  unfold dF;refine Ev.eq (fZ (K:=fun x1=>some x1) (fun l hl=>?_) (by omega) (by omega) (Ev.some rfl));unfold lI;rw [dS _ (by have:=(h2 l hl).2;omega)];rfl
 have e2:dX n p.parts=some p.parts:=by
  unfold dX;refine Ev.eq (fZ (K:=fun x1=>some x1) (fun x hx=>?_) (by omega) (by omega) (Ev.some rfl));obtain⟨⟨a,b⟩,c,d⟩:=h4 x hx;have f1:dY n x.nest=some x.nest:=by
   unfold dY;refine Ev.eq (fZ (K:=fun x1=>some x1) (fun l hl=>?_) (by omega) (by omega) (Ev.some rfl));unfold mK;rw [ha (b l hl).1,ha (b l hl).2];rfl
  have f2:dW n x.body=some x.body:=by
   unfold dW;refine Ev.eq (fZ (K:=fun x1=>some x1) (fun s hs=>?_) (by omega) (by omega) (Ev.some rfl));have g:d6 n s.write=some s.write:=by
    unfold d6;rw [ha (d s hs).1.2];rfl
   unfold jM;rw [g,aNI hn (d s hs).2];rfl
  unfold jN;rw [f1,f2];rfl
 unfold eG;rw [e1,e2];rfl
theorem aGs{n:Nat}(hn:7700000≤n){p:Prog}(hp:SmP p)(hv:eY p=false)(part loop:Int):mQ n p part loop=some (⟨[],[]⟩,false):=by unfold mQ;refine Ev.eq (Ev.jn (fun z=>z=true) (fun j hj=>aB (gJ hn hp) ?_) fun z hz=>by subst hz;exact bV (Ev.some rfl));rw [hv];exact bV (hj _ rfl)
theorem aKe{n:Nat}(hn:7700000≤n){p:Prog}(hp:SmP p)(hv:eY p=false)(part loop:Int):t6 n p part loop=some false:=by unfold t6;refine Ev.eq (Ev.jn (fun z=>z=false) (fun j hj=>aB (jO hn hp) ?_) fun z hz=>Ev.some hz);rw [hv];exact bH (hj _ rfl)
def FinP(r:Prog×Bool):Prop:=r=(⟨[],[]⟩,false)∨ ∃q,r=aCu q
theorem FinP.qp{r:Prog×Bool}(h:FinP r):QP 4 5 r.1:=by
 have h0:QP 4 5 ⟨[],[]⟩:=⟨⟨by simp,fun x hx=>by cases hx⟩,by simp,fun x hx=>by cases hx⟩
 rcases h with rfl|⟨q,rfl⟩
 ·exact h0
 unfold aCu;split
 ·rename_i hv;exact aMS hv
 exact h0
theorem N4{m n:Nat}(hn:20000001+m≤n){p:Prog}(hp:QP 9223372036854775807 m p){S I:Prog→Option (Prog×Bool)}{res:Prog×Bool}(hr:FinP res)(hS:QP 1048576 m p→S p=some res)(hI:QP 1048576 m p→I p=some res):aD7 n p S I=some true:=by
 have hq:=aNm (C:=1048576) (by omega) hr.qp;have hkb:=aM1 hr.qp;obtain⟨r,e,hr⟩:=aJL (n:=n) (by omega) hp 1048576 (by omega) (by omega);unfold aD7;refine Ev.eq (aB e ?_);rcases hr with rfl|⟨h0,hc,hb⟩
 ·exact aK (fun _=>Ev.some rfl) fun h=>absurd h (by decide)
 have ht:=aJI (n:=n) (by omega) hb;have hs:=hS hb;have hi:=hI hb;obtain⟨q,hq1,q1,q2,_,_,_⟩:=aHG (n:=n) (m:=m) (by omega) hb (k:=1) (by omega) (by omega);obtain⟨u,hu,u1,u2,l1,l2,hh⟩:=aHG (n:=n) (m:=5) (by omega) hq (k:=1) (by omega) (by omega);have heq:=aFz (n:=n) (m:=5) (by omega) hq;refine aK (fun h=>absurd h (by omega)) fun _=>aB ht (aB hs (aB ht (aB hi ?_)));refine Ev.jn (fun z=>z=false) (fun j hj=>aB heq (bH (hj _ (by simp)))) fun z hz=>?_;subst hz;refine bH (aB ht (aB (aFz (by omega) hb) (bH (aB hq1 ?_))));refine Ev.jn (fun z=>z=false) (fun j hj=>aK (fun h=>absurd h (by omega)) fun _=>aB heq (bH (hj _ (by simp)))) fun z hz=>?_;subst hz;refine bH (aB hu (aB (bK l1) (aB (bK l2) (aB hh (aK (fun h=>absurd h (by omega)) fun _=>bQ (fun h=>absurd rfl h) fun _=>aB ht (aB hi ?_))))));refine Ev.jn (fun z=>z=false) (fun j hj=>aB heq (bH (hj _ (by simp)))) fun z hz=>?_;subst hz;exact bH (aB hh (aK (fun h=>absurd h (by omega)) fun _=>bQ (fun h=>absurd rfl h) fun _=>Ev.some rfl))
theorem aDx(p:Prog)(part loop s:Int):FinP (sB p part loop s):=by
 unfold sB
 repeat' split
 all_goals first|exact .inl rfl|exact .inr ⟨_,rfl⟩
theorem wD{m:Nat}{p:Prog}(hp:QP 9223372036854775807 m p)(part loop s:Int):nE (30000000+m) p part loop s=some true:=by
 show aD7 (30000000+m) p (fun x=>jH (30000000+m) x part loop s) (fun x=>fM (30000000+m) x part loop s)=some true;cases hv:eY p with
 |true=>exact N4 (by omega) hp (aDx p part loop s) (fun hq=>aDA (by omega) ((aKR hv).mono (by omega)) part loop s) (fun hq=>aD4 (by omega) ((aKR hv).mono (by omega)) part loop s)
 |false=>
  refine N4 (by omega) hp (.inl rfl) (fun hq=>?_) fun hq=>?_
  ·have hs:=aKU hq;unfold jH;exact Ev.eq (aB (aNH (by omega) hq) (Ev.jn (fun z=>z=true) (fun j hj=>aB (aKe (by omega) hs hv _ _) (bV (hj _ rfl))) fun z hz=>by subst hz;exact bV (Ev.some rfl)))
  have hs:=aKU hq;unfold fM;exact Ev.eq (aB (aGs (by omega) hs hv _ _) (bH (Ev.some rfl)))
end Go.Lift
