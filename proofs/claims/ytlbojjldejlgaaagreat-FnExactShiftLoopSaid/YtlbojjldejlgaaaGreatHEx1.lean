/- Programs of any size: what is counted, copied and compared. (Its numbers are those of putx.py.) -/
import Derived.Test.YtlbojjldejlgaaaGreatHRunC
import Derived.Test.YtlbojjldejlgaaaGreatHTran1
import Derived.Test.YtlbojjldejlgaaaGreatHModels
set_option maxRecDepth 100000
set_option linter.unusedVariables false
namespace Go.Lift
open Go
def QA(B:Nat)(a:Affine):Prop:=a.coefs.length≤B
def QAs(B:Nat)(l:List Affine):Prop:=l.length≤B∧ ∀a∈l,QA B a
def QC(B:Nat)(a:Access):Prop:=a.array.length≤B∧QAs B a.subs
def QE(B:Nat):Nat→Expr→Prop
 |0,_=>False
 |m+1,e=>QA B e.index∧QC B e.read∧e.kids.length≤B∧ ∀k∈e.kids,QE B m k
def QS(B m:Nat)(s:Stmt):Prop:=QC B s.write∧QE B m s.value
def QL(B:Nat)(l:Loop):Prop:=QAs B l.lo∧QAs B l.hi
def QPt(B m:Nat)(x:Part):Prop:=(x.nest.length≤B∧ ∀l∈x.nest,QL B l)∧x.body.length≤B∧ ∀s∈x.body,QS B m s
def QR(B:Nat)(x:Arr):Prop:=x.name.length≤B∧x.dims.length≤B
def QP(B m:Nat)(p:Prog):Prop:=(p.arrays.length≤B∧ ∀x∈p.arrays,QR B x)∧p.parts.length≤B∧ ∀x∈p.parts,QPt B m x
theorem aJ8: ∀{m:Nat} {e:Expr},QE 1048576 m e→ ∀j,SmE j e
 |0,e,h,_=>h.elim
 |m+1,e,h,0=>trivial
 |m+1,e,h,j+1=>by
  obtain⟨h1,h2,h3,h4⟩:=h;unfold QA at h1;refine⟨by omega,?_,⟨?_,fun a ha=>?_⟩,fun k hk=>aJ8 (h4 k hk) j⟩
  ·unfold SmA;omega
  ·have:=h2.2.1;omega
  have:=h2.2.2 a ha;unfold QA at this;unfold SmA;omega
theorem aEe{l:List Affine}(h:QAs 1048576 l):zL l:=⟨by have:=h.1;omega,fun a ha=>by have:=h.2 a ha;unfold QA at this;unfold SmA;omega⟩
theorem aJ7{m:Nat}{p:Prog}(h:QP 1048576 m p):SmP p:=by obtain⟨⟨h1,h2⟩,h3,h4⟩:=h;refine⟨⟨by omega,fun x hx=>by have:=(h2 x hx).2;omega⟩,by omega,fun x hx=>?_⟩;obtain⟨⟨g1,g2⟩,g3,g4⟩:=h4 x hx;exact⟨⟨by omega,fun l hl=>⟨aEe (g2 l hl).1,aEe (g2 l hl).2⟩⟩,by omega,fun s hs=>⟨aEe (g4 s hs).1.2,aJ8 (g4 s hs).2 _⟩⟩
def kS{α:Type}(c:α→Nat)(l:List α):Nat:=l.length+(l.map c).sum
def kAX(a:Affine):Nat:=a.coefs.length
def kC(a:Access):Nat:=kS kAX a.subs
def kE:Nat→Expr→Nat
 |0,_=>0
 |m+1,e=>kAX e.index+(kC e.read+kS (kE m) e.kids)
def kSt(m:Nat)(s:Stmt):Nat:=kC s.write+kE m s.value
def kL(l:Loop):Nat:=kS kAX l.lo+kS kAX l.hi
def kPt(m:Nat)(x:Part):Nat:=kS kL x.nest+kS (kSt m) x.body
def kR(x:Arr):Nat:=x.dims.length
def kP(m:Nat)(p:Prog):Nat:=kS kR p.arrays+kS (kPt m) p.parts
def SZ(w:Int→Option Int)(C:Nat)(P:Prop):Prop:= ∀left:Int,0≤left→left≤1048576→ ∃r,w left=some r∧(r= -1∨(0≤r∧r+C≤left∧P))
theorem SZ.mono{w:Int→Option Int}{C D:Nat}{P Q:Prop}(h:SZ w C P)(hD:D≤C)(k:P→Q):SZ w D Q:=fun left h0 h1=>by obtain⟨r,e,hr⟩:=h left h0 h1;exact⟨r,e,hr.imp id fun h=>⟨h.1,by omega,k h.2.2⟩⟩
theorem SZ.two{w v:Int→Option Int}{C D:Nat}{P Q:Prop}(h:SZ w C P)(k:SZ v D Q):SZ (fun left=>Option.bind (w left) fun x1=>bif decide (x1<0) then some (-1) else v x1) (C+D) (P∧Q):=fun left h0 h1=>by
 obtain⟨r,e,hr⟩:=h left h0 h1;dsimp only;rw [e];rcases hr with rfl|⟨h2,h3,hP⟩
 ·exact⟨-1,rfl,.inl rfl⟩
 obtain⟨s,e2,hs⟩:=k r h2 (by omega);refine⟨s,?_,?_⟩
 ·show(bif decide (r<0) then some (-1) else v r)=some s;rw [decide_eq_false (by omega)];exact e2
 rcases hs with rfl|⟨h4,h5,hQ⟩
 ·exact .inl rfl
 exact .inr ⟨h4,by omega,hP,hQ⟩
theorem SZ.end{w:Int→Option Int}{C:Nat}{P:Prop}(h:SZ w C P):SZ (fun left=>Option.bind (w left) fun x1=>bif decide (x1<0) then some (-1) else some x1) C P:=
 (h.two (v:=fun x=>some x) (D:=0) (Q:=True) fun left h0 _=>⟨left,rfl,.inr ⟨h0,by omega,trivial⟩⟩).mono (lI _) And.left
theorem SZ.len{k:Nat}(hk:k≤9223372036854775807){v:Int→Option Int}{D:Nat}{Q:Prop}(h:SZ v D Q):SZ (fun left=>bif decide (wr (left-(k:Int))<0) then some (-1) else v (wr (left-(k:Int)))) (k+D) (k≤1048576∧Q):=fun left h0 h1=>by
 dsimp only;rw [aN (by omega)];by_cases hlt:left-(k:Int)<0
 ·rw [decide_eq_true hlt];exact⟨-1,rfl,.inl rfl⟩
 rw [decide_eq_false hlt];obtain⟨s,e,hs⟩:=h (left-(k:Int)) (by omega) (by omega);refine⟨s,e,?_⟩;rcases hs with rfl|⟨h4,h5,hQ⟩
 ·exact .inl rfl
 exact .inr ⟨h4,by omega,by omega,hQ⟩
theorem V2{α:Type}{l:List α}{i:Nat}{x:α}(c:α→Nat)(h:l[i]? =some x):((l.take (i+1)).map c).sum=((l.take i).map c).sum+c x:=by rw [s5 h];simp
theorem aKI{α:Type}{a:List α}{g:α→Int→Option Int}{c:α→Nat}{P:α→Prop}{n:Nat}(ha:a.length≤1048576)(hn:2000000≤n)(hg: ∀x∈a,SZ (g x) (c x) (P x)):
  SZ (fun left=>aM (fun again3 ((x1,x2):Int×Int)=>
   bif decide (x2<(a.length:Int)) then(
    Option.bind (ix a x2) fun x4=>
    Option.bind (g x4 x1) fun x5=>
    bif decide (x5<0) then(
     some (-1)
    ) else(
     again3 (x5,wr (x2+1))
    )
   ) else(
    some x1
   )
  ) n (left,0)) (a.map c).sum (∀x∈a,P x):=fun left h0 h1=>by
 refine Ev.loop (Q:=fun r=>r= -1∨(0≤r∧r+((a.map c).sum:Nat)≤left∧ ∀x∈a,P x)) (fun z:Int×Int=> ∃j:Nat,z.2=j∧j≤a.length∧0≤z.1∧z.1+(((a.take j).map c).sum:Nat)≤left∧ ∀x∈a.take j,P x) (fun z=>a.length-z.2.toNat) ?_ n _ ⟨0,rfl,by omega,h0,by simp,fun x hx=>by simp at hx⟩ (by dsimp only;omega);rintro again ⟨z1,z2⟩ ⟨j,rfl,hj,g0,g1,hs⟩ hr;dsimp only at g0 g1⊢;refine aK (fun hlt=>?_) fun hge=>Ev.some (.inr ⟨g0,by rw [vBe (by omega)] at g1;exact g1,by rw [vBe (by omega)] at hs;exact hs⟩);have hx:=dM (show j<a.length by omega);generalize a[j]=x at hx;obtain⟨s,e,h2⟩:=hg x (dF hx) z1 g0 (by omega);refine aB (aS hx) (aB e ?_);rcases h2 with rfl|⟨h4,h5,hP⟩
 ·exact aK (fun _=>Ev.some (.inl rfl)) fun h=>absurd h (by decide)
 refine aK (fun h=>absurd h (by omega)) fun _=>?_;rw [aN (by omega)];refine hr _ ⟨j+1,by dsimp only;omega,by omega,h4,by dsimp only;rw [V2 c hx];omega,fun y hy=>?_⟩ (by dsimp only;omega);rw [s5 hx] at hy;rcases E2.1 hy with hy|hy
 ·exact hs y hy
 rw [List.mem_singleton.1 hy];exact hP
theorem yH{α:Type}{a:List α}{g:α→Int→Option Int}{c:α→Nat}{P:α→Prop}{n:Nat}(ha:a.length≤9223372036854775807)(hn:2000000≤n)(hg: ∀x∈a,SZ (g x) (c x) (P x)):
  SZ (fun left=>bif decide (wr (left-(a.length:Int))<0) then some (-1) else aM (fun again3 ((x1,x2):Int×Int)=>
   bif decide (x2<(a.length:Int)) then(
    Option.bind (ix a x2) fun x4=>
    Option.bind (g x4 x1) fun x5=>
    bif decide (x5<0) then(
     some (-1)
    ) else(
     again3 (x5,wr (x2+1))
    )
   ) else(
    some x1
   )
  ) n (wr (left-(a.length:Int)),0)) (kS c a) (a.length≤1048576∧ ∀x∈a,P x):=fun left h0 h1=>by
 by_cases hb:a.length≤1048576
 ·exact(SZ.len ha (aKI hb hn hg)) left h0 h1
 dsimp only;rw [aN (by omega),decide_eq_true (by omega)];exact⟨-1,rfl,.inl rfl⟩
theorem aEn{n:Nat}{a:List Int}(h:a.length≤9223372036854775807):SZ (vV n a) a.length (a.length≤1048576):=by have:=(SZ.len h (v:=fun x=>some x) (D:=0) (Q:=True) fun left h0 _=>⟨left,rfl,.inr ⟨h0,by omega,trivial⟩⟩).mono (lI _) And.left;exact this
theorem aKH{n:Nat}{a:Arr}(h:QR 9223372036854775807 a):SZ (xY n a) (kR a) (QR 1048576 a):=(SZ.len h.1 ((aEn h.2).end)).mono (Nat.le_add_left _ _) id
theorem aI0{n:Nat}(hn:2000000≤n){a:List Arr}(h:a.length≤9223372036854775807)(h2: ∀x∈a,QR 9223372036854775807 x):SZ (uC n a) (kS kR a) (a.length≤1048576∧ ∀x∈a,QR 1048576 x):=yH h hn fun x hx=>aKH (h2 x hx)
theorem aGG{n:Nat}{a:Affine}(h:QA 9223372036854775807 a):SZ (pN n a) (kAX a) (QA 1048576 a):=(aEn h).end
theorem Y9{n:Nat}(hn:2000000≤n){a:List Affine}(h:QAs 9223372036854775807 a):SZ (lF n a) (kS kAX a) (QAs 1048576 a):=yH h.1 hn fun x hx=>aGG (h.2 x hx)
theorem aGH{n:Nat}(hn:2000000≤n){a:Access}(h:QC 9223372036854775807 a):SZ (pO n a) (kC a) (QC 1048576 a):=(SZ.len h.1 ((Y9 hn h.2).end)).mono (Nat.le_add_left _ _) id
theorem aEo: ∀(m n:Nat) {e:Expr},2000000+m≤n→QE 9223372036854775807 m e→SZ (w_szExpr n e) (kE m e) (QE 1048576 m e)
 |0,n,e,_,h=>h.elim
 |m+1,n,e,hn,h=>by
  obtain⟨n,rfl⟩: ∃j,n=j+1:=⟨n-1,by omega⟩
  obtain⟨h1,h2,h3,h4⟩:=h;have hk:SZ (xX n (w_szExpr n) e.kids) (kS (kE m) e.kids) (e.kids.length≤1048576∧ ∀k∈e.kids,QE 1048576 m k):=yH h3 (by omega) fun k hk=>aEo m n (by omega) (h4 k hk);exact SZ.mono ((aGG (n:=n) h1).two ((aGH (n:=n) (by omega) h2).two hk.end)) (lI _) (fun⟨a,b,c,d⟩=>⟨a,b,c,d⟩)
theorem aIX{m n:Nat}(hn:2000000+m≤n){s:Stmt}(h:QS 9223372036854775807 m s):SZ (D7 n s) (kSt m s) (QS 1048576 m s):=(aGH (by omega) h.1).two ((aEo m n hn h.2).end)
theorem aGF{m n:Nat}(hn:2000000+m≤n){a:List Stmt}(h:a.length≤9223372036854775807)(h2: ∀x∈a,QS 9223372036854775807 m x):SZ (xV n a) (kS (kSt m) a) (a.length≤1048576∧ ∀x∈a,QS 1048576 m x):=yH h (by omega) fun x hx=>aIX hn (h2 x hx)
theorem aLU{n:Nat}(hn:2000000≤n){l:Loop}(h:QL 9223372036854775807 l):SZ (D9 n l) (kL l) (QL 1048576 l):=(Y9 hn h.1).two ((Y9 hn h.2).end)
theorem aKG{n:Nat}(hn:2000000≤n){a:List Loop}(h:a.length≤9223372036854775807)(h2: ∀x∈a,QL 9223372036854775807 x):SZ (xW n a) (kS kL a) (a.length≤1048576∧ ∀x∈a,QL 1048576 x):=yH h hn fun x hx=>aLU hn (h2 x hx)
theorem aIZ{m n:Nat}(hn:2000000+m≤n){x:Part}(h:QPt 9223372036854775807 m x):SZ (D8 n x) (kPt m x) (QPt 1048576 m x):=(aKG (by omega) h.1.1 h.1.2).two ((aGF hn h.2.1 h.2.2).end)
theorem aIY{m n:Nat}(hn:2000000+m≤n){p:Prog}(h:QP 9223372036854775807 m p):SZ (nK n p) (kP m p) (QP 1048576 m p):=
 (aI0 (by omega) h.1.1 h.1.2).two (SZ.end (yH h.2.1 (by omega) fun x hx=>aIZ hn (h.2.2 x hx)))
theorem jY{α:Type}{a:List α}{g:α→Option α}{z:α}{n:Nat}(ha:a.length≤1048576)(hn:2000000≤n)(hg: ∀x∈a,g x=some x):
  (Option.bind (mk (a.length:Int) z) fun x1=>
 aM (fun again5 ((x2,x3):(List α)×Int)=>
  bif decide (x3<(a.length:Int)) then(
   Option.bind (ix a x3) fun x6=>
   Option.bind (g x6) fun x7=>
   Option.bind (ix x2 x3) fun x8=>
   Option.bind (cX x2 x3 x7) fun x9=>
   again5 (x9,wr (x3+1))
  ) else(
   some x2
  )
 ) n (x1,0))=some a:=by
 refine Ev.eq (aB (aL4 ⟨by omega,by omega⟩ z) (Ev.loop (fun x:List α×Int=> ∃j:Nat,x.2=j∧j≤a.length∧x.1=a.take j++List.replicate (a.length-j) z) (fun x=>a.length-x.2.toNat) ?_ n _ ⟨0,rfl,by omega,by simp⟩ (by dsimp only;omega)));rintro again ⟨b,i⟩ ⟨j,rfl,hj,rfl⟩ hr;dsimp only;have hlen:(a.take j++List.replicate (a.length-j) z).length=a.length:=by simp;omega
 refine aK (fun hlt=>?_) fun hge=>Ev.some (by rw [show a.length-j=0 by omega,vBe (by omega)];simp);have hlt:j<a.length:=by omega
 have hx:=dM hlt;generalize a[j]=x at hx;refine aB (aS hx) (aB (hg x (dF hx)) (aB (aS (dM (show j<_ by rw [hlen];exact hlt))) (aB (eU (by rw [hlen];omega) _) ?_)));rw [aN (by omega),vAG];refine hr _ ⟨j+1,by dsimp only;omega,by omega,?_⟩ (by dsimp only;omega);dsimp only;rw [s5 hx,vBg _ _ (by rw [vP];omega),vP,Nat.min_eq_left (by omega),vBi,show a.length-j=(a.length-(j+1))+1 by omega,List.replicate_succ,List.set_cons_zero];simp
theorem aEk{n:Nat}(hn:2000000≤n){a:List Int}(h:a.length≤1048576):rB n a=some a:=by
 unfold rB
 have:=jY (z:=(0:Int)) (g:=fun x=>some x) h hn fun x _=>rfl;exact this
theorem aGB{n:Nat}(hn:2000000≤n){a:Affine}(h:QA 1048576 a):mS n a=some a:=by unfold mS;rw [aEk hn h];rfl
theorem Y8{n:Nat}(hn:2000000≤n){a:List Affine}(h:QAs 1048576 a):lD n a=some a:=jY h.1 hn fun x hx=>aGB hn (h.2 x hx)
theorem aGC{n:Nat}(hn:2000000≤n){a:Access}(h:QC 1048576 a):mT n a=some a:=by unfold mT;rw [Y8 hn h.2];rfl
theorem aKD{n:Nat}(hn:2000000≤n){a:Arr}(h:QR 1048576 a):sY n a=some a:=by unfold sY;rw [aEk hn h.2];rfl
theorem aEl: ∀(m n:Nat) {e:Expr},2000000+m≤n→QE 1048576 m e→w_toExpr n e=some e
 |0,n,e,_,h=>h.elim
 |m+1,n,e,hn,h=>by
  obtain⟨n,rfl⟩: ∃j,n=j+1:=⟨n-1,by omega⟩
  obtain⟨h1,h2,h3,h4⟩:=h;have hk:xU n (w_toExpr n) e.kids=some e.kids:=jY h3 (by omega) fun k hk=>aEl m n (by omega) (h4 k hk);unfold w_toExpr;rw [aGB (by omega) h1,aGC (by omega) h2,hk];cases e;rfl
theorem aIU{m n:Nat}(hn:2000000+m≤n){s:Stmt}(h:QS 1048576 m s):vR n s=some s:=by unfold vR;rw [aGC (by omega) h.1,aEl m n hn h.2];rfl
theorem aGA{m n:Nat}(hn:2000000+m≤n){a:List Stmt}(h:a.length≤1048576)(h2: ∀x∈a,QS 1048576 m x):xQ n a=some a:=jY h (by omega) fun x hx=>aIU hn (h2 x hx)
theorem aLS{n:Nat}(hn:2000000≤n){l:Loop}(h:QL 1048576 l):vU n l=some l:=by unfold vU;rw [Y8 hn h.1,Y8 hn h.2];rfl
theorem aKC{n:Nat}(hn:2000000≤n){a:List Loop}(h:a.length≤1048576)(h2: ∀x∈a,QL 1048576 x):xT n a=some a:=jY h hn fun x hx=>aLS hn (h2 x hx)
theorem aIW{m n:Nat}(hn:2000000+m≤n){x:Part}(h:QPt 1048576 m x):vT n x=some x:=by unfold vT;rw [aKC (by omega) h.1.1 h.1.2,aGA hn h.2.1 h.2.2];rfl
theorem aIV{m n:Nat}(hn:2000000+m≤n){p:Prog}(h:QP 1048576 m p):dA n p=some p:=by unfold dA;rw [show uB n p.arrays=some p.arrays from jY h.1.1 (by omega) (fun x hx=>aKD (by omega) (h.1.2 x hx)),show xS n p.parts=some p.parts from jY h.2.1 (by omega) fun x hx=>aIW hn (h.2.2 x hx)];rfl
theorem zF{α:Type}{a:List α}{g:α→α→Option Bool}{n:Nat}(ha:a.length≤1048576)(hn:2000000≤n)(hg: ∀x∈a,g x x=some true):
  (bif !decide ((a.length:Int)=(a.length:Int)) then(
  some false
 ) else(
  aM (fun again2 (x1:Int)=>
   bif decide (x1<(a.length:Int)) then(
    Option.bind (ix a x1) fun x3=>
    Option.bind (ix a x1) fun x4=>
    Option.bind (g x3 x4) fun x5=>
    bif !x5 then(
     some false
    ) else(
     again2 (wr (x1+1))
    )
   ) else(
    some true
   )
  ) n 0
 ))=some true:=by rw [decide_eq_true rfl];refine Ev.eq (bI (Ev.loop (fun x:Int=> ∃j:Nat,x=j∧j≤a.length) (fun x=>a.length-x.toNat) ?_ n _ ⟨0,rfl,by omega⟩ (by omega)));rintro again i ⟨j,rfl,hj⟩ hr;refine aK (fun hlt=>?_) fun _=>Ev.some rfl;have hx:=dM (show j<a.length by omega);refine aB (aS hx) (aB (aS hx) (aB (hg _ (dF hx)) ?_));rw [aN (by omega)];exact bI (hr _ ⟨j+1,by omega,by omega⟩ (by omega))
theorem aEP{n:Nat}(hn:2000000≤n){a:List Int}(h:a.length≤1048576):rC n a a=some true:=by unfold rC;rw [decide_eq_true rfl];refine Ev.eq (bI (Ev.loop (fun x:Int=> ∃j:Nat,x=j∧j≤a.length) (fun x=>a.length-x.toNat) ?_ n _ ⟨0,rfl,by omega⟩ (by omega)));rintro again i ⟨j,rfl,hj⟩ hr;refine aK (fun hlt=>?_) fun _=>Ev.some rfl;have hx:=dM (show j<a.length by omega);refine aB (aS hx) (aB (aS hx) (bV (fun h=>absurd rfl h) fun _=>?_));rw [aN (by omega)];exact hr _ ⟨j+1,by omega,by omega⟩ (by omega)
theorem aHT{n:Nat}(hn:2000000≤n){a:Affine}(h:QA 1048576 a):mU n a a=some true:=by unfold mU;rw [aEP hn h];exact Ev.eq (aB rfl (bI (bV (fun h=>absurd rfl h) fun _=>Ev.some rfl)))
theorem aAv{n:Nat}(hn:2000000≤n){a:List Affine}(h:QAs 1048576 a):lG n a a=some true:=zF h.1 hn fun x hx=>aHT hn (h.2 x hx)
theorem aHU{n:Nat}(hn:2000000≤n){a:Access}(h:QC 1048576 a):mV n a a=some true:=by unfold mV;exact Ev.eq (bV (fun h=>absurd rfl h) fun _=>aB (aAv hn h.2) (Ev.some rfl))
theorem aK9{n:Nat}(hn:2000000≤n){a:Arr}(h:QR 1048576 a):sZ n a a=some true:=by unfold sZ;exact Ev.eq (bV (fun h=>absurd rfl h) fun _=>aB (aEP hn h.2) (Ev.some rfl))
theorem aEQ: ∀(m n:Nat) {e:Expr},2000000+m≤n→QE 1048576 m e→w_eqExpr n e e=some true
 |0,n,e,_,h=>h.elim
 |m+1,n,e,hn,h=>by
  obtain⟨n,rfl⟩: ∃j,n=j+1:=⟨n-1,by omega⟩
  obtain⟨h1,h2,h3,h4⟩:=h;have hk:yC n (w_eqExpr n) e.kids e.kids=some true:=zF h3 (by omega) fun k hk=>aEQ m n (by omega) (h4 k hk);unfold w_eqExpr;exact Ev.eq (bV (fun h=>absurd rfl h) fun _=>bV (fun h=>absurd rfl h) fun _=>aB (aHT (by omega) h1) (bI (aB (aHU (by omega) h2) (bI (aB hk (bI (Ev.some rfl)))))))
theorem aJx{m n:Nat}(hn:2000000+m≤n){s:Stmt}(h:QS 1048576 m s):vW n s s=some true:=by unfold vW;exact Ev.eq (aB (aHU (by omega) h.1) (bI (aB (aEQ m n hn h.2) (bI (Ev.some rfl)))))
theorem aMl{n:Nat}(hn:2000000≤n){l:Loop}(h:QL 1048576 l):vY n l l=some true:=by unfold vY;exact Ev.eq (aB (aAv hn h.1) (bI (aB (aAv hn h.2) (bI (Ev.some rfl)))))
theorem aJy{m n:Nat}(hn:2000000+m≤n){x:Part}(h:QPt 1048576 m x):vX n x x=some true:=by unfold vX;exact Ev.eq (aB (show yB n x.nest x.nest=some true from zF h.1.1 (by omega) fun l hl=>aMl (by omega) (h.1.2 l hl)) (bI (aB (show xZ n x.body x.body=some true from zF h.2.1 (by omega) fun s hs=>aJx hn (h.2.2 s hs)) (bI (Ev.some rfl)))))
theorem aEO{m n:Nat}(hn:2000000+m≤n){p:Prog}(h:QP 1048576 m p):dB n p p=some true:=by unfold dB;exact Ev.eq (aB (show uD n p.arrays p.arrays=some true from zF h.1.1 (by omega) fun x hx=>aK9 (by omega) (h.1.2 x hx)) (bI (aB (show yA n p.parts p.parts=some true from zF h.2.1 (by omega) fun x hx=>aJy hn (h.2.2 x hx)) (bI (Ev.some rfl)))))
theorem nT{n:Nat}(hn:2000000≤n){k:Int}(h0:0≤k)(h1:k≤1099511627776): ∃t,bZ n k=some t:=by
 have:Ev (bZ n k) (fun _=>True):=by
  unfold bZ;refine aK (fun _=>Ev.some trivial) fun _=>?_;refine Ev.loop (fun z:Int×List UInt8=> ∃j:Nat,z.2.length=j∧0≤z.1∧z.1≤1099511627776∧j≤13∧z.1<10^(13-j)) (fun z=>14-z.2.length) ?_ n _ ⟨0,rfl,h0,h1,by omega,Int.lt_of_le_of_lt h1 (by decide)⟩ (by dsimp only;omega);rintro again ⟨x1,x2⟩ ⟨j,hj,g0,g3,g1,g2⟩ hr;dsimp only at hj g0 g2 g3⊢;refine aK (fun hp=>?_) fun _=>aB (aH0 (by simp;omega)) (Ev.some trivial);have hj1:j<13:=by
   apply vAW;intro h;rw [show 13-j=0 by omega] at g2
   have:(10:Int)^0=1:=by decide
   omega
  refine aB (aH0 (by simp;omega)) ?_;rw [Int.tdiv_eq_ediv_of_nonneg g0,aN (by omega)];refine hr _ ⟨j+1,by simp [hj],by dsimp only;omega,by dsimp only;omega,by omega,?_⟩ (by simp;omega);dsimp only;have hpow:(10:Int)^(13-j)=10^(13-(j+1))*10:=by rw [←Int.pow_succ];congr 1;omega
  rw [hpow] at g2;exact Int.ediv_lt_of_lt_mul (by decide) g2
 obtain⟨t,h,_⟩:=this;exact⟨t,h⟩
def upF(k:Int)(m:Nat):List Int:=(List.range m).map fun i:Nat=>k+i
theorem nN(k:Int)(m:Nat):(upF k m).length=m:=by simp [upF]
theorem aIy{k:Int}{m i:Nat}(h:i<m):(upF k m)[i]? =some (k+i):=by simp [upF,h]
theorem aGh(k:Int)(m:Nat):upF k (m+1)=upF k m++[k+m]:=by simp [upF,List.range_succ]
theorem nU{n:Nat}(hn:2000000≤n){a:List Int}(ha:a.length≤1048576){k:Int}(h0:0≤k)(h1:k+a.length≤1099511627776):iU n a k=some (k+a.length,upF k a.length):=by
 unfold iU;refine Ev.eq (Ev.loop (fun z:Int×List Int×Int=> ∃j:Nat,z.2.2=j∧j≤a.length∧z.1=k+j∧z.2.1=upF k j++a.drop j) (fun z=>a.length-z.2.2.toNat) ?_ n _ ⟨0,rfl,by omega,by simp,by simp [upF]⟩ (by dsimp only;omega));rintro again ⟨k1,l,i⟩ ⟨j,rfl,hj,rfl,rfl⟩ hr;dsimp only;have hl:(upF k j++a.drop j).length=a.length:=by simp [nN];omega
 refine aK (fun hlt=>?_) fun hge=>?_
 ·have hlt:j<a.length:=by rw [hl] at hlt;omega
  refine aB (aS (dM (show j<_ by rw [hl];exact hlt))) (aB (eU (by rw [hl];omega) _) ?_);rw [aN (by omega),aN (by omega),vAG];refine hr _ ⟨j+1,by dsimp only;omega,by omega,by dsimp only;omega,?_⟩ (by dsimp only;omega);dsimp only;rw [vBg _ _ (by rw [nN];omega),nN,vBi,List.drop_eq_getElem_cons hlt,List.set_cons_zero,aGh,vAN];rfl
 have:j=a.length:=by rw [hl] at hge;omega
 subst this;exact Ev.some (by simp)
def HB{α:Type}(B:(Int×Int→Option Int)→α→Int→Int→Option Int)(k:Int)(y:α)(k':Int):Prop:= ∀(again:Int×Int→Option Int) (Q:Int→Prop) (j:Nat),j≤1048576→Ev (again (k',(j:Int)+1)) Q→Ev (B again y k j) Q
inductive Ch {α:Type} (H:Int→α→Int→Prop):Int→List α→Int→Prop
 |nil (k:Int):Ch H k [] k
 |cons {k k' k'':Int} {x:α} {l:List α} (h:H k x k') (t:Ch H k' l k''):Ch H k (x::l) k''
theorem Ch.snoc{α:Type}{H:Int→α→Int→Prop}{k k' k'':Int}{x:α}{l:List α}(t:Ch H k l k')(h:H k' x k''):Ch H k (l++[x]) k'':=by
 induction t with
 |nil k=>exact .cons h (.nil _)
 |cons g _ ih=>exact .cons g (ih h)
theorem mP{α:Type}{B:(Int×Int→Option Int)→α→Int→Int→Option Int}{l:List α}{n:Nat}{k k'':Int}(hn:2000000≤n)(hl:l.length≤1048576)(hc:Ch (HB B) k l k''):
  aM (fun again3 ((x1,x2):Int×Int)=>bif decide (x2<(l.length:Int)) then(Option.bind (ix l x2) fun x4=>B again3 x4 x1 x2) else(some x1)) n (k,0)=some k'':=by
 refine Ev.eq (Ev.loop (fun z:Int×Int=> ∃j:Nat,z.2=j∧j≤l.length∧Ch (HB B) z.1 (l.drop j) k'') (fun z=>l.length-z.2.toNat) ?_ n _ ⟨0,rfl,by omega,hc⟩ (by dsimp only;omega));rintro again ⟨k1,i⟩ ⟨j,rfl,hj,hc⟩ hr;dsimp only at hc⊢;refine aK (fun hlt=>?_) fun hge=>?_
 ·have hlt:j<l.length:=by omega
  refine aB (aS (dM hlt)) ?_;rw [List.drop_eq_getElem_cons hlt] at hc;cases hc with
  |cons h t=>exact h again _ j (by omega) (hr _ ⟨j+1,by dsimp only;omega,by omega,t⟩ (by dsimp only;omega))
 rw [List.drop_eq_nil_of_le (by omega)] at hc;cases hc;exact Ev.some rfl
theorem wX{n m:Nat}(hn:2000000≤n)(hm:m≤1048576){k:Int}(h0:0≤k)(h1:k+m≤1099511627776):dW n (upF k m) k=some (k+m):=by unfold dW;refine Ev.eq (Ev.loop (fun z:Int×Int=> ∃j:Nat,z.2=j∧j≤m∧z.1=k+j) (fun z=>m-z.2.toNat) ?_ n _ ⟨0,rfl,by omega,by simp⟩ (by dsimp only;omega));rintro again ⟨k1,i⟩ ⟨j,rfl,hj,rfl⟩ hr;dsimp only;rw [nN];refine aK (fun hlt=>?_) fun hge=>Ev.some (show k+(j:Int)=k+(m:Int) by omega);refine aB (aS (aIy (by omega))) (bV (fun h=>absurd rfl h) fun _=>?_);rw [aN (by omega),aN (by omega)];exact hr _ ⟨j+1,by dsimp only;omega,by omega,by dsimp only;omega⟩ (by dsimp only;omega)
def hbR(n:Nat)(again3:Int×Int→Option Int)(x4:Arr)(x1 x2:Int):Option Int:=Option.bind (bZ n x1) fun x5=>bif !decide (x4.name=x5) then some (-1) else(Option.bind (dW n x4.dims (wr (x1+1))) fun x6=>bif decide (x6<0) then some (-1) else(again3 (x6,wr (x2+1))))
theorem aMc{n:Nat}(hn:2000000≤n)(l:List Arr)(k k'':Int)(hl:l.length≤1048576)(hc:Ch (HB (hbR n)) k l k''):gX n l k=some k'':=by unfold gX;exact mP hn hl hc
def hbA(n:Nat)(again3:Int×Int→Option Int)(x4:Affine)(x1 x2:Int):Option Int:=Option.bind (dW n x4.coefs x1) fun x5=>bif decide (x5<0) then some (-1) else(bif !decide (x4.const=x5) then some (-1) else(again3 (wr (x5+1),wr (x2+1))))
theorem aMd{n:Nat}(hn:2000000≤n)(l:List Affine)(k k'':Int)(hl:l.length≤1048576)(hc:Ch (HB (hbA n)) k l k''):bO n l k=some k'':=by unfold bO;exact mP hn hl hc
def hbL(n:Nat)(again3:Int×Int→Option Int)(x4:Loop)(x1 x2:Int):Option Int:=Option.bind (bO n x4.lo x1) fun x5=>bif decide (x5<0) then some (-1) else(Option.bind (bO n x4.hi x5) fun x6=>bif decide (x6<0) then some (-1) else(again3 (x6,wr (x2+1))))
theorem aK1{n:Nat}(hn:2000000≤n)(l:List Loop)(k k'':Int)(hl:l.length≤1048576)(hc:Ch (HB (hbL n)) k l k''):gI n l k=some k'':=by unfold gI;exact mP hn hl hc
def hbE(n:Nat)(again3:Int×Int→Option Int)(x4:Expr)(x1 x2:Int):Option Int:=bif !decide (x4.kind=x1) then some (-1) else(bif !decide (x4.num=wr (x1+1)) then some (-1) else(Option.bind (dW n x4.index.coefs (wr ((wr (x1+1))+1))) fun x5=>bif decide (x5<0) then some (-1) else(bif !decide (x4.index.const=x5) then some (-1) else(Option.bind (bZ n (wr (x5+1))) fun x6=>bif !decide (x4.read.array=x6) then some (-1) else(Option.bind (bO n x4.read.subs (wr ((wr (x5+1))+1))) fun x7=>bif decide (x7<0) then some (-1) else(Option.bind (w_heldExprS n x4.kids x7) fun x8=>bif decide (x8<0) then some (-1) else(again3 (x8,wr (x2+1)))))))))
theorem aHg{n:Nat}(hn:2000000≤n)(l:List Expr)(k k'':Int)(hl:l.length≤1048576)(hc:Ch (HB (hbE n)) k l k''):w_heldExprS (n+1) l k=some k'':=by rw [w_heldExprS.eq_def];exact mP hn hl hc
def hbS(n:Nat)(again3:Int×Int→Option Int)(x4:Stmt)(x1 x2:Int):Option Int:=Option.bind (bZ n x1) fun x5=>bif !decide (x4.write.array=x5) then some (-1) else(Option.bind (bO n x4.write.subs (wr (x1+1))) fun x6=>bif decide (x6<0) then some (-1) else(bif !decide (x4.value.kind=x6) then some (-1) else(bif !decide (x4.value.num=wr (x6+1)) then some (-1) else(Option.bind (dW n x4.value.index.coefs (wr ((wr (x6+1))+1))) fun x7=>bif decide (x7<0) then some (-1) else(bif !decide (x4.value.index.const=x7) then some (-1) else(Option.bind (bZ n (wr (x7+1))) fun x8=>bif !decide (x4.value.read.array=x8) then some (-1) else(Option.bind (bO n x4.value.read.subs (wr ((wr (x7+1))+1))) fun x9=>bif decide (x9<0) then some (-1) else(Option.bind (w_heldExprS n x4.value.kids x9) fun x10=>bif decide (x10<0) then some (-1) else(again3 (x10,wr (x2+1)))))))))))
theorem aKZ{n:Nat}(hn:2000000≤n)(l:List Stmt)(k k'':Int)(hl:l.length≤1048576)(hc:Ch (HB (hbS n)) k l k''):gH n l k=some k'':=by unfold gH;exact mP hn hl hc
def hbP(n:Nat)(again3:Int×Int→Option Int)(x4:Part)(x1 x2:Int):Option Int:=Option.bind (gI n x4.nest x1) fun x5=>bif decide (x5<0) then some (-1) else(Option.bind (gH n x4.body x5) fun x6=>bif decide (x6<0) then some (-1) else(again3 (x6,wr (x2+1))))
theorem aK0{n:Nat}(hn:2000000≤n)(l:List Part)(k k'':Int)(hl:l.length≤1048576)(hc:Ch (HB (hbP n)) k l k''):jA n l k=some k'':=by unfold jA;exact mP hn hl hc
theorem qA{α:Type}{B:(Int×Int→Option Int)→α→Int→Int→Option Int}{Hh:List α→Int→Option Int}{a:List α}{n:Nat}{c:α→Nat}{k:Int}{F:(Int×List α×Int→Option (Int×List α))→Int×List α×Int→Option (Int×List α)}(hH: ∀(l:List α) (k k'':Int),l.length≤1048576→Ch (HB B) k l k''→Hh l k=some k'')(hn:2000000≤n)(ha:a.length≤1048576)(h0:0≤k)(h1:k+5*(kS c a:Nat)≤1099511627776)
  (hF: ∀(Q:Int×List α→Prop) (again:Int×List α×Int→Option (Int×List α)) (k':Int) (l:List α) (j:Nat) (x:α),l[j]? =some x→x∈a→j<l.length→j≤1048576→0≤k'→k'+5*(1+c x:Nat)≤1099511627776→
   (∀(k'':Int) (y:α),k'≤k''→k''≤k'+5*(1+c x:Nat)→HB B k' y k''→Ev (again (k'',l.set j y,(j:Int)+1)) Q)→Ev (F again (k',l,j)) Q)
  (hE: ∀(again:Int×List α×Int→Option (Int×List α)) (k':Int) (l:List α),F again (k',l,l.length)=some (k',l)):
  ∃r,aM F n (k,a,0)=some r∧k≤r.1∧r.1≤k+5*(kS c a:Nat)∧r.2.length=a.length∧
   Hh r.2 k=some r.1:=by
 suffices H:Ev (aM F n (k,a,0)) (fun r=>k≤r.1∧r.1≤k+5*(kS c a:Nat)∧r.2.length=a.length∧Ch (HB B) k r.2 r.1) by
  obtain⟨r,e1,e2,e3,e4,e5⟩:=H;exact⟨r,e1,e2,e3,e4,hH _ _ _ (by rw [e4];exact ha) e5⟩
 refine Ev.loop (fun z:Int×List α×Int=> ∃j:Nat,z.2.2=j∧j≤a.length∧z.2.1.length=a.length∧z.2.1.drop j=a.drop j∧k≤z.1∧z.1≤k+5*(j+((a.take j).map c).sum:Nat)∧Ch (HB B) k (z.2.1.take j) z.1) (fun z=>a.length-z.2.2.toNat) ?_ n _ ⟨0,rfl,by omega,rfl,rfl,S6 _,by simp,.nil _⟩ (by dsimp only;omega);rintro again ⟨k1,l,i⟩ ⟨j,rfl,hj,hl,hd,g0,g1,g2⟩ hr;dsimp only at hl hd g0 g1 g2;have htot: ∀i,((a.take i).map c).sum≤(a.map c).sum:=fun i=>by
  have:=congrArg (fun l=>(l.map c).sum) (vBA i a);simp only [List.map_append,List.sum_append] at this;omega
 by_cases hlt:j<a.length
 ·have hx:=dM hlt;generalize a[j]=x at hx;have hlx:l[j]? =some x:=by
   have e1:(l.drop j)[0]? =(a.drop j)[0]? :=by rw [hd]
   rw [N7,N7] at e1;simp only [Nat.add_zero] at e1;rw [e1];exact hx
  have hs:=V2 c hx;have ht:=htot (j+1);unfold kS at h1;refine hF _ again k1 l j x hlx (dF hx) (by omega) (by omega) (by omega) (by omega) fun k'' y b1 b2 b3=>?_;refine hr _ ⟨j+1,by dsimp only;omega,by omega,by simpa using hl,?_,by dsimp only;omega,by dsimp only;rw [hs];omega,?_⟩ (by dsimp only;omega);rotate_left
  ·dsimp only;rw [s5 (S5 (by omega)),List.take_set_of_le (lI _)];exact g2.snoc b3
  dsimp only;rw [List.drop_set_of_lt (by omega)]
  have:=congrArg (List.drop 1) hd;simpa [List.drop_drop,Nat.add_comm] using this
 have:j=l.length:=by omega
 subst this;rw [hE];rw [yD] at g2;refine Ev.some ⟨g0,?_,hl,g2⟩
 have:=htot l.length;dsimp only;unfold kS;omega
theorem aKM{n:Nat}(hn:2000000≤n){a:List Arr}(ha:a.length≤1048576)(h2: ∀x∈a,QR 1048576 x){k:Int}(h0:0≤k)(h1:k+5*(kS kR a:Nat)≤1099511627776):
  ∃r,lY n a k=some r∧k≤r.1∧r.1≤k+5*(kS kR a:Nat)∧r.2.length=a.length∧gX n r.2 k=some r.1:=by
 unfold lY;refine qA (Hh:=gX n) (aMc (by omega)) hn ha h0 h1 (fun Q again k' l j x hx hm hl hj g0 g1 hr=>?_) fun again k' l=>by dsimp only;rw [decide_eq_false (by omega)];rfl
 dsimp only;refine aK (fun _=>?_) fun h=>absurd hl (by omega);unfold kR at g1 hr;obtain⟨t,ht⟩:=nT hn g0 (by omega);refine aB (aS hx) (aB ht ?_);rw [aN (by omega),aN (by omega)];refine aB (nU hn (h2 x hm).2 (by omega) (by omega)) (aB (bJ (nN _ _)) (aB (eU (by omega) _) ?_));rw [vAG];refine hr _ _ (by omega) (by omega) fun ag Q j hj hq=>?_;unfold hbR;refine aB ht (bV (fun h=>absurd rfl h) fun _=>?_);rw [aN (n:=k'+1) (by omega)];refine aB (wX hn (h2 x hm).2 (by omega) (by omega)) (aK (fun h=>absurd h (by omega)) fun _=>?_);rw [aN (by omega)];exact hq
theorem H6{n:Nat}(hn:2000000≤n){a:List Affine}(ha:QAs 1048576 a){k:Int}(h0:0≤k)(h1:k+5*(kS kAX a:Nat)≤1099511627776):
  ∃r,dL n a k=some r∧k≤r.1∧r.1≤k+5*(kS kAX a:Nat)∧r.2.length=a.length∧bO n r.2 k=some r.1:=by
 unfold dL;refine qA (Hh:=bO n) (aMd (by omega)) hn ha.1 h0 h1 (fun Q again k' l j x hx hm hl hj g0 g1 hr=>?_) fun again k' l=>by dsimp only;rw [decide_eq_false (by omega)];rfl
 dsimp only;refine aK (fun _=>?_) fun h=>absurd hl (by omega);unfold kAX at g1 hr;refine aB (aS hx) (aB (nU hn (ha.2 x hm) g0 (by omega)) (aB (bJ (nN _ _)) (aB (eU (by omega) _) ?_)));rw [aN (by dsimp only;omega),aN (by omega),vAG];refine hr _ _ (by dsimp only;omega) (by dsimp only;omega) fun ag Q j hj hq=>?_;unfold hbA;refine aB (wX hn (ha.2 x hm) g0 (by omega)) (aK (fun h=>absurd h (by omega)) fun _=>bV (fun h=>absurd rfl h) fun _=>?_);rw [aN (by omega),aN (by omega)];exact hq
theorem aJi{n:Nat}(hn:2000000≤n){a:List Loop}(ha:a.length≤1048576)(h2: ∀x∈a,QL 1048576 x){k:Int}(h0:0≤k)(h1:k+5*(kS kL a:Nat)≤1099511627776):
  ∃r,nM n a k=some r∧k≤r.1∧r.1≤k+5*(kS kL a:Nat)∧r.2.length=a.length∧gI n r.2 k=some r.1:=by
 unfold nM;refine qA (Hh:=gI n) (aK1 (by omega)) hn ha h0 h1 (fun Q again k' l j x hx hm hl hj g0 g1 hr=>?_) fun again k' l=>by dsimp only;rw [decide_eq_false (by omega)];rfl
 dsimp only;refine aK (fun _=>?_) fun h=>absurd hl (by omega);unfold kL at g1 hr;obtain⟨p1,e1,b1,b2,b3,b4⟩:=H6 hn (h2 x hm).1 g0 (by omega);obtain⟨p2,e2,d1,d2,d3,d4⟩:=H6 hn (h2 x hm).2 (k:=p1.1) (by omega) (by omega);refine aB (aS hx) (aB e1 (aB (bJ b3) (aB e2 (aB (bJ d3) (aB (eU (by omega) _) ?_)))));rw [aN (by omega),vAG];refine hr _ _ (by omega) (by omega) fun ag Q j hj hq=>?_;unfold hbL;refine aB b4 (aK (fun h=>absurd h (by omega)) fun _=>aB d4 (aK (fun h=>absurd h (by omega)) fun _=>?_));rw [aN (by omega)];exact hq
theorem aEC: ∀(m n:Nat) {a:List Expr},2000001+m≤n→a.length≤1048576→(∀x∈a,QE 1048576 m x)→ ∀{k:Int},0≤k→k+5*(kS (kE m) a:Nat)≤1099511627776→
  ∃r,v_markExprS n a k=some r∧k≤r.1∧r.1≤k+5*(kS (kE m) a:Nat)∧r.2.length=a.length∧w_heldExprS n r.2 k=some r.1
 |0,n,a,hn,ha,h2,k,h0,h1=>by
  obtain⟨n,rfl⟩: ∃j,n=j+1:=⟨n-1,by omega⟩
  rw [v_markExprS.eq_def];dsimp only;exact qA (Hh:=w_heldExprS (n+1)) (aHg (by omega)) (by omega) ha h0 h1 (fun Q again k' l j x hx hm hl hj g0 g1 hr=>(h2 x hm).elim) (fun again k' l=>by dsimp only;rw [decide_eq_false (by omega)];rfl)
 |m+1,n,a,hn,ha,h2,k,h0,h1=>by
  obtain⟨n,rfl⟩: ∃j,n=j+1:=⟨n-1,by omega⟩
  have hn':2000000≤n:=by omega
  rw [v_markExprS.eq_def];dsimp only;refine qA (Hh:=w_heldExprS (n+1)) (aHg (by omega)) (by omega) ha h0 h1 (fun Q again k' l j x hx hm hl hj g0 g1 hr=>?_) fun again k' l=>by dsimp only;rw [decide_eq_false (by omega)];rfl
  dsimp only;refine aK (fun _=>?_) fun h=>absurd hl (by omega);obtain⟨q1,q2,q3,q4⟩:=h2 x hm;unfold kE kAX kC at g1 hr;refine aB (aS hx) ?_;rw [aN (n:=k'+1) (by omega),aN (n:=k'+1+1) (by omega)];refine aB (nU hn' q1 (by omega) (by omega)) (aB (bJ (nN _ _)) ?_);dsimp only;generalize hu:x.index.coefs.length=u at g1 hr;rw [aN (n:=k'+1+1+(u:Int)+1) (by omega)];obtain⟨t,ht⟩:=nT hn' (k:=k'+1+1+(u:Int)+1) (by omega) (by omega);refine aB ht ?_;rw [aN (n:=k'+1+1+(u:Int)+1+1) (by omega)];obtain⟨p1,e1,b1,b2,b3,b4⟩:=H6 hn' q2.2 (k:=k'+1+1+(u:Int)+1+1) (by omega) (by omega);obtain⟨p2,e2,d1,d2,d3,d4⟩:=aEC m n (by omega) q3 q4 (k:=p1.1) (by omega) (by omega);refine aB e1 (aB (bJ b3) (aB e2 (aB (bJ d3) (aB (eU (by omega) _) ?_))));rw [aN (by omega),vAG];refine hr _ _ (by omega) (by omega) fun ag Q j hj hq=>?_;unfold hbE;refine bV (fun h=>absurd rfl h) fun _=>?_;rw [aN (n:=k'+1) (by omega)];refine bV (fun h=>absurd rfl h) fun _=>?_;rw [aN (n:=k'+1+1) (by omega)];refine aB (wX hn' (hu▸q1) (by omega) (by omega)) (aK (fun h=>absurd h (by omega)) fun _=>bV (fun h=>absurd rfl h) fun _=>?_);rw [aN (n:=k'+1+1+(u:Int)+1) (by omega)];refine aB ht (bV (fun h=>absurd rfl h) fun _=>?_);rw [aN (n:=k'+1+1+(u:Int)+1+1) (by omega)];refine aB b4 (aK (fun h=>absurd h (by omega)) fun _=>aB d4 (aK (fun h=>absurd h (by omega)) fun _=>?_));rw [aN (by omega)];exact hq
theorem aJg{m n:Nat}(hn:2000001+m≤n){a:List Stmt}(ha:a.length≤1048576)(h2: ∀x∈a,QS 1048576 m x){k:Int}(h0:0≤k)(h1:k+5*(kS (kSt m) a:Nat)≤1099511627776):
  ∃r,nL n a k=some r∧k≤r.1∧r.1≤k+5*(kS (kSt m) a:Nat)∧r.2.length=a.length∧gH n r.2 k=some r.1:=by
 have hn':2000000≤n:=by omega
 unfold nL;refine qA (Hh:=gH n) (aKZ (by omega)) hn' ha h0 h1 (fun Q again k' l j x hx hm hl hj g0 g1 hr=>?_) fun again k' l=>by dsimp only;rw [decide_eq_false (by omega)];rfl
 dsimp only;refine aK (fun _=>?_) fun h=>absurd hl (by omega);obtain⟨w1,w2⟩:=h2 x hm;cases m with
 |zero=>exact w2.elim
 |succ m=>
  obtain⟨q1,q2,q3,q4⟩:=w2;unfold kSt kE kAX kC at g1 hr;obtain⟨t,ht⟩:=nT hn' g0 (by omega);refine aB (aS hx) (aB ht ?_);rw [aN (n:=k'+1) (by omega)];obtain⟨p0,e0,c1,c2,c3,c4⟩:=H6 hn' w1.2 (k:=k'+1) (by omega) (by omega);refine aB e0 (aB (bJ c3) ?_);rw [aN (n:=p0.1+1) (by omega),aN (n:=p0.1+1+1) (by omega)];refine aB (nU hn' q1 (by omega) (by omega)) (aB (bJ (nN _ _)) ?_);dsimp only;generalize hu:x.value.index.coefs.length=u at g1 hr;rw [aN (n:=p0.1+1+1+(u:Int)+1) (by omega)];obtain⟨t2,ht2⟩:=nT hn' (k:=p0.1+1+1+(u:Int)+1) (by omega) (by omega);refine aB ht2 ?_;rw [aN (n:=p0.1+1+1+(u:Int)+1+1) (by omega)];obtain⟨p1,e1,b1,b2,b3,b4⟩:=H6 hn' q2.2 (k:=p0.1+1+1+(u:Int)+1+1) (by omega) (by omega);obtain⟨p2,e2,d1,d2,d3,d4⟩:=aEC m n (by omega) q3 q4 (k:=p1.1) (by omega) (by omega);refine aB e1 (aB (bJ b3) (aB e2 (aB (bJ d3) (aB (eU (by omega) _) ?_))));rw [aN (by omega),vAG];refine hr _ _ (by omega) (by omega) fun ag Q j hj hq=>?_;unfold hbS;refine aB ht (bV (fun h=>absurd rfl h) fun _=>?_);rw [aN (n:=k'+1) (by omega)];refine aB c4 (aK (fun h=>absurd h (by omega)) fun _=>?_);refine bV (fun h=>absurd rfl h) fun _=>?_;rw [aN (n:=p0.1+1) (by omega)];refine bV (fun h=>absurd rfl h) fun _=>?_;rw [aN (n:=p0.1+1+1) (by omega)];refine aB (wX hn' (hu▸q1) (by omega) (by omega)) (aK (fun h=>absurd h (by omega)) fun _=>bV (fun h=>absurd rfl h) fun _=>?_);rw [aN (n:=p0.1+1+1+(u:Int)+1) (by omega)];refine aB ht2 (bV (fun h=>absurd rfl h) fun _=>?_);rw [aN (n:=p0.1+1+1+(u:Int)+1+1) (by omega)];refine aB b4 (aK (fun h=>absurd h (by omega)) fun _=>aB d4 (aK (fun h=>absurd h (by omega)) fun _=>?_));rw [aN (by omega)];exact hq
theorem aJh{m n:Nat}(hn:2000001+m≤n){a:List Part}(ha:a.length≤1048576)(h2: ∀x∈a,QPt 1048576 m x){k:Int}(h0:0≤k)(h1:k+5*(kS (kPt m) a:Nat)≤1099511627776):
  ∃r,lH n a k=some r∧k≤r.1∧r.1≤k+5*(kS (kPt m) a:Nat)∧r.2.length=a.length∧jA n r.2 k=some r.1:=by
 unfold lH;refine qA (Hh:=jA n) (aK0 (by omega)) (by omega) ha h0 h1 (fun Q again k' l j x hx hm hl hj g0 g1 hr=>?_) fun again k' l=>by dsimp only;rw [decide_eq_false (by omega)];rfl
 dsimp only;refine aK (fun _=>?_) fun h=>absurd hl (by omega);unfold kPt at g1 hr;obtain⟨p1,e1,b1,b2,b3,b4⟩:=aJi (n:=n) (by omega) (h2 x hm).1.1 (h2 x hm).1.2 g0 (by omega);obtain⟨p2,e2,d1,d2,d3,d4⟩:=aJg hn (h2 x hm).2.1 (h2 x hm).2.2 (k:=p1.1) (by omega) (by omega);refine aB (aS hx) (aB e1 (aB (bJ b3) (aB e2 (aB (bJ d3) (aB (eU (by omega) _) ?_)))));rw [aN (by omega),vAG];refine hr _ _ (by omega) (by omega) fun ag Q j hj hq=>?_;unfold hbP;refine aB b4 (aK (fun h=>absurd h (by omega)) fun _=>aB d4 (aK (fun h=>absurd h (by omega)) fun _=>?_));rw [aN (by omega)];exact hq
theorem aG2{m n:Nat}(hn:2000001+m≤n){p:Prog}(h:QP 1048576 m p){k:Int}(h0:0≤k)(h1:k+5*(kP m p:Nat)≤1099511627776): ∃r,eP n p k=some r∧k≤r.1∧r.1≤k+5*(kP m p:Nat)∧r.2.1.length=p.arrays.length∧r.2.2.length=p.parts.length∧eO n ⟨r.2.1,r.2.2⟩ k=some r.1:=by
 unfold kP at h1;obtain⟨p1,e1,b1,b2,b3,b4⟩:=aKM (n:=n) (by omega) h.1.1 h.1.2 h0 (by omega);obtain⟨p2,e2,d1,d2,d3,d4⟩:=aJh hn h.2.1 h.2.2 (k:=p1.1) (by omega) (by omega);refine⟨(p2.1,p1.2,p2.2),?_,by dsimp only;omega,by dsimp only;unfold kP;omega,b3,d3,?_⟩;rotate_left
 ·unfold eO;exact Ev.eq (aB b4 (aK (fun h=>absurd h (by omega)) fun _=>aB d4 (aK (fun h=>absurd h (by omega)) fun _=>Ev.some rfl)))
 unfold eP;rw [e1];show Option.bind (lH n p.parts p1.1) _=_;rw [e2];rfl
def aDm(n:Nat)(aP:Prog)(S I:Prog→Option (Prog×Bool)):Option Bool:=(
 Option.bind (nK n aP 1048576) fun x1=>
 bif decide (x1<0) then(
  some true
 ) else(
  Option.bind (dA n aP) fun x2=>
  Option.bind (S x2) fun x3=>
  Option.bind (dA n aP) fun x4=>
  Option.bind (I x4) fun x5=>
  jn (fun(x8:Bool)=>
   bif x8 then(
    some false
   ) else(
    Option.bind (dA n aP) fun x9=>
    Option.bind (dB n x4 x9) fun x10=>
    bif !x10 then(
     some false
    ) else(
     Option.bind (eP n x4 1) fun x11=>
     jn (fun(x14:Bool)=>
      bif x14 then(
       some false
      ) else(
       Option.bind (eP n x5.1 1) fun x15=>
       Option.bind (bQ x5.1.arrays x15.2.1) fun _=>
       Option.bind (bQ x5.1.parts x15.2.2) fun _=>
       Option.bind (eO n (⟨x15.2.1,x15.2.2⟩:Prog) 1) fun x16=>
       bif decide (x16<0) then(
        some false
       ) else(
        bif !decide (x16=x15.1) then(
         some false
        ) else(
         Option.bind (dA n aP) fun x17=>
         Option.bind (I x17) fun x18=>
         jn (fun(x21:Bool)=>
          bif x21 then(
           some false
          ) else(
           Option.bind (eO n (⟨x15.2.1,x15.2.2⟩:Prog) 1) fun x22=>
           bif decide (x22<0) then(
            some false
           ) else(
            bif !decide (x22=x15.1) then(
             some false
            ) else(
             some true
            )
           )
          )
         ) (fun j19=>
          Option.bind (dB n x18.1 x3.1) fun x20=>
          bif !x20 then(
           j19 true
          ) else(
           j19 (!(x18.2==x3.2))
          )
         )
        )
       )
      )
     ) (fun j12=>
      bif decide (x11.1<0) then(
       j12 true
      ) else(
       Option.bind (dB n x5.1 x3.1) fun x13=>
       bif !x13 then(
        j12 true
       ) else(
        j12 (!(x5.2==x3.2))
       )
      )
     )
    )
   )
  ) (fun j6=>
   Option.bind (dB n x5.1 x3.1) fun x7=>
   bif !x7 then(
    j6 true
   ) else(
    j6 (!(x5.2==x3.2))
   )
  )
 ))
theorem aJR{a:Affine}(h:bM a=true):QA 4 a:=by have:=(jT h).1;unfold QA;omega
theorem aCT{l:List Affine}(h1:l.length≤2)(h2: ∀x∈l,bM x=true):QAs 4 l:=⟨by omega,fun a ha=>aJR (h2 a ha)⟩
theorem aJS{s:List UInt8}(h:lQ s=true):s.length≤4:=by
 by_cases hl:s.length=1
 ·omega
 rw [pZ hl] at h;cases h
theorem aJQ{a:Access}{d:Int}(h:fK a d=true):QC 4 a:=⟨aJS (by simp only [fK,Bool.and_eq_true] at h;exact h.2.1),aCT (q5 h).2.1 (q5 h).2.2⟩
theorem aJP{d:Int}: ∀{L:Nat} {e:Expr},dC L e d=true→QE 4 L e
 |0,_,h=>by cases h
 |L+1,e,h=>by
  obtain⟨hk,ho,hs⟩:=jG h
  have:=jP e.kind;refine⟨?_,?_,by omega,fun k hk=>aJP (hs k hk)⟩
  ·by_cases h2:e.kind=2
   ·exact aJR (rY ho h2).1
   by_cases h3:e.kind=3
   ·rw [o0 (rX ho h3).2];unfold QA;simp
   rw [o0 (G6 ho h2 h3).1];unfold QA;simp
  by_cases h3:e.kind=3
  ·exact aJQ (rX ho h3).1
  by_cases h2:e.kind=2
  ·rw [o1 (rY ho h2).2];exact⟨by simp,by simp,fun x hx=>by cases hx⟩
  rw [o1 (G6 ho h2 h3).2];exact⟨by simp,by simp,fun x hx=>by cases hx⟩
theorem aL0{p:Prog}(h:iH p=true):QP 4 5 p:=by
 have ha:fN p.arrays=true:=by
  simp only [iH,pK,Bool.and_eq_true] at h;exact h.1.1
 obtain⟨h1,h2,h3,h4,_⟩:=Z8 h;refine⟨⟨h1,fun x hx=>⟨?_,?_⟩⟩,h3,fun x hx=>?_⟩
 ·obtain⟨i,hi⟩:=vAB hx
  have:=uU (show yY (B7 p.arrays) p.arrays=true by simp only [fN,Bool.and_eq_true] at ha;exact ha.1) hi;simp only [B7,Bool.and_eq_true] at this;exact aJS this.1
 ·have:=h2 x hx;simp only [iI,Bool.and_eq_true,decide_eq_true_eq] at this;omega
 obtain⟨g1,g2⟩:=pW (h4 x hx);obtain⟨_,g4,g5,_⟩:=lK (h4 x hx);exact⟨⟨g1,fun l hl=>⟨aCT (g2 l hl).1.1 (g2 l hl).1.2,aCT (g2 l hl).2.1 (g2 l hl).2.2⟩⟩,g4.2,fun s hs=>by obtain⟨a,b,_⟩:=rG (g5 s hs);exact⟨aJQ a,aJP b⟩⟩
theorem aKa{B C:Nat}(h:B≤C){a:Affine}(k:QA B a):QA C a:=s4 k h
theorem aEd{B C:Nat}(h:B≤C){l:List Affine}(k:QAs B l):QAs C l:=⟨s4 k.1 h,fun a ha=>aKa h (k.2 a ha)⟩
theorem aJ9{B C:Nat}(h:B≤C){a:Access}(k:QC B a):QC C a:=⟨s4 k.1 h,aEd h k.2⟩
theorem aIc{B C:Nat}(h:B≤C): ∀{m:Nat} {e:Expr},QE B m e→QE C m e
 |0,_,k=>k.elim
 |m+1,e,⟨a,b,c,d⟩=>⟨aKa h a,aJ9 h b,s4 c h,fun k hk=>aIc h (d k hk)⟩
theorem aMq{B C m:Nat}(h:B≤C){p:Prog}(k:QP B m p):QP C m p:=⟨⟨s4 k.1.1 h,fun x hx=>⟨s4 (k.1.2 x hx).1 h,s4 (k.1.2 x hx).2 h⟩⟩,s4 k.2.1 h,fun x hx=>by obtain⟨⟨a,b⟩,c,d⟩:=k.2.2 x hx;exact⟨⟨s4 a h,fun l hl=>⟨aEd h (b l hl).1,aEd h (b l hl).2⟩⟩,s4 c h,fun s hs=>⟨aJ9 h (d s hs).1,aIc h (d s hs).2⟩⟩⟩
theorem V4{α:Type}{c:α→Nat}{C:Nat}: ∀{l:List α},l.length≤4→(∀x∈l,c x≤C)→kS c l≤4+4*C:=by
 intro l h1 h2
 have: ∀l:List α,(∀x∈l,c x≤C)→(l.map c).sum≤l.length*C:=by
  intro l;induction l with
  |nil=>intro _;simp
  |cons x l ih=>
   intro h;have a:=h x yF;have b:=ih fun y hy=>h y (uF _ hy);simp only [List.map_cons,List.sum_cons,List.length_cons,Nat.add_mul];omega
 have h3:=this l h2;have h4:l.length*C≤4*C:=lU _ h1;unfold kS;omega
theorem aEF{l:List Affine}(h:QAs 4 l):kS kAX l≤20:=V4 (C:=4) h.1 h.2
theorem aJW: ∀{m:Nat} {e:Expr},QE 4 m e→kE m e≤100*5^m
 |0,_,h=>h.elim
 |m+1,e,⟨a,b,c,d⟩=>by have h1:=aEF b.2;have h2:kS (kE m) e.kids≤4+4*(100*5^m):=V4 c fun k hk=>aJW (d k hk);have h3:0<5^m:=Nat.pow_pos (by omega);have h4:kAX e.index≤4:=a;unfold kE kC;rw [Nat.pow_succ];omega
theorem aL7{p:Prog}(h:QP 4 5 p):kP 5 p≤1000000000:=by
 have h1:=V4 (c:=kR) (C:=4) h.1.1 fun x hx=>(h.1.2 x hx).2;have h2:=V4 (c:=kPt 5) (C:=4+4*40+(4+4*312520)) h.2.1 (fun x hx=>by
  obtain⟨⟨a,b⟩,c,d⟩:=h.2.2 x hx;have e1:=V4 (c:=kL) (C:=40) a (fun l hl=>by
   have:=aEF (b l hl).1
   have:=aEF (b l hl).2;unfold kL;omega)
  have e2:=V4 (c:=kSt 5) (C:=312520) c (fun s hs=>by
   have:=aEF (d s hs).1.2
   have:=aJW (d s hs).2;have e:100*5^5=312500:=by decide
   unfold kSt kC;omega)
  unfold kPt;omega)
 unfold kP;omega
theorem aMM{m n:Nat}{e:Expr}(hn:6600000+m≤n)(h:QE 1048576 m e):s_l16OwnExpr n e=some e:=by
 obtain⟨n,rfl⟩: ∃j,n=j+1:=⟨n-1,by omega⟩
 have: ∀{m:Nat} {e:Expr},QE 1048576 m e→BE 1100000 m e:=by
  intro m;induction m with
  |zero=>intro e h;exact h.elim
  |succ m ih=>
   rintro e ⟨a,b,c,d⟩;exact⟨by omega,s4 a (by omega),⟨s4 b.2.1 (by omega),fun x hx=>s4 (b.2.2 x hx) (by omega)⟩,fun k hk=>ih (d k hk)⟩
 exact uO m n e (by omega) (this h)
theorem aML{m n:Nat}(hn:6600000+m≤n){p:Prog}(h:QP 1048576 m p):eB n p=some p:=by
 obtain⟨⟨h1,h2⟩,h3,h4⟩:=h;have ha: ∀{l:List Affine},QAs 1048576 l→cB n l=some l:=fun h=>pY (by omega) ⟨s4 h.1 (by omega),fun x hx=>s4 (h.2 x hx) (by omega)⟩;have e1:dG n p.arrays=some p.arrays:=by
  unfold dG;refine Ev.eq (fW (K:=fun x1=>some x1) (fun l hl=>?_) (by omega) (by omega) (Ev.some rfl));unfold kW;rw [dE _ (by have:=(h2 l hl).2;omega)];rfl
 have e2:dS n p.parts=some p.parts:=by
  unfold dS;refine Ev.eq (fW (K:=fun x1=>some x1) (fun x hx=>?_) (by omega) (by omega) (Ev.some rfl));obtain⟨⟨a,b⟩,c,d⟩:=h4 x hx;have f1:dT n x.nest=some x.nest:=by
   unfold dT;refine Ev.eq (fW (K:=fun x1=>some x1) (fun l hl=>?_) (by omega) (by omega) (Ev.some rfl));unfold l3;rw [ha (b l hl).1,ha (b l hl).2];rfl
  have f2:dR n x.body=some x.body:=by
   unfold dR;refine Ev.eq (fW (K:=fun x1=>some x1) (fun s hs=>?_) (by omega) (by omega) (Ev.some rfl));have g:dX n s.write=some s.write:=by
    unfold dX;rw [ha (d s hs).1.2];rfl
   unfold jH;rw [g,aMM hn (d s hs).2];rfl
  unfold jI;rw [f1,f2];rfl
 unfold eB;rw [e1,e2];rfl
theorem aFM{n:Nat}(hn:7700000≤n){p:Prog}(hp:SmP p)(hv:iH p=false)(part loop:Int):l9 n p part loop=some (⟨[],[]⟩,false):=by unfold l9;refine Ev.eq (Ev.jn (fun z=>z=true) (fun j hj=>aB (gE hn hp) ?_) fun z hz=>by subst hz;exact b8 (Ev.some rfl));rw [hv];exact b8 (hj _ rfl)
theorem aJs{n:Nat}(hn:7700000≤n){p:Prog}(hp:SmP p)(hv:iH p=false)(part loop:Int):s8 n p part loop=some false:=by unfold s8;refine Ev.eq (Ev.jn (fun z=>z=false) (fun j hj=>aB (jJ hn hp) ?_) fun z hz=>Ev.some hz);rw [hv];exact bI (hj _ rfl)
def FinP(r:Prog×Bool):Prop:=r=(⟨[],[]⟩,false)∨ ∃q,r=aBI q
theorem FinP.qp{r:Prog×Bool}(h:FinP r):QP 4 5 r.1:=by
 have h0:QP 4 5 ⟨[],[]⟩:=⟨⟨by simp,fun x hx=>by cases hx⟩,by simp,fun x hx=>by cases hx⟩
 rcases h with rfl|⟨q,rfl⟩
 ·exact h0
 unfold aBI;split
 ·rename_i hv;exact aL0 hv
 exact h0
theorem J7{m n:Nat}(hn:20000001+m≤n){p:Prog}(hp:QP 9223372036854775807 m p){S I:Prog→Option (Prog×Bool)}{res:Prog×Bool}(hr:FinP res)(hS:QP 1048576 m p→S p=some res)(hI:QP 1048576 m p→I p=some res):aDm n p S I=some true:=by
 have hq:=aMq (C:=1048576) (by omega) hr.qp;have hkb:=aL7 hr.qp;obtain⟨r,e,hr⟩:=aIY (n:=n) (by omega) hp 1048576 (by omega) (by omega);unfold aDm;refine Ev.eq (aB e ?_);rcases hr with rfl|⟨h0,hc,hb⟩
 ·exact aK (fun _=>Ev.some rfl) fun h=>absurd h (by decide)
 have ht:=aIV (n:=n) (by omega) hb;have hs:=hS hb;have hi:=hI hb;obtain⟨q,hq1,q1,q2,_,_,_⟩:=aG2 (n:=n) (m:=m) (by omega) hb (k:=1) (by omega) (by omega);obtain⟨u,hu,u1,u2,l1,l2,hh⟩:=aG2 (n:=n) (m:=5) (by omega) hq (k:=1) (by omega) (by omega);have heq:=aEO (n:=n) (m:=5) (by omega) hq;refine aK (fun h=>absurd h (by omega)) fun _=>aB ht (aB hs (aB ht (aB hi ?_)));refine Ev.jn (fun z=>z=false) (fun j hj=>aB heq (bI (hj _ (by simp)))) fun z hz=>?_;subst hz;refine bI (aB ht (aB (aEO (by omega) hb) (bI (aB hq1 ?_))));refine Ev.jn (fun z=>z=false) (fun j hj=>aK (fun h=>absurd h (by omega)) fun _=>aB heq (bI (hj _ (by simp)))) fun z hz=>?_;subst hz;refine bI (aB hu (aB (bJ l1) (aB (bJ l2) (aB hh (aK (fun h=>absurd h (by omega)) fun _=>bV (fun h=>absurd rfl h) fun _=>aB ht (aB hi ?_))))));refine Ev.jn (fun z=>z=false) (fun j hj=>aB heq (bI (hj _ (by simp)))) fun z hz=>?_;subst hz;exact bI (aB hh (aK (fun h=>absurd h (by omega)) fun _=>bV (fun h=>absurd rfl h) fun _=>Ev.some rfl))
theorem aCL(p:Prog)(part loop s:Int):FinP (yI p part loop s):=by
 unfold yI aAe
 repeat' split
 all_goals first|exact .inl rfl|exact .inr ⟨_,rfl⟩
theorem uY{m:Nat}{p:Prog}(hp:QP 9223372036854775807 m p)(part loop s:Int):mW (30000000+m) p part loop s=some true:=by
 show aDm (30000000+m) p (fun x=>jC (30000000+m) x part loop s) (fun x=>fJ (30000000+m) x part loop s)=some true;cases hv:iH p with
 |true=>exact J7 (by omega) hp (aCL p part loop s) (fun hq=>aCP (by omega) ((aJ4 hv).mono (by omega)) part loop s) (fun hq=>aDj (by omega) ((aJ4 hv).mono (by omega)) part loop s)
 |false=>
  refine J7 (by omega) hp (.inl rfl) (fun hq=>?_) fun hq=>?_
  ·have hs:=aJ7 hq;unfold jC;exact Ev.eq (aB (aML (by omega) hq) (Ev.jn (fun z=>z=true) (fun j hj=>aB (aJs (by omega) hs hv _ _) (b8 (hj _ rfl))) fun z hz=>by subst hz;exact b8 (Ev.some rfl)))
  have hs:=aJ7 hq;unfold fJ;exact Ev.eq (aB (aFM (by omega) hs hv _ _) (bI (Ev.some rfl)))
end Go.Lift
