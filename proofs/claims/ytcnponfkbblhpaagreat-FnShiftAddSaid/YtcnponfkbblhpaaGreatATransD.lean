/- Moving the variable of a loop by an affine expression: shifts and skews. -/
import Derived.Test.YtcnponfkbblhpaaGreatATransC
set_option maxRecDepth 100000
set_option linter.unusedVariables false
namespace Go.Lift
open Go
def iP(a:Affine)(k:Int)(b:Affine):Affine:=⟨List.zipWith (fun x y=>x+k*y) a.coefs b.coefs,a.const+k*b.const⟩
def qW(k:Nat):Affine:=⟨[0,0,0,0].set k 1,0⟩
def fB(k:Nat)(b x:Affine):Affine:=iP x (-(x.coefs.getD k 0)) b
def bB(m:Int)(a:Affine):Prop:=a.coefs.length=4∧oO m a.const∧ ∀c∈a.coefs,oO m c
theorem bB.mono{m m':Int}{a:Affine}(h:bB m a)(hm:m≤m'):bB m' a:=⟨h.1,⟨by have:=h.2.1.1;omega,by have:=h.2.1.2;omega⟩,fun c hc=>⟨by have:=(h.2.2 c hc).1;omega,by have:=(h.2.2 c hc).2;omega⟩⟩
theorem J6{l:List Int}(h:l.length=4): ∃a b c d,l=[a,b,c,d]:=by
 match l,h with
 | [a,b,c,d],_=>exact⟨a,b,c,d,rfl⟩
theorem xR{a:Affine}(h:bH a=true):bB 99 a:=by
 obtain⟨h1,h2,h3⟩:=iV h
 exact⟨h1,h2,fun c hc=>⟨by have:=(h3 c hc).1;omega,by have:=(h3 c hc).2;omega⟩⟩
theorem aFY{k:Nat}(hk:k<4):bB 6 (qW k):=by
 rcases(show k=0∨k=1∨k=2∨k=3 by omega) with rfl|rfl|rfl|rfl<;>(unfold bB oO qW;simp)
theorem uA{k b:Int}(hk:oO 1000 k)(hb:oO 1000 b):oO 1000000 (k*b):=aCD (by omega) (by omega) hk hb
theorem wrB{a x:Int}(ha:oO 1000 a)(hx:oO 1000000 x):wr (a+wr x)=a+x:=by
 unfold oO at ha hx
 rw [aP (n:=x) (by omega),aP (by omega)]
theorem aHX(m:Nat)(a0 a1 a2 a3 ac k b0 b1 b2 b3 bc:Int):O3 (m+6) ⟨[a0,a1,a2,a3],ac⟩ k ⟨[b0,b1,b2,b3],bc⟩=
  some ⟨[wr (a0+wr (k*b0)),wr (a1+wr (k*b1)),wr (a2+wr (k*b2)),wr (a3+wr (k*b3))],wr (ac+wr (k*bc))⟩:=by kernel_rfl
theorem Z9{n:Nat}(hn:5000≤n){a b:Affine}(ha:bB 1000 a)(hb:bB 1000 b){k:Int}(hk:oO 1000 k):O3 n a k b=some (iP a k b):=by
 obtain⟨m,rfl⟩: ∃m,n=m+6:=⟨n-6,by omega⟩
 obtain⟨ac,a⟩:=a
 obtain⟨bc,b⟩:=b
 obtain⟨h1,h2,h3⟩:=ha
 obtain⟨g1,g2,g3⟩:=hb
 dsimp only at h1 h2 h3 g1 g2 g3
 obtain⟨a0,a1,a2,a3,rfl⟩:=J6 h1
 obtain⟨b0,b1,b2,b3,rfl⟩:=J6 g1
 rw [aHX,wrB (h3 a0 (by simp)) (uA hk (g3 b0 (by simp))),wrB (h3 a1 (by simp)) (uA hk (g3 b1 (by simp))),wrB (h3 a2 (by simp)) (uA hk (g3 b2 (by simp))),wrB (h3 a3 (by simp)) (uA hk (g3 b3 (by simp))),wrB h2 (uA hk g2)]
 rfl
def aH8(a:Affine)(x:Int)(b:Affine)(y:Int):Affine:=⟨List.zipWith (fun p q=>x*p+y*q) a.coefs b.coefs,x*a.const+y*b.const⟩
theorem aHI(m:Nat)(a0 a1 a2 a3 ac x b0 b1 b2 b3 bc y:Int):bV (m+6) ⟨[a0,a1,a2,a3],ac⟩ x ⟨[b0,b1,b2,b3],bc⟩ y=
  some ⟨[wr (wr (x*a0)+wr (y*b0)),wr (wr (x*a1)+wr (y*b1)),wr (wr (x*a2)+wr (y*b2)),wr (wr (x*a3)+wr (y*b3))],wr (wr (x*ac)+wr (y*bc))⟩:=by kernel_rfl
theorem wrC{a x:Int}(ha:oO 1000000 a)(hx:oO 1000000 x):wr (wr a+wr x)=a+x:=by
 unfold oO at ha hx
 rw [aP (n:=x) (by omega),aP (n:=a) (by omega),aP (by omega)]
theorem A1{n:Nat}(hn:5000≤n){a b:Affine}(ha:bB 1000 a)(hb:bB 1000 b){x y:Int}(hx:oO 1000 x)(hy:oO 1000 y):bV n a x b y=some (aH8 a x b y):=by
 obtain⟨m,rfl⟩: ∃m,n=m+6:=⟨n-6,by omega⟩
 obtain⟨ac,a⟩:=a
 obtain⟨bc,b⟩:=b
 obtain⟨h1,h2,h3⟩:=ha
 obtain⟨g1,g2,g3⟩:=hb
 dsimp only at h1 h2 h3 g1 g2 g3
 obtain⟨a0,a1,a2,a3,rfl⟩:=J6 h1
 obtain⟨b0,b1,b2,b3,rfl⟩:=J6 g1
 rw [aHI,wrC (uA hx (h3 a0 (by simp))) (uA hy (g3 b0 (by simp))),wrC (uA hx (h3 a1 (by simp))) (uA hy (g3 b1 (by simp))),wrC (uA hx (h3 a2 (by simp))) (uA hy (g3 b2 (by simp))),wrC (uA hx (h3 a3 (by simp))) (uA hy (g3 b3 (by simp))),wrC (uA hx h2) (uA hy g2)]
 rfl
theorem U6(a b:Affine)(k:Int):aH8 a 1 b k=iP a k b:=by
 unfold aH8 iP
 simp only [Int.one_mul]
theorem aId(a b:Affine)(k:Int)(ha:a.coefs.length=4)(hb:b.coefs.length=4):(iP a k b).coefs.length=4:=by
 unfold iP
 rw [List.length_zipWith];omega
def aGj(a:Affine)(k:Nat)(b:Affine):Affine:=iP ⟨a.coefs.set k 0,a.const⟩ (a.coefs.getD k 0) b
theorem aCv{a:Affine}(h:bB 1000 a)(k:Nat):bB 1000 ⟨a.coefs.set k 0,a.const⟩:=⟨by dsimp only;rw [List.length_set];exact h.1,h.2.1,pR h.2.2 ⟨by omega,by omega⟩⟩
theorem aCW{a:Affine}(h:bB 1000 a){k:Nat}(hk:k<4):a.coefs[k]? =some (a.coefs.getD k 0)∧oO 1000 (a.coefs.getD k 0):=by
 have hl:k<a.coefs.length:=by rw [h.1];exact hk
 have e:=List.getElem?_eq_getElem hl
 have e2:a.coefs.getD k 0=a.coefs[k]:=by rw [List.getD_eq_getElem?_getD,e];rfl
 rw [e2]
 exact⟨e,h.2.2 _ (List.getElem_mem hl)⟩
theorem aBz{n:Nat}(hn:5000≤n){a b:Affine}(ha:bB 1000 a)(hb:bB 1000 b){k:Nat}(hk:k<4):vQ n a (k:Int) b=some (aGj a k b):=by
 obtain⟨h1,h2⟩:=aCW ha hk
 have hl:k<a.coefs.length:=by rw [ha.1];exact hk
 unfold vQ
 rw [M2 n (by have:=ha.1;omega)]
 refine Ev.eq (aB rfl (aB (aU h1) (aB (eJ (by omega) _) (aB (Z9 hn (aCv ha k) hb h2) (Ev.some rfl)))))
theorem aA6{n:Nat}(hn:5000≤n){a b:Affine}(ha:bB 1000 a)(hb:bB 1000 b){k:Nat}(hk:k<4):o5 n a (k:Int) b=some (aGj a k b):=by
 obtain⟨h1,h2⟩:=aCW ha hk
 have hl:k<a.coefs.length:=by rw [ha.1];exact hk
 unfold o5
 rw [dU _ (by have:=ha.1;omega)]
 refine Ev.eq (aB rfl (aB (aU h1) (aB (eJ (by omega) _) (aB (aU h1) (aB (A1 hn (aCv ha k) hb ⟨by omega,by omega⟩ h2) (Ev.some ?_))))))
 rw [U6];rfl
theorem aEM(n:Nat){k:Nat}(hk:k<4):qG n (k:Int) 1=some (qW k):=by
 rcases(show k=0∨k=1∨k=2∨k=3 by omega) with rfl|rfl|rfl|rfl<;>rfl
theorem aEm(n:Nat){k:Nat}(hk:k<4):jM n (k:Int)=some (qW k):=by
 rcases(show k=0∨k=1∨k=2∨k=3 by omega) with rfl|rfl|rfl|rfl<;>rfl
def toB(k:Nat)(b:Affine):Affine:=iP (qW k) (-1) b
theorem aEh{a b:Affine}(ha:a.coefs.length=4)(hb:b.coefs.length=4){k:Nat}(hk:k<4)(h0:b.coefs.getD k 0=0):aGj a k (toB k b)=fB k b a:=by
 obtain⟨a,ac⟩:=a
 obtain⟨b,bc⟩:=b
 dsimp only at ha hb h0
 obtain⟨a0,a1,a2,a3,rfl⟩:=J6 ha
 obtain⟨b0,b1,b2,b3,rfl⟩:=J6 hb
 rcases(show k=0∨k=1∨k=2∨k=3 by omega) with rfl|rfl|rfl|rfl<;>
  (simp only [List.getD_cons_zero,List.getD_cons_succ] at h0;subst h0;simp [aGj,toB,fB,iP,qW,Int.mul_neg,Int.neg_mul])
end Go.Lift
