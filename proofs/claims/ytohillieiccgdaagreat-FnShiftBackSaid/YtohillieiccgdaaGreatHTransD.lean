/- Moving the variable of a loop by an affine expression: shifts and skews. -/
import Derived.Test.YtohillieiccgdaaGreatHTransC
set_option maxRecDepth 100000
set_option linter.unusedVariables false
namespace Go.Lift
open Go
def kG(a:Affine)(k:Int)(b:Affine):Affine:=⟨List.zipWith (fun x y=>x+k*y) a.coefs b.coefs,a.const+k*b.const⟩
def qT(k:Nat):Affine:=⟨[0,0,0,0].set k 1,0⟩
def fB(k:Nat)(b x:Affine):Affine:=kG x (-(x.coefs.getD k 0)) b
def bB(m:Int)(a:Affine):Prop:=a.coefs.length=4∧oL m a.const∧ ∀c∈a.coefs,oL m c
theorem bB.mono{m m':Int}{a:Affine}(h:bB m a)(hm:m≤m'):bB m' a:=⟨h.1,⟨by have:=h.2.1.1;omega,by have:=h.2.1.2;omega⟩,fun c hc=>⟨by have:=(h.2.2 c hc).1;omega,by have:=(h.2.2 c hc).2;omega⟩⟩
theorem yU{l:List Int}(h:l.length=4): ∃a b c d,l=[a,b,c,d]:=by
 match l,h with
 | [a,b,c,d],_=>exact⟨a,b,c,d,rfl⟩
theorem xQ{a:Affine}(h:bI a=true):bB 99 a:=by
 obtain⟨h1,h2,h3⟩:=iS h
 exact⟨h1,h2,fun c hc=>⟨by have:=(h3 c hc).1;omega,by have:=(h3 c hc).2;omega⟩⟩
theorem aF7{k:Nat}(hk:k<4):bB 6 (qT k):=by
 rcases(show k=0∨k=1∨k=2∨k=3 by omega) with rfl|rfl|rfl|rfl<;>(unfold bB oL qT;simp)
theorem t6{k b:Int}(hk:oL 1000 k)(hb:oL 1000 b):oL 1000000 (k*b):=aCC (by omega) (by omega) hk hb
theorem wrB{a x:Int}(ha:oL 1000 a)(hx:oL 1000000 x):wr (a+wr x)=a+x:=by
 unfold oL at ha hx
 rw [aP (n:=x) (by omega),aP (by omega)]
theorem aHU(m:Nat)(a0 a1 a2 a3 ac k b0 b1 b2 b3 bc:Int):O1 (m+6) ⟨[a0,a1,a2,a3],ac⟩ k ⟨[b0,b1,b2,b3],bc⟩=
  some ⟨[wr (a0+wr (k*b0)),wr (a1+wr (k*b1)),wr (a2+wr (k*b2)),wr (a3+wr (k*b3))],wr (ac+wr (k*bc))⟩:=by kernel_rfl
theorem Z6{n:Nat}(hn:5000≤n){a b:Affine}(ha:bB 1000 a)(hb:bB 1000 b){k:Int}(hk:oL 1000 k):O1 n a k b=some (kG a k b):=by
 obtain⟨m,rfl⟩: ∃m,n=m+6:=⟨n-6,by omega⟩
 obtain⟨ac,a⟩:=a
 obtain⟨bc,b⟩:=b
 obtain⟨h1,h2,h3⟩:=ha
 obtain⟨g1,g2,g3⟩:=hb
 dsimp only at h1 h2 h3 g1 g2 g3
 obtain⟨a0,a1,a2,a3,rfl⟩:=yU h1
 obtain⟨b0,b1,b2,b3,rfl⟩:=yU g1
 rw [aHU,wrB (h3 a0 (by simp)) (t6 hk (g3 b0 (by simp))),wrB (h3 a1 (by simp)) (t6 hk (g3 b1 (by simp))),wrB (h3 a2 (by simp)) (t6 hk (g3 b2 (by simp))),wrB (h3 a3 (by simp)) (t6 hk (g3 b3 (by simp))),wrB h2 (t6 hk g2)]
 rfl
def aH3(a:Affine)(x:Int)(b:Affine)(y:Int):Affine:=⟨List.zipWith (fun p q=>x*p+y*q) a.coefs b.coefs,x*a.const+y*b.const⟩
theorem aHE(m:Nat)(a0 a1 a2 a3 ac x b0 b1 b2 b3 bc y:Int):bV (m+6) ⟨[a0,a1,a2,a3],ac⟩ x ⟨[b0,b1,b2,b3],bc⟩ y=
  some ⟨[wr (wr (x*a0)+wr (y*b0)),wr (wr (x*a1)+wr (y*b1)),wr (wr (x*a2)+wr (y*b2)),wr (wr (x*a3)+wr (y*b3))],wr (wr (x*ac)+wr (y*bc))⟩:=by kernel_rfl
theorem wrC{a x:Int}(ha:oL 1000000 a)(hx:oL 1000000 x):wr (wr a+wr x)=a+x:=by
 unfold oL at ha hx
 rw [aP (n:=x) (by omega),aP (n:=a) (by omega),aP (by omega)]
theorem A2{n:Nat}(hn:5000≤n){a b:Affine}(ha:bB 1000 a)(hb:bB 1000 b){x y:Int}(hx:oL 1000 x)(hy:oL 1000 y):bV n a x b y=some (aH3 a x b y):=by
 obtain⟨m,rfl⟩: ∃m,n=m+6:=⟨n-6,by omega⟩
 obtain⟨ac,a⟩:=a
 obtain⟨bc,b⟩:=b
 obtain⟨h1,h2,h3⟩:=ha
 obtain⟨g1,g2,g3⟩:=hb
 dsimp only at h1 h2 h3 g1 g2 g3
 obtain⟨a0,a1,a2,a3,rfl⟩:=yU h1
 obtain⟨b0,b1,b2,b3,rfl⟩:=yU g1
 rw [aHE,wrC (t6 hx (h3 a0 (by simp))) (t6 hy (g3 b0 (by simp))),wrC (t6 hx (h3 a1 (by simp))) (t6 hy (g3 b1 (by simp))),wrC (t6 hx (h3 a2 (by simp))) (t6 hy (g3 b2 (by simp))),wrC (t6 hx (h3 a3 (by simp))) (t6 hy (g3 b3 (by simp))),wrC (t6 hx h2) (t6 hy g2)]
 rfl
theorem U3(a b:Affine)(k:Int):aH3 a 1 b k=kG a k b:=by
 unfold aH3 kG
 simp only [Int.one_mul]
theorem aIb(a b:Affine)(k:Int)(ha:a.coefs.length=4)(hb:b.coefs.length=4):(kG a k b).coefs.length=4:=by
 unfold kG
 rw [List.length_zipWith];omega
def aGi(a:Affine)(k:Nat)(b:Affine):Affine:=kG ⟨a.coefs.set k 0,a.const⟩ (a.coefs.getD k 0) b
theorem aCu{a:Affine}(h:bB 1000 a)(k:Nat):bB 1000 ⟨a.coefs.set k 0,a.const⟩:=⟨by dsimp only;rw [List.length_set];exact h.1,h.2.1,pO h.2.2 ⟨by omega,by omega⟩⟩
theorem aCV{a:Affine}(h:bB 1000 a){k:Nat}(hk:k<4):a.coefs[k]? =some (a.coefs.getD k 0)∧oL 1000 (a.coefs.getD k 0):=by
 have hl:k<a.coefs.length:=by rw [h.1];exact hk
 have e:=List.getElem?_eq_getElem hl
 have e2:a.coefs.getD k 0=a.coefs[k]:=by rw [List.getD_eq_getElem?_getD,e];rfl
 rw [e2]
 exact⟨e,h.2.2 _ (List.getElem_mem hl)⟩
theorem aBz{n:Nat}(hn:5000≤n){a b:Affine}(ha:bB 1000 a)(hb:bB 1000 b){k:Nat}(hk:k<4):vK n a (k:Int) b=some (aGi a k b):=by
 obtain⟨h1,h2⟩:=aCV ha hk
 have hl:k<a.coefs.length:=by rw [ha.1];exact hk
 unfold vK
 rw [M2 n (by have:=ha.1;omega)]
 refine Ev.eq (aB rfl (aB (aU h1) (aB (eI (by omega) _) (aB (Z6 hn (aCu ha k) hb h2) (Ev.some rfl)))))
theorem aA4{n:Nat}(hn:5000≤n){a b:Affine}(ha:bB 1000 a)(hb:bB 1000 b){k:Nat}(hk:k<4):o2 n a (k:Int) b=some (aGi a k b):=by
 obtain⟨h1,h2⟩:=aCV ha hk
 have hl:k<a.coefs.length:=by rw [ha.1];exact hk
 unfold o2
 rw [dU _ (by have:=ha.1;omega)]
 refine Ev.eq (aB rfl (aB (aU h1) (aB (eI (by omega) _) (aB (aU h1) (aB (A2 hn (aCu ha k) hb ⟨by omega,by omega⟩ h2) (Ev.some ?_))))))
 rw [U3];rfl
theorem aEU(n:Nat){k:Nat}(hk:k<4):qD n (k:Int) 1=some (qT k):=by
 rcases(show k=0∨k=1∨k=2∨k=3 by omega) with rfl|rfl|rfl|rfl<;>rfl
theorem aEv(n:Nat){k:Nat}(hk:k<4):jI n (k:Int)=some (qT k):=by
 rcases(show k=0∨k=1∨k=2∨k=3 by omega) with rfl|rfl|rfl|rfl<;>rfl
def toB(k:Nat)(b:Affine):Affine:=kG (qT k) (-1) b
theorem aEp{a b:Affine}(ha:a.coefs.length=4)(hb:b.coefs.length=4){k:Nat}(hk:k<4)(h0:b.coefs.getD k 0=0):aGi a k (toB k b)=fB k b a:=by
 obtain⟨a,ac⟩:=a
 obtain⟨b,bc⟩:=b
 dsimp only at ha hb h0
 obtain⟨a0,a1,a2,a3,rfl⟩:=yU ha
 obtain⟨b0,b1,b2,b3,rfl⟩:=yU hb
 rcases(show k=0∨k=1∨k=2∨k=3 by omega) with rfl|rfl|rfl|rfl<;>
  (simp only [List.getD_cons_zero,List.getD_cons_succ] at h0;subst h0;simp [aGi,toB,fB,kG,qT,Int.mul_neg,Int.neg_mul])
theorem aH9{a b b':Affine}(ha:a.coefs.length=4)(hb:b.coefs.length=4)(hb':b'=⟨b.coefs.map (fun x=> -x),-b.const⟩):kG (kG a 1 b) 1 b'=a:=by
 subst hb'
 obtain⟨a,ac⟩:=a
 obtain⟨b,bc⟩:=b
 dsimp only at ha hb
 obtain⟨a0,a1,a2,a3,rfl⟩:=yU ha
 obtain⟨b0,b1,b2,b3,rfl⟩:=yU hb
 simp only [kG,List.zipWith,List.map]
 simp only [Affine.mk.injEq,List.cons.injEq,and_true]
 omega
theorem aIa{a b b':Affine}(ha:a.coefs.length=4)(hb:b.coefs.length=4)(hb':b'=⟨b.coefs.map (fun x=> -x),-b.const⟩){k:Nat}(hk:k<4)(h0:b.coefs.getD k 0=0):fB k b' (fB k b a)=a:=by
 subst hb'
 obtain⟨a,ac⟩:=a
 obtain⟨b,bc⟩:=b
 dsimp only at ha hb h0
 obtain⟨a0,a1,a2,a3,rfl⟩:=yU ha
 obtain⟨b0,b1,b2,b3,rfl⟩:=yU hb
 rcases(show k=0∨k=1∨k=2∨k=3 by omega) with rfl|rfl|rfl|rfl<;>
  (simp only [List.getD_cons_zero,List.getD_cons_succ] at h0;subst h0;simp [fB,kG,Int.mul_neg,Int.neg_mul];omega)
end Go.Lift
