/- Moving the variable of a loop by an affine expression: shifts and skews. -/
import Derived.Test.YtohillieiccgdaaGreatKTransC
set_option maxRecDepth 100000
set_option linter.unusedVariables false
namespace Go.Lift
open Go
def iY(a:Affine)(k:Int)(b:Affine):Affine:=⟨List.zipWith (fun x y=>x+k*y) a.coefs b.coefs,a.const+k*b.const⟩
def nX(k:Nat):Affine:=⟨[0,0,0,0].set k 1,0⟩
def fB(k:Nat)(b x:Affine):Affine:=iY x (-(x.coefs.getD k 0)) b
def bB(m:Int)(a:Affine):Prop:=a.coefs.length=4∧pB m a.const∧ ∀c∈a.coefs,pB m c
theorem bB.mono{m m':Int}{a:Affine}(h:bB m a)(hm:m≤m'):bB m' a:=⟨h.1,⟨by have:=h.2.1.1;omega,by have:=h.2.1.2;omega⟩,fun c hc=>⟨by have:=(h.2.2 c hc).1;omega,by have:=(h.2.2 c hc).2;omega⟩⟩
theorem yX{l:List Int}(h:l.length=4): ∃a b c d,l=[a,b,c,d]:=by
 match l,h with
 | [a,b,c,d],_=>exact⟨a,b,c,d,rfl⟩
theorem xU{a:Affine}(h:bI a=true):bB 99 a:=by
 obtain⟨h1,h2,h3⟩:=iQ h
 exact⟨h1,h2,fun c hc=>⟨by have:=(h3 c hc).1;omega,by have:=(h3 c hc).2;omega⟩⟩
theorem uY{k:Nat}(hk:k<4):bB 6 (nX k):=by
 rcases(show k=0∨k=1∨k=2∨k=3 by omega) with rfl|rfl|rfl|rfl<;>(unfold bB pB nX;simp)
theorem t7{k b:Int}(hk:pB 1000 k)(hb:pB 1000 b):pB 1000000 (k*b):=aCD (by omega) (by omega) hk hb
theorem wrB{a x:Int}(ha:pB 1000 a)(hx:pB 1000000 x):wr (a+wr x)=a+x:=by
 unfold pB at ha hx
 rw [aP (n:=x) (by omega),aP (by omega)]
theorem aHW(m:Nat)(a0 a1 a2 a3 ac k b0 b1 b2 b3 bc:Int):D5 (m+6) ⟨[a0,a1,a2,a3],ac⟩ k ⟨[b0,b1,b2,b3],bc⟩=
  some ⟨[wr (a0+wr (k*b0)),wr (a1+wr (k*b1)),wr (a2+wr (k*b2)),wr (a3+wr (k*b3))],wr (ac+wr (k*bc))⟩:=by kernel_rfl
theorem D4{n:Nat}(hn:5000≤n){a b:Affine}(ha:bB 1000 a)(hb:bB 1000 b){k:Int}(hk:pB 1000 k):D5 n a k b=some (iY a k b):=by
 obtain⟨m,rfl⟩: ∃m,n=m+6:=⟨n-6,by omega⟩
 obtain⟨ac,a⟩:=a
 obtain⟨bc,b⟩:=b
 obtain⟨h1,h2,h3⟩:=ha
 obtain⟨g1,g2,g3⟩:=hb
 dsimp only at h1 h2 h3 g1 g2 g3
 obtain⟨a0,a1,a2,a3,rfl⟩:=yX h1
 obtain⟨b0,b1,b2,b3,rfl⟩:=yX g1
 rw [aHW,wrB (h3 a0 (by simp)) (t7 hk (g3 b0 (by simp))),wrB (h3 a1 (by simp)) (t7 hk (g3 b1 (by simp))),wrB (h3 a2 (by simp)) (t7 hk (g3 b2 (by simp))),wrB (h3 a3 (by simp)) (t7 hk (g3 b3 (by simp))),wrB h2 (t7 hk g2)]
 rfl
def aFD(a:Affine)(x:Int)(b:Affine)(y:Int):Affine:=⟨List.zipWith (fun p q=>x*p+y*q) a.coefs b.coefs,x*a.const+y*b.const⟩
theorem aHG(m:Nat)(a0 a1 a2 a3 ac x b0 b1 b2 b3 bc y:Int):bT (m+6) ⟨[a0,a1,a2,a3],ac⟩ x ⟨[b0,b1,b2,b3],bc⟩ y=
  some ⟨[wr (wr (x*a0)+wr (y*b0)),wr (wr (x*a1)+wr (y*b1)),wr (wr (x*a2)+wr (y*b2)),wr (wr (x*a3)+wr (y*b3))],wr (wr (x*ac)+wr (y*bc))⟩:=by kernel_rfl
theorem wrC{a x:Int}(ha:pB 1000000 a)(hx:pB 1000000 x):wr (wr a+wr x)=a+x:=by
 unfold pB at ha hx
 rw [aP (n:=x) (by omega),aP (n:=a) (by omega),aP (by omega)]
theorem vE{n:Nat}(hn:5000≤n){a b:Affine}(ha:bB 1000 a)(hb:bB 1000 b){x y:Int}(hx:pB 1000 x)(hy:pB 1000 y):bT n a x b y=some (aFD a x b y):=by
 obtain⟨m,rfl⟩: ∃m,n=m+6:=⟨n-6,by omega⟩
 obtain⟨ac,a⟩:=a
 obtain⟨bc,b⟩:=b
 obtain⟨h1,h2,h3⟩:=ha
 obtain⟨g1,g2,g3⟩:=hb
 dsimp only at h1 h2 h3 g1 g2 g3
 obtain⟨a0,a1,a2,a3,rfl⟩:=yX h1
 obtain⟨b0,b1,b2,b3,rfl⟩:=yX g1
 rw [aHG,wrC (t7 hx (h3 a0 (by simp))) (t7 hy (g3 b0 (by simp))),wrC (t7 hx (h3 a1 (by simp))) (t7 hy (g3 b1 (by simp))),wrC (t7 hx (h3 a2 (by simp))) (t7 hy (g3 b2 (by simp))),wrC (t7 hx (h3 a3 (by simp))) (t7 hy (g3 b3 (by simp))),wrC (t7 hx h2) (t7 hy g2)]
 rfl
theorem U3(a b:Affine)(k:Int):aFD a 1 b k=iY a k b:=by
 unfold aFD iY
 simp only [Int.one_mul]
theorem aId(a b:Affine)(k:Int)(ha:a.coefs.length=4)(hb:b.coefs.length=4):(iY a k b).coefs.length=4:=by
 unfold iY
 rw [List.length_zipWith];omega
def aGl(a:Affine)(k:Nat)(b:Affine):Affine:=iY ⟨a.coefs.set k 0,a.const⟩ (a.coefs.getD k 0) b
theorem aCw{a:Affine}(h:bB 1000 a)(k:Nat):bB 1000 ⟨a.coefs.set k 0,a.const⟩:=⟨by dsimp only;rw [List.length_set];exact h.1,h.2.1,nY h.2.2 ⟨by omega,by omega⟩⟩
theorem aCW{a:Affine}(h:bB 1000 a){k:Nat}(hk:k<4):a.coefs[k]? =some (a.coefs.getD k 0)∧pB 1000 (a.coefs.getD k 0):=by
 have hl:k<a.coefs.length:=by rw [h.1];exact hk
 have e:=List.getElem?_eq_getElem hl
 have e2:a.coefs.getD k 0=a.coefs[k]:=by rw [List.getD_eq_getElem?_getD,e];rfl
 rw [e2]
 exact⟨e,h.2.2 _ (List.getElem_mem hl)⟩
theorem aBB{n:Nat}(hn:5000≤n){a b:Affine}(ha:bB 1000 a)(hb:bB 1000 b){k:Nat}(hk:k<4):vQ n a (k:Int) b=some (aGl a k b):=by
 obtain⟨h1,h2⟩:=aCW ha hk
 have hl:k<a.coefs.length:=by rw [ha.1];exact hk
 unfold vQ
 rw [M1 n (by have:=ha.1;omega)]
 refine Ev.eq (aB rfl (aB (aU h1) (aB (eG (by omega) _) (aB (D4 hn (aCw ha k) hb h2) (Ev.some rfl)))))
theorem aA8{n:Nat}(hn:5000≤n){a b:Affine}(ha:bB 1000 a)(hb:bB 1000 b){k:Nat}(hk:k<4):o4 n a (k:Int) b=some (aGl a k b):=by
 obtain⟨h1,h2⟩:=aCW ha hk
 have hl:k<a.coefs.length:=by rw [ha.1];exact hk
 unfold o4
 rw [dT _ (by have:=ha.1;omega)]
 refine Ev.eq (aB rfl (aB (aU h1) (aB (eG (by omega) _) (aB (aU h1) (aB (vE hn (aCw ha k) hb ⟨by omega,by omega⟩ h2) (Ev.some ?_))))))
 rw [U3];rfl
theorem D3(n:Nat){k:Nat}(hk:k<4):kT n (k:Int) 1=some (nX k):=by
 rcases(show k=0∨k=1∨k=2∨k=3 by omega) with rfl|rfl|rfl|rfl<;>rfl
theorem Y6(n:Nat){k:Nat}(hk:k<4):iN n (k:Int)=some (nX k):=by
 rcases(show k=0∨k=1∨k=2∨k=3 by omega) with rfl|rfl|rfl|rfl<;>rfl
def toB(k:Nat)(b:Affine):Affine:=iY (nX k) (-1) b
theorem aEp{a b:Affine}(ha:a.coefs.length=4)(hb:b.coefs.length=4){k:Nat}(hk:k<4)(h0:b.coefs.getD k 0=0):aGl a k (toB k b)=fB k b a:=by
 obtain⟨a,ac⟩:=a
 obtain⟨b,bc⟩:=b
 dsimp only at ha hb h0
 obtain⟨a0,a1,a2,a3,rfl⟩:=yX ha
 obtain⟨b0,b1,b2,b3,rfl⟩:=yX hb
 rcases(show k=0∨k=1∨k=2∨k=3 by omega) with rfl|rfl|rfl|rfl<;>
  (simp only [List.getD_cons_zero,List.getD_cons_succ] at h0;subst h0;simp [aGl,toB,fB,iY,nX,Int.mul_neg,Int.neg_mul])
theorem aIa{a b b':Affine}(ha:a.coefs.length=4)(hb:b.coefs.length=4)(hb':b'=⟨b.coefs.map (fun x=> -x),-b.const⟩):iY (iY a 1 b) 1 b'=a:=by
 subst hb'
 obtain⟨a,ac⟩:=a
 obtain⟨b,bc⟩:=b
 dsimp only at ha hb
 obtain⟨a0,a1,a2,a3,rfl⟩:=yX ha
 obtain⟨b0,b1,b2,b3,rfl⟩:=yX hb
 simp only [iY,List.zipWith,List.map]
 simp only [Affine.mk.injEq,List.cons.injEq,and_true]
 omega
theorem aIb{a b b':Affine}(ha:a.coefs.length=4)(hb:b.coefs.length=4)(hb':b'=⟨b.coefs.map (fun x=> -x),-b.const⟩){k:Nat}(hk:k<4)(h0:b.coefs.getD k 0=0):fB k b' (fB k b a)=a:=by
 subst hb'
 obtain⟨a,ac⟩:=a
 obtain⟨b,bc⟩:=b
 dsimp only at ha hb h0
 obtain⟨a0,a1,a2,a3,rfl⟩:=yX ha
 obtain⟨b0,b1,b2,b3,rfl⟩:=yX hb
 rcases(show k=0∨k=1∨k=2∨k=3 by omega) with rfl|rfl|rfl|rfl<;>
  (simp only [List.getD_cons_zero,List.getD_cons_succ] at h0;subst h0;simp [fB,iY,Int.mul_neg,Int.neg_mul];omega)
end Go.Lift
