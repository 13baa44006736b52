/- The way back, skews and the laws. -/
import Derived.Test.YtcnponfkbblhpaaGreatATransE
import Derived.Test.YtcnponfkbblhpaaGreatADrawD
set_option maxRecDepth 100000
set_option linter.unusedVariables false
namespace Go.Lift
open Go
theorem aDl{k:Nat}{g f:Affine→Affine}{P:Part}{l:Loop}(hk:k<P.nest.length):(gM k g f P l).nest[k]? =some (cE g l):=by
 unfold gM
 rw [List.getElem?_append_right (by simp;omega),List.length_take,Nat.min_eq_left (by omega),Nat.sub_self];rfl
theorem aGL{q:Prog}(h:BG 1000 q):BG 1000 (K1 q).1:=by
 unfold K1
 split
 ·exact h
 ·exact⟨⟨by simp,fun x hx=>by cases hx⟩,by simp,fun x hx=>by cases hx⟩
theorem aHK:BG 1000 noP.1:=⟨⟨by simp [noP],fun x hx=>by cases hx⟩,by simp [noP],fun x hx=>by cases hx⟩
theorem aDj{p:Prog}(hp:BG 1000 p){part loop:Int}(hc:iO p part loop=true){g f:Affine→Affine}(hg: ∀x,bH x=true→BA 4 (g x))(hf: ∀x,bH x=true→BA 4 (f x)):BG 1000 (C4 p part loop g f).1:=by
 obtain⟨hv,i,k,P,l,rfl,rfl,hP,hl,hi,hkl,hok,hk⟩:=E4 hc
 rw [o9 hP hl]
 exact aGL (aFw hp i (S5 hok hl hg hf))
theorem aGX(code:List UInt8):Ev (Option.bind (mV N code) fun x1=>Option.bind (rM N x1) fun x2=>some (x2.1,x2.2.1,x2.2.2.1,x2.2.2.2.1)) (fun x=>BG 1000 x.1):=by
 have hN:N=100000:=rfl
 refine aL (aGs code) (fun x1 r1=>aL (P:=fun x=>BG 1000 x.1) ?_ (fun x2 h2=>Ev.some h2))
 unfold rM
 refine aL (aDn r1 (by omega)) (fun x1 ⟨h1,r1⟩=>aL (aGw (by omega) r1 (by omega) h1) (fun x2 ⟨h2,r2⟩=>aL (iF N r2 (by omega) (by simp)) (fun x3 ⟨_,r3⟩=>aL (iF N r3 (by omega) (by simp)) (fun x4 ⟨_,r4⟩=>aL (iF N r4 (by omega) (by simp)) (fun x5 ⟨_,r5⟩=>Ev.some (h2.mono (show 30≤1000 by omega)))))))
theorem L4{p:Prog}(hp:BG 1000 p)(part loop by_:Int):BG 1000 (eD p part loop by_).1:=by
 unfold eD
 split
 ·rename_i hc
  exact aDj hp hc.1 (zH rfl) (aEV rfl)
 ·exact aHK
end Go.Lift
