/- Two programs that do the same. -/
import Derived.Test.YtjmaejilmokdgaaGreatRRun1
import Derived.Test.YtjmaejilmokdgaaGreatRDraw1
import Derived.Test.YtjmaejilmokdgaaGreatRDrawD
set_option maxRecDepth 100000
set_option linter.unusedVariables false
namespace Go.Lift
open Go
def aNr(l:Loop):Prop:=(l.lo.length≤2∧ ∀x∈l.lo,fC x=true)∧l.hi.length≤2∧ ∀x∈l.hi,fC x=true
theorem aMl{nest:List Loop}(h:Fit nest): ∀l∈nest,aNr l:=fun l hl=>by
 obtain⟨i,hi⟩:=vAQ.1 hl
 have:=h.2 i l hi;exact⟨(s9 this.1).2,(s9 this.2).2⟩
theorem aA8{list:List Arr}{x:Part}(h:cT list x=true):x.nest.length≤4∧ ∀l∈x.nest,aNr l:=by have:=(aDB (pY h).1).1;exact⟨this.1,aMl this⟩
def lO(p:Prog)(part loop:Int):Bool:=bM p&&match ix p.parts part with
 |some x=>decide (0≤loop∧loop<(x.nest.length:Int))
 |none=>false
theorem aH9{α:Type}{l:List α}{i:Int}(h: ¬(0≤i∧i<(l.length:Int))):ix l i=none:=by
 cases hx:ix l i with
 |none=>rfl
 |some x=>
  obtain⟨h1,h2⟩:=rA hx
  have:=(cL.1 h2).1;exact absurd ⟨h1,by omega⟩ h
theorem aMf{α:Type}{l:List α}{i:Int}{x:α}(h:ix l i=some x): ∃k:Nat,i=k∧k<l.length∧l[k]? =some x:=by obtain⟨h1,h2⟩:=rA h;exact⟨i.toNat,by omega,(cL.1 h2).1,h2⟩
theorem aGw(n:Nat){p:Prog}(h:p.parts.length≤1000)(part:Int):gX n p part=some (decide (0≤part∧part<(p.parts.length:Int))):=by unfold gX;rw [dH,aK (by omega)];exact congrArg some (decide_eq_decide.2 (by omega))
theorem aMj{n:Nat}(hn:7000≤n){p:Prog}(hp:BG 1000 p)(part loop:Int):J1 n p part loop=some (lO p part loop):=by
 unfold J1;refine Ev.eq (Ev.jn (fun z=>z=lO p part loop) (fun j hj=>?_) fun z hz=>Ev.some hz);refine aA (oB hn hp.sm) (Ev.cond (fun hv=>?_) fun hv=>hj _ (by unfold lO;rw [hv];rfl));refine aH (fun h1=>aH (fun h2=>?_) fun h2=>?_) fun h1=>?_
 ·obtain⟨x,hx,hx2⟩:=iH h1 h2;refine aH (fun h3=>aA hx (hj _ ?_)) fun h3=>hj _ ?_
  ·unfold lO;rw [hv,hx];exact decide_eq_decide.2 (by omega)
  unfold lO;rw [hv,hx];exact(decide_eq_false (by omega)).symm
 ·exact hj _ (by unfold lO;rw [aH9 (by omega),vBN])
 exact hj _ (by unfold lO;rw [aH9 (by omega),vBN])
def bB(m:Int)(a:Affine):Prop:=a.coefs.length=4∧yN m a.const∧ ∀c∈a.coefs,yN m c
theorem bB.mono{m m':Int}{a:Affine}(h:bB m a)(hm:m≤m'):bB m' a:=⟨h.1,⟨by have:=h.2.1.1;omega,by have:=h.2.1.2;omega⟩,fun c hc=>⟨by have:=(h.2.2 c hc).1;omega,by have:=(h.2.2 c hc).2;omega⟩⟩
theorem B6{p:Prog}{part loop:Int}(h:lO p part loop=true):bM p=true∧ ∃(i k:Nat) (P:Part) (l:Loop),part=i∧loop=k∧p.parts[i]? =some P∧P.nest[k]? =some l∧i<p.parts.length∧k<P.nest.length∧cT p.arrays P=true∧k<4:=by
 unfold lO at h;rw [vBL] at h;obtain⟨hv,h⟩:=h;refine⟨hv,?_⟩;cases hx:ix p.parts part with
 |none=>rw [hx] at h;cases h
 |some P=>
  rw [hx] at h;obtain⟨i,rfl,hi,hP⟩:=aMf hx;obtain⟨h1,h2⟩:=of_decide_eq_true h;obtain⟨l,hl,hl2⟩:=iH h1 h2;have hok:=(dT hv).2.2.2.1 P (cF hP)
  have:=(aA8 hok).1;exact⟨i,loop.toNat,P,l,rfl,by omega,hP,hl2,hi,by omega,hok,by omega⟩
def kA(k:Nat)(s:Int):Affine:=⟨[0,0,0,0].set k s,0⟩
def low(k:Nat)(b:Affine):Prop:= ∀j,k≤j→b.coefs.getD j 0=0
theorem aCy{list:List Arr}{x:Part}(h:cT list x=true):eB x=pts x.nest []:=(aDB (pY h).1).2.2.2.1
theorem insts_lt{ps:List Part}{x:Inst}(h:x∈insts ps):0≤x.part∧x.part<(ps.length:Int):=by
 obtain⟨i,k,P,s,e1,_,e3,_⟩:=insts_mem h
 have:=(cL.1 e3).1;omega
theorem aI3{p:Prog}(hv:bM p=true){x:Inst}(hx:dF p x): ∀{Y:List Inst} {m:List Int},(∀y∈Y,dF p y)→(∀y∈Y,com p x y)→fD p.arrays m→cB p (runI p m x) Y=runI p (cB p m Y) x
 | [],m,_,_,_=>rfl
 |y::Y,m,h1,h2,hm=>by show cB p (runI p (runI p m x) y) Y=runI p (cB p (runI p m y) Y) x;rw [h2 y qQ m hm];exact aI3 hv hx (fun z hz=>h1 z (nW _ hz)) (fun z hz=>h2 z (nW _ hz)) (qX hv hm (h1 y qQ))
theorem block{p:Prog}(hv:bM p=true): ∀{X Y:List Inst} {m:List Int},(∀x∈X,dF p x)→(∀y∈Y,dF p y)→(∀x∈X,∀y∈Y,com p x y)→fD p.arrays m→cB p (cB p m X) Y=cB p (cB p m Y) X
 | [],Y,m,_,_,_,_=>rfl
 |x::X,Y,m,h1,h2,h3,hm=>by show cB p (cB p (runI p m x) X) Y=cB p (runI p (cB p m Y) x) X;rw [block hv (fun z hz=>h1 z (nW _ hz)) h2 (fun z hz=>h3 z (nW _ hz)) (qX hv hm (h1 x qQ)),aI3 hv (h1 x qQ) h2 (h3 x qQ) hm]
end Go.Lift
