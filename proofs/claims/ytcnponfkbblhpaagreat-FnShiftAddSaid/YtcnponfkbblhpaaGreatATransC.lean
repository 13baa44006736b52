/- Copies of programs, sameness with itself, and the frames of the changes. -/
import Derived.Test.YtcnponfkbblhpaaGreatATransB
set_option maxRecDepth 100000
set_option linter.unusedVariables false
namespace Go.Lift
open Go
theorem M8(n:Nat){a:Affine}(h:BA 1000 a):fD n a=some a:=by
 unfold fD
 rw [dU _ h];rfl
theorem t7{n:Nat}(hn:5000≤n){l:List Affine}(h:BAs 1000 l):cI n l=some l:=by
 unfold cI
 exact Ev.eq (lZ (K:=fun x1=>some x1) (fun x hx=>M8 n (h.2 x hx)) h.1 hn (Ev.some rfl))
theorem M9{n:Nat}(hn:5000≤n){a:Access}(h:BAs 1000 a.subs):fE n a=some a:=by
 unfold fE
 rw [t7 hn h];rfl
theorem B8: ∀(L n:Nat) (e:Expr),5000+L≤n→BE 1000 L e→s_l16OwnExpr (n+1) e=some e
 |0,_,_,_,h=>h.elim
 |L+1,n,e,hn,h=>by
  obtain⟨h1,h2,h3,h4⟩:=h
  obtain⟨n,rfl⟩: ∃j,n=j+1:=⟨n-1,by omega⟩
  unfold s_l16OwnExpr gW
  rw [M8 _ h2,M9 (by omega) h3]
  refine Ev.eq (aB rfl (aB rfl (aB (x:=e.kids) ?_ (Ev.some (by cases e;rfl)))))
  exact Ev.eq (lZ (f:=s_l16OwnExpr (n+1)) (K:=fun x1=>some x1) (fun x hx=>B8 L n x (by omega) (h4 x hx)) h1 (by omega) (Ev.some rfl))
theorem aBn{n:Nat}(hn:6000≤n){s:Stmt}(h:BS 1000 s):jN n s=some s:=by
 obtain⟨n,rfl⟩: ∃j,n=j+1:=⟨n-1,by omega⟩
 unfold jN
 rw [M9 (by omega) h.1,B8 5 n s.value (by omega) h.2];rfl
theorem aBp{n:Nat}(hn:6000≤n){x:Part}(h:BPt 1000 x):jO n x=some x:=by
 obtain⟨⟨h1,h2⟩,h3,h4⟩:=h
 have e1:fC n x.nest=some x.nest:=by
  unfold fC
  refine Ev.eq (lZ (K:=fun x1=>some x1) (fun l hl=> ?_) h1 (by omega) (Ev.some rfl))
  unfold mD
  rw [t7 (by omega) (h2 l hl).1,t7 (by omega) (h2 l hl).2];rfl
 have e2:e9 n x.body=some x.body:=by
  unfold e9
  exact Ev.eq (lZ (K:=fun x1=>some x1) (fun l hl=>aBn hn (h4 l hl)) h3 (by omega) (Ev.some rfl))
 unfold jO
 rw [e1,e2];rfl
theorem aBo{n:Nat}(hn:6000≤n){p:Prog}(h:BG 1000 p):fT n p=some p:=by
 obtain⟨⟨h1,h2⟩,h3,h4⟩:=h
 have e1:eK n p.arrays=some p.arrays:=by
  unfold eK
  refine Ev.eq (lZ (K:=fun x1=>some x1) (fun l hl=> ?_) h1 (by omega) (Ev.some rfl))
  unfold lG
  rw [dU _ (h2 l hl)];rfl
 have e2:fA n p.parts=some p.parts:=by
  unfold fA
  exact Ev.eq (lZ (K:=fun x1=>some x1) (fun l hl=>aBp hn (h4 l hl)) h3 (by omega) (Ev.some rfl))
 unfold fT
 rw [e1,e2];rfl
theorem oU{α:Type}{f:α→α→Option Bool}{l:List α}(hf: ∀x∈l,f x x=some true){n:Nat}(hn:l.length<n)(hl:l.length≤1000000):
  (bif !decide ((l.length:Int)=(l.length:Int)) then(some false) else(aM (fun again2 (x1:Int)=>bif decide (x1<(l.length:Int)) then(Option.bind (ix l x1) fun x3=>Option.bind (ix l x1) fun x4=>Option.bind (f x3 x4) fun x5=>bif !x5 then(some false) else(again2 (wr (x1+1)))) else(some true)) n 0))=some true:=by
 refine Ev.eq (iW (fun h=>(h rfl).elim) (fun _=> ?_))
 refine Ev.loop (fun x:Int=> ∃i:Nat,x=i∧i≤l.length) (fun x=>l.length-x.toNat) ?_ n 0 ⟨0,rfl,by omega⟩ (by omega)
 rintro again x ⟨i,rfl,hi⟩ hr
 refine aI (fun hlt=> ?_) (fun _=>Ev.some rfl)
 obtain⟨e,hg⟩: ∃e,l[i]? =some e:=⟨_,List.getElem?_eq_getElem (show i<l.length by omega)⟩
 refine aB (aU hg) (aB (aU hg) (aB (hf e (List.mem_of_getElem? hg)) (bZ ?_)))
 rw [aP (by omega)]
 exact hr _ ⟨i+1,by omega,by omega⟩ (by omega)
theorem L5{a:List Int}{n:Nat}(hn:a.length<n)(hl:a.length≤1000000):jE n a a=some true:=by
 unfold jE
 refine Ev.eq (iW (fun h=>(h rfl).elim) (fun _=> ?_))
 refine Ev.loop (fun x:Int=> ∃i:Nat,x=i∧i≤a.length) (fun x=>a.length-x.toNat) ?_ n 0 ⟨0,rfl,by omega⟩ (by omega)
 rintro again x ⟨i,rfl,hi⟩ hr
 refine aI (fun hlt=> ?_) (fun _=>Ev.some rfl)
 obtain⟨e,hg⟩: ∃e,a[i]? =some e:=⟨_,List.getElem?_eq_getElem (show i<a.length by omega)⟩
 refine aB (aU hg) (aB (aU hg) (iW (fun h=>(h rfl).elim) (fun _=> ?_)))
 rw [aP (by omega)]
 exact hr _ ⟨i+1,by omega,by omega⟩ (by omega)
theorem aC3{n:Nat}(hn:5000≤n){a:Affine}(h:BA 1000 a):b6 n a a=some true:=by
 unfold BA at h
 unfold b6
 refine Ev.eq (Ev.jn (fun z=>z=true) (fun j hj=>aB (L5 (by omega) (by omega)) (bW (hj _ (decide_eq_true rfl)))) (fun z hz=>Ev.some hz))
theorem J0{n:Nat}(hn:5000≤n){l:List Affine}(h:BAs 1000 l):cJ n l l (fun q0 q1=>b6 n q0 q1)=some true:=by
 have:=h.1
 unfold cJ
 exact oU (fun x hx=>aC3 hn (h.2 x hx)) (by omega) (by omega)
theorem aC4{n:Nat}(hn:5000≤n){a:Access}(h:BAs 1000 a.subs):iA n a a=some true:=by
 unfold iA
 refine Ev.eq (Ev.jn (fun z=>z=true) (fun j hj=> ?_) (fun z hz=>Ev.some hz))
 exact aI (fun _=>aB (J0 hn h) (hj _ rfl)) (fun h=>(h rfl).elim)
theorem aAi: ∀(L n:Nat) (e:Expr),5000+L≤n→BE 1000 L e→i_exprSame (n+1) e e=some true
 |0,_,_,_,h=>h.elim
 |L+1,n,e,hn,h=>by
  obtain⟨h1,h2,h3,h4⟩:=h
  obtain⟨n,rfl⟩: ∃j,n=j+1:=⟨n-1,by omega⟩
  unfold i_exprSame
  refine Ev.eq (Ev.jn (fun z=>z=true) (fun j hj=> ?_) (fun z hz=>Ev.some hz))
  refine aI (fun _=>aI (fun _=>aB (aC3 (by omega) h2) (bW (aB (aC4 (by omega) h3) (bW (aB (x:=true) ?_ (hj _ rfl)))))) (fun h=>(h rfl).elim)) (fun h=>(h rfl).elim)
  unfold hS
  exact oU (fun x hx=>aAi L n x (by omega) (h4 x hx)) (by omega) (by omega)
theorem aEi{n:Nat}(hn:6000≤n){s:Stmt}(h:BS 1000 s):kX n s s=some true:=by
 obtain⟨n,rfl⟩: ∃j,n=j+1:=⟨n-1,by omega⟩
 unfold kX
 refine Ev.eq (Ev.jn (fun z=>z=true) (fun j hj=> ?_) (fun z hz=>Ev.some hz))
 exact aB (aC4 (by omega) h.1) (bW (aB (aAi 5 n s.value (by omega) h.2) (hj _ rfl)))
theorem aEz{n:Nat}(hn:5000≤n){nest:List Loop}(h:BN 1000 nest):nN n nest nest=some true:=by
 have:=h.1
 unfold nN hJ
 rw [oU (fun l hl=> ?_) (by omega) (by omega)]
 ·rfl
 ·unfold jZ
  refine Ev.eq (Ev.jn (fun z=>z=true) (fun j hj=> ?_) (fun z hz=>Ev.some hz))
  exact aB (J0 hn (h.2 l hl).1) (bW (aB (J0 hn (h.2 l hl).2) (hj _ rfl)))
theorem aEw{n:Nat}(hn:6000≤n){x:Part}(h:BPt 1000 x):eG n x x=some true:=by
 have:=h.2.1
 unfold eG
 refine Ev.eq (Ev.jn (fun z=>z=true) (fun j hj=> ?_) (fun z hz=>Ev.some hz))
 refine aB (aEz (by omega) h.1) (bW (aB (x:=true) ?_ (hj _ rfl)))
 unfold hA
 exact oU (fun s hs=>aEi hn (h.2.2 s hs)) (by omega) (by omega)
theorem Z0{n:Nat}(hn:6000≤n){p:Prog}(h:BG 1000 p):dE n p p=some true:=by
 obtain⟨⟨h1,h2⟩,h3,h4⟩:=h
 unfold dE
 refine Ev.eq (Ev.jn (fun z=>z=true) (fun j hj=> ?_) (fun z hz=>Ev.some hz))
 refine aB (x:=true) ?_ (bW (aB (x:=true) ?_ (hj _ rfl)))
 ·unfold gF
  refine oU (fun x hx=> ?_) (by omega) (by omega)
  unfold eH
  refine Ev.eq (Ev.jn (fun z=>z=true) (fun j hj=> ?_) (fun z hz=>Ev.some hz))
  have:=h2 x hx
  exact aI (fun _=>aB (L5 (by omega) (by omega)) (hj _ rfl)) (fun h=>(h rfl).elim)
 ·unfold hD
  exact oU (fun x hx=>aEw hn (h4 x hx)) (by omega) (by omega)
def iO(p:Prog)(part loop:Int):Bool:=lR p&&match ix p.parts part with
 |some x=>decide (0≤loop∧loop<(x.nest.length:Int))
 |none=>false
theorem aEG{α:Type}{l:List α}{i:Int}(h: ¬(0≤i∧i<(l.length:Int))):ix l i=none:=by
 cases hx:ix l i with
 |none=>rfl
 |some x=>
  obtain⟨h1,h2⟩:=qD hx
  have:=(List.getElem?_eq_some_iff.1 h2).1
  exact absurd ⟨h1,by omega⟩ h
theorem aHS{α:Type}{l:List α}{i:Int}{x:α}(h:ix l i=some x): ∃k:Nat,i=k∧k<l.length∧l[k]? =some x:=by
 obtain⟨h1,h2⟩:=qD h
 exact⟨i.toNat,by omega,(List.getElem?_eq_some_iff.1 h2).1,h2⟩
theorem xE(n:Nat){p:Prog}(h:p.parts.length≤1000)(part:Int):dY n p part=some (decide (0≤part∧part<(p.parts.length:Int))):=by
 unfold dY
 rw [dX,aP (by omega)]
 exact congrArg some (decide_eq_decide.2 (by omega))
theorem aFx{n:Nat}(hn:7000≤n){p:Prog}(hp:BG 1000 p)(part loop:Int)(hl:loop≠ -1):mH n p part loop=some (if iO p part loop=true then(p,true) else(⟨[],[]⟩,false)):=by
 unfold mH
 refine Ev.eq (Ev.jn (fun z=>z= !iO p part loop) (fun j hj=> ?_) (fun z hz=> ?_))
 ·refine aB (jY hn hp.sm) (Ev.cond (fun h=> ?_) (fun h=> ?_))
  ·refine hj _ ?_
   unfold iO
   rw [show lR p=false by simpa using h];rfl
  ·have hv:lR p=true:=by simpa using h
   refine aB (xE n hp.2.1 part) ?_
   by_cases hi:0≤part∧part<(p.parts.length:Int)
   ·obtain⟨x,hx,hx2⟩:=iM hi.1 hi.2
    rw [decide_eq_true hi]
    refine bZ (iW (fun _=>aB (x:=iO p part loop) ?_ (hj _ rfl)) (fun h=>absurd h hl))
    unfold iC
    refine Ev.eq (Ev.jn (fun z=>z=iO p part loop) (fun j hj=> ?_) (fun z hz=>Ev.some hz))
    rw [xE n hp.2.1 part,decide_eq_true hi]
    refine aB rfl (bW (aB hx ?_))
    have:=(hp.2.2 x (List.mem_of_getElem? hx2)).1.1
    rw [aP (by omega),dX]
    refine aB rfl (hj _ ?_)
    unfold iO
    rw [hv,hx]
    exact decide_eq_decide.2 (by omega)
   ·rw [decide_eq_false hi]
    refine bW (hj _ ?_)
    unfold iO
    rw [aEG hi,Bool.and_false];rfl
 ·subst hz
  by_cases hc:iO p part loop=true
  ·rw [hc]
   have hv:lR p=true:=by unfold iO at hc;rw [Bool.and_eq_true] at hc;exact hc.1
   obtain⟨x,hx⟩: ∃x,ix p.parts part=some x:=by
    cases hx:ix p.parts part with
    |some x=>exact⟨x,rfl⟩
    |none=>unfold iO at hc;rw [hx,Bool.and_false] at hc;cases hc
   exact bZ (aB (aBf (by omega) hv) (aB hx (Ev.some rfl)))
  ·rw [show iO p part loop=false by simpa using hc]
   exact bW (Ev.some rfl)
def K1(q:Prog):Prog×Bool:=if lR q=true then(q,true) else(⟨[],[]⟩,false)
theorem aAh{n:Nat}(hn:7000≤n){p:Prog}(hp:BG 1000 p):nK n p=some (K1 p):=by
 unfold nK K1
 refine Ev.eq (aB (jY hn hp.sm) (Ev.cond (fun h=>Ev.some ?_) (fun h=> ?_)))
 ·rw [if_neg (by simpa using h)]
 ·have hv:lR p=true:=by simpa using h
  rw [if_pos hv]
  exact aB (aBf (by omega) hv) (Ev.some rfl)
theorem aHY{n:Nat}(hn:7000≤n){p:Prog}(hp:BG 1000 p)(part loop:Int):u7 n p part loop=some (iO p part loop):=by
 unfold u7
 refine Ev.eq (Ev.jn (fun z=>z=iO p part loop) (fun j hj=> ?_) (fun z hz=>Ev.some hz))
 refine aB (jP hn hp.sm) (Ev.cond (fun hv=> ?_) (fun hv=>hj _ (by unfold iO;rw [hv];rfl)))
 refine aI (fun h1=>aI (fun h2=> ?_) (fun h2=> ?_)) (fun h1=> ?_)
 ·obtain⟨x,hx,hx2⟩:=iM h1 h2
  refine aI (fun h3=>aB hx (hj _ ?_)) (fun h3=>hj _ ?_)
  ·unfold iO
   rw [hv,hx]
   exact decide_eq_decide.2 (by omega)
  ·unfold iO
   rw [hv,hx]
   exact(decide_eq_false (by omega)).symm
 ·exact hj _ (by unfold iO;rw [aEG (by omega),Bool.and_false])
 ·exact hj _ (by unfold iO;rw [aEG (by omega),Bool.and_false])
theorem aFU{n:Nat}(hn:7000≤n){p:Prog}(hp:BG 1000 p){i:Nat}(hi:i<p.parts.length){y:Part}(hy:BPt 1000 y):rG n p (i:Int) 1 [y]=some (K1 ⟨p.arrays,p.parts.set i y⟩):=by
 have hpl:=hp.2.1
 have hq:BG 1000 ⟨p.arrays,p.parts.set i y⟩:=⟨hp.1,by dsimp only;rw [List.length_set];exact hpl,pR hp.2.2 hy⟩
 unfold rG K1
 refine Ev.eq (aB (sM (by omega) hp) (aB (zS (by omega) (by omega) (by omega)) ?_))
 rw [Int.toNat_natCast,show(0:Int).toNat=0 from rfl,List.drop_zero]
 refine aB (x:=p.parts.take i) (b9 (by simp;omega)) (aB (x:=p.parts.take i++[y]) (b9 (by simp;omega)) ?_)
 rw [aP (by omega)]
 refine aB (zS (by omega) (by omega) (by omega)) ?_
 rw [Int.toNat_natCast,List.take_length,show((i:Int)+1).toNat=i+1 by omega]
 refine aB (x:=p.parts.set i y) ?_ (aB (jP hn hq.sm) (Ev.cond (fun h=>Ev.some ?_) (fun h=> ?_)))
 ·rw [b9 (by simp;omega),List.set_eq_take_append_cons_drop,if_pos hi,List.append_assoc];rfl
 ·rw [if_neg (by simpa using h)]
 ·rw [if_pos (by simpa using h)]
  exact aB (sM (by omega) hq) (Ev.some rfl)
end Go.Lift
