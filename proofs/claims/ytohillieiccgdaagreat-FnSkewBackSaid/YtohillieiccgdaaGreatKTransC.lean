/- Copies of programs, sameness with itself, and the frames of the changes. -/
import Derived.Test.YtohillieiccgdaaGreatKTransB
set_option maxRecDepth 100000
set_option linter.unusedVariables false
namespace Go.Lift
open Go
theorem M6(n:Nat){a:Affine}(h:BA 1000 a):e9 n a=some a:=by
 unfold e9
 rw [dT _ h];rfl
theorem t2{n:Nat}(hn:5000≤n){l:List Affine}(h:BAs 1000 l):cH n l=some l:=by
 unfold cH
 exact Ev.eq (lX (K:=fun x1=>some x1) (fun x hx=>M6 n (h.2 x hx)) h.1 hn (Ev.some rfl))
theorem M7{n:Nat}(hn:5000≤n){a:Access}(h:BAs 1000 a.subs):fA n a=some a:=by
 unfold fA
 rw [t2 hn h];rfl
theorem B6: ∀(L n:Nat) (e:Expr),5000+L≤n→BE 1000 L e→s_l16OwnExpr (n+1) e=some e
 |0,_,_,_,h=>h.elim
 |L+1,n,e,hn,h=>by
  obtain⟨h1,h2,h3,h4⟩:=h
  obtain⟨n,rfl⟩: ∃j,n=j+1:=⟨n-1,by omega⟩
  unfold s_l16OwnExpr gT
  rw [M6 _ h2,M7 (by omega) h3]
  refine Ev.eq (aB rfl (aB rfl (aB (x:=e.kids) ?_ (Ev.some (by cases e;rfl)))))
  exact Ev.eq (lX (f:=s_l16OwnExpr (n+1)) (K:=fun x1=>some x1) (fun x hx=>B6 L n x (by omega) (h4 x hx)) h1 (by omega) (Ev.some rfl))
theorem aBp{n:Nat}(hn:6000≤n){s:Stmt}(h:BS 1000 s):jL n s=some s:=by
 obtain⟨n,rfl⟩: ∃j,n=j+1:=⟨n-1,by omega⟩
 unfold jL
 rw [M7 (by omega) h.1,B6 5 n s.value (by omega) h.2];rfl
theorem aBr{n:Nat}(hn:6000≤n){x:Part}(h:BPt 1000 x):jM n x=some x:=by
 obtain⟨⟨h1,h2⟩,h3,h4⟩:=h
 have e1:eZ n x.nest=some x.nest:=by
  unfold eZ
  refine Ev.eq (lX (K:=fun x1=>some x1) (fun l hl=> ?_) h1 (by omega) (Ev.some rfl))
  unfold mD
  rw [t2 (by omega) (h2 l hl).1,t2 (by omega) (h2 l hl).2];rfl
 have e2:eX n x.body=some x.body:=by
  unfold eX
  exact Ev.eq (lX (K:=fun x1=>some x1) (fun l hl=>aBp hn (h4 l hl)) h3 (by omega) (Ev.some rfl))
 unfold jM
 rw [e1,e2];rfl
theorem aBq{n:Nat}(hn:6000≤n){p:Prog}(h:BG 1000 p):fT n p=some p:=by
 obtain⟨⟨h1,h2⟩,h3,h4⟩:=h
 have e1:eH n p.arrays=some p.arrays:=by
  unfold eH
  refine Ev.eq (lX (K:=fun x1=>some x1) (fun l hl=> ?_) h1 (by omega) (Ev.some rfl))
  unfold lI
  rw [dT _ (h2 l hl)];rfl
 have e2:eY n p.parts=some p.parts:=by
  unfold eY
  exact Ev.eq (lX (K:=fun x1=>some x1) (fun l hl=>aBr hn (h4 l hl)) h3 (by omega) (Ev.some rfl))
 unfold fT
 rw [e1,e2];rfl
theorem oP{α:Type}{f:α→α→Option Bool}{l:List α}(hf: ∀x∈l,f x x=some true){n:Nat}(hn:l.length<n)(hl:l.length≤1000000):
  (bif !decide ((l.length:Int)=(l.length:Int)) then(some false) else(aM (fun again2 (x1:Int)=>bif decide (x1<(l.length:Int)) then(Option.bind (ix l x1) fun x3=>Option.bind (ix l x1) fun x4=>Option.bind (f x3 x4) fun x5=>bif !x5 then(some false) else(again2 (wr (x1+1)))) else(some true)) n 0))=some true:=by
 refine Ev.eq (iR (fun h=>(h rfl).elim) (fun _=> ?_))
 refine Ev.loop (fun x:Int=> ∃i:Nat,x=i∧i≤l.length) (fun x=>l.length-x.toNat) ?_ n 0 ⟨0,rfl,by omega⟩ (by omega)
 rintro again x ⟨i,rfl,hi⟩ hr
 refine aI (fun hlt=> ?_) (fun _=>Ev.some rfl)
 obtain⟨e,hg⟩: ∃e,l[i]? =some e:=⟨_,List.getElem?_eq_getElem (show i<l.length by omega)⟩
 refine aB (aU hg) (aB (aU hg) (aB (hf e (List.mem_of_getElem? hg)) (bZ ?_)))
 rw [aP (by omega)]
 exact hr _ ⟨i+1,by omega,by omega⟩ (by omega)
theorem L4{a:List Int}{n:Nat}(hn:a.length<n)(hl:a.length≤1000000):jB n a a=some true:=by
 unfold jB
 refine Ev.eq (iR (fun h=>(h rfl).elim) (fun _=> ?_))
 refine Ev.loop (fun x:Int=> ∃i:Nat,x=i∧i≤a.length) (fun x=>a.length-x.toNat) ?_ n 0 ⟨0,rfl,by omega⟩ (by omega)
 rintro again x ⟨i,rfl,hi⟩ hr
 refine aI (fun hlt=> ?_) (fun _=>Ev.some rfl)
 obtain⟨e,hg⟩: ∃e,a[i]? =some e:=⟨_,List.getElem?_eq_getElem (show i<a.length by omega)⟩
 refine aB (aU hg) (aB (aU hg) (iR (fun h=>(h rfl).elim) (fun _=> ?_)))
 rw [aP (by omega)]
 exact hr _ ⟨i+1,by omega,by omega⟩ (by omega)
theorem aC2{n:Nat}(hn:5000≤n){a:Affine}(h:BA 1000 a):b6 n a a=some true:=by
 unfold BA at h
 unfold b6
 refine Ev.eq (Ev.jn (fun z=>z=true) (fun j hj=>aB (L4 (by omega) (by omega)) (bW (hj _ (decide_eq_true rfl)))) (fun z hz=>Ev.some hz))
theorem J2{n:Nat}(hn:5000≤n){l:List Affine}(h:BAs 1000 l):cI n l l (fun q0 q1=>b6 n q0 q1)=some true:=by
 have:=h.1
 unfold cI
 exact oP (fun x hx=>aC2 hn (h.2 x hx)) (by omega) (by omega)
theorem aC3{n:Nat}(hn:5000≤n){a:Access}(h:BAs 1000 a.subs):hJ n a a=some true:=by
 unfold hJ
 refine Ev.eq (Ev.jn (fun z=>z=true) (fun j hj=> ?_) (fun z hz=>Ev.some hz))
 exact aI (fun _=>aB (J2 hn h) (hj _ rfl)) (fun h=>(h rfl).elim)
theorem aAk: ∀(L n:Nat) (e:Expr),5000+L≤n→BE 1000 L e→i_exprSame (n+1) e e=some true
 |0,_,_,_,h=>h.elim
 |L+1,n,e,hn,h=>by
  obtain⟨h1,h2,h3,h4⟩:=h
  obtain⟨n,rfl⟩: ∃j,n=j+1:=⟨n-1,by omega⟩
  unfold i_exprSame
  refine Ev.eq (Ev.jn (fun z=>z=true) (fun j hj=> ?_) (fun z hz=>Ev.some hz))
  refine aI (fun _=>aI (fun _=>aB (aC2 (by omega) h2) (bW (aB (aC3 (by omega) h3) (bW (aB (x:=true) ?_ (hj _ rfl)))))) (fun h=>(h rfl).elim)) (fun h=>(h rfl).elim)
  unfold hD
  exact oP (fun x hx=>aAk L n x (by omega) (h4 x hx)) (by omega) (by omega)
theorem aEq{n:Nat}(hn:6000≤n){s:Stmt}(h:BS 1000 s):kY n s s=some true:=by
 obtain⟨n,rfl⟩: ∃j,n=j+1:=⟨n-1,by omega⟩
 unfold kY
 refine Ev.eq (Ev.jn (fun z=>z=true) (fun j hj=> ?_) (fun z hz=>Ev.some hz))
 exact aB (aC3 (by omega) h.1) (bW (aB (aAk 5 n s.value (by omega) h.2) (hj _ rfl)))
theorem aEH{n:Nat}(hn:5000≤n){nest:List Loop}(h:BN 1000 nest):nM n nest nest=some true:=by
 have:=h.1
 unfold nM hA
 rw [oP (fun l hl=> ?_) (by omega) (by omega)]
 ·rfl
 ·unfold jZ
  refine Ev.eq (Ev.jn (fun z=>z=true) (fun j hj=> ?_) (fun z hz=>Ev.some hz))
  exact aB (J2 hn (h.2 l hl).1) (bW (aB (J2 hn (h.2 l hl).2) (hj _ rfl)))
theorem aEE{n:Nat}(hn:6000≤n){x:Part}(h:BPt 1000 x):eC n x x=some true:=by
 have:=h.2.1
 unfold eC
 refine Ev.eq (Ev.jn (fun z=>z=true) (fun j hj=> ?_) (fun z hz=>Ev.some hz))
 refine aB (aEH (by omega) h.1) (bW (aB (x:=true) ?_ (hj _ rfl)))
 unfold gY
 exact oP (fun s hs=>aEq hn (h.2.2 s hs)) (by omega) (by omega)
theorem Z4{n:Nat}(hn:6000≤n){p:Prog}(h:BG 1000 p):cR n p p=some true:=by
 obtain⟨⟨h1,h2⟩,h3,h4⟩:=h
 unfold cR
 refine Ev.eq (Ev.jn (fun z=>z=true) (fun j hj=> ?_) (fun z hz=>Ev.some hz))
 refine aB (x:=true) ?_ (bW (aB (x:=true) ?_ (hj _ rfl)))
 ·unfold gD
  refine oP (fun x hx=> ?_) (by omega) (by omega)
  unfold eD
  refine Ev.eq (Ev.jn (fun z=>z=true) (fun j hj=> ?_) (fun z hz=>Ev.some hz))
  have:=h2 x hx
  exact aI (fun _=>aB (L4 (by omega) (by omega)) (hj _ rfl)) (fun h=>(h rfl).elim)
 ·unfold gZ
  exact oP (fun x hx=>aEE hn (h4 x hx)) (by omega) (by omega)
def eM(p:Prog)(part loop:Int):Bool:=jS p&&match ix p.parts part with
 |some x=>decide (0≤loop∧loop<(x.nest.length:Int))
 |none=>false
theorem aEO{α:Type}{l:List α}{i:Int}(h: ¬(0≤i∧i<(l.length:Int))):ix l i=none:=by
 cases hx:ix l i with
 |none=>rfl
 |some x=>
  obtain⟨h1,h2⟩:=qC hx
  have:=(List.getElem?_eq_some_iff.1 h2).1
  exact absurd ⟨h1,by omega⟩ h
theorem aHR{α:Type}{l:List α}{i:Int}{x:α}(h:ix l i=some x): ∃k:Nat,i=k∧k<l.length∧l[k]? =some x:=by
 obtain⟨h1,h2⟩:=qC h
 exact⟨i.toNat,by omega,(List.getElem?_eq_some_iff.1 h2).1,h2⟩
theorem xG(n:Nat){p:Prog}(h:p.parts.length≤1000)(part:Int):dX n p part=some (decide (0≤part∧part<(p.parts.length:Int))):=by
 unfold dX
 rw [dW,aP (by omega)]
 exact congrArg some (decide_eq_decide.2 (by omega))
theorem aFI{n:Nat}(hn:7000≤n){p:Prog}(hp:BG 1000 p)(part loop:Int)(hl:loop≠ -1):mH n p part loop=some (if eM p part loop=true then(p,true) else(⟨[],[]⟩,false)):=by
 unfold mH
 refine Ev.eq (Ev.jn (fun z=>z= !eM p part loop) (fun j hj=> ?_) (fun z hz=> ?_))
 ·refine aB (jY hn hp.sm) (Ev.cond (fun h=> ?_) (fun h=> ?_))
  ·refine hj _ ?_
   unfold eM
   rw [show jS p=false by simpa using h];rfl
  ·have hv:jS p=true:=by simpa using h
   refine aB (xG n hp.2.1 part) ?_
   by_cases hi:0≤part∧part<(p.parts.length:Int)
   ·obtain⟨x,hx,hx2⟩:=iJ hi.1 hi.2
    rw [decide_eq_true hi]
    refine bZ (iR (fun _=>aB (x:=eM p part loop) ?_ (hj _ rfl)) (fun h=>absurd h hl))
    unfold iB
    refine Ev.eq (Ev.jn (fun z=>z=eM p part loop) (fun j hj=> ?_) (fun z hz=>Ev.some hz))
    rw [xG n hp.2.1 part,decide_eq_true hi]
    refine aB rfl (bW (aB hx ?_))
    have:=(hp.2.2 x (List.mem_of_getElem? hx2)).1.1
    rw [aP (by omega),dW]
    refine aB rfl (hj _ ?_)
    unfold eM
    rw [hv,hx]
    exact decide_eq_decide.2 (by omega)
   ·rw [decide_eq_false hi]
    refine bW (hj _ ?_)
    unfold eM
    rw [aEO hi,Bool.and_false];rfl
 ·subst hz
  by_cases hc:eM p part loop=true
  ·rw [hc]
   have hv:jS p=true:=by unfold eM at hc;rw [Bool.and_eq_true] at hc;exact hc.1
   obtain⟨x,hx⟩: ∃x,ix p.parts part=some x:=by
    cases hx:ix p.parts part with
    |some x=>exact⟨x,rfl⟩
    |none=>unfold eM at hc;rw [hx,Bool.and_false] at hc;cases hc
   exact bZ (aB (aBh (by omega) hv) (aB hx (Ev.some rfl)))
  ·rw [show eM p part loop=false by simpa using hc]
   exact bW (Ev.some rfl)
def E9(q:Prog):Prog×Bool:=if jS q=true then(q,true) else(⟨[],[]⟩,false)
theorem aAj{n:Nat}(hn:7000≤n){p:Prog}(hp:BG 1000 p):nK n p=some (E9 p):=by
 unfold nK E9
 refine Ev.eq (aB (jY hn hp.sm) (Ev.cond (fun h=>Ev.some ?_) (fun h=> ?_)))
 ·rw [if_neg (by simpa using h)]
 ·have hv:jS p=true:=by simpa using h
  rw [if_pos hv]
  exact aB (aBh (by omega) hv) (Ev.some rfl)
theorem aEX{n:Nat}(hn:7000≤n){p:Prog}(hp:BG 1000 p)(part loop:Int):sX n p part loop=some (eM p part loop):=by
 unfold sX
 refine Ev.eq (Ev.jn (fun z=>z=eM p part loop) (fun j hj=> ?_) (fun z hz=>Ev.some hz))
 refine aB (jN hn hp.sm) (Ev.cond (fun hv=> ?_) (fun hv=>hj _ (by unfold eM;rw [hv];rfl)))
 refine aI (fun h1=>aI (fun h2=> ?_) (fun h2=> ?_)) (fun h1=> ?_)
 ·obtain⟨x,hx,hx2⟩:=iJ h1 h2
  refine aI (fun h3=>aB hx (hj _ ?_)) (fun h3=>hj _ ?_)
  ·unfold eM
   rw [hv,hx]
   exact decide_eq_decide.2 (by omega)
  ·unfold eM
   rw [hv,hx]
   exact(decide_eq_false (by omega)).symm
 ·exact hj _ (by unfold eM;rw [aEO (by omega),Bool.and_false])
 ·exact hj _ (by unfold eM;rw [aEO (by omega),Bool.and_false])
theorem aF6{n:Nat}(hn:7000≤n){p:Prog}(hp:BG 1000 p){i:Nat}(hi:i<p.parts.length){y:Part}(hy:BPt 1000 y):rD n p (i:Int) 1 [y]=some (E9 ⟨p.arrays,p.parts.set i y⟩):=by
 have hpl:=hp.2.1
 have hq:BG 1000 ⟨p.arrays,p.parts.set i y⟩:=⟨hp.1,by dsimp only;rw [List.length_set];exact hpl,nY hp.2.2 hy⟩
 unfold rD E9
 refine Ev.eq (aB (sM (by omega) hp) (aB (zT (by omega) (by omega) (by omega)) ?_))
 rw [Int.toNat_natCast,show(0:Int).toNat=0 from rfl,List.drop_zero]
 refine aB (x:=p.parts.take i) (b9 (by simp;omega)) (aB (x:=p.parts.take i++[y]) (b9 (by simp;omega)) ?_)
 rw [aP (by omega)]
 refine aB (zT (by omega) (by omega) (by omega)) ?_
 rw [Int.toNat_natCast,List.take_length,show((i:Int)+1).toNat=i+1 by omega]
 refine aB (x:=p.parts.set i y) ?_ (aB (jN hn hq.sm) (Ev.cond (fun h=>Ev.some ?_) (fun h=> ?_)))
 ·rw [b9 (by simp;omega),List.set_eq_take_append_cons_drop,if_pos hi,List.append_assoc];rfl
 ·rw [if_neg (by simpa using h)]
 ·rw [if_pos (by simpa using h)]
  exact aB (sM (by omega) hq) (Ev.some rfl)
end Go.Lift
