/- Instances are local. -/
import Derived.Test.YtaedfpoebdhocaaGreatYRun1
set_option maxRecDepth 110000000
set_option linter.unusedVariables false
namespace Go.Lift
open Go
theorem N5{n:Nat}(hn:6600000≤n){nest:List Loop}(h:SmN nest){q:List Int}(hq:q.length≤1100000):qG n nest q=some (pIn nest q):=by
 refine Ev.eq ?_;unfold qG pIn;refine Ev.jn (fun z=>z= !(dC nest&&(D4 q&&decide (q.length=nest.length)))) (fun j hj=>?_) fun z hz=>?_
 ·refine aB (pE (by omega) h) ?_;cases h1:dC nest with
  |false=>rw [h1] at hj;exact hj true rfl
  |true=>
   refine bB (aB (sZ (by omega) hq) ?_);rw [h1] at hj;cases h2:D4 q with
   |false=>rw [h2] at hj;exact hj true rfl
   |true=>
    rw [h2] at hj;refine bB (hj _ ?_);rw [show decide ((q.length:Int)=(nest.length:Int))=decide (q.length=nest.length) from decide_eq_decide.2 (by omega)];rfl
 subst hz;cases h1:dC nest with
 |false=>exact Ev.some rfl
 |true=>
  cases h2:D4 q with
  |false=>exact Ev.some rfl
  |true=>
   by_cases h3:q.length=nest.length
   ·rw [decide_eq_true h3]
    have:=zF hn (wD h1) h3 (span:=fun l p=>hK n l p) fun l d k p a b c=>rH (by omega) a b c;rw [←h3] at this;exact Ev.of this rfl
   rw [decide_eq_false h3];exact Ev.some rfl
theorem aCu{n:Nat}(hn:7700000≤n){p:Prog}(hp:SmP p){x:Inst}(hx:x.point.length≤1100000):N2 n p x=some (instB p x):=by
 obtain⟨hp1,hp2,hp3⟩:=hp;refine Ev.eq ?_;unfold N2 instB;refine Ev.jn (fun z=>z= !decide (0≤x.part∧x.part<p.parts.length)) (fun j hj=>aI (fun h=>hj _ (by rw [decide_eq_false (by omega)];rfl)) fun h=>hj _ ?_) fun z hz=>?_
 ·by_cases h2:(p.parts.length:Int)≤x.part
  ·rw [decide_eq_true h2,decide_eq_false (by omega)];rfl
  rw [decide_eq_false h2,decide_eq_true (by omega)];rfl
 subst hz;by_cases h:0≤x.part∧x.part<p.parts.length
 ·have hg:=cU (show x.part.toNat<p.parts.length by omega);obtain⟨q1,q2,q3⟩:=hp3 _ (cM hg);rw [decide_eq_true h,hg];refine bB (aB (aEb h.1 (by omega)) ?_);refine Ev.jn (fun z=>z=(decide (0≤x.part)&&(decide (0≤x.stmt∧x.stmt<p.parts[x.part.toNat].body.length)&&pIn p.parts[x.part.toNat].nest x.point))) (fun j hj=>aI (fun a=>aI (fun b=>aB (N5 (by omega) q1 hx) (hj _ ?_)) fun b=>hj _ ?_) fun a=>hj _ ?_) fun z hz=>Ev.some hz
  ·rw [decide_eq_true h.1,decide_eq_true (show 0≤x.stmt∧x.stmt<_ by omega)];rfl
  ·rw [decide_eq_true h.1,decide_eq_false (show¬(0≤x.stmt∧x.stmt<_) by omega)];rfl
  rw [decide_eq_true h.1,decide_eq_false (show¬(0≤x.stmt∧x.stmt<_) by omega)];rfl
 rw [decide_eq_false h];refine cF (Ev.some ?_);split
 ·rename_i P hP
  have:=(bR.1 hP).1;rw [decide_eq_false (by omega)];rfl
 rfl
theorem vJ{n:Nat}(hn:7810000≤n){p:Prog}(hp:SmP p){m:List Int}(hm:m.length≤1100000){x:Inst}(hx:x.point.length≤1100000):fU n p m x=some (yZ p m x):=by
 refine Ev.eq ?_;unfold fU yZ;refine Ev.jn (fun z=>z= !(rU p m&&instB p x)) (fun j hj=>?_) fun z hz=>?_
 ·refine aB (vN (by omega) hp hm) ?_;cases h1:rU p m with
  |false=>rw [h1] at hj;exact hj true rfl
  |true=>rw [h1] at hj;exact bB (aB (aCu (by omega) hp hx) (hj _ rfl))
 subst hz;cases h1:rU p m with
 |false=>exact Ev.some (by simp)
 |true=>
  cases h2:instB p x with
  |false=>exact Ev.some (by simp)
  |true=>
   obtain⟨hv,hmo⟩:=aGP h1;have hio:=(instB_iff hv).1 h2;have hok2:=aBP hv hmo hio;have hsl:bN m (E3 p m x)=some ():=by
    unfold bN;rw [if_pos]
    have:=hmo.1;have:=hok2.1;omega
   refine bB (aB (jH m hm) (aB (aDP hn hv hmo hio) (aB hsl (Ev.some ?_))));simp
end Go.Lift
