/- Programs compose. -/
import Derived.Test.YtaedfpoebdhocaaGreatYDraw1
set_option maxRecDepth 110000000
set_option linter.unusedVariables false
namespace Go.Lift
open Go
def inL:List Loop→List Int→List Int→Bool
 | [],_,[]=>true
 |l::ls,p,v::vs=>decide (gP l p≤v∧v<lZ l p)&&inL ls (p++[v]) vs
 |_,_,_=>false
theorem xX: ∀(ls:List Loop) (p q:List Int),q∈pts ls p↔ ∃vs,q=p++vs∧inL ls p vs=true
 | [],p,q=>by
  simp only [pts,List.mem_singleton];constructor
  ·rintro rfl;exact⟨[],by simp,rfl⟩
  rintro⟨vs,rfl,h⟩;cases vs with
  |nil=>simp
  |cons=>simp [inL] at h
 |l::ls,p,q=>by
  simp only [pts,List.mem_flatMap,aBQ];constructor
  ·rintro⟨v,hv,hq⟩;obtain⟨vs,rfl,h⟩:=(xX ls (p++[v]) q).1 hq;exact⟨v::vs,by simp,by simp [inL,hv,h]⟩
  rintro⟨vs,rfl,h⟩;cases vs with
  |nil=>simp [inL] at h
  |cons v vs=>
   simp only [inL,Bool.and_eq_true,decide_eq_true_eq] at h;exact⟨v,h.1,(xX ls (p++[v]) _).2 ⟨vs,by simp,h.2⟩⟩
def pIn(nest:List Loop)(q:List Int):Bool:=dC nest&&(D4 q&&(decide (q.length=nest.length)&&inL nest [] q))
theorem mT{α:Type}{l:List α}{i:Nat}{x:α}(h:l[i]? =some x):l.take (i+1)=l.take i++[x]:=by rw [vAH,h];rfl
theorem zF{n:Nat}(hn:6600000≤n){nest:List Loop}(hf:Fit nest){q:List Int}(hl:q.length=nest.length){span:Loop→List Int→Option (Int×Int)}
  (hs: ∀(l:Loop) (d:Int) (k:Nat) (p:List Int),bP l.lo d=true→bP l.hi d=true→jM k p→span l p=some (gP l p,lZ l p)):
  aO (fun again6 (x5:Int)=>bif decide (x5<(nest.length:Int)) then(
     Option.bind (ix nest x5) fun x7=>Option.bind (sub q 0 x5) fun x8=>Option.bind (span x7 x8) fun x9=>
     jn (fun(x12:Bool)=>bif x12 then(some false) else(again6 (wr (x5+1))))
      fun j10=>Option.bind (ix q x5) fun x11=>bif decide (x11<x9.1) then(j10 true) else(j10 (decide (x9.2≤x11)))) else(some true)) n 0=some (inL nest [] q):=by
 refine Ev.eq ?_;have h4:=hf.1;refine Ev.loop (fun x:Int=> ∃i:Nat,x=i∧i≤nest.length∧jM i (q.take i)∧inL nest [] q=inL (nest.drop i) (q.take i) (q.drop i)) (fun x=>nest.length-x.toNat) ?_ n 0 ⟨0,rfl,by omega,pt0,rfl⟩ (by omega);rintro again x ⟨i,rfl,hi,hp,hI⟩ hr;refine aI (fun hlt=>?_) fun hge=>Ev.some ?_
 ·have hg:=cU (show i<nest.length by omega);have hq:=cU (show i<q.length by omega);obtain⟨s1,s2⟩:=hf.2 i _ hg;have hsub:sub q 0 (i:Int)=some (q.take i):=by rw [aHs (by omega) (by omega) (by omega),vAO];rfl
  refine aB (aR hg) (aB hsub (aB (hs _ _ _ _ s1 s2 hp) ?_));rw [jE hg,jE hq] at hI;simp only [inL] at hI;refine Ev.jn (fun z=>z= !decide (gP nest[i] (q.take i)≤q[i]∧q[i]<lZ nest[i] (q.take i))) (fun j hj=>aB (aR hq) (aI (fun h=>hj _ ?_) fun h=>hj _ ?_)) fun z hz=>?_
  ·dsimp only at h;rw [decide_eq_false (by omega)];rfl
  ·dsimp only at h⊢;by_cases h2:lZ nest[i] (q.take i)≤q[i]
   ·rw [decide_eq_true h2,decide_eq_false (by omega)];rfl
   rw [decide_eq_false h2,decide_eq_true (by omega)];rfl
  subst hz;by_cases hv:gP nest[i] (q.take i)≤q[i]∧q[i]<lZ nest[i] (q.take i)
  ·rw [decide_eq_true hv] at hI⊢;rw [vAR] at hI;show Ev (again (wr ((i:Int)+1))) _;rw [aK (by omega)];refine hr _ ⟨i+1,by omega,by omega,?_,?_⟩ (by omega)
   ·rw [mT hq];exact tC s1 s2 hp (by omega) hv
   rw [hI,mT hq]
  rw [decide_eq_false hv] at hI⊢;rw [Bool.false_and] at hI;exact Ev.some hI.symm
 have e:i=nest.length:=by omega
 subst e;rw [hI,vBo,←hl,vBo];rfl
theorem O6{n:Nat}(hn:6600000≤n){nest:List Loop}(h:SmN nest){q:List Int}(hq:q.length≤1100000):qQ n nest q=some (pIn nest q):=by
 refine Ev.eq ?_;unfold qQ pIn;refine Ev.jn (fun z=>z= !(dC nest&&(D4 q&&decide (q.length=nest.length)))) (fun j hj=>?_) fun z hz=>?_
 ·refine aB (pK (by omega) h) ?_;cases h1:dC nest with
  |false=>rw [h1] at hj;exact hj true rfl
  |true=>
   refine bB (aB (tQ (by omega) hq) ?_);rw [h1] at hj;cases h2:D4 q with
   |false=>rw [h2] at hj;exact hj true rfl
   |true=>
    rw [h2] at hj;refine bB (hj _ ?_);rw [show decide ((q.length:Int)=(nest.length:Int))=decide (q.length=nest.length) from decide_eq_decide.2 (by omega)];rfl
 subst hz;cases h1:dC nest with
 |false=>exact Ev.some rfl
 |true=>
  cases h2:D4 q with
  |false=>exact Ev.some rfl
  |true=>
   by_cases h3:q.length=nest.length
   ·rw [decide_eq_true h3];refine Ev.of (zF hn (wD h1) h3 fun l d k p a b c=>J6 (by omega) a b c) rfl
   rw [decide_eq_false h3];exact Ev.some rfl
def instB(p:Prog)(x:Inst):Bool:=match p.parts[x.part.toNat]? with
 |some P=>decide (0≤x.part)&&(decide (0≤x.stmt∧x.stmt<P.body.length)&&pIn P.nest x.point)
 |none=>false
theorem instB_iff{p:Prog}(hv:jO p=true){x:Inst}:instB p x=true↔D1 p x:=by
 obtain⟨hl,hd,h4,hpo,hil⟩:=vR hv;constructor
 ·intro h;unfold instB at h;split at h
  ·rename_i P hP;simp only [Bool.and_eq_true,decide_eq_true_eq,pIn] at h;obtain⟨h1,⟨h2,h3⟩,g1,g2,g3,g4⟩:=h;have hk:=cU (show x.stmt.toNat<P.body.length by omega);have hn:=(tE (hpo P (cM hP))).1;refine⟨x.part.toNat,x.stmt.toNat,P,_,by omega,by omega,hP,hk,?_⟩;rw [(aBD hn).2.2.2.1,xX];exact⟨x.point,by simp,g4⟩
  cases h
 rintro⟨i,k,P,s,e1,e2,e3,e4,e5⟩;unfold instB;rw [e1,vAO,e3];have hk:=(bR.1 e4).1;obtain⟨hn,hb,_,hc⟩:=tE (hpo P (cM e3));have hpt:=(aBD hn).2.2.1 _ e5;have hpv:=(hc s (cM e4) _ e5).2;rw [(aBD hn).2.2.2.1,xX] at e5;obtain⟨vs,rfl0,h⟩:=e5;rw [List.nil_append] at rfl0;have hno:dC P.nest=true:=by
  unfold NP at hn;split at hn
  ·rename_i h;exact h.1
  cases hn
 simp only [Bool.and_eq_true,decide_eq_true_eq,pIn];rw [e2];exact⟨by omega,⟨by omega,by omega⟩,hno,hpv,hpt.1,by rw [rfl0];exact h⟩
theorem xI{n:Nat}(hn:7700000≤n){p:Prog}(hp:SmP p){x:Inst}(hx:x.point.length≤1100000):dJ n p x=some (instB p x):=by
 obtain⟨hp1,hp2,hp3⟩:=hp;refine Ev.eq ?_;unfold dJ instB;refine Ev.jn (fun z=>z=match p.parts[x.part.toNat]? with
 |some P=>decide (0≤x.part)&&(decide (0≤x.stmt∧x.stmt<P.body.length)&&pIn P.nest x.point)
 |none=>false) (fun j hj=>aB (cT _ _ _ _) ?_) fun z hz=>Ev.some hz
 rw [aK (by omega)];refine aI (fun h=>?_) fun h=>hj _ ?_
 ·have hg:=cU (show x.part.toNat<p.parts.length by omega);obtain⟨q1,q2,q3⟩:=hp3 _ (cM hg);refine aB (x:=p.parts[x.part.toNat]) (by unfold ix;rw [if_pos h.1];exact hg) (aB (cT _ _ _ _) ?_);rw [aK (by omega)];refine aI (fun h2=>aB (O6 (by omega) q1 hx) (hj _ ?_)) fun h2=>hj _ ?_
  ·rw [hg];dsimp only;rw [decide_eq_true h.1,decide_eq_true (show 0≤x.stmt∧x.stmt<_ by omega)];rfl
  rw [hg];dsimp only;rw [decide_eq_true h.1,decide_eq_false (show¬(0≤x.stmt∧x.stmt<_) by omega)];rfl
 split
 ·rename_i P hP
  have:=(bR.1 hP).1;rw [decide_eq_false (by omega)];rfl
 rfl
def yZ(p:Prog)(m:List Int)(x:Inst):List Int×Bool:=if rU p m=true∧instB p x=true then(E3 p m x,true) else([],false)
theorem v8{n:Nat}(hn:7810000≤n){p:Prog}(hp:SmP p){m:List Int}(hm:m.length≤1100000){x:Inst}(hx:x.point.length≤1100000):eD n p m x=some (yZ p m x):=by
 refine Ev.eq ?_;unfold eD yZ;refine Ev.jn (fun z=>z= !(rU p m&&instB p x)) (fun j hj=>?_) fun z hz=>?_
 ·refine aB (wA (by omega) hp hm) ?_;cases h1:rU p m with
  |false=>rw [h1] at hj;exact hj true rfl
  |true=>rw [h1] at hj;exact bB (aB (xI (by omega) hp hx) (hj _ rfl))
 subst hz;cases h1:rU p m with
 |false=>exact Ev.some (by simp)
 |true=>
  cases h2:instB p x with
  |false=>exact Ev.some (by simp)
  |true=>
   obtain⟨hv,hmo⟩:=aGP h1;have hio:=(instB_iff hv).1 h2;have hc:m_ownClone m=some m:=by unfold m_ownClone;rw [if_pos (by omega)]
   have hok2:=aBP hv hmo hio;have hsl:bN m (E3 p m x)=some ():=by
    unfold bN;rw [if_pos]
    have:=hmo.1;have:=hok2.1;omega
   refine bB (aB hc (aB (aGn hn hv hmo hio) (aB hsl (Ev.some ?_))));simp
theorem aIv{α:Type}{n:Int}(h:0≤n∧n≤1000000000)(x:α):mk n x=some (List.replicate n.toNat x):=by unfold mk;rw [if_pos h]
def pick(l:List Inst)(o:List Int):List Inst:=o.filterMap fun c=>l[c.toNat]?
end Go.Lift
