/- Programs compose. -/
import Derived.Test.YtcihigfifglboaaGreatWDraw1
set_option maxRecDepth 110000000
set_option linter.unusedVariables false
namespace Go.Lift
open Go
theorem pX{α:Type}{l:List α}{i:Nat}{x:α}(h:l[i]? =some x):l.take (i+1)=l.take i++[x]:=by rw [vAG,h];rfl
theorem O7{n:Nat}(hn:7700000≤n){p:Prog}(hp:SmP p): ∃L,bQ n p=some (L,cR p)∧(cR p=true→L=insts p.parts):=by
 rw [lI hn hp];cases ha:mL p with
 |false=>
  refine⟨[],?_,fun h=>?_⟩
  ·rw [if_neg (by simp),show cR p=false by unfold cR;rw [ha];rfl]
  unfold cR at h;rw [ha] at h;cases h
 |true=>
  refine⟨insts p.parts,?_,fun _=>rfl⟩;rw [if_pos rfl,show cR p=decide ((insts p.parts).length≤120) by
   unfold cR;rw [ha,Bool.true_and];exact decide_eq_decide.2 (by have:=insts_len' p.parts;omega)]
theorem aEk{α:Type}{n:Int}(h:0≤n∧n≤1000000000)(x:α):mk n x=some (List.replicate n.toNat x):=by unfold mk;rw [if_pos h]
def qZ:List Bool→List Int→Bool
 |_,[]=>true
 |f,c::cs=>decide (0≤c∧c<f.length)&&(!f.getD c.toNat false&&qZ (f.set c.toNat true) cs)
def wR(T:Nat)(o:List Int):Bool:=qZ (List.replicate T false) o&&decide (o.length=T)
theorem I2: ∀{o:List Int} {f:List Bool},qZ f o=true→ ∀c∈o,0≤c∧c<f.length
 | [],f,_,c,hc=>by cases hc
 |d::o,f,h,c,hc=>by
  simp only [qZ,Bool.and_eq_true,decide_eq_true_eq] at h;rcases n7.1 hc with rfl|hc
  ·exact h.1
  have:=I2 h.2.2 c hc
  rwa [List.length_set] at this
theorem O5{n:Nat}(hn:5500000≤n){T:Nat}(hT:T≤1100000){o:List Int}(ho:o.length≤1100000):qN n o (T:Int)=some (wR T o):=by
 refine Ev.eq ?_;unfold qN wR;refine aB (aEk (by omega) false) ?_;rw [vAQ];generalize hf:List.replicate T false=f0;have hf0:f0.length=T:=by rw [←hf];simp
 refine Ev.loop (fun z:List Bool×Int=> ∃i:Nat,z.2=i∧i≤o.length∧z.1.length=T∧qZ f0 o=qZ z.1 (o.drop i)) (fun z=>o.length-z.2.toNat) ?_ n _ ⟨0,rfl,by omega,hf0,rfl⟩ (by dsimp only;omega);rintro again ⟨f,z⟩ ⟨i,hz,hi,hfl,hp⟩ hr;dsimp only at hz hfl hp⊢;subst hz;refine aI (fun hlt=>?_) fun hge=>Ev.some ?_
 ·have hg:=cN (show i<o.length by omega);rw [iZ hg] at hp;simp only [qZ] at hp;rw [hfl] at hp;refine aB (aQ hg) ?_;have ew:wr ((T:Int)-1)=(T:Int)-1:=aK (by omega);refine Ev.jn (fun z=>z= !(decide (0≤o[i]∧o[i]<T)&& !f.getD o[i].toNat false)) (fun j hj=>aB (dC _ _ _ _) ?_) fun z hz=>?_
  ·rw [ew];by_cases h1:0≤o[i]∧o[i]<T
   ·rw [decide_eq_true (show 0≤o[i]∧o[i]≤(T:Int)-1 by omega)];rw [decide_eq_true h1] at hj;refine bA (aB (zS h1.1 (by omega)) (hj _ ?_));rw [vAH,cN (show o[i].toNat<f.length by omega)];simp
   rw [decide_eq_false (show¬(0≤o[i]∧o[i]≤(T:Int)-1) by omega)];rw [decide_eq_false h1] at hj;exact bY (hj _ rfl)
  subst hz;by_cases h1:0≤o[i]∧o[i]<T
  ·rw [decide_eq_true h1] at hp⊢;cases h2:f.getD o[i].toNat false with
   |true=>rw [h2] at hp;exact bY (Ev.some (by rw [hp];rfl))
   |false=>
    rw [h2] at hp;refine bA (aB (zS h1.1 (by omega)) (aB (sQ h1.1 (by omega) true) ?_));rw [aK (by omega)];refine hr _ ⟨i+1,by dsimp only;omega,by omega,by dsimp only;rw [List.length_set];exact hfl,?_⟩ (by dsimp only;omega);dsimp only;rw [hp];rfl
  rw [decide_eq_false h1] at hp⊢;exact bY (Ev.some (by rw [hp];rfl))
 have e:i=o.length:=by omega
 rw [e,vBp] at hp;rw [hp];show decide ((o.length:Int)=(T:Int))=(true&&decide (o.length=T))
 rw [S6];exact decide_eq_decide.2 (by omega)
theorem aCz{n:Nat}(hn:5500000≤n){T:Nat}(hT:T≤1100000){o:List Int}(ho:o.length≤1100000):sS n o (T:Int)=some (wR T o):=by
 refine Ev.eq ?_;unfold sS wR;refine aB (aEk (by omega) false) ?_;rw [vAQ];generalize hf:List.replicate T false=f0;have hf0:f0.length=T:=by rw [←hf];simp
 refine Ev.loop (fun z:List Bool×Int=> ∃i:Nat,z.2=i∧i≤o.length∧z.1.length=T∧qZ f0 o=qZ z.1 (o.drop i)) (fun z=>o.length-z.2.toNat) ?_ n _ ⟨0,rfl,by omega,hf0,rfl⟩ (by dsimp only;omega);rintro again ⟨f,z⟩ ⟨i,hz,hi,hfl,hp⟩ hr;dsimp only at hz hfl hp⊢;subst hz;refine aI (fun hlt=>?_) fun hge=>Ev.some ?_
 ·have hg:=cN (show i<o.length by omega);rw [iZ hg] at hp;simp only [qZ] at hp;rw [hfl] at hp;refine Ev.jn (fun z=>z= !(decide (0≤o[i]∧o[i]<T)&& !f.getD o[i].toNat false)) (fun j hj=>aB (aQ hg) (aI (fun h=>?_) fun h=>aI (fun h2=>?_) fun h2=>aB (zS (by omega) (by omega)) (hj _ ?_))) fun z hz=>?_
  ·rw [decide_eq_false (by omega)] at hj;exact hj _ rfl
  ·rw [decide_eq_false (by omega)] at hj;exact hj _ rfl
  ·rw [decide_eq_true (by omega),vAH,cN (show o[i].toNat<f.length by omega)];simp
  subst hz;by_cases h1:0≤o[i]∧o[i]<T
  ·rw [decide_eq_true h1] at hp⊢;cases h2:f.getD o[i].toNat false with
   |true=>rw [h2] at hp;exact bY (Ev.some (by rw [hp];rfl))
   |false=>
    rw [h2] at hp;refine bA (aB (aQ hg) (aB (zS h1.1 (by omega)) (aB (sQ h1.1 (by omega) true) ?_)));rw [aK (by omega)];refine hr _ ⟨i+1,by dsimp only;omega,by omega,by dsimp only;rw [List.length_set];exact hfl,?_⟩ (by dsimp only;omega);dsimp only;rw [hp];rfl
  rw [decide_eq_false h1] at hp⊢;exact bY (Ev.some (by rw [hp];rfl))
 have e:i=o.length:=by omega
 rw [e,vBp] at hp;rw [hp];show decide ((o.length:Int)=(T:Int))=(true&&decide (o.length=T))
 rw [S6];exact decide_eq_decide.2 (by omega)
def zE(p:Prog)(o:List Int):Bool:=cR p&&wR (insts p.parts).length o
theorem xF{n:Nat}(hn:7810000≤n){p:Prog}(hp:SmP p){o:List Int}(ho:o.length≤1100000):jT n p o=some (zE p o):=by
 obtain⟨L,h1,h2⟩:=O7 (n:=n) (by omega) hp;refine Ev.eq ?_;unfold jT zE;refine aB h1 ?_;dsimp only;cases hv:cR p with
 |false=>exact Ev.some rfl
 |true=>
  rw [h2 hv];have hil:=(pD hv).2.2.2.2;exact Ev.jn (fun z=>z=wR (insts p.parts).length o) (fun j hj=>bY (aB (O5 (by omega) (by omega) ho) (hj _ rfl))) fun z hz=>Ev.some hz
theorem w9{n:Nat}(hn:7810000≤n){p:Prog}(hp:SmP p){o:List Int}(ho:o.length≤1100000):jN n p o=some (zE p o):=by
 refine Ev.eq ?_;unfold jN zE;refine Ev.jn (fun z=>z=(cR p&&wR (insts p.parts).length o)) (fun j hj=>aB (l6 (by omega) hp) ?_) fun z hz=>Ev.some hz;cases hv:cR p with
 |false=>rw [hv] at hj;exact bA (hj _ rfl)
 |true=>
  rw [hv] at hj;have hil:=(pD hv).2.2.2.2;exact bY (aB (o8 (by omega) hv) (aB (aCz (by omega) (by omega) ho) (hj _ rfl)))
def pick(l:List Inst)(o:List Int):List Inst:=o.filterMap fun c=>l[c.toNat]?
theorem aCE{l:List Inst}{o:List Int}{c:Int}{x:Inst}(h:l[c.toNat]? =some x):pick l (o++[c])=pick l o++[x]:=by unfold pick;rw [List.filterMap_append];simp [h]
theorem aD9{l:List Inst}{o:List Int}{x:Inst}(h:x∈pick l o):x∈l:=by unfold pick at h;obtain⟨c,_,hc⟩:=List.mem_filterMap.1 h;exact cM hc
def yY(p:Prog)(m:List Int)(o:List Int):List Int×Bool:=if rR p m=true∧zE p o=true then(nG p m (pick (insts p.parts) o),true) else([],false)
theorem V6{n:Nat}(hn:7810000≤n){p:Prog}(hv:cR p=true){m:List Int}(hm:lR p.arrays m){l:List Inst}(hl: ∀x∈l,r6 p x){o:List Int}(ho:o.length≤1100000)(hb: ∀c∈o,0≤c∧c<l.length){f:List Int→Inst→Option (List Int)}(hf: ∀m x,lR p.arrays m→r6 p x→f m x=some (xC p m x)):
  aO (fun again10 ((x7,x8):(List Int)×Int)=>bif decide (x8<(o.length:Int)) then(Option.bind (ix o x8) fun x11=>Option.bind (ix l x11) fun x12=>Option.bind (f x7 x12) fun x13=>Option.bind (bN x7 x13) fun x14=>again10 (x13,wr (x8+1))) else(some (x7,true))) n (m,0)=some (nG p m (pick l o),true):=by
 refine Ev.eq ?_;refine Ev.loop (fun x:List Int×Int=> ∃i:Nat,x.2=i∧i≤o.length∧x.1=nG p m (pick l (o.take i))) (fun x=>o.length-x.2.toNat) ?_ n _ ⟨0,rfl,by omega,rfl⟩ (by dsimp only;omega);rintro again ⟨x,z⟩ ⟨i,hz,hi,hx1⟩ hr;dsimp only at hz hx1⊢;subst hz;have hok:lR p.arrays x:=by rw [hx1];exact H7 hv (fun y hy=>hl y (aD9 hy)) hm
 refine aI (fun hlt=>?_) fun hge=>Ev.some ?_
 ·have hg:=cN (show i<o.length by omega);obtain⟨b0,b1⟩:=hb _ (cM hg);have hx:=cN (show o[i].toNat<l.length by omega);have hxo:=hl _ (cM hx);have hok2:=aBU hv hok hxo;have hsl:bN x (xC p x l[o[i].toNat])=some ():=by
   unfold bN;rw [if_pos]
   have:=hok.1;have:=hok2.1;omega
  refine aB (aQ hg) (aB (zS b0 (by omega)) (aB (hf x _ hok hxo) (aB hsl ?_)));rw [aK (by omega)];refine hr _ ⟨i+1,by dsimp only;omega,by omega,?_⟩ (by dsimp only;omega);dsimp only;rw [pX hg,aCE hx,V0,←hx1]
 have hie:i=o.length:=by omega
 rw [hx1,hie,wI]
theorem aEb{p:Prog}{o:List Int}(h:zE p o=true):cR p=true∧o.length=(insts p.parts).length∧ ∀c∈o,0≤c∧c<((insts p.parts).length:Int):=by
 simp only [zE,wR,Bool.and_eq_true,decide_eq_true_eq] at h;obtain⟨h1,h2,h3⟩:=h;refine⟨h1,h3,fun c hc=>?_⟩
 have:=I2 h2 c hc
 rwa [vBw] at this
theorem E7{n:Nat}(hn:7810000≤n){p:Prog}(hp:SmP p){m:List Int}(hm:m.length≤1100000){o:List Int}(ho:o.length≤1100000):iG n p m o=some (yY p m o):=by
 refine Ev.eq ?_;unfold iG yY;refine Ev.jn (fun z=>z= !(rR p m&&zE p o)) (fun j hj=>?_) fun z hz=>?_
 ·refine aB (vV (by omega) hp hm) ?_;cases h1:rR p m with
  |false=>rw [h1] at hj;exact hj true rfl
  |true=>rw [h1] at hj;exact bA (aB (xF hn hp ho) (hj _ rfl))
 subst hz;cases h1:rR p m with
 |false=>exact Ev.some (by simp)
 |true=>
  cases h2:zE p o with
  |false=>exact Ev.some (by simp)
  |true=>
   obtain⟨hv,hmo⟩:=aGZ h1;obtain⟨_,_,hb⟩:=aEb h2;have hc:m_ownClone m=some m:=by unfold m_ownClone;rw [if_pos (by omega)]
   refine bA (aB (oO (by omega) hp) (aB hc ?_));rw [if_pos hv,if_pos ⟨rfl,rfl⟩];exact Ev.of (V6 hn hv hmo (fun x hx=>insts_mem hx) ho hb fun m x hm hx=>aGx hn hv hm hx) rfl
theorem E2{n:Nat}(hn:7810000≤n){p:Prog}(hp:SmP p){m:List Int}(hm:m.length≤1100000){o:List Int}(ho:o.length≤1100000):lA n p m o=some (yY p m o):=by
 refine Ev.eq ?_;unfold lA yY;refine Ev.jn (fun z=>z= !(rR p m&&zE p o)) (fun j hj=>?_) fun z hz=>?_
 ·refine aB (vA (by omega) hp hm) ?_;cases h1:rR p m with
  |false=>rw [h1] at hj;exact hj true rfl
  |true=>rw [h1] at hj;exact bA (aB (w9 hn hp ho) (hj _ rfl))
 subst hz;cases h1:rR p m with
 |false=>exact Ev.some (by simp)
 |true=>
  cases h2:zE p o with
  |false=>exact Ev.some (by simp)
  |true=>
   obtain⟨hv,hmo⟩:=aGZ h1;obtain⟨_,_,hb⟩:=aEb h2;refine bA (aB (gF m hm) (aB (o8 (by omega) hv) ?_));rw [if_pos ⟨rfl,rfl⟩];exact Ev.of (V6 hn hv hmo (fun x hx=>insts_mem hx) ho hb fun m x hm hx=>aD1 hn hv hm hx) rfl
end Go.Lift
