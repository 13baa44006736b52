/- Sums can be reversed; reductions can be reordered. -/
import Derived.Test.YtohillieiccgdaaGreatGRun1
import Derived.Test.YtohillieiccgdaaGreatGDrawD
set_option maxRecDepth 100000
set_option linter.unusedVariables false
namespace Go.Lift
open Go
def B1(p:Prog):List Dep:=if bF p=true then eX p (insts p.parts) else []
def u6(p:Prog)(o:List Int):Bool:=yF p o&&(B1 p).all (kN o)
theorem P5{p:Prog}{l:List Inst}{o:List Int}(h:o.length=l.length): ∀d∈eX p l,(0≤d.1∧d.1<(o.length:Int))∧0≤d.2∧d.2<(o.length:Int):=fun d hd=>by
 have:=aAA d hd;omega
theorem wU{n:Nat}(hn:20000≤n){p:Prog}(hp:P2 p){o:List Int}(ho:o.length≤1000):gM n p o=some (u6 p o):=by
 have hov:=q9 (n:=n) (by omega) hp ho
 refine Ev.eq ?_
 unfold gM B7 u6
 cases hv:yF p o with
 |false=>
  rw [hv] at hov
  exact aH (P:=fun x=>x=false) (Ev.jn (fun z=>z=false) (fun j hj=>aA hov (bQ (hj _ rfl))) (fun z hz=>Ev.some hz)) (fun x hx=>Ev.some hx)
 |true=>
  rw [hv] at hov
  obtain⟨hp1,hol,hb⟩:=W0 hv
  have hdp:=A3 (n:=n) (by omega) hp
  unfold B1
  rw [if_pos hp1] at hdp⊢
  refine aH (P:=fun x=>x=(eX p (insts p.parts)).all (kN o)) (Ev.jn (fun z=>z=(eX p (insts p.parts)).all (kN o)) (fun j hj=>aA hov (b6 (aA hdp (aH (aAZ hn ho (fun c hc=>by have:=hb c hc;omega) (uN (dJ hp1).2.2.2.2) (P5 hol)) (fun r hr=>hj _ hr))))) (fun z hz=>Ev.some hz)) (fun x hx=>Ev.some (by rw [hx];rfl))
theorem wE{n:Nat}(hn:20000≤n){p:Prog}(hp:P2 p){o:List Int}(ho:o.length≤1000):e9 n p o=some (u6 p o):=by
 refine Ev.eq ?_
 have hov:=zZ (n:=n) (by omega) hp ho
 unfold e9 u6
 refine aA hov ?_
 cases hv:yF p o with
 |false=>exact b6 (Ev.some rfl)
 |true=>
  obtain⟨hp1,hol,hb⟩:=W0 hv
  have hdl:=uN (p:=p) (dJ hp1).2.2.2.2
  have hdi:=P5 (p:=p) hol
  have hdp:=qZ (n:=n) hn hp
  unfold B1
  rw [if_pos hp1] at hdp⊢
  refine bQ (aH (P:=fun x=>x=places o o.length) ?_ (fun x2 hx2=> ?_))
  ·unfold pY
   exact aA (W5 (by omega) 0) (Q5 (K:=fun x=>some x) (by omega) ho (fun c hc=>by have:=hb c hc;omega) (Ev.some rfl))
  ·subst hx2
   refine aA hdp ?_
   rw [Bool.true_and]
   generalize eX p (insts p.parts)=D at*
   refine Ev.loop (fun z:Int=> ∃i:Nat,z=i∧i≤D.length∧(D.take i).all (kN o)=true) (fun z=>D.length-z.toNat) ?_ n 0 ⟨0,rfl,by omega,rfl⟩ (by omega)
   rintro again z ⟨i,rfl,hi,hall⟩ hr
   refine aG (fun hlt=> ?_) (fun hge=>Ev.some ?_)
   ·have hg:=List.getElem?_eq_getElem (show i<D.length by omega)
    have hm:=List.mem_of_getElem? hg
    obtain⟨⟨a0,a1⟩,b0,b1⟩:=hdi _ hm
    refine aA (aL hg) (aA (aAd a0 a1) (aA (aAd b0 b1) ?_))
    rw [aAT]
    cases hk:kN o D[i] with
    |false=>
     refine b6 (Ev.some ?_)
     cases h:D.all (kN o) with
     |false=>rfl
     |true=>rw [List.all_eq_true.1 h _ hm] at hk;cases hk
    |true=>
     refine bQ ?_
     rw [aI (by omega)]
     refine hr _ ⟨i+1,by omega,by omega,?_⟩ (by omega)
     rw [cC hg,List.all_append,hall];simp [hk]
   ·have e:i=D.length:=by omega
    rw [e,List.take_length] at hall
    rw [hall]
theorem yB{n:Nat}(hn:20000≤n){p:Prog}(hp:P2 p)(cs:List Int):Ev (gH n p cs) (fun o=>o.length≤120):=by
 unfold gH
 refine aA (qZ hn hp) (aA (kC (by omega) hp) ?_)
 have hT:(if bF p=true then insts p.parts else []).length≤120:=by
  split
  ·rename_i h;exact(dJ h).2.2.2.2
  ·simp
 have hDl:(if bF p=true then eX p (insts p.parts) else []).length≤15000:=by
  split
  ·rename_i h;exact uN (dJ h).2.2.2.2
  ·simp
 have hDb: ∀d∈(if bF p=true then eX p (insts p.parts) else []),0≤d.1∧d.1<d.2∧d.2<((if bF p=true then insts p.parts else []).length:Int):=by
  split
  ·exact aAA
  ·intro d hd;cases hd
 generalize (if bF p=true then eX p (insts p.parts) else [])=D at*
 generalize (if bF p=true then insts p.parts else []).length=T at*
 refine aA (W5 (by omega) false) ?_
 refine Ev.loop (fun z:List Int×List Bool×Int=> ∃k:Nat,z.2.2=k∧k≤T∧z.1=(dM D T cs k).2∧z.2.1=(dM D T cs k).1) (fun z=>T-z.2.2.toNat) ?_ n _ ⟨0,rfl,by omega,rfl,rfl⟩ (by dsimp only;omega)
 rintro again ⟨o,f,z⟩ ⟨k,hz,hk,ho,hf⟩ hr
 dsimp only at hz ho hf⊢
 subst hz
 have g:=I6 hDb cs k hk
 rw [←hf,←ho] at g
 have hfl:=g.gfl
 refine aG (fun hlt=> ?_) (fun hge=>Ev.some ?_)
 ·have hne:=aAN hDb g (by omega)
  have hrl:0<(jP D T f).length:=List.length_pos_iff.2 hne
  have hsel:=aDm (cs:=cs) (n:=k) hne
  obtain⟨x0,x1,_⟩:=G6.1 hsel
  have hch:=T5 cs k hrl
  refine aA (aBY hn (by omega) hDl hDb hfl) (aA (x:=()) (by unfold iP;rw [if_pos rfl]) (aA (aAG hrl) (aA (X4 hch) ?_)))
  show Ev (Option.bind (ix f (I5 D T cs k f)) fun x15=>_) _
  refine aA (pF x0 (by omega)) (aA (jI (l:=f) x0 (by omega) true) (aA (bW (by rw [g.gol,List.length_singleton];omega)) ?_))
  rw [aI (by omega)]
  refine hr _ ⟨k+1,by dsimp only;omega,by omega,?_,?_⟩ (by dsimp only;omega)
  ·show o++[I5 D T cs k f]=(dM D T cs k).2++[I5 D T cs k (dM D T cs k).1]
   rw [←ho,←hf]
  ·show f.set (I5 D T cs k f).toNat true=(dM D T cs k).1.set (I5 D T cs k (dM D T cs k).1).toNat true
   rw [←hf]
 ·rw [g.gol];omega
theorem K0(code:List UInt8):Ev (d5 N code) (fun x=>P2 x.1∧x.2.length≤1000):=by
 have hN:N=100000:=rfl
 unfold d5
 refine aH (aHr code) (fun x1 r1=>aH (aCh r1 (by omega)) (fun x2 ⟨h2,r2⟩=>aH (eD N r2 (by omega)) (fun x3 ⟨_,_,r3⟩=> ?_)))
 have hs:=(h2.mono (show 10≤1000 by omega)).sm
 refine aG (fun _=> ?_) (fun _=> ?_)
 ·exact aH (eD N r3 (by omega)) (fun x4 ⟨_,_,r4⟩=>aH (eD N r4 (by omega)) (fun x5 ⟨_,_,r5⟩=>aH (eD N r5 (by omega)) (fun x6 _=>aH (yB (by omega) hs _) (fun x7 h7=>Ev.some ⟨hs,by dsimp only;omega⟩))))
 ·exact aH (aHv (by omega) r3 (by omega) h2) (fun x8 ⟨h8,r8⟩=>aH (aFC (by omega) r8 (by omega) hs) (fun x9 ⟨h9,_⟩=>Ev.some ⟨(h8.mono (show 30≤1000 by omega)).sm,h9⟩))
theorem yC(code more:List UInt8):gS N code more=some true:=by
 have hN:N=100000:=rfl
 refine Ev.eq ?_
 unfold gS
 refine Ev.jn (fun z=>z=false→more.length≤1048576) (fun j hj=>aG (fun _=>hj _ (fun h=>by cases h)) (fun _=>hj _ (fun h=>by have:=of_decide_eq_false h;omega))) (fun z hz=>Ev.cond (fun _=>Ev.some rfl) (fun ez=> ?_))
 have hml:=hz ez
 refine aH (K0 code) (fun x3 ⟨hs,ho⟩=> ?_)
 obtain⟨p,o⟩:=x3
 dsimp only at hs ho⊢
 have hsl:=wE (n:=N) (by omega) hs ho
 refine aA (wU (by omega) hs ho) (Ev.jn (fun z=>z= !u6 p o) (fun j hj=>aA hsl ?_) (fun z hz=> ?_))
 ·rw [beq_self_eq_true]
  exact bQ (hj _ rfl)
 ·subst hz
  cases hlb:u6 p o with
  |false=>rw [hlb] at hsl;exact b6 (aA hsl (Ev.some rfl))
  |true=>
   unfold u6 at hlb
   rw [Bool.and_eq_true] at hlb
   obtain⟨hov,hall⟩:=hlb
   obtain⟨hp,hol,hb⟩:=W0 hov
   unfold B1 at hall
   rw [if_pos hp] at hall
   have ht:=aJv hp
   refine bQ (aA (A7 (by omega) hs hp) (aA (aDx ⟨by omega,by omega⟩ 0) (aHH (n:=N) (T:=(fP p.arrays).toNat) (e:=fun i=>Int.tmod (wr ((wr ((wr (i*29))+(wr ((more.length:Int)*13))))+1)) 1000) (K:=fun x11=>Option.bind (kR N p x11 o) fun x17=>Option.bind (hF N p x11) fun x18=>jn (fun(x21:Bool)=>some x21) (fun j19=>bif x17.2 then(bif x18.2 then(Option.bind (mV N x17.1 x18.1) fun x20=>j19 x20) else(j19 false)) else(j19 false))) (by omega) (by omega) (fun i h0 h1=> ?_) (fun m h1 h2=> ?_))))
   ·rw [aI (n:=i*29) (by omega),aI (n:=(more.length:Int)*13) (by omega),aI (n:=i*29+(more.length:Int)*13) (by omega),aI (by omega)]
    exact aJx (by omega)
   ·have hmo:gA p.arrays m:=⟨by omega,h2⟩
    have hmv:=aHx hp hmo
    have hml:=aDz hp hmo
    have hok: ∀x∈insts p.parts,cG p x:=fun x hx=>insts_mem hx
    refine aA (O0 (by omega) hs hml ho) (aA (A5 (by omega) hs hml) ?_)
    have e1:aDp p m o=(dO p m (insts p.parts),true):=by
     unfold aDp
     rw [if_pos ⟨hmv,hov⟩,aB3 hp hok (by unfold yF at hov;rw [Bool.and_eq_true] at hov;exact hov.2) hall hmo]
    rw [e1,aFt hmv]
    have hl:mV N (dO p m (insts p.parts)) (dO p m (insts p.parts))=some true:=aAS (by omega) (aDz hp (tN hp hok hmo))
    exact Ev.jn (fun z=>z=true) (fun j hj=>b6 (b6 (aA hl (hj _ rfl)))) (fun z hz=>Ev.some hz)
end Go.Lift
