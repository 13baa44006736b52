/- Sums can be reversed; reductions can be reordered. -/
import Derived.Test.YtohillieiccgdaaGreatFRun1
import Derived.Test.YtohillieiccgdaaGreatFDrawD
set_option maxRecDepth 100000
set_option linter.unusedVariables false
namespace Go.Lift
open Go
def kW(p:Prog):List Dep:=if bL p=true then f9 p (insts p.parts) else []
theorem W8(p:Prog):(kW p).length≤15000:=by
 unfold kW
 split
 ·rename_i h;exact zR (dV h).2.2.2.2
 ·simp
theorem Y8{n:Nat}{a:List Dep}(hn:a.length<n)(hl:a.length≤1000000):nM n a a=some true:=by
 refine Ev.eq ?_
 unfold nM
 refine eE (fun h=>absurd rfl h) (fun _=> ?_)
 refine Ev.loop (fun z:Int=> ∃i:Nat,z=i∧i≤a.length) (fun z=>a.length-z.toNat) ?_ n 0 ⟨0,rfl,by omega⟩ (by omega)
 rintro again z ⟨i,rfl,hi⟩ hr
 refine aF (fun hlt=> ?_) (fun hge=>Ev.some rfl)
 have hg:=List.getElem?_eq_getElem (show i<a.length by omega)
 refine aA (aL hg) (aA (aL hg) (eE (fun h=>absurd rfl h) (fun _=> ?_)))
 rw [aI (by omega)]
 exact hr _ ⟨i+1,by omega,by omega⟩ (by omega)
def R3(p:Prog)(o:List Int):Bool:=B1 p o&&(kW p).all (nE o)
theorem aCY{p:Prog}{l:List Inst}{o:List Int}(h:o.length=l.length): ∀d∈f9 p l,(0≤d.1∧d.1<(o.length:Int))∧0≤d.2∧d.2<(o.length:Int):=fun d hd=>by
 have:=aEj d hd;omega
theorem vH{n:Nat}(hn:20000≤n){p:Prog}(hp:V2 p){o:List Int}(ho:o.length≤1000):fS n p o=some (R3 p o):=by
 have hov:=pX (n:=n) (by omega) hp ho
 refine Ev.eq ?_
 unfold fS zB R3
 cases hv:B1 p o with
 |false=>
  rw [hv] at hov
  exact aG (P:=fun x=>x=false) (Ev.jn (fun z=>z=false) (fun j hj=>aA hov (bM (hj _ rfl))) (fun z hz=>Ev.some hz)) (fun x hx=>Ev.some hx)
 |true=>
  rw [hv] at hov
  obtain⟨hp1,hol,hb⟩:=aEy hv
  have hdp:=pW (n:=n) (by omega) hp
  unfold kW
  rw [if_pos hp1] at hdp⊢
  refine aG (P:=fun x=>x=(f9 p (insts p.parts)).all (nE o)) (Ev.jn (fun z=>z=(f9 p (insts p.parts)).all (nE o)) (fun j hj=>aA hov (bW (aA hdp (aG (Z3 hn ho (fun c hc=>by have:=hb c hc;omega) (zR (dV hp1).2.2.2.2) (aCY hol)) (fun r hr=>hj _ hr))))) (fun z hz=>Ev.some hz)) (fun x hx=>Ev.some (by rw [hx];rfl))
def rA(T k:Nat):List Int:=(List.range k).map (fun(i:Nat)=>((T-1-i:Nat):Int))
theorem aEq(T:Nat):mA T (rA T T)=true:=by
 refine aEz ?_ (fun c hc=> ?_) (by unfold rA;rw [List.length_map,List.length_range])
 ·unfold rA
  rw [List.nodup_iff_pairwise_ne,List.pairwise_map]
  refine List.Pairwise.imp_of_mem ?_ List.pairwise_lt_range
  intro a b ha hb hlt
  rw [List.mem_range] at ha hb
  omega
 ·unfold rA at hc
  rw [List.mem_map] at hc
  obtain⟨i,hi,rfl⟩:=hc
  rw [List.mem_range] at hi
  omega
theorem wV(code:List UInt8):fZ N code=some true:=by
 have hN:N=100000:=rfl
 refine Ev.eq ?_
 unfold fZ
 refine aF (fun _=>Ev.some rfl) (fun _=> ?_)
 refine aG (aBC code) (fun x1 ⟨hs,hm⟩=> ?_)
 obtain⟨p,m⟩:=x1
 dsimp only at hs hm⊢
 have hl:=W8 p
 have hld:=Y8 (n:=N) (a:=kW p) (by omega) (by omega)
 have hsd:eP N p=some (kW p):=yP (by omega) hs
 refine aA (x:=kW p) (pW (by omega) hs) (aA (fG (by omega) hs) (aA (yW (by omega) hs hm) ?_))
 refine Ev.jn (fun z:List Dep×Bool=>z.2=false→t0 p m=true∧kW p=[]) (fun j hj=>aA hsd (aA hld (bM ?_))) (fun z hz=> ?_)
 ·cases hv:t0 p m with
  |false=>rw [aGi hv];exact bW (hj _ (fun h=>by cases h))
  |true=>
   rw [X6 hv]
   refine bM (hj _ (fun h=>⟨hv,?_⟩))
   have:=of_decide_eq_false h
   exact List.eq_nil_of_length_eq_zero (by omega)
 ·obtain⟨z1,z2⟩:=z
  dsimp only at hz⊢
  cases z2 with
  |true=>exact bW (aA hsd (aA hld (Ev.some rfl)))
  |false=>
   obtain⟨hv,h0⟩:=hz rfl
   obtain⟨hp,hmo⟩:=aEG hv
   have hil:=(dV hp).2.2.2.2
   have hok: ∀x∈insts p.parts,b9 p x:=fun x hx=>insts_mem hx
   have hml:=aGv hp (sK hp hok hmo)
   have hov:B1 p (rA (insts p.parts).length (insts p.parts).length)=true:=by
    unfold B1
    rw [hp,aEq];rfl
   have hsf:f9 p (insts p.parts)=[]:=by
    unfold kW at h0
    rwa [if_pos hp] at h0
   have e1:aCl p m (rA (insts p.parts).length (insts p.parts).length)=(dN p m (insts p.parts),true):=by
    unfold aCl
    rw [if_pos ⟨hv,hov⟩,aA2 hp hok (aEq _) (by rw [hsf];rfl) hmo]
   have e2:R3 p (rA (insts p.parts).length (insts p.parts).length)=true:=by
    unfold R3
    rw [hov,h0];rfl
   rw [if_pos hp,X6 hv]
   refine bM ?_
   rw [aI (n:=(((insts p.parts).length:Nat):Int)-1) (by omega)]
   refine Ev.loop (fun z:List Int×Int=> ∃i:Nat,z.2=((insts p.parts).length:Int)-1-i∧i≤(insts p.parts).length∧z.1=rA (insts p.parts).length i) (fun z=>(z.2+1).toNat) ?_ N _ ⟨0,by dsimp only;omega,by omega,rfl⟩ (by dsimp only;omega)
   rintro again ⟨o,z⟩ ⟨i,hz2,hi,ho⟩ hr
   dsimp only at hz2 ho⊢
   have hol:o.length=i:=by rw [ho];unfold rA;rw [List.length_map,List.length_range]
   refine aF (fun hge=> ?_) (fun hlt=> ?_)
   ·refine aA (bP (by rw [hol,List.length_singleton];omega)) ?_
    rw [aI (by omega)]
    refine hr _ ⟨i+1,by dsimp only;omega,by omega,?_⟩ (by dsimp only;omega)
    dsimp only
    rw [ho]
    unfold rA
    rw [List.range_succ,List.map_append]
    have:z=(((insts p.parts).length-1-i:Nat):Int):=by omega
    rw [this];rfl
   ·have e:i=(insts p.parts).length:=by omega
    subst e
    rw [ho]
    have hrl:(rA (insts p.parts).length (insts p.parts).length).length≤1000:=by rw [←ho];omega
    refine aA (J4 (by omega) hs hm hrl) ?_
    rw [e1]
    exact Ev.jn (fun z=>z=true) (fun j hj=>bW (aA (Y7 (by omega) hml) (bW (aA (vH (by omega) hs hrl) (hj _ e2))))) (fun z hz=>Ev.some hz)
end Go.Lift
