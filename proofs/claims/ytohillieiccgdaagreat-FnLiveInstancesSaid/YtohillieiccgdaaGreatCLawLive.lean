/- Live instances suffice. -/
import Derived.Test.YtohillieiccgdaaGreatCRun1
set_option maxRecDepth 100000
set_option linter.unusedVariables false
namespace Go.Lift
open Go
theorem Y4{n:Nat}{l:List Int}(hl:l.length<n)(hs:l.length≤1000){v:Int}(h:v∉l):qR n l v=some false:=by
 have e:=aCV hl hs v
 rw [decide_eq_false h] at e
 exact e
theorem tV(code:List UInt8):fB N code=some true:=by
 have hN:N=100000:=rfl
 refine Ev.eq ?_
 unfold fB
 refine Ev.cond (fun _=>Ev.some rfl) (fun _=> ?_)
 refine aG (aAu code) (fun x3 ⟨hs,hm⟩=> ?_)
 obtain⟨p,m⟩:=x3
 dsimp only at hs hm⊢
 refine aA (sX (by omega) hs) (aA (w6 (by omega) hs hm) ?_)
 have hsd:=sL (n:=N) (by omega) hs
 have hDl:(if bK p=true then fU (iK p (insts p.parts)) else []).length≤120:=by
  split
  ·rename_i h
   have h1:=T9 (iK p (insts p.parts))
   rw [dC] at h1
   have:=(dJ h).2.2.2.2
   omega
  ·simp
 generalize hD:(if bK p=true then fU (iK p (insts p.parts)) else [])=D at*
 have hl:=wH (n:=N) (a:=D) (by omega) (by omega)
 refine Ev.jn (fun z:List Int×Bool=>z.2= !pA p m) (fun j hj=>aA hsd (aA hl (bH (hj _ ?_)))) (fun z hz=> ?_)
 ·cases hv:pA p m with
  |false=>rw [aEF hv]
  |true=>rw [R8 hv]
 obtain⟨z1,z2⟩:=z
 dsimp only at hz⊢
 subst hz
 cases hv:pA p m with
 |false=>exact b6 (aA hsd (aA hl (Ev.some rfl)))
 |true=>
  obtain⟨hp,hmo⟩:=aDb hv
  rw [if_pos hp] at hD
  rw [R8 hv]
  have hil:=(dJ hp).2.2.2.2
  have hok: ∀x∈insts p.parts,cN p x:=fun x hx=>insts_mem hx
  have hml:=aBh hp (qW hp hok hmo)
  have hdead:=sY (n:=N) (by omega) hs
  rw [if_pos hp] at hdead
  have hlive:=aBS hp hok m
  rw [hD] at hlive
  have hno: ∀c∈o5 p (insts p.parts) (insts p.parts).length,c∉D:=fun c hc hm2=>by
   obtain⟨d,a,rfl,ha,hsc⟩:=aDa hc
   rw [←hD,wJ,Int.toNat_natCast] at hm2
   have:=E4 ha hsc
   rw [this] at hm2
   cases hm2.2
  have hb: ∀c∈D,0≤c∧c.toNat<(insts p.parts).length:=fun c hc=>by
   rw [←hD,wJ] at hc
   refine⟨hc.1,Nat.lt_of_not_le (fun hge=> ?_)⟩
   have h2:=hc.2
   rw [List.getD_eq_getElem?_getD,List.getElem?_eq_none (by rw [dC];exact hge)] at h2
   cases h2
  have hdl:=J2 p (insts p.parts) (insts p.parts).length
  refine bH (aA (iW (by omega) hs) (aA (cX m hm) ?_))
  rw [if_pos hp]
  generalize o5 p (insts p.parts) (insts p.parts).length=E at*
  generalize insts p.parts=l at*
  refine Ev.loop (fun x:List Int×Int=> ∃i:Nat,x.2=i∧i≤D.length∧x.1=eD p m (pick l (D.take i))) (fun x=>D.length-x.2.toNat) ?_ N _ ⟨0,rfl,by omega,rfl⟩ (by dsimp only;omega)
  rintro again ⟨x,z⟩ ⟨i,hz,hi,hx1⟩ hr
  dsimp only at hz hx1⊢
  subst hz
  have hok1:kB p.arrays x:=by rw [hx1];exact qW hp (fun y hy=>hok y (y0 hy)) hmo
  refine aF (fun hlt=> ?_) (fun hge=> ?_)
  ·have hg:=List.getElem?_eq_getElem (show i<D.length by omega)
   obtain⟨b0,b1⟩:=hb _ (List.mem_of_getElem? hg)
   have hgx:=List.getElem?_eq_getElem b1
   have hxo:cN p l[D[i].toNat]:=hok _ (List.mem_of_getElem? hgx)
   refine aA (aL hg) (aA (aFm b0 b1) (aA (vK (by omega) hs (aBh hp hok1) (by have:=aBN hp hxo;omega)) ?_))
   rw [aCY hp hok1 hxo,aI (by omega)]
   refine bH (hr _ ⟨i+1,by dsimp only;omega,by omega,?_⟩ (by dsimp only;omega))
   dsimp only
   rw [dB hg,G6 hgx,mB,←hx1]
  ·have hie:i=D.length:=by omega
   have hxe:x=eD p m l:=by rw [hx1,hie,List.take_length,hlive]
   refine aA hdead (Ev.loop (fun z:Int=> ∃k:Nat,z=k∧k≤E.length) (fun z=>E.length-z.toNat) ?_ N 0 ⟨0,rfl,by omega⟩ (by omega))
   rintro again2 z ⟨k,rfl,hk⟩ hr2
   refine aF (fun hlt2=> ?_) (fun hge2=> ?_)
   ·have hgk:=List.getElem?_eq_getElem (show k<E.length by omega)
    refine aA (aL hgk) (aA (Y4 (by omega) (by omega) (hno _ (List.mem_of_getElem? hgk))) (bH ?_))
    rw [aI (by omega)]
    exact hr2 _ ⟨k+1,by omega,by omega⟩ (by omega)
   ·rw [hxe]
    exact aA (wH (by omega) hml) (Ev.some rfl)
end Go.Lift
