/- Dead instances do not matter. -/
import Derived.Test.YtohillieiccgdaaGreatARun1
set_option maxRecDepth 100000
set_option linter.unusedVariables false
namespace Go.Lift
open Go
def gU(l:List Inst)(d i:Nat):List Inst:=if i≤d then l.take i else l.take d++(l.drop (d+1)).take (i-(d+1))
theorem F5{l:List Inst}{d i:Nat}{x:Inst}(h:l[i]? =some x):gU l d (i+1)=if i=d then gU l d i else gU l d i++[x]:=by
 have hi:=(List.getElem?_eq_some_iff.1 h).1
 unfold gU
 by_cases e:i=d
 ·subst e
  rw [if_pos rfl,if_neg (by omega),if_pos (Nat.le_refl _),Nat.sub_self,List.take_zero,List.append_nil]
 ·rw [if_neg e]
  by_cases e2:i≤d
  ·rw [if_pos e2,if_pos (by omega),gI h]
  ·rw [if_neg e2,if_neg (by omega),show i+1-(d+1)=i-(d+1)+1 by omega,gI (x:=x),List.append_assoc]
   rw [List.getElem?_drop,show d+1+(i-(d+1))=i by omega];exact h
theorem L1{l:List Inst}{d i:Nat}{x:Inst}(h:x∈gU l d i):x∈l:=by
 unfold gU at h
 split at h
 ·exact List.mem_of_mem_take h
 ·rcases List.mem_append.1 h with h|h
  ·exact List.mem_of_mem_take h
  ·exact List.mem_of_mem_drop (List.mem_of_mem_take h)
theorem L2{l:List Inst}{d:Nat}(h:d<l.length):gU l d l.length=l.take d++l.drop (d+1):=by
 unfold gU
 rw [if_neg (by omega),List.take_of_length_le (l:=l.drop (d+1)) (by rw [List.length_drop];omega)]
theorem tB(code more:List UInt8):eU N code more=some true:=by
 have hN:N=100000:=rfl
 refine Ev.eq ?_
 unfold eU
 refine Ev.jn (fun z=>True) (fun j hj=>aF (fun _=>hj _ trivial) (fun _=>hj _ trivial)) (fun z _=>Ev.cond (fun _=>Ev.some rfl) (fun _=> ?_))
 refine aG (V8 code) (fun x3 ⟨hs,hm⟩=> ?_)
 obtain⟨p,m⟩:=x3
 dsimp only at hs hm⊢
 refine aA (rR (by omega) hs) (aA (wA (by omega) hs hm) ?_)
 have hsd:=rG (n:=N) (by omega) hs
 have hDl:(if bM p=true then lJ p (insts p.parts) (insts p.parts).length else []).length≤120:=by
  split
  ·rename_i h
   have:=uR p (insts p.parts) (insts p.parts).length
   have:=(d9 h).2.2.2.2
   omega
  ·simp
 generalize hD:(if bM p=true then lJ p (insts p.parts) (insts p.parts).length else [])=D at*
 have hl:=vD (n:=N) (a:=D) (by omega) (by omega)
 refine Ev.jn (fun z:List Int×Bool=>z.2=true∨(z.2=false∧pK p m=true∧D.length≠0)) (fun j hj=>aA hsd (aA hl (bO ?_))) (fun z hz=> ?_)
 ·cases hv:pK p m with
  |false=>rw [aDw hv];exact hj _ (.inl rfl)
  |true=>
   rw [M2 hv]
   by_cases e:(D.length:Int)=0
   ·rw [decide_eq_true e];exact hj _ (.inl rfl)
   ·rw [decide_eq_false e];exact hj _ (.inr ⟨rfl,hv,by omega⟩)
 obtain⟨z1,z2⟩:=z
 dsimp only at hz⊢
 rcases hz with rfl|⟨rfl,hv,h2⟩
 ·exact cM (aA hsd (aA hl (Ev.some rfl)))
 obtain⟨hp,hmo⟩:=aB4 hv
 rw [if_pos hp] at hD
 rw [M2 hv]
 have hil:=(d9 hp).2.2.2.2
 have hok: ∀x∈insts p.parts,dT p x:=fun x hx=>insts_mem hx
 have k0:0≤Int.tmod (more.length:Int) (D.length:Int):=Int.tmod_nonneg _ (by omega)
 have k1:Int.tmod (more.length:Int) (D.length:Int)<(D.length:Int):=Int.tmod_lt_of_pos _ (by omega)
 generalize Int.tmod (more.length:Int) (D.length:Int)=kk at k0 k1
 obtain⟨c,hc,hc2⟩:=gN k0 k1
 have hcm:=List.mem_of_getElem? hc2
 rw [←hD] at hcm
 obtain⟨d,a,rfl,ha,hscan⟩:=aB3 hcm
 have hdl:=(List.getElem?_eq_some_iff.1 ha).1
 have hfin:=aA4 hp hok ha hscan m
 rw [←L2 hdl] at hfin
 have hml:=aAg hp (qB hp hok hmo)
 refine bO (aA (uB (by omega)) (aA hc (aA (iJ (by omega) hs) (aA (cV m hm) ?_))))
 rw [if_pos hp]
 generalize insts p.parts=l at*
 refine Ev.loop (fun x:List Int×Int=> ∃i:Nat,x.2=i∧i≤l.length∧x.1=dB p m (gU l d i)) (fun x=>l.length-x.2.toNat) ?_ N _ ⟨0,rfl,by omega,by dsimp only;unfold gU;rw [if_pos (Nat.zero_le _)];rfl⟩ (by dsimp only;omega)
 rintro again ⟨x,z⟩ ⟨i,hz,hi,hx1⟩ hr
 dsimp only at hz hx1⊢
 subst hz
 have hok1:jN p.arrays x:=by rw [hx1];exact qB hp (fun y hy=>hok y (L1 hy)) hmo
 refine aF (fun hlt=> ?_) (fun hge=> ?_)
 ·have hg:=List.getElem?_eq_getElem (show i<l.length by omega)
  have hxo:dT p l[i]:=hok _ (List.mem_of_getElem? hg)
  have hws:=F5 (d:=d) hg
  refine Ev.jn (fun z=>z=dB p m (gU l d (i+1))) (fun j hj=>aF (fun e=>hj _ ?_) (fun e=> ?_)) (fun z hz=> ?_)
  ·rw [hws,if_pos (by omega),hx1]
  ·refine aA (aM hg) (aA (uJ (by omega) hs (aAg hp hok1) (by have:=aAM hp hxo;omega)) ?_)
   rw [aBR hp hok1 hxo]
   refine bO (hj _ ?_)
   dsimp only
   rw [hws,if_neg (by omega),u9,←hx1]
  ·subst hz
   rw [aI (by omega)]
   exact hr _ ⟨i+1,by dsimp only;omega,by omega,rfl⟩ (by dsimp only;omega)
 ·have hie:i=l.length:=by omega
  rw [hx1,hie,hfin]
  exact aA (vD (by omega) hml) (Ev.some rfl)
end Go.Lift
