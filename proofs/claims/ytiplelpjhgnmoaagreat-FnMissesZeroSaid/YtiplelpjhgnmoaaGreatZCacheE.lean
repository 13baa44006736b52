/- The law of misses with nothing held. -/
import Derived.Test.YtiplelpjhgnmoaaGreatZTran1
set_option maxRecDepth 100000
set_option linter.unusedVariables false
namespace Go.Lift
open Go
theorem aAB{p:Prog}(hv:cR p=true){c:Int}(hc:c∈lM p): -9223372036854775808≤c∧c≤9223372036854775807:=by
 have ht:=aGs hv
 obtain⟨x,hx,hc⟩:=List.mem_flatMap.1 hc
 obtain⟨h1,h2,_⟩:=inst_c hv (insts_mem hx)
 unfold wC at hc
 rcases List.mem_append.1 hc with h|h
 ·have:=h2 c h;omega
 ·rw [List.mem_singleton] at h;omega
theorem yB(code:List UInt8):gR N code=some true:=by
 have hN:N=100000:=rfl
 refine Ev.eq ?_
 unfold gR
 refine aG (fun _=>Ev.some rfl) (fun _=>aH (aAb code) (fun x1 hp=> ?_))
 obtain⟨p,size⟩:=x1
 dsimp only at hp⊢
 refine aA (vC (n:=N) (by omega) hp.sm size) ?_
 have hs:=O1 (n:=N) (by omega) hp.sm size
 refine Ev.jn (fun z:Bool=>z= !cR p) (fun j hj=>aA hs (l4 (fun h=>(h rfl).elim) (fun _=>aA (lW (by omega) hp.sm) (hj _ rfl)))) (fun z hz=> ?_)
 refine Ev.cond (fun _=>aA hs (Ev.some (by simp))) (fun hf=> ?_)
 have hv:cR p=true:=by rw [hz] at hf;simpa using hf
 have ha:=D6 (n:=N) (by omega) hp.sm hv
 have hl:((lM p).take 600).length≤600:=by rw [List.length_take];omega
 have hz0:z8 p 0=(((lM p).take 600).length:Int):=by
  unfold z8
  rw [if_pos hv,if_pos (by omega),show(0:Int).toNat=0 from rfl,vA]
 have hm:z8 p size= -1∨z8 p size=(bU size.toNat [] ((lM p).take 600):Int):=by
  unfold z8
  rw [if_pos hv]
  split
  ·exact .inr rfl
  ·exact .inl rfl
 have hle:z8 p size≤(((lM p).take 600).length:Int):=by
  have:=C9 size.toNat ((lM p).take 600) []
  rcases hm with e|e<;>omega
 refine aA ha ?_
 refine Ev.jn (fun z=>z=true) (fun j hj=> ?_) (fun z hz=>Ev.some hz)
 refine aA (vC (n:=N) (by omega) hp.sm 0) (aG (fun _=>aG (fun _=>aG (fun _=>hj _ rfl) (fun hn=> ?_)) (fun h=>(h hle).elim)) (fun h=>(h hz0).elim))
 have hb: ∀x∈(lM p).take 600,-9223372036854775808≤x∧x≤9223372036854775807:=fun x hx=>aAB hv (List.mem_of_mem_take hx)
 refine aA (show m_newc ((lM p).take 600)=_ from if_pos hb) (hj _ (decide_eq_true ?_))
 rw [if_pos hl]
 rcases hm with e|e
 ·omega
 ·rw [e]
  have:=xY size.toNat ((lM p).take 600) [] [] (fun x hx=>hx)
  omega
end Go.Lift
