/- Two parts fused into one: the runs, and the law. -/
import Derived.Test.YtdcjmccimcppbaaGreatETran1
import Derived.Test.YtdcjmccimcppbaaGreatETran1
set_option maxRecDepth 100000
set_option linter.unusedVariables false
namespace Go.Lift
open Go
def atQ(i:Int)(k:Nat)(q:List Int):List Inst:=(List.range k).map fun(k:Nat)=>(⟨i,(k:Int),q⟩:Inst)
theorem insts_one(A C:List Part)(P:Part):insts (A++P::C)=insts A++(instP A.length P++((insts C).map (jJ 1)).map (jJ A.length)):=by
 rw [insts_app,insts_cons,List.map_append]
 congr 2
 exact instP_rho (fun s q=>by unfold jJ;simp)
theorem instP_atQ(i:Nat)(P:Part):instP i P=(cH P).flatMap (atQ (i:Int) P.body.length):=rfl
theorem tK{α β γ:Type}{f:α→List β}{g:β→γ}{h:α→List γ}: ∀{l:List α},(∀x∈l,(f x).map g=h x)→(l.flatMap f).map g=l.flatMap h
 | [],_=>rfl
 |x::l,hx=>by
  rw [List.flatMap_cons,List.flatMap_cons,List.map_append,hx x List.mem_cons_self,tK (fun y hy=>hx y (List.mem_cons_of_mem _ hy))]
theorem aIM(i:Int)(a b:Nat)(q:List Int):atQ i (a+b) q=atQ i a q++(List.range b).map (fun(k:Nat)=>(⟨i,(k:Int)+(a:Int),q⟩:Inst)):=by
 unfold atQ
 rw [List.range_add,List.map_append,List.map_map]
 congr 1
 refine List.map_congr_left (fun k _=> ?_)
 simp only [Function.comp_apply,Inst.mk.injEq,true_and,and_true]
 omega
theorem w9{P Q:Part}(h:P.nest=Q.nest):cH P=cH Q:=by unfold cH;rw [h]
theorem D5{p:Prog}{i many:Nat}{ys:List Part}(hi:i+many≤p.parts.length)(j:Nat):(putP p i many ys).parts[j]? =if j<i then p.parts[j]? else if j<i+ys.length then ys[j-i]? else p.parts[j-ys.length+many]? :=by
 show(p.parts.take i++ys++p.parts.drop (i+many))[j]? =_
 have ht:(p.parts.take i).length=i:=by rw [List.length_take];omega
 rw [List.append_assoc]
 by_cases h1:j<i
 ·rw [if_pos h1,List.getElem?_append_left (by omega),List.getElem?_take,if_pos h1]
 ·rw [if_neg h1,List.getElem?_append_right (by omega),ht]
  by_cases h2:j<i+ys.length
  ·rw [if_pos h2,List.getElem?_append_left (by omega)]
  ·rw [if_neg h2,List.getElem?_append_right (by omega),List.getElem?_drop]
   congr 1
   omega
theorem aA9{p q:Prog}(ha:q.arrays=p.arrays){σ:Inst→Inst}: ∀{l:List Inst} {m:List Int},(∀x∈l,kC q (σ x)=kC p x∧(σ x).point=x.point)→cA q m (l.map σ)=cA p m l
 | [],m,_=>rfl
 |x::l,m,h=>by
  obtain⟨h1,h2⟩:=h x List.mem_cons_self
  have e:lL q m (σ x)=lL p m x:=by unfold lL;rw [h1,h2,ha]
  show cA q (lL q m (σ x)) (l.map σ)=cA p (lL p m x) l
  rw [e]
  exact aA9 ha (fun y hy=>h y (List.mem_cons_of_mem _ hy))
theorem aEr{i:Int}{k:Nat}{q:List Int}{x:Inst}(h:x∈atQ i k q):x.part=i∧x.point=q∧0≤x.stmt∧x.stmt<(k:Int):=by
 unfold atQ at h
 obtain⟨j,hj,rfl⟩:=List.mem_map.1 h
 have:=List.mem_range.1 hj
 exact⟨rfl,rfl,by dsimp only;omega,by dsimp only;omega⟩
end Go.Lift
