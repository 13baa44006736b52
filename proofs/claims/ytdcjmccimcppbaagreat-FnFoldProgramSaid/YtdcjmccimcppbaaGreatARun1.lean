/- Programs compose. -/
import Derived.Test.YtdcjmccimcppbaaGreatADraw1
set_option maxRecDepth 100000
set_option linter.unusedVariables false
namespace Go.Lift
open Go
theorem aAG{n:Nat}(hn:5000≤n){a:List Int}(h:a.length≤1000):pD n a a=some true:=by
 refine Ev.eq ?_
 unfold pD
 refine iL (fun h=>absurd rfl h) (fun _=> ?_)
 refine Ev.loop (fun x:Int=>0≤x∧x≤a.length) (fun x=>(a.length-x).toNat) ?_ n 0 ⟨by omega,by omega⟩ (by omega)
 rintro again x ⟨h0,h1⟩ hr
 refine aI (fun hlt=> ?_) (fun _=>Ev.some rfl)
 obtain⟨y,hy,_⟩:=jL h0 hlt
 refine aA hy (aA hy (iL (fun h=>absurd rfl h) (fun _=> ?_)))
 rw [aM (by omega)]
 exact hr _ ⟨by omega,by omega⟩ (by omega)
theorem aHa{p:Prog}{m:List Int}(h:dL p=true)(hm:iO p.arrays m):V1 p m=true:=by
 simp only [V1,Bool.and_eq_true,decide_eq_true_eq,List.all_eq_true]
 exact⟨h,hm.1,hm.2⟩
theorem aDc{p:Prog}{m:List Int}(h:dL p=true)(hm:iO p.arrays m):m.length≤1000:=by
 obtain⟨hl,hd,_⟩:=mD h
 have:=aCY hd
 have:=hm.1
 omega
end Go.Lift
