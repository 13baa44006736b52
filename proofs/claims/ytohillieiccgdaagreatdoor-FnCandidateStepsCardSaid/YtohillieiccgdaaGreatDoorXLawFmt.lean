/- Lists of steps are compared. -/
import Derived.Test.YtohillieiccgdaaGreatDoorXLaw1b
set_option maxRecDepth 100000
set_option linter.unusedVariables false
namespace Go.Lift
open Go
theorem wU(a b:List Step)(ha:a.length≤10000):Ev (lZ N a b) (fun r=>r=true↔a=b):=by
 unfold lZ
 refine jZ (fun h=>Ev.some ⟨fun e=>(by cases e),fun e=>by subst e;exact absurd rfl h⟩) (fun hlen=> ?_)
 have hlen:a.length=b.length:=by omega
 refine Ev.loop (fun i:Int=>0≤i∧i≤a.length∧a.take i.toNat=b.take i.toNat) (fun i:Int=>a.length-i.toNat) ?_ N 0 ⟨by omega,by omega,by simp⟩ (by simp [N];omega)
 rintro again i ⟨h0,h1,h2⟩ hr
 refine aG (fun hlt=> ?_) (fun hge=>Ev.some ⟨fun _=> ?_,fun _=>rfl⟩)
 ·obtain⟨x,hx,hx2⟩:=eV h0 hlt
  obtain⟨y,hy,hy2⟩:=eV (l:=b) h0 (by omega)
  refine aA hx (aA hy (jZ (fun hne=>Ev.some ⟨fun e=>(by cases e),fun e=> ?_⟩) (fun he=> ?_)))
  ·subst e;rw [hx2] at hy2;cases hy2;exact absurd rfl hne
  ·have hxy:x=y:=by cases x;cases y;simp at he;simp [he]
   subst hxy
   rw [aK (by omega)]
   refine hr _ ⟨by omega,by omega,?_⟩ (by omega)
   rw [show(i+1).toNat=i.toNat+1 by omega,List.take_add_one,List.take_add_one,hx2,hy2,h2]
 ·rw [show i.toNat=a.length by omega,List.take_length,hlen,List.take_length] at h2
  exact h2
end Go.Lift
