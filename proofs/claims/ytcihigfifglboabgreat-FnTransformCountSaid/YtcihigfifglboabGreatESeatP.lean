/- The library's functions in this program do what the walks lean on. -/
import Derived.Test.YtcihigfifglboabGreatETab
import Derived.Test.YtcihigfifglboabGreatERowB
import Derived.Test.YtcihigfifglboabGreatEShelfP
import Derived.Test.YtcihigfifglboabGreatELiftSort
import Derived.Test.YtcihigfifglboabGreatECmpR
import Derived.Test.YtcihigfifglboabGreatELiftTC
import Derived.Test.YtcihigfifglboabGreatELiftTC
import Derived.Test.YtcihigfifglboabGreatECpfR
set_option maxRecDepth 100000
namespace Go.Lift
open Go Go.Proofs
theorem aPT:eB Tryz.prog 99:=⟨_,Tryz.func99,rfl,rfl⟩
theorem aIY:eB Tryz.prog 240:=⟨_,Tryz.func240,rfl,rfl⟩
theorem aOh:eB Tryz.prog 247:=⟨_,Tryz.func247,rfl,rfl⟩
theorem aOi:eB Tryz.prog 241:=⟨_,Tryz.func241,rfl,rfl⟩
theorem aRC{W:World}(hsh:W.ShapedOpen Tryz.prog): ∃G:GS,G.g.ok W:=by
 obtain⟨m,hm⟩:=Tryz.laysM144.s1_3 W hsh;have hm:W.cell? ⟨0,0,none⟩=some (.int .i64 m):=hm;have hsz:0<W.heap.size:=World.block_lt_of_cell? W ⟨0,0,none⟩ hm;let G:Glob:=⟨1,W⟩
 refine⟨{g:=G,clone:= ?_,sort:= ?_,contains:= ?_,sortT:= ?_,compT:= ?_},by show 1≤W.heap.size;omega,fun b _=>rfl⟩
 ·exact aOr aPT Tryz.slices_Clone_int Tryz.slices_Clone_int_nil Tryz.slices_Clone_int_zero
 ·exact fun x gs r hr=>aGw Tryz.laysSlF6_f240 cmp_raw call_cmp aIY hr
 ·exact aH4 aOh fun s sub h1 w hG=>Tryz.strings_Contains s sub m w h1 ((aJI hG (by decide)).trans hm)
 ·exact fun Γ m m1 hz hk x gs r hr=>aEL Tryz.laysSlF6_f240 cmp_raw call_cmp aIY hz hk hr
 exact fun Γ m m1 hz hk x gs hl=>aFy cpf_raw eq_raw aOi hz hk x hl
end Go.Lift
