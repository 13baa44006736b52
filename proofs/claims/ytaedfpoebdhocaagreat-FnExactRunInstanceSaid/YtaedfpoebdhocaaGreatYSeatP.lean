/- The library's functions in this program do what the walks lean on. -/
import Derived.Test.YtaedfpoebdhocaaGreatYTab
import Derived.Test.YtaedfpoebdhocaaGreatYRowB
import Derived.Test.YtaedfpoebdhocaaGreatYShelfP
set_option maxRecDepth 100000
namespace Go.Lift
open Go Go.Proofs
theorem aHL:gW Tryz.prog 52:=⟨_,Tryz.func52,rfl,rfl⟩
theorem aGx:gW Tryz.prog 162:=⟨_,Tryz.func162,rfl,rfl⟩
theorem aI9{W:World}(hsh:W.ShapedOpen Tryz.prog): ∃G:GS,G.g.ok W:=by
 obtain⟨m,hm⟩:=Tryz.laysM144.s1_3 W hsh;have hm:W.cell? ⟨0,0,none⟩=some (.int .i64 m):=hm;have hsz:0<W.heap.size:=World.block_lt_of_cell? W ⟨0,0,none⟩ hm;let G:Glob:=⟨1,W⟩
 refine⟨{g:=G,clone:= ?_,contains:= ?_},by show 1≤W.heap.size;omega,fun b _=>rfl⟩
 ·exact aGA aHL Tryz.slices_Clone_int Tryz.slices_Clone_int_nil Tryz.slices_Clone_int_zero
 exact aBx aGx fun s sub h1 w hG=>Tryz.strings_Contains s sub m w h1 ((aCK hG (by decide)).trans hm)
end Go.Lift
