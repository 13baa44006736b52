/- The library's functions in this program do what the walks lean on. -/
import Derived.Test.YtlbojjldejlgaaaGreatTTab
import Derived.Test.YtlbojjldejlgaaaGreatTRowB
import Derived.Test.YtlbojjldejlgaaaGreatTShelfP
set_option maxRecDepth 100000
namespace Go.Lift
open Go Go.Proofs
theorem aL0:hJ Tryz.prog 97:=⟨_,Tryz.func97,rfl,rfl⟩
theorem aKo:hJ Tryz.prog 235:=⟨_,Tryz.func235,rfl,rfl⟩
theorem aNQ{W:World}(hsh:W.ShapedOpen Tryz.prog): ∃G:GS,G.g.ok W:=by
 obtain⟨m,hm⟩:=Tryz.laysM144.s1_3 W hsh;have hm:W.cell? ⟨0,0,none⟩=some (.int .i64 m):=hm;have hsz:0<W.heap.size:=World.block_lt_of_cell? W ⟨0,0,none⟩ hm;let G:Glob:=⟨1,W⟩
 refine⟨{g:=G,clone:= ?_,contains:= ?_},by show 1≤W.heap.size;omega,fun b _=>rfl⟩
 ·exact aKs aL0 Tryz.slices_Clone_int Tryz.slices_Clone_int_nil Tryz.slices_Clone_int_zero
 exact aER aKo fun s sub h1 w hG=>Tryz.strings_Contains s sub m w h1 ((aGe hG (by decide)).trans hm)
end Go.Lift
