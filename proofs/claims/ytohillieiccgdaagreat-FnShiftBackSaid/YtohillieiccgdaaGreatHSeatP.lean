/- The library's functions in this program do what the walks lean on. -/
import Derived.Test.YtohillieiccgdaaGreatHTab
import Derived.Test.YtohillieiccgdaaGreatHRowB
import Derived.Test.YtohillieiccgdaaGreatHShelfP
set_option maxRecDepth 100000
namespace Go.Lift
open Go Go.Proofs
theorem aGO:kF Tryz.prog 273:=⟨_,Tryz.func273,rfl,rfl⟩
theorem aH4:kF Tryz.prog 62:=⟨_,Tryz.func62,rfl,rfl⟩
theorem aJd{W:World}(hsh:W.ShapedOpen Tryz.prog): ∃G:GS,G.g.ok W:=by
 obtain⟨m,hm⟩:=Tryz.laysM144.s1_3 W hsh
 have hm:W.cell? ⟨0,0,none⟩=some (.int .i64 m):=hm
 have hsz:0<W.heap.size:=World.block_lt_of_cell? W ⟨0,0,none⟩ hm
 let G:Glob:=⟨1,W⟩
 refine⟨{g:=G,clone:= ?_,contains:= ?_},by show 1≤W.heap.size;omega,fun b _=>rfl⟩
 ·exact aGU aH4 Tryz.slices_Clone_int Tryz.slices_Clone_int_nil Tryz.slices_Clone_int_zero
 ·exact aCl aGO (fun s sub h1 w hG=>Tryz.strings_Contains s sub m w h1 ((aDv hG (by decide)).trans hm))
end Go.Lift
