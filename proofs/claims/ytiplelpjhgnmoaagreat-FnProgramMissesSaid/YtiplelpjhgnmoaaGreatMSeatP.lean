/- The library's functions in this program do what the walks lean on. -/
import Derived.Test.YtiplelpjhgnmoaaGreatMTab
import Derived.Test.YtiplelpjhgnmoaaGreatMRowB
import Derived.Test.YtiplelpjhgnmoaaGreatMShelfP
import Derived.Test.YtiplelpjhgnmoaaGreatMLruR
set_option maxRecDepth 100000
namespace Go.Lift
open Go Go.Proofs
theorem aKU:fV Tryz.prog 70:=⟨_,Tryz.func70,rfl,rfl⟩
theorem aJw:fV Tryz.prog 106:=⟨_,Tryz.func106,rfl,rfl⟩
theorem aJv:fV Tryz.prog 219:=⟨_,Tryz.func219,rfl,rfl⟩
theorem aMc{W:World}(hsh:W.ShapedOpen Tryz.prog): ∃G:GS,G.g.ok W:=by
 obtain⟨m,hm⟩:=Tryz.laysM144.s1_3 W hsh
 have hm:W.cell? ⟨0,0,none⟩=some (.int .i64 m):=hm
 have hsz:0<W.heap.size:=World.block_lt_of_cell? W ⟨0,0,none⟩ hm
 let G:Glob:=⟨1,W⟩
 refine⟨{g:=G,lru:= ?_,clone:= ?_,contains:= ?_},by show 1≤W.heap.size;omega,fun b _=>rfl⟩
 ·exact fun l size r h=>aJa aKU (lru_run (fun H k hk hb=>held_delete' Tryz.laysNm223 H k hk hb)) l size h
 ·exact aJB aJw Tryz.slices_Clone_int Tryz.slices_Clone_int_nil Tryz.slices_Clone_int_zero
 ·exact aEr aJv (fun s sub h1 w hG=>Tryz.strings_Contains s sub m w h1 ((aFS hG (by decide)).trans hm))
end Go.Lift
