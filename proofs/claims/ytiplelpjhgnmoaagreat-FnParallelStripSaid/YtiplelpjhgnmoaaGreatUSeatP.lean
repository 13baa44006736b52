/- The library's functions in this program do what the walks lean on. -/
import Derived.Test.YtiplelpjhgnmoaaGreatUTab
import Derived.Test.YtiplelpjhgnmoaaGreatURowB
import Derived.Test.YtiplelpjhgnmoaaGreatUShelfP
import Derived.Test.YtiplelpjhgnmoaaGreatULiftSort
import Derived.Test.YtiplelpjhgnmoaaGreatUCmpR
set_option maxRecDepth 100000
namespace Go.Lift
open Go Go.Proofs
theorem aK3:eV Tryz.prog 99:=⟨_,Tryz.func99,rfl,rfl⟩
theorem aJy:eV Tryz.prog 106:=⟨_,Tryz.func106,rfl,rfl⟩
theorem aJx:eV Tryz.prog 219:=⟨_,Tryz.func219,rfl,rfl⟩
theorem aMh{W:World}(hsh:W.ShapedOpen Tryz.prog): ∃G:GS,G.g.ok W:=by
 obtain⟨m,hm⟩:=Tryz.laysM144.s1_3 W hsh
 have hm:W.cell? ⟨0,0,none⟩=some (.int .i64 m):=hm
 have hsz:0<W.heap.size:=World.block_lt_of_cell? W ⟨0,0,none⟩ hm
 let G:Glob:=⟨1,W⟩
 refine⟨{g:=G,sort:= ?_,clone:= ?_,contains:= ?_},by show 1≤W.heap.size;omega,fun b _=>rfl⟩
 ·exact fun x gs r hr=>aC5 Tryz.laysSlF6_f99 cmp_raw call_cmp aK3 hr
 ·exact aJG aJy Tryz.slices_Clone_int Tryz.slices_Clone_int_nil Tryz.slices_Clone_int_zero
 ·exact aEr aJx (fun s sub h1 w hG=>Tryz.strings_Contains s sub m w h1 ((aFQ hG (by decide)).trans hm))
end Go.Lift
