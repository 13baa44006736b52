/- The library's functions in this program do what the walks lean on. -/
import Derived.Test.YtjmaejilmokdgaaGreatRTab
import Derived.Test.YtjmaejilmokdgaaGreatRRowB
import Derived.Test.YtjmaejilmokdgaaGreatRShelfP
import Derived.Test.YtjmaejilmokdgaaGreatRLiftSort
import Derived.Test.YtjmaejilmokdgaaGreatRCmpR
set_option maxRecDepth 100000
namespace Go.Lift
open Go Go.Proofs
theorem aKH:fU Tryz.prog 103:=⟨_,Tryz.func103,rfl,rfl⟩
theorem aKG:fU Tryz.prog 147:=⟨_,Tryz.func147,rfl,rfl⟩
theorem aKF:fU Tryz.prog 216:=⟨_,Tryz.func216,rfl,rfl⟩
theorem aN5{W:World}(hsh:W.ShapedOpen Tryz.prog): ∃G:GS,G.g.ok W:=by
 obtain⟨m,hm⟩:=Tryz.laysM144.s1_3 W hsh;have hm:W.cell? ⟨0,0,none⟩=some (.int .i64 m):=hm;have hsz:0<W.heap.size:=World.block_lt_of_cell? W ⟨0,0,none⟩ hm;let G:Glob:=⟨1,W⟩
 refine⟨{g:=G,clone:= ?_,sort:= ?_,contains:= ?_},by show 1≤W.heap.size;omega,fun b _=>rfl⟩
 ·exact aKP aKH Tryz.slices_Clone_int Tryz.slices_Clone_int_nil Tryz.slices_Clone_int_zero
 ·exact fun x gs r hr=>aDW Tryz.laysSlF6_f147 cmp_raw call_cmp aKG hr
 exact aE8 aKF fun s sub h1 w hG=>Tryz.strings_Contains s sub m w h1 ((aGD hG (by decide)).trans hm)
end Go.Lift
