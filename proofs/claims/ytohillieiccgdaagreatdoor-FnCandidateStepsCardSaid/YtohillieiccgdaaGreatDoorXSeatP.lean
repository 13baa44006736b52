/- The library's functions in this program do what the walks lean on (seat r4, ZD: FnCandidateSteps). -/
import Derived.Test.YtohillieiccgdaaGreatDoorXTab
import Derived.Test.YtohillieiccgdaaGreatDoorXRowB
import Derived.Test.YtohillieiccgdaaGreatDoorCards
import Derived.Test.YtohillieiccgdaaGreatDoorTie
import Derived.Test.YtohillieiccgdaaGreatDoorXShelfP
set_option maxRecDepth 100000
namespace Go.Lift
open Go Go.Proofs
abbrev laidL:List (String×DataW Unit):=YtohillieiccgdaaGreatDoor.Rows.fnCandidateStepsRow.laid
def Y7:String:=((laidL.getD 2 ("",.nil)).1)
theorem aFT:Tryz.prog.globalNamed Y7=some 0:=by kernel_rfl
theorem aBV:(Tryz.prog.globals[0]?).map (·.type)=some 183:=by kernel_rfl
theorem aCy:Tryz.prog.cellsOf 183=20:=by kernel_rfl
theorem aCz:Tryz.prog.cellsOf 167=1:=by kernel_rfl
theorem aFQ{W:World}(h:laidMetH Tryz.prog laidL W):laidMet Tryz.prog laidL W:=h
theorem aET{W:World}(h:laidMet Tryz.prog laidL W):Lib.TabIs Tryz.prog W Y7 .u64 Lib.pow10Tab:=
 Lib.tabIs_of_head (rest:=_) aFT aBV Tryz.underlying183 Tryz.underlying167 aCz aCy (laidMet.tail (laidMet.tail h))
theorem aFc:fK Tryz.prog 34:=⟨_,Tryz.func34,rfl,rfl⟩
theorem aFb:fK Tryz.prog 43:=⟨_,Tryz.func43,rfl,rfl⟩
theorem aFa:fK Tryz.prog 94:=⟨_,Tryz.func94,rfl,rfl⟩
theorem aGi{W:World}(hsh:W.ShapedOpen Tryz.prog)(hL:laidMetH Tryz.prog laidL W): ∃G:GS,G.g.ok W:=by
 have hp:=aET (aFQ hL)
 obtain⟨m,hm⟩:=Tryz.laysM144.s1_3 W hsh
 have hm:W.cell? ⟨1,0,none⟩=some (.int .i64 m):=hm
 have hsz:1<W.heap.size:=World.block_lt_of_cell? W ⟨1,0,none⟩ hm
 let G:Glob:=⟨2,W⟩
 refine⟨{g:=G,itoa:= ?_,clone:= ?_,contains:= ?_},by show 2≤W.heap.size;omega,fun b _=>rfl⟩
 ·exact aFg aFc (fun n h0 h1 w hG=>Any.strconv_Itoa Tryz.laysM171 n h0 h1 w ((aBU hG aFT (by decide)).trans hp))
 ·exact aD5 aFb Tryz.slices_Clone_int Tryz.slices_Clone_int_nil Tryz.slices_Clone_int_zero
 ·exact X4 aFa (fun s sub h1 w hG=>Tryz.strings_Contains s sub m w h1 ((aAH hG (by decide)).trans hm))
end Go.Lift
