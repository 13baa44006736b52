/- Tools. -/
import Derived.Test.YtfegpkfpnpjgeaaGreatBTab
import Derived.Test.YtfegpkfpnpjgeaaGreatBRowB
import Derived.Test.YtfegpkfpnpjgeaaGreatBLruR
import Derived.Test.YtfegpkfpnpjgeaaGreatBCmpR
import Derived.Test.YtfegpkfpnpjgeaaGreatBCpfR
set_option maxRecDepth 100000
namespace Go.Lift
open Go Go.Proofs Go.Proofs.Tryz
theorem abX:ig prog 15:=⟨_,func15,rfl,rfl⟩
theorem aaI:ig prog 139:=⟨_,func139,rfl,rfl⟩
theorem aaH:ig prog 252:=⟨_,func252,rfl,rfl⟩
theorem Ox:ig prog 262:=⟨_,func262,rfl,rfl⟩
theorem aaG:ig prog 263:=⟨_,func263,rfl,rfl⟩
theorem acX{W:World}(e:W.ShapedOpen prog): ∃G:cz,G.g.ok W:=by
 obtain⟨m,d⟩:=Tryz.agf.s1_3 W e;have d:W.cell? ⟨0,0,none⟩=some (.int .i64 m):=d;have p:0<W.heap.size:=World.block_lt_of_cell? W ⟨0,0,none⟩ d;let G:eY:=⟨1,W⟩
 refine⟨{g:=G,QU:= ?_,clone:= ?_,contains:= ?_,sort:= ?_,Dh:= ?_,PS:= ?_},by show 1<=W.heap.size;omega,λb _=>rfl⟩
 ·exact λl a r h=>aaP abX (ago λH k c q=>aeb Tryz.agj H k c q) l a h
 ·exact abI aaI Tryz.slices_Clone_int Tryz.slices_Clone_int_nil Tryz.slices_Clone_int_zero
 ·exact Xz aaH λs sub y w z=>Tryz.strings_Contains s sub m w y ((YJ z (by decide)).trans d)
 ·exact λx o r i=>Wl Tryz.QS PR PO Ox i
 ·exact λA m B n c x o r i=>VD Tryz.QS PR PO Ox n c i
 exact λA m B n c x o C=>VI adt adD aaG n c x C
end Go.Lift
