/- Tools. -/
import Derived.Test.YteifkndfpnkalaaGreatDTab
import Derived.Test.YteifkndfpnkalaaGreatDRowB
import Derived.Test.YteifkndfpnkalaaGreatDCmpR
import Derived.Test.YteifkndfpnkalaaGreatDCpfR
set_option maxRecDepth 100000
namespace Go.Lift
open Go Go.Proofs Go.Proofs.Tryz
theorem ad9:jZ prog 142:=⟨_,func142,rfl,rfl⟩
theorem ad8:jZ prog 256:=⟨_,func256,rfl,rfl⟩
theorem QB:jZ prog 280:=⟨_,func280,rfl,rfl⟩
theorem ad7:jZ prog 281:=⟨_,func281,rfl,rfl⟩
theorem UC{W:World}(c:W.ShapedOpen prog): ∃G:cA,G.g.ok W:=by
 obtain⟨m,a⟩:=Tryz.aje.s1_3 W c;have a:W.cell? ⟨0,0,none⟩=some (.int .i64 m):=a;have k:0<W.heap.size:=World.block_lt_of_cell? W ⟨0,0,none⟩ a;let G:fL:=⟨1,W⟩
 refine⟨{g:=G,clone:= ?_,contains:= ?_,sort:= ?_,Ex:= ?_,RY:= ?_},by show 1<=W.heap.size;omega,λb _=>rfl⟩
 ·exact adR ad9 Tryz.slices_Clone_int Tryz.slices_Clone_int_nil Tryz.slices_Clone_int_zero
 ·exact ZV ad8 λs sub l w n=>Tryz.strings_Contains s sub m w l ((aa5 n (by decide)).trans a)
 ·exact λx i r d=>YS Tryz.Tb RX RU QB d
 ·exact λo m p e h x i r d=>XU Tryz.Tb RX RU QB e h d
 exact λo m p e h x i q=>Ya agm agy ad7 e h x q
end Go.Lift
