/- Tools. -/
import Derived.Test.YteifkndfpnkalaaGreatETab
import Derived.Test.YteifkndfpnkalaaGreatERowB
import Derived.Test.YteifkndfpnkalaaGreatECmpR
import Derived.Test.YteifkndfpnkalaaGreatECpfR
set_option maxRecDepth 100000
namespace Go.Lift
open Go Go.Proofs Go.Proofs.Tryz
theorem ad4:j2 prog 142:=⟨_,func142,rfl,rfl⟩
theorem ad3:j2 prog 256:=⟨_,func256,rfl,rfl⟩
theorem Ql:j2 prog 280:=⟨_,func280,rfl,rfl⟩
theorem ad2:j2 prog 281:=⟨_,func281,rfl,rfl⟩
theorem UO{W:World}(c:W.ShapedOpen prog): ∃G:cA,G.g.ok W:=by
 obtain⟨m,a⟩:=Tryz.ajs.s1_3 W c;have a:W.cell? ⟨0,0,none⟩=some (.int .i64 m):=a;have k:0<W.heap.size:=World.block_lt_of_cell? W ⟨0,0,none⟩ a;let G:fL:=⟨1,W⟩
 refine⟨{g:=G,clone:= ?_,contains:= ?_,sort:= ?_,EA:= ?_,R5:= ?_},by show 1<=W.heap.size;omega,λb _=>rfl⟩
 ·exact ae7 ad4 Tryz.slices_Clone_int Tryz.slices_Clone_int_nil Tryz.slices_Clone_int_zero
 ·exact ZS ad3 λs sub l w n=>Tryz.strings_Contains s sub m w l ((aaL n (by decide)).trans a)
 ·exact λx i r d=>Y6 Tryz.Ti R4 R1 Ql d
 ·exact λo m p e h x i r d=>Ye Tryz.Ti R4 R1 Ql e h d
 exact λo m p e h x i q=>Ys agA agM ad2 e h x q
end Go.Lift
