/- Tools. -/
import Derived.Test.YtcihigfifglboabGreatJTab
import Derived.Test.YtcihigfifglboabGreatJRowB
import Derived.Test.YtcihigfifglboabGreatJCmpR
import Derived.Test.YtcihigfifglboabGreatJCpfR
set_option maxRecDepth 100000
namespace Go.Lift
open Go Go.Proofs
theorem aa1:ji Tryz.prog 99:=⟨_,Tryz.func99,rfl,rfl⟩
theorem NA:ji Tryz.prog 240:=⟨_,Tryz.func240,rfl,rfl⟩
theorem aat:ji Tryz.prog 247:=⟨_,Tryz.func247,rfl,rfl⟩
theorem aau:ji Tryz.prog 241:=⟨_,Tryz.func241,rfl,rfl⟩
theorem abP{W:World}(c:W.ShapedOpen Tryz.prog): ∃G:cw,G.g.ok W:=by
 obtain⟨m,a⟩:=Tryz.ae'.s1_3 W c;have a:W.cell? ⟨0,0,none⟩=some (.int .i64 m):=a;have k:0<W.heap.size:=World.block_lt_of_cell? W ⟨0,0,none⟩ a;let G:fe:=⟨1,W⟩
 refine⟨{g:=G,clone:= ?_,sort:= ?_,contains:= ?_,C0:= ?_,Ph:= ?_},by show 1<=W.heap.size;omega,λb _=>rfl⟩
 ·exact aaC aa1 Tryz.slices_Clone_int Tryz.slices_Clone_int_nil Tryz.slices_Clone_int_zero
 ·exact λx i r d=>VS Tryz.Qi Pg Pe NA d
 ·exact Wg aat λs sub l w n=>Tryz.strings_Contains s sub m w l ((W9 n (by decide)).trans a)
 ·exact λo m p e h x i r d=>T6 Tryz.Qi Pg Pe NA e h d
 exact λo m p e h x i q=>Vb aco acz aau e h x q
end Go.Lift
