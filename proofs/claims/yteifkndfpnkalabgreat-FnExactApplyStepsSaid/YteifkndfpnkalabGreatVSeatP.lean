/- Tools. -/
import Derived.Test.YteifkndfpnkalabGreatVTab
import Derived.Test.YteifkndfpnkalabGreatVRowB
import Derived.Test.YteifkndfpnkalabGreatVCmpR
import Derived.Test.YteifkndfpnkalabGreatVCpfR
set_option maxRecDepth 100000
namespace Go.Lift
open Go Go.Proofs Go.Proofs.Tryz
theorem ad6:jh prog 141:=⟨_,func141,rfl,rfl⟩
theorem Pn:jh prog 282:=⟨_,func282,rfl,rfl⟩
theorem ad4:jh prog 293:=⟨_,func293,rfl,rfl⟩
theorem ad5:jh prog 283:=⟨_,func283,rfl,rfl⟩
theorem Ul{W:World}(c:W.ShapedOpen prog): ∃G:cK,G.g.ok W:=by
 obtain⟨m,a⟩:=Tryz.ai3.s1_3 W c;have a:W.cell? ⟨0,0,none⟩=some (.int .i64 m):=a;have k:0<W.heap.size:=World.block_lt_of_cell? W ⟨0,0,none⟩ a;let G:fh:=⟨1,W⟩
 refine⟨{g:=G,clone:= ?_,sort:= ?_,contains:= ?_,D':= ?_,Q4:= ?_},by show 1<=W.heap.size;omega,λb _=>rfl⟩
 ·exact aeb ad6 Tryz.slices_Clone_int Tryz.slices_Clone_int_nil Tryz.slices_Clone_int_zero
 ·exact λx i r d=>YS Tryz.Sl Q3 Q0 Pn d
 ·exact aad ad4 λs sub l w n=>Tryz.strings_Contains s sub m w l ((aaF n (by decide)).trans a)
 ·exact λo m p e h x i r d=>X0 Tryz.Sl Q3 Q0 Pn e h d
 exact λo m p e h x i q=>YF agk agw ad5 e h x q
end Go.Lift
