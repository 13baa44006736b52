/- Tools. -/
import Derived.Test.YteifkndfpnkalabGreatXTab
import Derived.Test.YteifkndfpnkalabGreatXRowB
import Derived.Test.YteifkndfpnkalabGreatXCmpR
import Derived.Test.YteifkndfpnkalabGreatXCpfR
set_option maxRecDepth 100000
namespace Go.Lift
open Go Go.Proofs Go.Proofs.Tryz
theorem aeb:ji prog 141:=⟨_,func141,rfl,rfl⟩
theorem Ph:ji prog 282:=⟨_,func282,rfl,rfl⟩
theorem ad':ji prog 293:=⟨_,func293,rfl,rfl⟩
theorem aea:ji prog 283:=⟨_,func283,rfl,rfl⟩
theorem Uk{W:World}(c:W.ShapedOpen prog): ∃G:cL,G.g.ok W:=by
 obtain⟨m,a⟩:=Tryz.ai1.s1_3 W c;have a:W.cell? ⟨0,0,none⟩=some (.int .i64 m):=a;have k:0<W.heap.size:=World.block_lt_of_cell? W ⟨0,0,none⟩ a;let G:fg:=⟨1,W⟩
 refine⟨{g:=G,clone:= ?_,sort:= ?_,contains:= ?_,D7:= ?_,Q0:= ?_},by show 1<=W.heap.size;omega,λb _=>rfl⟩
 ·exact aeh aeb Tryz.slices_Clone_int Tryz.slices_Clone_int_nil Tryz.slices_Clone_int_zero
 ·exact λx i r d=>Ze Tryz.Sj QZ QW Ph d
 ·exact aai ad' λs sub l w n=>Tryz.strings_Contains s sub m w l ((aaP n (by decide)).trans a)
 ·exact λo m p e h x i r d=>Xd Tryz.Sj QZ QW Ph e h d
 exact λo m p e h x i q=>Yx agm agy aea e h x q
end Go.Lift
