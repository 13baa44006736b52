/- Tools. -/
import Derived.Test.YtlbojjldejlgaaaGreatXTab
import Derived.Test.YtlbojjldejlgaaaGreatXRowB
import Derived.Test.YtlbojjldejlgaaaGreatXCmpR
import Derived.Test.YtlbojjldejlgaaaGreatXCpfR
set_option maxRecDepth 100000
namespace Go.Lift
open Go Go.Proofs Go.Proofs.Tryz
theorem R8:hL prog 97:=⟨_,func97,rfl,rfl⟩
theorem E1:hL prog 178:=⟨_,func178,rfl,rfl⟩
theorem Rb:hL prog 235:=⟨_,func235,rfl,rfl⟩
theorem Rc:hL prog 180:=⟨_,func180,rfl,rfl⟩
theorem Tj{W:World}(c:W.ShapedOpen prog): ∃G:cC,G.g.ok W:=by
 obtain⟨m,a⟩:=Tryz.VW.s1_3 W c;have a:W.cell? ⟨0,0,none⟩=some (.int .i64 m):=a;have k:0<W.heap.size:=World.block_lt_of_cell? W ⟨0,0,none⟩ a;let G:ee:=⟨1,W⟩
 refine⟨{g:=G,clone:= ?_,sort:= ?_,contains:= ?_,wV:= ?_,Gy:= ?_},by show 1<=W.heap.size;omega,λb _=>rfl⟩
 ·exact QS R8 Tryz.slices_Clone_int Tryz.slices_Clone_int_nil Tryz.slices_Clone_int_zero
 ·exact λx i r d=>M7 Tryz.HE Gx Gv E1 d
 ·exact Nx Rb λs sub l w n=>Tryz.strings_Contains s sub m w l ((OO n (by decide)).trans a)
 ·exact λo m p e h x i r d=>L8 Tryz.HE Gx Gv E1 e h d
 exact λo m p e h x i q=>Mv TI TQ Rc e h x q
end Go.Lift
