/- Tools. -/
import Derived.Test.YtlbojjldejlgaaaGreatVTab
import Derived.Test.YtlbojjldejlgaaaGreatVRowB
import Derived.Test.YtlbojjldejlgaaaGreatVCmpR
import Derived.Test.YtlbojjldejlgaaaGreatVCpfR
set_option maxRecDepth 100000
namespace Go.Lift
open Go Go.Proofs Go.Proofs.Tryz
theorem Tk:hP prog 97:=⟨_,func97,rfl,rfl⟩
theorem E':hP prog 178:=⟨_,func178,rfl,rfl⟩
theorem R6:hP prog 235:=⟨_,func235,rfl,rfl⟩
theorem R7:hP prog 180:=⟨_,func180,rfl,rfl⟩
theorem Tu{W:World}(c:W.ShapedOpen prog): ∃G:cx,G.g.ok W:=by
 obtain⟨m,a⟩:=Tryz.Ws.s1_3 W c;have a:W.cell? ⟨0,0,none⟩=some (.int .i64 m):=a;have k:0<W.heap.size:=World.block_lt_of_cell? W ⟨0,0,none⟩ a;let G:ef:=⟨1,W⟩
 refine⟨{g:=G,clone:= ?_,sort:= ?_,contains:= ?_,w5:= ?_,GV:= ?_},by show 1<=W.heap.size;omega,λb _=>rfl⟩
 ·exact RN Tk Tryz.slices_Clone_int Tryz.slices_Clone_int_nil Tryz.slices_Clone_int_zero
 ·exact λx i r d=>Nw Tryz.H5 GU GR E' d
 ·exact NG R6 λs sub l w n=>Tryz.strings_Contains s sub m w l ((OI n (by decide)).trans a)
 ·exact λo m p e h x i r d=>LZ Tryz.H5 GU GR E' e h d
 exact λo m p e h x i q=>MU Uf Um R7 e h x q
end Go.Lift
