/- Tools. -/
import Derived.Test.YtcihigfifglboabGreatGTab
import Derived.Test.YtcihigfifglboabGreatGRowB
import Derived.Test.YtcihigfifglboabGreatGCmpR
import Derived.Test.YtcihigfifglboabGreatGCpfR
set_option maxRecDepth 100000
namespace Go.Lift
open Go Go.Proofs
theorem aaA:iV Tryz.prog 99:=⟨_,Tryz.func99,rfl,rfl⟩
theorem Ns:iV Tryz.prog 240:=⟨_,Tryz.func240,rfl,rfl⟩
theorem Zm:iV Tryz.prog 247:=⟨_,Tryz.func247,rfl,rfl⟩
theorem Zn:iV Tryz.prog 241:=⟨_,Tryz.func241,rfl,rfl⟩
theorem abK{W:World}(i:W.ShapedOpen Tryz.prog): ∃G:cw,G.g.ok W:=by
 obtain⟨m,e⟩:=Tryz.aeQ.s1_3 W i;have e:W.cell? ⟨0,0,none⟩=some (.int .i64 m):=e;have p:0<W.heap.size:=World.block_lt_of_cell? W ⟨0,0,none⟩ e;let G:fa:=⟨1,W⟩
 refine⟨{g:=G,clone:= ?_,sort:= ?_,contains:= ?_,CS:= ?_,O3:= ?_},by show 1<=W.heap.size;omega,λb _=>rfl⟩
 ·exact aam aaA Tryz.slices_Clone_int Tryz.slices_Clone_int_nil Tryz.slices_Clone_int_zero
 ·exact λx o r k=>UR Tryz.P5 afS afP Ns k
 ·exact VZ Zm λs sub q w y=>Tryz.strings_Contains s sub m w q ((WJ y (by decide)).trans e)
 ·exact λz m A l n x o r k=>Ub Tryz.P5 afS afP Ns l n k
 exact λz m A l n x o B=>Uq afT afU Zn l n x B
end Go.Lift
