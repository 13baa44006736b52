/- Tools. -/
import Derived.Test.YtcihigfifglboabGreatHTab
import Derived.Test.YtcihigfifglboabGreatHRowB
import Derived.Test.YtcihigfifglboabGreatHCmpR
import Derived.Test.YtcihigfifglboabGreatHCpfR
set_option maxRecDepth 100000
namespace Go.Lift
open Go Go.Proofs
theorem aaC:i' Tryz.prog 99:=⟨_,Tryz.func99,rfl,rfl⟩
theorem Nu:i' Tryz.prog 240:=⟨_,Tryz.func240,rfl,rfl⟩
theorem Zo:i' Tryz.prog 247:=⟨_,Tryz.func247,rfl,rfl⟩
theorem Zp:i' Tryz.prog 241:=⟨_,Tryz.func241,rfl,rfl⟩
theorem abG{W:World}(c:W.ShapedOpen Tryz.prog): ∃G:cw,G.g.ok W:=by
 obtain⟨m,a⟩:=Tryz.aeT.s1_3 W c;have a:W.cell? ⟨0,0,none⟩=some (.int .i64 m):=a;have k:0<W.heap.size:=World.block_lt_of_cell? W ⟨0,0,none⟩ a;let G:fc:=⟨1,W⟩
 refine⟨{g:=G,clone:= ?_,sort:= ?_,contains:= ?_,CX:= ?_,O8:= ?_},by show 1<=W.heap.size;omega,λb _=>rfl⟩
 ·exact aas aaC Tryz.slices_Clone_int Tryz.slices_Clone_int_nil Tryz.slices_Clone_int_zero
 ·exact λx i r d=>UY Tryz.P' O7 O5 Nu d
 ·exact V0 Zo λs sub l w n=>Tryz.strings_Contains s sub m w l ((Xw n (by decide)).trans a)
 ·exact λo m p e h x i r d=>Ud Tryz.P' O7 O5 Nu e h d
 exact λo m p e h x i q=>UL ab6 acg Zp e h x q
end Go.Lift
