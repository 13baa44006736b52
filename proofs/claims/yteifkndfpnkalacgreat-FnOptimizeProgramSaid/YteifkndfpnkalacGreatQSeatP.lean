/- Tools. -/
import Derived.Test.YteifkndfpnkalacGreatQTab
import Derived.Test.YteifkndfpnkalacGreatQRowB
import Derived.Test.YteifkndfpnkalacGreatQLruR
import Derived.Test.YteifkndfpnkalacGreatQCmpR
import Derived.Test.YteifkndfpnkalacGreatQCpfR
set_option maxRecDepth 100000
namespace Go.Lift
open Go Go.Proofs Go.Proofs.Tryz
theorem ady:jy prog 34:=⟨_,func34,rfl,rfl⟩
theorem adx:jy prog 40:=⟨_,func40,rfl,rfl⟩
theorem acd:jy prog 280:=⟨_,func280,rfl,rfl⟩
theorem N7:jy prog 298:=⟨_,func298,rfl,rfl⟩
theorem acb:jy prog 299:=⟨_,func299,rfl,rfl⟩
theorem adD{W:World}(e:W.ShapedOpen prog): ∃G:cF,G.g.ok W:=by
 obtain⟨m,d⟩:=Tryz.ag6.s1_3 W e;have d:W.cell? ⟨0,0,none⟩=some (.int .i64 m):=d;have p:0<W.heap.size:=World.block_lt_of_cell? W ⟨0,0,none⟩ d;let G:fq:=⟨1,W⟩
 refine⟨{g:=G,Q5:= ?_,clone:= ?_,contains:= ?_,sort:= ?_,CW:= ?_,P0:= ?_},by show 1<=W.heap.size;omega,λb _=>rfl⟩
 ·exact λl a r h=>abx ady (ahe λH k c q=>ae3 Tryz.ag9 H k c q) l a h
 ·exact abX adx Tryz.slices_Clone_int Tryz.slices_Clone_int_nil Tryz.slices_Clone_int_zero
 ·exact Xk acd λs sub y w z=>Tryz.strings_Contains s sub m w y ((Ym z (by decide)).trans d)
 ·exact λx o r i=>Wn Tryz.Q3 PZ PX N7 i
 ·exact λA m B n c x o r i=>Vs Tryz.Q3 PZ PX N7 n c i
 exact λA m B n c x o C=>VK ael aev acb n c x C
end Go.Lift
