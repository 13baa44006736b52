/- Tools. -/
import Derived.Test.YtlklcemjbgpcnaaGreatOTab
import Derived.Test.YtlklcemjbgpcnaaGreatORowB
import Derived.Test.YtlklcemjbgpcnaaGreatOLruR
import Derived.Test.YtlklcemjbgpcnaaGreatOCmpR
import Derived.Test.YtlklcemjbgpcnaaGreatOCpfR
set_option maxRecDepth 100000
namespace Go.Lift
open Go Go.Proofs Go.Proofs.Tryz
theorem ags:iH prog 59:=⟨_,func59,rfl,rfl⟩
theorem agr:iH prog 61:=⟨_,func61,rfl,rfl⟩
theorem afj:iH prog 306:=⟨_,func306,rfl,rfl⟩
theorem Qx:iH prog 316:=⟨_,func316,rfl,rfl⟩
theorem afi:iH prog 317:=⟨_,func317,rfl,rfl⟩
theorem VH{W:World}(e:W.ShapedOpen prog): ∃G:cN,G.g.ok W:=by
 obtain⟨m,d⟩:=Tryz.akb.s1_3 W e;have d:W.cell? ⟨0,0,none⟩=some (.int .i64 m):=d;have p:0<W.heap.size:=World.block_lt_of_cell? W ⟨0,0,none⟩ d;let G:fe:=⟨1,W⟩
 refine⟨{g:=G,Tb:= ?_,clone:= ?_,contains:= ?_,sort:= ?_,ED:= ?_,RU:= ?_},by show 1<=W.heap.size;omega,λb _=>rfl⟩
 ·exact λl a r h=>af5 ags (akj λH k c q=>ah' Tryz.ake H k c q) l a h
 ·exact afp agr Tryz.slices_Clone_int Tryz.slices_Clone_int_nil Tryz.slices_Clone_int_zero
 ·exact abr afj λs sub y w z=>Tryz.strings_Contains s sub m w y ((ab2 z (by decide)).trans d)
 ·exact λx o r i=>aaG Tryz.S' RT RR Qx i
 ·exact λA m B n c x o r i=>Zu Tryz.S' RT RR Qx n c i
 exact λA m B n c x o C=>ZZ ahr ahA afi n c x C
end Go.Lift
