/- Tools. -/
import Derived.Test.YtlbojjldejlgaabGreatETab
import Derived.Test.YtlbojjldejlgaabGreatERowB
import Derived.Test.YtlbojjldejlgaabGreatELruR
import Derived.Test.YtlbojjldejlgaabGreatECmpR
import Derived.Test.YtlbojjldejlgaabGreatECpfR
set_option maxRecDepth 100000
namespace Go.Lift
open Go Go.Proofs Go.Proofs.Tryz
theorem acO:d7 prog 43:=⟨_,func43,rfl,rfl⟩
theorem acC:d7 prog 178:=⟨_,func178,rfl,rfl⟩
theorem acB:d7 prog 281:=⟨_,func281,rfl,rfl⟩
theorem N4:d7 prog 291:=⟨_,func291,rfl,rfl⟩
theorem acA:d7 prog 292:=⟨_,func292,rfl,rfl⟩
theorem ad4{W:World}(e:W.ShapedOpen prog): ∃G:cw,G.g.ok W:=by
 obtain⟨m,d⟩:=Tryz.ahb.s1_3 W e;have d:W.cell? ⟨0,0,none⟩=some (.int .i64 m):=d;have p:0<W.heap.size:=World.block_lt_of_cell? W ⟨0,0,none⟩ d;let G:eS:=⟨1,W⟩
 refine⟨{g:=G,QT:= ?_,clone:= ?_,contains:= ?_,sort:= ?_,CW:= ?_,PN:= ?_},by show 1<=W.heap.size;omega,λb _=>rfl⟩
 ·exact λl a r h=>abP acO (ahj λH k c q=>afg Tryz.ahe H k c q) l a h
 ·exact acI acC Tryz.slices_Clone_int Tryz.slices_Clone_int_nil Tryz.slices_Clone_int_zero
 ·exact XD acB λs sub y w z=>Tryz.strings_Contains s sub m w y ((Yf z (by decide)).trans d)
 ·exact λx o r i=>WN Tryz.QR PM PK N4 i
 ·exact λA m B n c x o r i=>Vw Tryz.QR PM PK N4 n c i
 exact λA m B n c x o C=>V1 aeB aeK acA n c x C
end Go.Lift
