/- The library's functions in this program do what the walks lean on. -/
import Derived.Test.YtjmaejilmokdgaaGreatKTab
import Derived.Test.YtjmaejilmokdgaaGreatKRowB
import Derived.Test.YtjmaejilmokdgaaGreatKShelfP
import Derived.Test.YtjmaejilmokdgaaGreatKLiftSort
import Derived.Test.YtjmaejilmokdgaaGreatKCmpR
import Derived.Test.YtjmaejilmokdgaaGreatKLiftTC
import Derived.Test.YtjmaejilmokdgaaGreatKLiftTC
import Derived.Test.YtjmaejilmokdgaaGreatKCpfR
set_option maxRecDepth 100000
namespace Go.Lift
open Go Go.Proofs
theorem aMa:eA Tryz.prog 103:=⟨_,Tryz.func103,rfl,rfl⟩
theorem aHs:eA Tryz.prog 147:=⟨_,Tryz.func147,rfl,rfl⟩
theorem aL8:eA Tryz.prog 216:=⟨_,Tryz.func216,rfl,rfl⟩
theorem aL9:eA Tryz.prog 149:=⟨_,Tryz.func149,rfl,rfl⟩
theorem aOZ{W:World}(hsh:W.ShapedOpen Tryz.prog): ∃G:GS,G.g.ok W:=by
 obtain⟨m,hm⟩:=Tryz.laysM144.s1_3 W hsh;have hm:W.cell? ⟨0,0,none⟩=some (.int .i64 m):=hm;have hsz:0<W.heap.size:=World.block_lt_of_cell? W ⟨0,0,none⟩ hm;let G:Glob:=⟨1,W⟩
 refine⟨{g:=G,clone:= ?_,sort:= ?_,contains:= ?_,sortT:= ?_,compT:= ?_},by show 1≤W.heap.size;omega,fun b _=>rfl⟩
 ·exact aMi aMa Tryz.slices_Clone_int Tryz.slices_Clone_int_nil Tryz.slices_Clone_int_zero
 ·exact fun x gs r hr=>aFd Tryz.laysSlF6_f147 cmp_raw call_cmp aHs hr
 ·exact aGD aL8 fun s sub h1 w hG=>Tryz.strings_Contains s sub m w h1 ((aH8 hG (by decide)).trans hm)
 ·exact fun Γ m m1 hz hk x gs r hr=>aDx Tryz.laysSlF6_f147 cmp_raw call_cmp aHs hz hk hr
 exact fun Γ m m1 hz hk x gs hl=>aEg cpf_raw eq_raw aL9 hz hk x hl
end Go.Lift
