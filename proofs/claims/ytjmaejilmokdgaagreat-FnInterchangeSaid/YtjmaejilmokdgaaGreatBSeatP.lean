/- The library's functions in this program do what the walks lean on. -/
import Derived.Test.YtjmaejilmokdgaaGreatBTab
import Derived.Test.YtjmaejilmokdgaaGreatBRowB
import Derived.Test.YtjmaejilmokdgaaGreatBShelfP
import Derived.Test.YtjmaejilmokdgaaGreatBLiftSort
import Derived.Test.YtjmaejilmokdgaaGreatBCmpR
import Derived.Test.YtjmaejilmokdgaaGreatBLiftTC
import Derived.Test.YtjmaejilmokdgaaGreatBLiftTC
import Derived.Test.YtjmaejilmokdgaaGreatBCpfR
set_option maxRecDepth 100000
namespace Go.Lift
open Go Go.Proofs
theorem aNt:eM Tryz.prog 103:=⟨_,Tryz.func103,rfl,rfl⟩
theorem aIv:eM Tryz.prog 147:=⟨_,Tryz.func147,rfl,rfl⟩
theorem aNr:eM Tryz.prog 216:=⟨_,Tryz.func216,rfl,rfl⟩
theorem aNs:eM Tryz.prog 149:=⟨_,Tryz.func149,rfl,rfl⟩
theorem aQF{W:World}(hsh:W.ShapedOpen Tryz.prog): ∃G:GS,G.g.ok W:=by
 obtain⟨m,hm⟩:=Tryz.laysM144.s1_3 W hsh;have hm:W.cell? ⟨0,0,none⟩=some (.int .i64 m):=hm;have hsz:0<W.heap.size:=World.block_lt_of_cell? W ⟨0,0,none⟩ hm;let G:Glob:=⟨1,W⟩
 refine⟨{g:=G,clone:= ?_,sort:= ?_,contains:= ?_,sortT:= ?_,compT:= ?_},by show 1≤W.heap.size;omega,fun b _=>rfl⟩
 ·exact aNB aNt Tryz.slices_Clone_int Tryz.slices_Clone_int_nil Tryz.slices_Clone_int_zero
 ·exact fun x gs r hr=>aGg Tryz.laysSlF6_f147 cmp_raw call_cmp aIv hr
 ·exact aHJ aNr fun s sub h1 w hG=>Tryz.strings_Contains s sub m w h1 ((aJa hG (by decide)).trans hm)
 ·exact fun Γ m m1 hz hk x gs r hr=>aEp Tryz.laysSlF6_f147 cmp_raw call_cmp aIv hz hk hr
 exact fun Γ m m1 hz hk x gs hl=>aFg cpf_raw eq_raw aNs hz hk x hl
end Go.Lift
