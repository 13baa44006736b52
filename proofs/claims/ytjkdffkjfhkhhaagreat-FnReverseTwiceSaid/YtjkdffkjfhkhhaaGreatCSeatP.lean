/- The library's functions in this program do what the walks lean on. -/
import Derived.Test.YtjkdffkjfhkhhaaGreatCTab
import Derived.Test.YtjkdffkjfhkhhaaGreatCRowB
import Derived.Test.YtjkdffkjfhkhhaaGreatCShelfP
import Derived.Test.YtjkdffkjfhkhhaaGreatCLiftSort
import Derived.Test.YtjkdffkjfhkhhaaGreatCCmpR
import Derived.Test.YtjkdffkjfhkhhaaGreatCLiftTC
import Derived.Test.YtjkdffkjfhkhhaaGreatCLiftTC
import Derived.Test.YtjkdffkjfhkhhaaGreatCCpfR
set_option maxRecDepth 100000
namespace Go.Lift
open Go Go.Proofs
theorem aNn:eE Tryz.prog 109:=⟨_,Tryz.func109,rfl,rfl⟩
theorem aIg:eE Tryz.prog 124:=⟨_,Tryz.func124,rfl,rfl⟩
theorem aNl:eE Tryz.prog 185:=⟨_,Tryz.func185,rfl,rfl⟩
theorem aNm:eE Tryz.prog 126:=⟨_,Tryz.func126,rfl,rfl⟩
theorem aQw{W:World}(hsh:W.ShapedOpen Tryz.prog): ∃G:GS,G.g.ok W:=by
 obtain⟨m,hm⟩:=Tryz.laysM144.s1_3 W hsh;have hm:W.cell? ⟨0,0,none⟩=some (.int .i64 m):=hm;have hsz:0<W.heap.size:=World.block_lt_of_cell? W ⟨0,0,none⟩ hm;let G:Glob:=⟨1,W⟩
 refine⟨{g:=G,clone:= ?_,sort:= ?_,contains:= ?_,sortT:= ?_,compT:= ?_},by show 1≤W.heap.size;omega,fun b _=>rfl⟩
 ·exact aNw aNn Tryz.slices_Clone_int Tryz.slices_Clone_int_nil Tryz.slices_Clone_int_zero
 ·exact fun x gs r hr=>aFQ Tryz.laysSlF6_f124 cmp_raw call_cmp aIg hr
 ·exact aHl aNl fun s sub h1 w hG=>Tryz.strings_Contains s sub m w h1 ((aIZ hG (by decide)).trans hm)
 ·exact fun Γ m m1 hz hk x gs r hr=>aD0 Tryz.laysSlF6_f124 cmp_raw call_cmp aIg hz hk hr
 exact fun Γ m m1 hz hk x gs hl=>aEU cpf_raw eq_raw aNm hz hk x hl
end Go.Lift
