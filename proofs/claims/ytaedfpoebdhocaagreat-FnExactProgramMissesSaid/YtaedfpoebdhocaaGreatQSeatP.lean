/- The library's functions in this program do what the walks lean on. -/
import Derived.Test.YtaedfpoebdhocaaGreatQTab
import Derived.Test.YtaedfpoebdhocaaGreatQRowB
import Derived.Test.YtaedfpoebdhocaaGreatQShelfP
import Derived.Test.YtaedfpoebdhocaaGreatQLruR
set_option maxRecDepth 100000
namespace Go.Lift
open Go Go.Proofs
theorem aGF:eK Tryz.prog 41:=⟨_,Tryz.func41,rfl,rfl⟩
theorem aGE:eK Tryz.prog 52:=⟨_,Tryz.func52,rfl,rfl⟩
theorem aFt:eK Tryz.prog 162:=⟨_,Tryz.func162,rfl,rfl⟩
theorem aH0{W:World}(hsh:W.ShapedOpen Tryz.prog): ∃G:GS,G.g.ok W:=by
 obtain⟨m,hm⟩:=Tryz.laysM144.s1_3 W hsh;have hm:W.cell? ⟨0,0,none⟩=some (.int .i64 m):=hm;have hsz:0<W.heap.size:=World.block_lt_of_cell? W ⟨0,0,none⟩ hm;let G:Glob:=⟨1,W⟩
 refine⟨{g:=G,lru:= ?_,clone:= ?_,contains:= ?_},by show 1≤W.heap.size;omega,fun b _=>rfl⟩
 ·exact fun l size r h=>aFc aGF (lru_run fun H k hk hb=>held_delete' Tryz.laysNm223 H k hk hb) l size h
 ·exact aFw aGE Tryz.slices_Clone_int Tryz.slices_Clone_int_nil Tryz.slices_Clone_int_zero
 exact aAv aFt fun s sub h1 w hG=>Tryz.strings_Contains s sub m w h1 ((aBK hG (by decide)).trans hm)
end Go.Lift
