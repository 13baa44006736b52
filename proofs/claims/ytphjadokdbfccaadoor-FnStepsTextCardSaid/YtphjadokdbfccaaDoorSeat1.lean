/- The library's functions in this program do what the walks lean on. -/
import Derived.Test.YtphjadokdbfccaaDoorTab
import Derived.Test.YtphjadokdbfccaaDoorLiftRow
import Derived.Test.YtphjadokdbfccaaDoorCards
import Derived.Test.YtphjadokdbfccaaDoorTie
import Derived.Test.YtphjadokdbfccaaDoorShelf
set_option maxRecDepth 100000
namespace Go.Lift
open Go Go.Proofs
abbrev laidL : List (String × DataW Unit) := YtphjadokdbfccaaDoor.Rows.fnStepsTextRow.laid
def powName : String := ((laidL.getD 2 ("", .nil)).1)
theorem gPow : Tryd.prog.globalNamed powName = some 3 := by kernel_rfl
theorem gPowType : (Tryd.prog.globals[3]?).map (·.type) = some 97 := by kernel_rfl
theorem cells97 : Tryd.prog.cellsOf 97 = 20 := by kernel_rfl
theorem cells84 : Tryd.prog.cellsOf 84 = 1 := by kernel_rfl
theorem gRange : Tryd.prog.globalNamed "strconv.ErrRange" = some 2 := by kernel_rfl
theorem gRangeType : (Tryd.prog.globals[2]?).map (·.type) = some 59 := by kernel_rfl
theorem gSyntax : Tryd.prog.globalNamed "strconv.ErrSyntax" = some 1 := by kernel_rfl
theorem gSyntaxType : (Tryd.prog.globals[1]?).map (·.type) = some 59 := by kernel_rfl
theorem laid3 {W : World} (h : laidMetH Tryd.prog laidL W) : laidMet Tryd.prog laidL W := h
theorem powTab {W : World} (h : laidMet Tryd.prog laidL W) : Lib.TabIs Tryd.prog W powName .u64 Lib.pow10Tab :=
  Lib.tabIs_of_head (rest := _) gPow gPowType Tryd.underlying97 Tryd.underlying84 cells84 cells97 (laidMet.tail (laidMet.tail h))
theorem errRange {W : World} (h : laidMet Tryd.prog laidL W) : ∃ u v, W.var? Tryd.prog "strconv.ErrRange" = some #[.iface u v] :=
  laid_iface (laidMet.tail (laidMet.tail (laidMet.tail (laidMet.tail h)))) gRange gRangeType Tryd.underlying59
theorem errSyntax {W : World} (h : laidMet Tryd.prog laidL W) : ∃ u v, W.var? Tryd.prog "strconv.ErrSyntax" = some #[.iface u v] :=
  laid_iface (laidMet.tail (laidMet.tail (laidMet.tail (laidMet.tail (laidMet.tail h))))) gSyntax gSyntaxType Tryd.underlying59
theorem call16 : Callable Tryd.prog 16 := ⟨_, Tryd.func16, rfl, rfl⟩
theorem call34 : Callable Tryd.prog 34 := ⟨_, Tryd.func34, rfl, rfl⟩
theorem call37 : Callable Tryd.prog 37 := ⟨_, Tryd.func37, rfl, rfl⟩
theorem gsOf {W : World} (hsh : W.ShapedOpen Tryd.prog) (hL : laidMetH Tryd.prog laidL W) : ∃ G : GS, G.g.ok W := by
  have hL := laid3 hL
  have hp := powTab hL
  obtain ⟨ur, vr, hr⟩ := errRange hL
  obtain ⟨us, vs, hs⟩ := errSyntax hL
  obtain ⟨m, hm⟩ := Tryd.laysM146.s1_3 W hsh
  have hm : W.cell? ⟨0, 0, none⟩ = some (.int .i64 m) := hm
  have hsz : 3 < W.heap.size := var_size gPow hp
  let G : Glob := ⟨4, W⟩
  have ha := a_atoi (G := G) (te := 5) call37
    (fun s v h1 h2 w _ => Tryd.strconv_Atoi_ok s h1 v h2 w)
    (fun s h1 h2 h3 w hG => (Any.strconv_Atoi_syntax_var Tryd.laysC172 s h1 (by rcases hq : Lib.atoiAll s.data.toList with v | _ | _; exact absurd hq (h2 v); rfl; exact absurd hq h3) us vs w ((glob_var hG gSyntax (by decide)).trans hs)).mono (fun e w' h => by obtain ⟨N, h1, _, _, h4⟩ := h; exact ⟨_, _, h1, h4⟩))
    (fun s h1 h2 w hG => (Any.strconv_Atoi_range_var Tryd.laysC172 s h1 h2 ur vr w ((glob_var hG gRange (by decide)).trans hr)).mono (fun e w' h => by obtain ⟨N, h1, _, _, h4⟩ := h; exact ⟨_, _, h1, h4⟩))
  refine ⟨{ g := G, split := ?_, itoa := ?_, atoiT := ha.1, atoiF := ha.2 }, by show 4 ≤ W.heap.size; omega, fun b _ => rfl⟩
  · exact a_split (ts := 9) call16 (fun s sep h1 h2 w hG => Tryd.strings_Split s sep m w h1 ((glob_cell hG (by decide)).trans hm) h2)
  · exact a_itoa call34 (fun n h0 h1 w hG => Any.strconv_Itoa Tryd.laysM171 n h0 h1 w ((glob_var hG gPow (by decide)).trans hp))
end Go.Lift
