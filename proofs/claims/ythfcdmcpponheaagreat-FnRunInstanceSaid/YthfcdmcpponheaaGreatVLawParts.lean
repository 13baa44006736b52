/- Programs compose. -/
import Derived.Test.YthfcdmcpponheaaGreatVDraw1
set_option maxRecDepth 100000
set_option linter.unusedVariables false
namespace Go.Lift
open Go
theorem lnInts_self {n : Nat} (hn : 5000 ≤ n) {a : List Int} (h : a.length ≤ 1000) : w_lnInts n a a = some true := by
 refine Ev.eq ?_
 unfold w_lnInts
 refine Ev.ndec (fun h => absurd rfl h) (fun _ => ?_)
 refine Ev.loop (fun x : Int => 0 ≤ x ∧ x ≤ a.length) (fun x => (a.length - x).toNat) ?_ n 0 ⟨by omega, by omega⟩ (by omega)
 rintro again x ⟨h0, h1⟩ hr
 refine Ev.dec (fun hlt => ?_) (fun _ => Ev.some rfl)
 obtain ⟨y, hy, _⟩ := ix_lt h0 hlt
 refine Ev.bindE hy (Ev.bindE hy (Ev.ndec (fun h => absurd rfl h) (fun _ => ?_)))
 rw [wr_in (by omega)]
 exact hr _ ⟨by omega, by omega⟩ (by omega)
theorem mem_len {p : Prog} {m : List Int} (h : progV p = true) (hm : MemOk p.arrays m) : m.length ≤ 1000 := by
 obtain ⟨hl, hd, _⟩ := prog_d h
 have := total_b hd
 have := hm.1
 omega
end Go.Lift
