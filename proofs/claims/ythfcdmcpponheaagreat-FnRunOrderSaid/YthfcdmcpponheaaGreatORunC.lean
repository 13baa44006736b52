/- The cells that a program writes, and those that it takes in. -/
import Derived.Test.YthfcdmcpponheaaGreatORunB
set_option maxRecDepth 100000
set_option linter.unusedVariables false
namespace Go.Lift
open Go
theorem i_instances2 {n : Nat} (hn : 7000 ≤ n) {p : Prog} (hp : SmP p) : ∃ L, i_Program_instances n p = some (L, progV p) ∧ (progV p = true → L = insts p.parts) := by
 rw [i_instances_eq hn hp]
 cases ha : allOk p with
 | false =>
  refine ⟨[], ?_, fun h => ?_⟩
  ·rw [if_neg (by simp), show progV p = false by unfold progV; rw [ha]; rfl]
  ·unfold progV at h; rw [ha] at h; cases h
 | true =>
  refine ⟨insts p.parts, ?_, fun _ => rfl⟩
  rw [if_pos rfl, show progV p = decide ((insts p.parts).length ≤ 120) by
   unfold progV; rw [ha, Bool.true_and]; exact decide_eq_decide.2 (by have := insts_len' p.parts; omega)]
theorem mk_ok {α : Type} {n : Int} (h : 0 ≤ n ∧ n ≤ 1000000000) (x : α) : mk n x = some (List.replicate n.toNat x) := by unfold mk; rw [if_pos h]
end Go.Lift
