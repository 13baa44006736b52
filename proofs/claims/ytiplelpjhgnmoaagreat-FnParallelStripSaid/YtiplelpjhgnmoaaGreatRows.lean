/-
  No cell of these rows narrows 'for every input' (looked for: loops, veiled, ifaces, maps, wideKeys, modest, calm, conditions, laid).
  DERIVED. THE GIVEN ROWS OF THIS SEAT. 4 by the template 'for every input the law returns true; each argument reads behind the call as it read before'; 0 by the template 'total and deterministic' (their statements: YtiplelpjhgnmoaaGreatTotals.lean).
  GIVEN WITH THE SEED: the statements are not yours to turn. If you find one false, say at which input.
  Laid BY PROGRAM, IN A SANDBOX (cutbox-rows.mjs): the forced cells as the released guide's own fill.sh prints them over the translation 8b61091fb42b47de… (all of the seat's roots in one cut). By AI agents, Wed Nov 11 2026. No macro, syntax, notation, axiom, sorry.
-/
import Derived.Test.YtiplelpjhgnmoaaGreatChecked
import GoSem.Claim
import GoSem.ClaimJoined
import GoSem.ClaimMapViews
import Derived.JoinedTies
import Derived.KernelRfl
namespace Go.Proofs.YtiplelpjhgnmoaaGreat
/- THE CELL 'sum', in the pinned program and in every row, IS THE sha256 OF THE DUMP (.gsa) THAT YtiplelpjhgnmoaaGreatProg.lean LOADS. Nothing in Lean hashes anything: it is a label: what it is worth is what the hold of that sum in a sandbox is worth. -/
noncomputable def Tryz.pinned : Pinned := { name := "ytiplelpjhgnmoaagreat", sum := "8b61091fb42b47debc206ed5733064d7456a25dc47405970ed03d27094548169", checked := Tryz.checked }
namespace Rows
def none {H : Type} : Left H := { results := [], args := [] }

/-- 'laws.FnParallelShift': WHATEVER THE INPUT: true; the input reads as it did. -/
def fnParallelShiftSpec : ChangeSpec := { name := "fnParallelShift", fn := fun _ => fun
  | [d] => { results := [.lit (.bool true)], args := [d] }
  | _ => none }
def fnParallelShiftRow : OpenClaim := { program := "ytiplelpjhgnmoaagreat", sum := "8b61091fb42b47debc206ed5733064d7456a25dc47405970ed03d27094548169", func := "loop.example/loopnests/laws.FnParallelShift", spec := "fnParallelShift", inPlace := ["internal/bytealg.IndexByteString", "internal/bytealg.IndexString"], unfollowed := true, recurses := true, named := ["internal/bytealg.MaxLen"], apart := false }
def FnParallelShiftSaid : Prop := fnParallelShiftRow.holds Tryz.pinned (OpenSpec.ofChange fnParallelShiftSpec)

/-- ITS FALSE NEIGHBOUR: 'it returns false'. Refute it at one input. -/
def fnParallelShiftWrong : ChangeSpec := { name := "fnParallelShift", fn := fun _ => fun
  | [d] => { results := [.lit (.bool false)], args := [d] }
  | _ => none }
def FnParallelShiftWrongFalsely : Prop := fnParallelShiftRow.holds Tryz.pinned (OpenSpec.ofChange fnParallelShiftWrong)

/-- 'laws.FnParallelStrip': WHATEVER THE INPUT: true; the input reads as it did. -/
def fnParallelStripSpec : ChangeSpec := { name := "fnParallelStrip", fn := fun _ => fun
  | [d1, d2] => { results := [.lit (.bool true)], args := [d1, d2] }
  | _ => none }
def fnParallelStripRow : OpenClaim := { program := "ytiplelpjhgnmoaagreat", sum := "8b61091fb42b47debc206ed5733064d7456a25dc47405970ed03d27094548169", func := "loop.example/loopnests/laws.FnParallelStrip", spec := "fnParallelStrip", inPlace := ["internal/bytealg.IndexByteString", "internal/bytealg.IndexString", "slices.overlaps[loop.example/loopnests/impl.Loop]"], unfollowed := true, recurses := true, named := ["internal/bytealg.MaxLen"], apart := false }
def FnParallelStripSaid : Prop := fnParallelStripRow.holds Tryz.pinned (OpenSpec.ofChange fnParallelStripSpec)

/-- ITS FALSE NEIGHBOUR: 'it returns false'. Refute it at one input. -/
def fnParallelStripWrong : ChangeSpec := { name := "fnParallelStrip", fn := fun _ => fun
  | [d1, d2] => { results := [.lit (.bool false)], args := [d1, d2] }
  | _ => none }
def FnParallelStripWrongFalsely : Prop := fnParallelStripRow.holds Tryz.pinned (OpenSpec.ofChange fnParallelStripWrong)

/-- 'laws.FnProgramMisses': WHATEVER THE INPUT: true; the input reads as it did. -/
def fnProgramMissesSpec : ChangeSpec := { name := "fnProgramMisses", fn := fun _ => fun
  | [d1, d2] => { results := [.lit (.bool true)], args := [d1, d2] }
  | _ => none }
def fnProgramMissesRow : OpenClaim := { program := "ytiplelpjhgnmoaagreat", sum := "8b61091fb42b47debc206ed5733064d7456a25dc47405970ed03d27094548169", func := "loop.example/loopnests/laws.FnProgramMisses", spec := "fnProgramMisses", inPlace := ["internal/bytealg.IndexByteString", "internal/bytealg.IndexString", "slices.overlaps[loop.example/loopnests/impl.Loop]"], unfollowed := true, recurses := true, named := ["internal/bytealg.MaxLen"], apart := false }
def FnProgramMissesSaid : Prop := fnProgramMissesRow.holds Tryz.pinned (OpenSpec.ofChange fnProgramMissesSpec)

/-- ITS FALSE NEIGHBOUR: 'it returns false'. Refute it at one input. -/
def fnProgramMissesWrong : ChangeSpec := { name := "fnProgramMisses", fn := fun _ => fun
  | [d1, d2] => { results := [.lit (.bool false)], args := [d1, d2] }
  | _ => none }
def FnProgramMissesWrongFalsely : Prop := fnProgramMissesRow.holds Tryz.pinned (OpenSpec.ofChange fnProgramMissesWrong)

/-- 'laws.FnMissesZero': WHATEVER THE INPUT: true; the input reads as it did. -/
def fnMissesZeroSpec : ChangeSpec := { name := "fnMissesZero", fn := fun _ => fun
  | [d] => { results := [.lit (.bool true)], args := [d] }
  | _ => none }
def fnMissesZeroRow : OpenClaim := { program := "ytiplelpjhgnmoaagreat", sum := "8b61091fb42b47debc206ed5733064d7456a25dc47405970ed03d27094548169", func := "loop.example/loopnests/laws.FnMissesZero", spec := "fnMissesZero", inPlace := ["internal/bytealg.IndexByteString", "internal/bytealg.IndexString"], unfollowed := true, recurses := true, named := ["internal/bytealg.MaxLen"], apart := false }
def FnMissesZeroSaid : Prop := fnMissesZeroRow.holds Tryz.pinned (OpenSpec.ofChange fnMissesZeroSpec)

/-- ITS FALSE NEIGHBOUR: 'it returns false'. Refute it at one input. -/
def fnMissesZeroWrong : ChangeSpec := { name := "fnMissesZero", fn := fun _ => fun
  | [d] => { results := [.lit (.bool false)], args := [d] }
  | _ => none }
def FnMissesZeroWrongFalsely : Prop := fnMissesZeroRow.holds Tryz.pinned (OpenSpec.ofChange fnMissesZeroWrong)

/- THE SECOND FORM. 'bulk': how many values and letters a reading holds, each counted each time it is reached (what is shared counts as often as it is met; a slice's spare places count too). A statement '..UptoSaid' is the law's where the arguments, and the package variables that the reading takes, are together of bulk at most 1048576: NARROWER than '..Said'. Prove '..Said' where nothing that the law and all that it calls make is longer than what came in: it says more and counts as full. Else prove '..UptoSaid'. A law counts once. -/
mutual
def uptoBulk {H : Type} : DataW H → Nat
  | .lit (.string bytes) => bytes.length + 1
  | .lit _ => 1
  | .nil => 1
  | .ptr d => uptoBulk d + 1
  | .slice elems spare => uptoBulkAll elems + uptoBulkAll spare + 1
  | .agg parts => uptoBulkAll parts + 1
  | .iface _ d => uptoBulk d + 1
  | .map entries => uptoBulkEntries entries + 1
  | .held _ => 1
def uptoBulkAll {H : Type} : List (DataW H) → Nat
  | [] => 0
  | d :: r => uptoBulk d + uptoBulkAll r
def uptoBulkEntries {H : Type} : List (Lit × DataW H) → Nat
  | [] => 0
  | x :: r => uptoBulkEntry x + uptoBulkEntries r
def uptoBulkEntry {H : Type} : Lit × DataW H → Nat
  | (.string bytes, d) => bytes.length + uptoBulk d + 1
  | (_, d) => uptoBulk d + 1
 end
def uptoSmall : (H : Type) → List (DataW H) → Bool := fun _ ds => decide (uptoBulkAll ds ≤ 1048576)
def OpenSpec.upto (s : _root_.Go.ChangeSpec) : _root_.Go.OpenSpec := { _root_.Go.OpenSpec.ofChange s with cond := some uptoSmall }

/-- 'laws.FnParallelShift', WHERE WHAT IT READS IS OF BULK AT MOST 1048576: true; the input reads as it did. -/
def fnParallelShiftUptoRow : OpenClaim := { program := "ytiplelpjhgnmoaagreat", sum := "8b61091fb42b47debc206ed5733064d7456a25dc47405970ed03d27094548169", func := "loop.example/loopnests/laws.FnParallelShift", spec := "fnParallelShift", inPlace := ["internal/bytealg.IndexByteString", "internal/bytealg.IndexString"], unfollowed := true, recurses := true, named := ["internal/bytealg.MaxLen"], apart := false, narrowed := true }
def FnParallelShiftUptoSaid : Prop := fnParallelShiftUptoRow.holds Tryz.pinned (OpenSpec.upto fnParallelShiftSpec)

/-- 'laws.FnParallelStrip', WHERE WHAT IT READS IS OF BULK AT MOST 1048576: true; the input reads as it did. -/
def fnParallelStripUptoRow : OpenClaim := { program := "ytiplelpjhgnmoaagreat", sum := "8b61091fb42b47debc206ed5733064d7456a25dc47405970ed03d27094548169", func := "loop.example/loopnests/laws.FnParallelStrip", spec := "fnParallelStrip", inPlace := ["internal/bytealg.IndexByteString", "internal/bytealg.IndexString", "slices.overlaps[loop.example/loopnests/impl.Loop]"], unfollowed := true, recurses := true, named := ["internal/bytealg.MaxLen"], apart := false, narrowed := true }
def FnParallelStripUptoSaid : Prop := fnParallelStripUptoRow.holds Tryz.pinned (OpenSpec.upto fnParallelStripSpec)

/-- 'laws.FnProgramMisses', WHERE WHAT IT READS IS OF BULK AT MOST 1048576: true; the input reads as it did. -/
def fnProgramMissesUptoRow : OpenClaim := { program := "ytiplelpjhgnmoaagreat", sum := "8b61091fb42b47debc206ed5733064d7456a25dc47405970ed03d27094548169", func := "loop.example/loopnests/laws.FnProgramMisses", spec := "fnProgramMisses", inPlace := ["internal/bytealg.IndexByteString", "internal/bytealg.IndexString", "slices.overlaps[loop.example/loopnests/impl.Loop]"], unfollowed := true, recurses := true, named := ["internal/bytealg.MaxLen"], apart := false, narrowed := true }
def FnProgramMissesUptoSaid : Prop := fnProgramMissesUptoRow.holds Tryz.pinned (OpenSpec.upto fnProgramMissesSpec)

/-- 'laws.FnMissesZero', WHERE WHAT IT READS IS OF BULK AT MOST 1048576: true; the input reads as it did. -/
def fnMissesZeroUptoRow : OpenClaim := { program := "ytiplelpjhgnmoaagreat", sum := "8b61091fb42b47debc206ed5733064d7456a25dc47405970ed03d27094548169", func := "loop.example/loopnests/laws.FnMissesZero", spec := "fnMissesZero", inPlace := ["internal/bytealg.IndexByteString", "internal/bytealg.IndexString"], unfollowed := true, recurses := true, named := ["internal/bytealg.MaxLen"], apart := false, narrowed := true }
def FnMissesZeroUptoSaid : Prop := fnMissesZeroUptoRow.holds Tryz.pinned (OpenSpec.upto fnMissesZeroSpec)

end Rows
end Go.Proofs.YtiplelpjhgnmoaaGreat
