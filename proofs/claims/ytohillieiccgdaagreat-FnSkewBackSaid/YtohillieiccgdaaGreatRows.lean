/-
  No cell of these rows narrows 'for every input' (looked for: loops, veiled, ifaces, maps, wideKeys, modest, calm, conditions, laid).
  DERIVED. THE GIVEN ROWS OF THIS SEAT. 11 by the template 'for every input the law returns true; each argument reads behind the call as it read before'; 0 by the template 'total and deterministic' (their statements: YtohillieiccgdaaGreatTotals.lean).
  GIVEN WITH THE SEED: the statements are not yours to turn. If you find one false, say at which input.
  Laid BY PROGRAM, IN A SANDBOX (cutbox-rows.mjs): the forced cells as the released guide's own fill.sh prints them over the translation 9ce8fb0fa14f4457… (all of the seat's roots in one cut). By AI agents, Wed Nov 11 2026. No macro, syntax, notation, axiom, sorry.
-/
import Derived.Test.YtohillieiccgdaaGreatChecked
import GoSem.Claim
import GoSem.ClaimJoined
import GoSem.ClaimMapViews
import Derived.JoinedTies
import Derived.KernelRfl
namespace Go.Proofs.YtohillieiccgdaaGreat
/- THE CELL 'sum', in the pinned program and in every row, IS THE sha256 OF THE DUMP (.gsa) THAT YtohillieiccgdaaGreatProg.lean LOADS. Nothing in Lean hashes anything: it is a label: what it is worth is what the hold of that sum in a sandbox is worth. -/
noncomputable def Tryz.pinned : Pinned := { name := "ytohillieiccgdaagreat", sum := "9ce8fb0fa14f4457287f7fa6086e2268610dc4f195b87607e96cf1d98eb811c0", checked := Tryz.checked }
namespace Rows
def none {H : Type} : Left H := { results := [], args := [] }

/-- 'laws.FnDeadInstances': WHATEVER THE INPUT: true; the input reads as it did. -/
def fnDeadInstancesSpec : ChangeSpec := { name := "fnDeadInstances", fn := fun _ => fun
  | [d1, d2] => { results := [.lit (.bool true)], args := [d1, d2] }
  | _ => none }
def fnDeadInstancesRow : OpenClaim := { program := "ytohillieiccgdaagreat", sum := "9ce8fb0fa14f4457287f7fa6086e2268610dc4f195b87607e96cf1d98eb811c0", func := "loop.example/loopnests/laws.FnDeadInstances", spec := "fnDeadInstances", inPlace := ["internal/bytealg.IndexByteString", "internal/bytealg.IndexString"], unfollowed := true, recurses := true, named := ["internal/bytealg.MaxLen"], apart := false }
def FnDeadInstancesSaid : Prop := fnDeadInstancesRow.holds Tryz.pinned (OpenSpec.ofChange fnDeadInstancesSpec)

/-- ITS FALSE NEIGHBOUR: 'it returns false'. Refute it at one input. -/
def fnDeadInstancesWrong : ChangeSpec := { name := "fnDeadInstances", fn := fun _ => fun
  | [d1, d2] => { results := [.lit (.bool false)], args := [d1, d2] }
  | _ => none }
def FnDeadInstancesWrongFalsely : Prop := fnDeadInstancesRow.holds Tryz.pinned (OpenSpec.ofChange fnDeadInstancesWrong)

/-- 'laws.FnDepSwap': WHATEVER THE INPUT: true; the input reads as it did. -/
def fnDepSwapSpec : ChangeSpec := { name := "fnDepSwap", fn := fun _ => fun
  | [d1, d2] => { results := [.lit (.bool true)], args := [d1, d2] }
  | _ => none }
def fnDepSwapRow : OpenClaim := { program := "ytohillieiccgdaagreat", sum := "9ce8fb0fa14f4457287f7fa6086e2268610dc4f195b87607e96cf1d98eb811c0", func := "loop.example/loopnests/laws.FnDepSwap", spec := "fnDepSwap", inPlace := ["internal/bytealg.IndexByteString", "internal/bytealg.IndexString"], unfollowed := true, recurses := true, named := ["internal/bytealg.MaxLen"], apart := false }
def FnDepSwapSaid : Prop := fnDepSwapRow.holds Tryz.pinned (OpenSpec.ofChange fnDepSwapSpec)

/-- ITS FALSE NEIGHBOUR: 'it returns false'. Refute it at one input. -/
def fnDepSwapWrong : ChangeSpec := { name := "fnDepSwap", fn := fun _ => fun
  | [d1, d2] => { results := [.lit (.bool false)], args := [d1, d2] }
  | _ => none }
def FnDepSwapWrongFalsely : Prop := fnDepSwapRow.holds Tryz.pinned (OpenSpec.ofChange fnDepSwapWrong)

/-- 'laws.FnGreedySame': WHATEVER THE INPUT: true; the input reads as it did. -/
def fnGreedySameSpec : ChangeSpec := { name := "fnGreedySame", fn := fun _ => fun
  | [d1, d2] => { results := [.lit (.bool true)], args := [d1, d2] }
  | _ => none }
def fnGreedySameRow : OpenClaim := { program := "ytohillieiccgdaagreat", sum := "9ce8fb0fa14f4457287f7fa6086e2268610dc4f195b87607e96cf1d98eb811c0", func := "loop.example/loopnests/laws.FnGreedySame", spec := "fnGreedySame", inPlace := ["internal/bytealg.IndexByteString", "internal/bytealg.IndexString"], unfollowed := true, recurses := true, named := ["internal/bytealg.MaxLen"], apart := false }
def FnGreedySameSaid : Prop := fnGreedySameRow.holds Tryz.pinned (OpenSpec.ofChange fnGreedySameSpec)

/-- ITS FALSE NEIGHBOUR: 'it returns false'. Refute it at one input. -/
def fnGreedySameWrong : ChangeSpec := { name := "fnGreedySame", fn := fun _ => fun
  | [d1, d2] => { results := [.lit (.bool false)], args := [d1, d2] }
  | _ => none }
def FnGreedySameWrongFalsely : Prop := fnGreedySameRow.holds Tryz.pinned (OpenSpec.ofChange fnGreedySameWrong)

/-- 'laws.FnLiveInstances': WHATEVER THE INPUT: true; the input reads as it did. -/
def fnLiveInstancesSpec : ChangeSpec := { name := "fnLiveInstances", fn := fun _ => fun
  | [d] => { results := [.lit (.bool true)], args := [d] }
  | _ => none }
def fnLiveInstancesRow : OpenClaim := { program := "ytohillieiccgdaagreat", sum := "9ce8fb0fa14f4457287f7fa6086e2268610dc4f195b87607e96cf1d98eb811c0", func := "loop.example/loopnests/laws.FnLiveInstances", spec := "fnLiveInstances", inPlace := ["internal/bytealg.IndexByteString", "internal/bytealg.IndexString"], unfollowed := true, recurses := true, named := ["internal/bytealg.MaxLen"], apart := false }
def FnLiveInstancesSaid : Prop := fnLiveInstancesRow.holds Tryz.pinned (OpenSpec.ofChange fnLiveInstancesSpec)

/-- ITS FALSE NEIGHBOUR: 'it returns false'. Refute it at one input. -/
def fnLiveInstancesWrong : ChangeSpec := { name := "fnLiveInstances", fn := fun _ => fun
  | [d] => { results := [.lit (.bool false)], args := [d] }
  | _ => none }
def FnLiveInstancesWrongFalsely : Prop := fnLiveInstancesRow.holds Tryz.pinned (OpenSpec.ofChange fnLiveInstancesWrong)

/-- 'laws.FnOrderLegal': WHATEVER THE INPUT: true; the input reads as it did. -/
def fnOrderLegalSpec : ChangeSpec := { name := "fnOrderLegal", fn := fun _ => fun
  | [d1, d2] => { results := [.lit (.bool true)], args := [d1, d2] }
  | _ => none }
def fnOrderLegalRow : OpenClaim := { program := "ytohillieiccgdaagreat", sum := "9ce8fb0fa14f4457287f7fa6086e2268610dc4f195b87607e96cf1d98eb811c0", func := "loop.example/loopnests/laws.FnOrderLegal", spec := "fnOrderLegal", inPlace := ["internal/bytealg.IndexByteString", "internal/bytealg.IndexString"], unfollowed := true, recurses := true, named := ["internal/bytealg.MaxLen"], apart := false }
def FnOrderLegalSaid : Prop := fnOrderLegalRow.holds Tryz.pinned (OpenSpec.ofChange fnOrderLegalSpec)

/-- ITS FALSE NEIGHBOUR: 'it returns false'. Refute it at one input. -/
def fnOrderLegalWrong : ChangeSpec := { name := "fnOrderLegal", fn := fun _ => fun
  | [d1, d2] => { results := [.lit (.bool false)], args := [d1, d2] }
  | _ => none }
def FnOrderLegalWrongFalsely : Prop := fnOrderLegalRow.holds Tryz.pinned (OpenSpec.ofChange fnOrderLegalWrong)

/-- 'laws.FnReductionAny': WHATEVER THE INPUT: true; the input reads as it did. -/
def fnReductionAnySpec : ChangeSpec := { name := "fnReductionAny", fn := fun _ => fun
  | [d] => { results := [.lit (.bool true)], args := [d] }
  | _ => none }
def fnReductionAnyRow : OpenClaim := { program := "ytohillieiccgdaagreat", sum := "9ce8fb0fa14f4457287f7fa6086e2268610dc4f195b87607e96cf1d98eb811c0", func := "loop.example/loopnests/laws.FnReductionAny", spec := "fnReductionAny", inPlace := ["internal/bytealg.IndexByteString", "internal/bytealg.IndexString"], unfollowed := true, recurses := true, named := ["internal/bytealg.MaxLen"], apart := false }
def FnReductionAnySaid : Prop := fnReductionAnyRow.holds Tryz.pinned (OpenSpec.ofChange fnReductionAnySpec)

/-- ITS FALSE NEIGHBOUR: 'it returns false'. Refute it at one input. -/
def fnReductionAnyWrong : ChangeSpec := { name := "fnReductionAny", fn := fun _ => fun
  | [d] => { results := [.lit (.bool false)], args := [d] }
  | _ => none }
def FnReductionAnyWrongFalsely : Prop := fnReductionAnyRow.holds Tryz.pinned (OpenSpec.ofChange fnReductionAnyWrong)

/-- 'laws.FnReducedLegal': WHATEVER THE INPUT: true; the input reads as it did. -/
def fnReducedLegalSpec : ChangeSpec := { name := "fnReducedLegal", fn := fun _ => fun
  | [d1, d2] => { results := [.lit (.bool true)], args := [d1, d2] }
  | _ => none }
def fnReducedLegalRow : OpenClaim := { program := "ytohillieiccgdaagreat", sum := "9ce8fb0fa14f4457287f7fa6086e2268610dc4f195b87607e96cf1d98eb811c0", func := "loop.example/loopnests/laws.FnReducedLegal", spec := "fnReducedLegal", inPlace := ["internal/bytealg.IndexByteString", "internal/bytealg.IndexString"], unfollowed := true, recurses := true, named := ["internal/bytealg.MaxLen"], apart := false }
def FnReducedLegalSaid : Prop := fnReducedLegalRow.holds Tryz.pinned (OpenSpec.ofChange fnReducedLegalSpec)

/-- ITS FALSE NEIGHBOUR: 'it returns false'. Refute it at one input. -/
def fnReducedLegalWrong : ChangeSpec := { name := "fnReducedLegal", fn := fun _ => fun
  | [d1, d2] => { results := [.lit (.bool false)], args := [d1, d2] }
  | _ => none }
def FnReducedLegalWrongFalsely : Prop := fnReducedLegalRow.holds Tryz.pinned (OpenSpec.ofChange fnReducedLegalWrong)

/-- 'laws.FnMissesZero': WHATEVER THE INPUT: true; the input reads as it did. -/
def fnMissesZeroSpec : ChangeSpec := { name := "fnMissesZero", fn := fun _ => fun
  | [d] => { results := [.lit (.bool true)], args := [d] }
  | _ => none }
def fnMissesZeroRow : OpenClaim := { program := "ytohillieiccgdaagreat", sum := "9ce8fb0fa14f4457287f7fa6086e2268610dc4f195b87607e96cf1d98eb811c0", func := "loop.example/loopnests/laws.FnMissesZero", spec := "fnMissesZero", inPlace := ["internal/bytealg.IndexByteString", "internal/bytealg.IndexString"], unfollowed := true, recurses := true, named := ["internal/bytealg.MaxLen"], apart := false }
def FnMissesZeroSaid : Prop := fnMissesZeroRow.holds Tryz.pinned (OpenSpec.ofChange fnMissesZeroSpec)

/-- ITS FALSE NEIGHBOUR: 'it returns false'. Refute it at one input. -/
def fnMissesZeroWrong : ChangeSpec := { name := "fnMissesZero", fn := fun _ => fun
  | [d] => { results := [.lit (.bool false)], args := [d] }
  | _ => none }
def FnMissesZeroWrongFalsely : Prop := fnMissesZeroRow.holds Tryz.pinned (OpenSpec.ofChange fnMissesZeroWrong)

/-- 'laws.FnFoldProgram': WHATEVER THE INPUT: true; the input reads as it did. -/
def fnFoldProgramSpec : ChangeSpec := { name := "fnFoldProgram", fn := fun _ => fun
  | [d1, d2] => { results := [.lit (.bool true)], args := [d1, d2] }
  | _ => none }
def fnFoldProgramRow : OpenClaim := { program := "ytohillieiccgdaagreat", sum := "9ce8fb0fa14f4457287f7fa6086e2268610dc4f195b87607e96cf1d98eb811c0", func := "loop.example/loopnests/laws.FnFoldProgram", spec := "fnFoldProgram", inPlace := ["internal/bytealg.IndexByteString", "internal/bytealg.IndexString"], unfollowed := true, recurses := true, named := ["internal/bytealg.MaxLen"], apart := false }
def FnFoldProgramSaid : Prop := fnFoldProgramRow.holds Tryz.pinned (OpenSpec.ofChange fnFoldProgramSpec)

/-- ITS FALSE NEIGHBOUR: 'it returns false'. Refute it at one input. -/
def fnFoldProgramWrong : ChangeSpec := { name := "fnFoldProgram", fn := fun _ => fun
  | [d1, d2] => { results := [.lit (.bool false)], args := [d1, d2] }
  | _ => none }
def FnFoldProgramWrongFalsely : Prop := fnFoldProgramRow.holds Tryz.pinned (OpenSpec.ofChange fnFoldProgramWrong)

/-- 'laws.FnShiftBack': WHATEVER THE INPUT: true; the input reads as it did. -/
def fnShiftBackSpec : ChangeSpec := { name := "fnShiftBack", fn := fun _ => fun
  | [d] => { results := [.lit (.bool true)], args := [d] }
  | _ => none }
def fnShiftBackRow : OpenClaim := { program := "ytohillieiccgdaagreat", sum := "9ce8fb0fa14f4457287f7fa6086e2268610dc4f195b87607e96cf1d98eb811c0", func := "loop.example/loopnests/laws.FnShiftBack", spec := "fnShiftBack", inPlace := ["internal/bytealg.IndexByteString", "internal/bytealg.IndexString"], unfollowed := true, recurses := true, named := ["internal/bytealg.MaxLen"], apart := false }
def FnShiftBackSaid : Prop := fnShiftBackRow.holds Tryz.pinned (OpenSpec.ofChange fnShiftBackSpec)

/-- ITS FALSE NEIGHBOUR: 'it returns false'. Refute it at one input. -/
def fnShiftBackWrong : ChangeSpec := { name := "fnShiftBack", fn := fun _ => fun
  | [d] => { results := [.lit (.bool false)], args := [d] }
  | _ => none }
def FnShiftBackWrongFalsely : Prop := fnShiftBackRow.holds Tryz.pinned (OpenSpec.ofChange fnShiftBackWrong)

/-- 'laws.FnSkewBack': WHATEVER THE INPUT: true; the input reads as it did. -/
def fnSkewBackSpec : ChangeSpec := { name := "fnSkewBack", fn := fun _ => fun
  | [d] => { results := [.lit (.bool true)], args := [d] }
  | _ => none }
def fnSkewBackRow : OpenClaim := { program := "ytohillieiccgdaagreat", sum := "9ce8fb0fa14f4457287f7fa6086e2268610dc4f195b87607e96cf1d98eb811c0", func := "loop.example/loopnests/laws.FnSkewBack", spec := "fnSkewBack", inPlace := ["internal/bytealg.IndexByteString", "internal/bytealg.IndexString"], unfollowed := true, recurses := true, named := ["internal/bytealg.MaxLen"], apart := false }
def FnSkewBackSaid : Prop := fnSkewBackRow.holds Tryz.pinned (OpenSpec.ofChange fnSkewBackSpec)

/-- ITS FALSE NEIGHBOUR: 'it returns false'. Refute it at one input. -/
def fnSkewBackWrong : ChangeSpec := { name := "fnSkewBack", fn := fun _ => fun
  | [d] => { results := [.lit (.bool false)], args := [d] }
  | _ => none }
def FnSkewBackWrongFalsely : Prop := fnSkewBackRow.holds Tryz.pinned (OpenSpec.ofChange fnSkewBackWrong)

/- THE SECOND FORM. 'bulk': how many values and letters a reading holds, each counted each time it is reached (what is shared counts as often as it is met; a slice's spare places count too). A statement '..UptoSaid' is the law's where the arguments, and the package variables that the reading takes, are together of bulk at most 1048576: NARROWER than '..Said'. Prove '..Said' where nothing that the law and all that it calls make is longer than what came in: it says more and counts as full. Else prove '..UptoSaid'. A law counts once. -/
mutual
def uptoBulk {H : Type} : DataW H → Nat
  | .lit (.string bytes) => bytes.length + 1
  | .lit _ => 1
  | .nil => 1
  | .ptr d => uptoBulk d + 1
  | .slice elems spare => uptoBulkAll elems + uptoBulkAll spare + 1
  | .agg parts => uptoBulkAll parts + 1
  | .iface _ d => uptoBulk d + 1
  | .map entries => uptoBulkEntries entries + 1
  | .held _ => 1
def uptoBulkAll {H : Type} : List (DataW H) → Nat
  | [] => 0
  | d :: r => uptoBulk d + uptoBulkAll r
def uptoBulkEntries {H : Type} : List (Lit × DataW H) → Nat
  | [] => 0
  | x :: r => uptoBulkEntry x + uptoBulkEntries r
def uptoBulkEntry {H : Type} : Lit × DataW H → Nat
  | (.string bytes, d) => bytes.length + uptoBulk d + 1
  | (_, d) => uptoBulk d + 1
 end
def uptoSmall : (H : Type) → List (DataW H) → Bool := fun _ ds => decide (uptoBulkAll ds ≤ 1048576)
def OpenSpec.upto (s : _root_.Go.ChangeSpec) : _root_.Go.OpenSpec := { _root_.Go.OpenSpec.ofChange s with cond := some uptoSmall }

/-- 'laws.FnDeadInstances', WHERE WHAT IT READS IS OF BULK AT MOST 1048576: true; the input reads as it did. -/
def fnDeadInstancesUptoRow : OpenClaim := { program := "ytohillieiccgdaagreat", sum := "9ce8fb0fa14f4457287f7fa6086e2268610dc4f195b87607e96cf1d98eb811c0", func := "loop.example/loopnests/laws.FnDeadInstances", spec := "fnDeadInstances", inPlace := ["internal/bytealg.IndexByteString", "internal/bytealg.IndexString"], unfollowed := true, recurses := true, named := ["internal/bytealg.MaxLen"], apart := false, narrowed := true }
def FnDeadInstancesUptoSaid : Prop := fnDeadInstancesUptoRow.holds Tryz.pinned (OpenSpec.upto fnDeadInstancesSpec)

/-- 'laws.FnDepSwap', WHERE WHAT IT READS IS OF BULK AT MOST 1048576: true; the input reads as it did. -/
def fnDepSwapUptoRow : OpenClaim := { program := "ytohillieiccgdaagreat", sum := "9ce8fb0fa14f4457287f7fa6086e2268610dc4f195b87607e96cf1d98eb811c0", func := "loop.example/loopnests/laws.FnDepSwap", spec := "fnDepSwap", inPlace := ["internal/bytealg.IndexByteString", "internal/bytealg.IndexString"], unfollowed := true, recurses := true, named := ["internal/bytealg.MaxLen"], apart := false, narrowed := true }
def FnDepSwapUptoSaid : Prop := fnDepSwapUptoRow.holds Tryz.pinned (OpenSpec.upto fnDepSwapSpec)

/-- 'laws.FnGreedySame', WHERE WHAT IT READS IS OF BULK AT MOST 1048576: true; the input reads as it did. -/
def fnGreedySameUptoRow : OpenClaim := { program := "ytohillieiccgdaagreat", sum := "9ce8fb0fa14f4457287f7fa6086e2268610dc4f195b87607e96cf1d98eb811c0", func := "loop.example/loopnests/laws.FnGreedySame", spec := "fnGreedySame", inPlace := ["internal/bytealg.IndexByteString", "internal/bytealg.IndexString"], unfollowed := true, recurses := true, named := ["internal/bytealg.MaxLen"], apart := false, narrowed := true }
def FnGreedySameUptoSaid : Prop := fnGreedySameUptoRow.holds Tryz.pinned (OpenSpec.upto fnGreedySameSpec)

/-- 'laws.FnLiveInstances', WHERE WHAT IT READS IS OF BULK AT MOST 1048576: true; the input reads as it did. -/
def fnLiveInstancesUptoRow : OpenClaim := { program := "ytohillieiccgdaagreat", sum := "9ce8fb0fa14f4457287f7fa6086e2268610dc4f195b87607e96cf1d98eb811c0", func := "loop.example/loopnests/laws.FnLiveInstances", spec := "fnLiveInstances", inPlace := ["internal/bytealg.IndexByteString", "internal/bytealg.IndexString"], unfollowed := true, recurses := true, named := ["internal/bytealg.MaxLen"], apart := false, narrowed := true }
def FnLiveInstancesUptoSaid : Prop := fnLiveInstancesUptoRow.holds Tryz.pinned (OpenSpec.upto fnLiveInstancesSpec)

/-- 'laws.FnOrderLegal', WHERE WHAT IT READS IS OF BULK AT MOST 1048576: true; the input reads as it did. -/
def fnOrderLegalUptoRow : OpenClaim := { program := "ytohillieiccgdaagreat", sum := "9ce8fb0fa14f4457287f7fa6086e2268610dc4f195b87607e96cf1d98eb811c0", func := "loop.example/loopnests/laws.FnOrderLegal", spec := "fnOrderLegal", inPlace := ["internal/bytealg.IndexByteString", "internal/bytealg.IndexString"], unfollowed := true, recurses := true, named := ["internal/bytealg.MaxLen"], apart := false, narrowed := true }
def FnOrderLegalUptoSaid : Prop := fnOrderLegalUptoRow.holds Tryz.pinned (OpenSpec.upto fnOrderLegalSpec)

/-- 'laws.FnReductionAny', WHERE WHAT IT READS IS OF BULK AT MOST 1048576: true; the input reads as it did. -/
def fnReductionAnyUptoRow : OpenClaim := { program := "ytohillieiccgdaagreat", sum := "9ce8fb0fa14f4457287f7fa6086e2268610dc4f195b87607e96cf1d98eb811c0", func := "loop.example/loopnests/laws.FnReductionAny", spec := "fnReductionAny", inPlace := ["internal/bytealg.IndexByteString", "internal/bytealg.IndexString"], unfollowed := true, recurses := true, named := ["internal/bytealg.MaxLen"], apart := false, narrowed := true }
def FnReductionAnyUptoSaid : Prop := fnReductionAnyUptoRow.holds Tryz.pinned (OpenSpec.upto fnReductionAnySpec)

/-- 'laws.FnReducedLegal', WHERE WHAT IT READS IS OF BULK AT MOST 1048576: true; the input reads as it did. -/
def fnReducedLegalUptoRow : OpenClaim := { program := "ytohillieiccgdaagreat", sum := "9ce8fb0fa14f4457287f7fa6086e2268610dc4f195b87607e96cf1d98eb811c0", func := "loop.example/loopnests/laws.FnReducedLegal", spec := "fnReducedLegal", inPlace := ["internal/bytealg.IndexByteString", "internal/bytealg.IndexString"], unfollowed := true, recurses := true, named := ["internal/bytealg.MaxLen"], apart := false, narrowed := true }
def FnReducedLegalUptoSaid : Prop := fnReducedLegalUptoRow.holds Tryz.pinned (OpenSpec.upto fnReducedLegalSpec)

/-- 'laws.FnMissesZero', WHERE WHAT IT READS IS OF BULK AT MOST 1048576: true; the input reads as it did. -/
def fnMissesZeroUptoRow : OpenClaim := { program := "ytohillieiccgdaagreat", sum := "9ce8fb0fa14f4457287f7fa6086e2268610dc4f195b87607e96cf1d98eb811c0", func := "loop.example/loopnests/laws.FnMissesZero", spec := "fnMissesZero", inPlace := ["internal/bytealg.IndexByteString", "internal/bytealg.IndexString"], unfollowed := true, recurses := true, named := ["internal/bytealg.MaxLen"], apart := false, narrowed := true }
def FnMissesZeroUptoSaid : Prop := fnMissesZeroUptoRow.holds Tryz.pinned (OpenSpec.upto fnMissesZeroSpec)

/-- 'laws.FnFoldProgram', WHERE WHAT IT READS IS OF BULK AT MOST 1048576: true; the input reads as it did. -/
def fnFoldProgramUptoRow : OpenClaim := { program := "ytohillieiccgdaagreat", sum := "9ce8fb0fa14f4457287f7fa6086e2268610dc4f195b87607e96cf1d98eb811c0", func := "loop.example/loopnests/laws.FnFoldProgram", spec := "fnFoldProgram", inPlace := ["internal/bytealg.IndexByteString", "internal/bytealg.IndexString"], unfollowed := true, recurses := true, named := ["internal/bytealg.MaxLen"], apart := false, narrowed := true }
def FnFoldProgramUptoSaid : Prop := fnFoldProgramUptoRow.holds Tryz.pinned (OpenSpec.upto fnFoldProgramSpec)

/-- 'laws.FnShiftBack', WHERE WHAT IT READS IS OF BULK AT MOST 1048576: true; the input reads as it did. -/
def fnShiftBackUptoRow : OpenClaim := { program := "ytohillieiccgdaagreat", sum := "9ce8fb0fa14f4457287f7fa6086e2268610dc4f195b87607e96cf1d98eb811c0", func := "loop.example/loopnests/laws.FnShiftBack", spec := "fnShiftBack", inPlace := ["internal/bytealg.IndexByteString", "internal/bytealg.IndexString"], unfollowed := true, recurses := true, named := ["internal/bytealg.MaxLen"], apart := false, narrowed := true }
def FnShiftBackUptoSaid : Prop := fnShiftBackUptoRow.holds Tryz.pinned (OpenSpec.upto fnShiftBackSpec)

/-- 'laws.FnSkewBack', WHERE WHAT IT READS IS OF BULK AT MOST 1048576: true; the input reads as it did. -/
def fnSkewBackUptoRow : OpenClaim := { program := "ytohillieiccgdaagreat", sum := "9ce8fb0fa14f4457287f7fa6086e2268610dc4f195b87607e96cf1d98eb811c0", func := "loop.example/loopnests/laws.FnSkewBack", spec := "fnSkewBack", inPlace := ["internal/bytealg.IndexByteString", "internal/bytealg.IndexString"], unfollowed := true, recurses := true, named := ["internal/bytealg.MaxLen"], apart := false, narrowed := true }
def FnSkewBackUptoSaid : Prop := fnSkewBackUptoRow.holds Tryz.pinned (OpenSpec.upto fnSkewBackSpec)

end Rows
end Go.Proofs.YtohillieiccgdaaGreat
