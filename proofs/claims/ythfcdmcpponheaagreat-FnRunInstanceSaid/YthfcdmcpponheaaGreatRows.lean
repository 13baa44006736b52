/-
  NARROWER THAN 'FOR EVERY INPUT', by the rows' own cells (each row's printed sentence says how): FnExactProgramMisses: loops · FnExactCandidateSteps: loops · FnExactRunProgram: loops · FnExactRunOrder: loops · FnExactRunInstance: loops.
  DERIVED. THE GIVEN ROWS OF THIS SEAT. 12 by the template 'for every input the law returns true; each argument reads behind the call as it read before'; 0 by the template 'total and deterministic' (their statements: YthfcdmcpponheaaGreatTotals.lean).
  GIVEN WITH THE SEED: the statements are not yours to turn. If you find one false, say at which input.
  Laid BY PROGRAM, IN A SANDBOX (cutbox-rows.mjs): the forced cells as the released guide's own fill.sh prints them over the translation a54d7a7b3c780329… (all of the seat's roots in one cut). By AI agents, Wed Nov 11 2026. No macro, syntax, notation, axiom, sorry.
-/
import Derived.Test.YthfcdmcpponheaaGreatChecked
import GoSem.Claim
import GoSem.ClaimJoined
import GoSem.ClaimMapViews
import Derived.JoinedTies
import Derived.KernelRfl
namespace Go.Proofs.YthfcdmcpponheaaGreat
/- THE CELL 'sum', in the pinned program and in every row, IS THE sha256 OF THE DUMP (.gsa) THAT YthfcdmcpponheaaGreatProg.lean LOADS. Nothing in Lean hashes anything: it is a label: what it is worth is what the hold of that sum in a sandbox is worth. -/
noncomputable def Tryz.pinned : Pinned := { name := "ythfcdmcpponheaagreat", sum := "a54d7a7b3c780329169670c1747b5f82d2ee075f1b9dc9909888ff463e56e59d", checked := Tryz.checked }
namespace Rows
def none {H : Type} : Left H := { results := [], args := [] }

/-- 'laws.FnExactProgramMisses': WHATEVER THE INPUT: true; the input reads as it did. -/
def fnExactProgramMissesSpec : ChangeSpec := { name := "fnExactProgramMisses", fn := fun _ => fun
  | [d1, d2] => { results := [.lit (.bool true)], args := [d1, d2] }
  | _ => none }
def fnExactProgramMissesRow : OpenClaim := { program := "ythfcdmcpponheaagreat", sum := "a54d7a7b3c780329169670c1747b5f82d2ee075f1b9dc9909888ff463e56e59d", func := "loop.example/loopnests/laws.FnExactProgramMisses", spec := "fnExactProgramMisses", inPlace := ["internal/bytealg.IndexByteString", "internal/bytealg.IndexString"], unfollowed := true, recurses := true, named := ["internal/bytealg.MaxLen"], loops := true, apart := false }
def FnExactProgramMissesSaid : Prop := fnExactProgramMissesRow.holds Tryz.pinned (OpenSpec.ofChange fnExactProgramMissesSpec)

/-- ITS FALSE NEIGHBOUR: 'it returns false'. Refute it at one input. -/
def fnExactProgramMissesWrong : ChangeSpec := { name := "fnExactProgramMisses", fn := fun _ => fun
  | [d1, d2] => { results := [.lit (.bool false)], args := [d1, d2] }
  | _ => none }
def FnExactProgramMissesWrongFalsely : Prop := fnExactProgramMissesRow.holds Tryz.pinned (OpenSpec.ofChange fnExactProgramMissesWrong)

/-- 'laws.FnExactCandidateSteps': WHATEVER THE INPUT: true; the input reads as it did. -/
def fnExactCandidateStepsSpec : ChangeSpec := { name := "fnExactCandidateSteps", fn := fun _ => fun
  | [d] => { results := [.lit (.bool true)], args := [d] }
  | _ => none }
def fnExactCandidateStepsRow : OpenClaim := { program := "ythfcdmcpponheaagreat", sum := "a54d7a7b3c780329169670c1747b5f82d2ee075f1b9dc9909888ff463e56e59d", func := "loop.example/loopnests/laws.FnExactCandidateSteps", spec := "fnExactCandidateSteps", inPlace := ["internal/bytealg.IndexByteString", "internal/bytealg.IndexString"], unfollowed := true, recurses := true, named := ["internal/bytealg.MaxLen"], loops := true, apart := false }
def FnExactCandidateStepsSaid : Prop := fnExactCandidateStepsRow.holds Tryz.pinned (OpenSpec.ofChange fnExactCandidateStepsSpec)

/-- ITS FALSE NEIGHBOUR: 'it returns false'. Refute it at one input. -/
def fnExactCandidateStepsWrong : ChangeSpec := { name := "fnExactCandidateSteps", fn := fun _ => fun
  | [d] => { results := [.lit (.bool false)], args := [d] }
  | _ => none }
def FnExactCandidateStepsWrongFalsely : Prop := fnExactCandidateStepsRow.holds Tryz.pinned (OpenSpec.ofChange fnExactCandidateStepsWrong)

/-- 'laws.FnExactRunProgram': WHATEVER THE INPUT: true; the input reads as it did. -/
def fnExactRunProgramSpec : ChangeSpec := { name := "fnExactRunProgram", fn := fun _ => fun
  | [d1, d2] => { results := [.lit (.bool true)], args := [d1, d2] }
  | _ => none }
def fnExactRunProgramRow : OpenClaim := { program := "ythfcdmcpponheaagreat", sum := "a54d7a7b3c780329169670c1747b5f82d2ee075f1b9dc9909888ff463e56e59d", func := "loop.example/loopnests/laws.FnExactRunProgram", spec := "fnExactRunProgram", inPlace := ["internal/bytealg.IndexByteString", "internal/bytealg.IndexString"], unfollowed := true, recurses := true, named := ["internal/bytealg.MaxLen"], loops := true, apart := false }
def FnExactRunProgramSaid : Prop := fnExactRunProgramRow.holds Tryz.pinned (OpenSpec.ofChange fnExactRunProgramSpec)

/-- ITS FALSE NEIGHBOUR: 'it returns false'. Refute it at one input. -/
def fnExactRunProgramWrong : ChangeSpec := { name := "fnExactRunProgram", fn := fun _ => fun
  | [d1, d2] => { results := [.lit (.bool false)], args := [d1, d2] }
  | _ => none }
def FnExactRunProgramWrongFalsely : Prop := fnExactRunProgramRow.holds Tryz.pinned (OpenSpec.ofChange fnExactRunProgramWrong)

/-- 'laws.FnExactRunOrder': WHATEVER THE INPUT: true; the input reads as it did. -/
def fnExactRunOrderSpec : ChangeSpec := { name := "fnExactRunOrder", fn := fun _ => fun
  | [d1, d2, d3] => { results := [.lit (.bool true)], args := [d1, d2, d3] }
  | _ => none }
def fnExactRunOrderRow : OpenClaim := { program := "ythfcdmcpponheaagreat", sum := "a54d7a7b3c780329169670c1747b5f82d2ee075f1b9dc9909888ff463e56e59d", func := "loop.example/loopnests/laws.FnExactRunOrder", spec := "fnExactRunOrder", inPlace := ["internal/bytealg.IndexByteString", "internal/bytealg.IndexString"], unfollowed := true, recurses := true, named := ["internal/bytealg.MaxLen"], loops := true, apart := false }
def FnExactRunOrderSaid : Prop := fnExactRunOrderRow.holds Tryz.pinned (OpenSpec.ofChange fnExactRunOrderSpec)

/-- ITS FALSE NEIGHBOUR: 'it returns false'. Refute it at one input. -/
def fnExactRunOrderWrong : ChangeSpec := { name := "fnExactRunOrder", fn := fun _ => fun
  | [d1, d2, d3] => { results := [.lit (.bool false)], args := [d1, d2, d3] }
  | _ => none }
def FnExactRunOrderWrongFalsely : Prop := fnExactRunOrderRow.holds Tryz.pinned (OpenSpec.ofChange fnExactRunOrderWrong)

/-- 'laws.FnExactRunInstance': WHATEVER THE INPUT: true; the input reads as it did. -/
def fnExactRunInstanceSpec : ChangeSpec := { name := "fnExactRunInstance", fn := fun _ => fun
  | [d1, d2, d3] => { results := [.lit (.bool true)], args := [d1, d2, d3] }
  | _ => none }
def fnExactRunInstanceRow : OpenClaim := { program := "ythfcdmcpponheaagreat", sum := "a54d7a7b3c780329169670c1747b5f82d2ee075f1b9dc9909888ff463e56e59d", func := "loop.example/loopnests/laws.FnExactRunInstance", spec := "fnExactRunInstance", inPlace := ["internal/bytealg.IndexByteString", "internal/bytealg.IndexString"], unfollowed := true, recurses := true, named := ["internal/bytealg.MaxLen"], loops := true, apart := false }
def FnExactRunInstanceSaid : Prop := fnExactRunInstanceRow.holds Tryz.pinned (OpenSpec.ofChange fnExactRunInstanceSpec)

/-- ITS FALSE NEIGHBOUR: 'it returns false'. Refute it at one input. -/
def fnExactRunInstanceWrong : ChangeSpec := { name := "fnExactRunInstance", fn := fun _ => fun
  | [d1, d2, d3] => { results := [.lit (.bool false)], args := [d1, d2, d3] }
  | _ => none }
def FnExactRunInstanceWrongFalsely : Prop := fnExactRunInstanceRow.holds Tryz.pinned (OpenSpec.ofChange fnExactRunInstanceWrong)

/-- 'laws.FnRunParts': WHATEVER THE INPUT: true; the input reads as it did. -/
def fnRunPartsSpec : ChangeSpec := { name := "fnRunParts", fn := fun _ => fun
  | [d1, d2] => { results := [.lit (.bool true)], args := [d1, d2] }
  | _ => none }
def fnRunPartsRow : OpenClaim := { program := "ythfcdmcpponheaagreat", sum := "a54d7a7b3c780329169670c1747b5f82d2ee075f1b9dc9909888ff463e56e59d", func := "loop.example/loopnests/laws.FnRunParts", spec := "fnRunParts", inPlace := ["internal/bytealg.IndexByteString", "internal/bytealg.IndexString"], unfollowed := true, recurses := true, named := ["internal/bytealg.MaxLen"], apart := false }
def FnRunPartsSaid : Prop := fnRunPartsRow.holds Tryz.pinned (OpenSpec.ofChange fnRunPartsSpec)

/-- ITS FALSE NEIGHBOUR: 'it returns false'. Refute it at one input. -/
def fnRunPartsWrong : ChangeSpec := { name := "fnRunParts", fn := fun _ => fun
  | [d1, d2] => { results := [.lit (.bool false)], args := [d1, d2] }
  | _ => none }
def FnRunPartsWrongFalsely : Prop := fnRunPartsRow.holds Tryz.pinned (OpenSpec.ofChange fnRunPartsWrong)

/-- 'laws.FnWrittenCells': WHATEVER THE INPUT: true; the input reads as it did. -/
def fnWrittenCellsSpec : ChangeSpec := { name := "fnWrittenCells", fn := fun _ => fun
  | [d] => { results := [.lit (.bool true)], args := [d] }
  | _ => none }
def fnWrittenCellsRow : OpenClaim := { program := "ythfcdmcpponheaagreat", sum := "a54d7a7b3c780329169670c1747b5f82d2ee075f1b9dc9909888ff463e56e59d", func := "loop.example/loopnests/laws.FnWrittenCells", spec := "fnWrittenCells", inPlace := ["internal/bytealg.IndexByteString", "internal/bytealg.IndexString"], unfollowed := true, recurses := true, named := ["internal/bytealg.MaxLen"], apart := false }
def FnWrittenCellsSaid : Prop := fnWrittenCellsRow.holds Tryz.pinned (OpenSpec.ofChange fnWrittenCellsSpec)

/-- ITS FALSE NEIGHBOUR: 'it returns false'. Refute it at one input. -/
def fnWrittenCellsWrong : ChangeSpec := { name := "fnWrittenCells", fn := fun _ => fun
  | [d] => { results := [.lit (.bool false)], args := [d] }
  | _ => none }
def FnWrittenCellsWrongFalsely : Prop := fnWrittenCellsRow.holds Tryz.pinned (OpenSpec.ofChange fnWrittenCellsWrong)

/-- 'laws.FnRunProgram': WHATEVER THE INPUT: true; the input reads as it did. -/
def fnRunProgramSpec : ChangeSpec := { name := "fnRunProgram", fn := fun _ => fun
  | [d] => { results := [.lit (.bool true)], args := [d] }
  | _ => none }
def fnRunProgramRow : OpenClaim := { program := "ythfcdmcpponheaagreat", sum := "a54d7a7b3c780329169670c1747b5f82d2ee075f1b9dc9909888ff463e56e59d", func := "loop.example/loopnests/laws.FnRunProgram", spec := "fnRunProgram", inPlace := ["internal/bytealg.IndexByteString", "internal/bytealg.IndexString"], unfollowed := true, recurses := true, named := ["internal/bytealg.MaxLen"], apart := false }
def FnRunProgramSaid : Prop := fnRunProgramRow.holds Tryz.pinned (OpenSpec.ofChange fnRunProgramSpec)

/-- ITS FALSE NEIGHBOUR: 'it returns false'. Refute it at one input. -/
def fnRunProgramWrong : ChangeSpec := { name := "fnRunProgram", fn := fun _ => fun
  | [d] => { results := [.lit (.bool false)], args := [d] }
  | _ => none }
def FnRunProgramWrongFalsely : Prop := fnRunProgramRow.holds Tryz.pinned (OpenSpec.ofChange fnRunProgramWrong)

/-- 'laws.FnInputCells': WHATEVER THE INPUT: true; the input reads as it did. -/
def fnInputCellsSpec : ChangeSpec := { name := "fnInputCells", fn := fun _ => fun
  | [d1, d2] => { results := [.lit (.bool true)], args := [d1, d2] }
  | _ => none }
def fnInputCellsRow : OpenClaim := { program := "ythfcdmcpponheaagreat", sum := "a54d7a7b3c780329169670c1747b5f82d2ee075f1b9dc9909888ff463e56e59d", func := "loop.example/loopnests/laws.FnInputCells", spec := "fnInputCells", inPlace := ["internal/bytealg.IndexByteString", "internal/bytealg.IndexString"], unfollowed := true, recurses := true, named := ["internal/bytealg.MaxLen"], apart := false }
def FnInputCellsSaid : Prop := fnInputCellsRow.holds Tryz.pinned (OpenSpec.ofChange fnInputCellsSpec)

/-- ITS FALSE NEIGHBOUR: 'it returns false'. Refute it at one input. -/
def fnInputCellsWrong : ChangeSpec := { name := "fnInputCells", fn := fun _ => fun
  | [d1, d2] => { results := [.lit (.bool false)], args := [d1, d2] }
  | _ => none }
def FnInputCellsWrongFalsely : Prop := fnInputCellsRow.holds Tryz.pinned (OpenSpec.ofChange fnInputCellsWrong)

/-- 'laws.FnRunTwice': WHATEVER THE INPUT: true; the input reads as it did. -/
def fnRunTwiceSpec : ChangeSpec := { name := "fnRunTwice", fn := fun _ => fun
  | [d] => { results := [.lit (.bool true)], args := [d] }
  | _ => none }
def fnRunTwiceRow : OpenClaim := { program := "ythfcdmcpponheaagreat", sum := "a54d7a7b3c780329169670c1747b5f82d2ee075f1b9dc9909888ff463e56e59d", func := "loop.example/loopnests/laws.FnRunTwice", spec := "fnRunTwice", inPlace := ["internal/bytealg.IndexByteString", "internal/bytealg.IndexString"], unfollowed := true, recurses := true, named := ["internal/bytealg.MaxLen"], apart := false }
def FnRunTwiceSaid : Prop := fnRunTwiceRow.holds Tryz.pinned (OpenSpec.ofChange fnRunTwiceSpec)

/-- ITS FALSE NEIGHBOUR: 'it returns false'. Refute it at one input. -/
def fnRunTwiceWrong : ChangeSpec := { name := "fnRunTwice", fn := fun _ => fun
  | [d] => { results := [.lit (.bool false)], args := [d] }
  | _ => none }
def FnRunTwiceWrongFalsely : Prop := fnRunTwiceRow.holds Tryz.pinned (OpenSpec.ofChange fnRunTwiceWrong)

/-- 'laws.FnRunInstance': WHATEVER THE INPUT: true; the input reads as it did. -/
def fnRunInstanceSpec : ChangeSpec := { name := "fnRunInstance", fn := fun _ => fun
  | [d] => { results := [.lit (.bool true)], args := [d] }
  | _ => none }
def fnRunInstanceRow : OpenClaim := { program := "ythfcdmcpponheaagreat", sum := "a54d7a7b3c780329169670c1747b5f82d2ee075f1b9dc9909888ff463e56e59d", func := "loop.example/loopnests/laws.FnRunInstance", spec := "fnRunInstance", inPlace := ["internal/bytealg.IndexByteString", "internal/bytealg.IndexString"], unfollowed := true, recurses := true, named := ["internal/bytealg.MaxLen"], apart := false }
def FnRunInstanceSaid : Prop := fnRunInstanceRow.holds Tryz.pinned (OpenSpec.ofChange fnRunInstanceSpec)

/-- ITS FALSE NEIGHBOUR: 'it returns false'. Refute it at one input. -/
def fnRunInstanceWrong : ChangeSpec := { name := "fnRunInstance", fn := fun _ => fun
  | [d] => { results := [.lit (.bool false)], args := [d] }
  | _ => none }
def FnRunInstanceWrongFalsely : Prop := fnRunInstanceRow.holds Tryz.pinned (OpenSpec.ofChange fnRunInstanceWrong)

/-- 'laws.FnRunOrder': WHATEVER THE INPUT: true; the input reads as it did. -/
def fnRunOrderSpec : ChangeSpec := { name := "fnRunOrder", fn := fun _ => fun
  | [d] => { results := [.lit (.bool true)], args := [d] }
  | _ => none }
def fnRunOrderRow : OpenClaim := { program := "ythfcdmcpponheaagreat", sum := "a54d7a7b3c780329169670c1747b5f82d2ee075f1b9dc9909888ff463e56e59d", func := "loop.example/loopnests/laws.FnRunOrder", spec := "fnRunOrder", inPlace := ["internal/bytealg.IndexByteString", "internal/bytealg.IndexString"], unfollowed := true, recurses := true, named := ["internal/bytealg.MaxLen"], apart := false }
def FnRunOrderSaid : Prop := fnRunOrderRow.holds Tryz.pinned (OpenSpec.ofChange fnRunOrderSpec)

/-- ITS FALSE NEIGHBOUR: 'it returns false'. Refute it at one input. -/
def fnRunOrderWrong : ChangeSpec := { name := "fnRunOrder", fn := fun _ => fun
  | [d] => { results := [.lit (.bool false)], args := [d] }
  | _ => none }
def FnRunOrderWrongFalsely : Prop := fnRunOrderRow.holds Tryz.pinned (OpenSpec.ofChange fnRunOrderWrong)

/- THE SECOND FORM. 'bulk': how many values and letters a reading holds, each counted each time it is reached (what is shared counts as often as it is met; a slice's spare places count too). A statement '..UptoSaid' is the law's where the arguments, and the package variables that the reading takes, are together of bulk at most 1048576: NARROWER than '..Said'. Prove '..Said' where nothing that the law and all that it calls make is longer than what came in: it says more and counts as full. Else prove '..UptoSaid'. A law counts once. -/
mutual
def uptoBulk {H : Type} : DataW H → Nat
  | .lit (.string bytes) => bytes.length + 1
  | .lit _ => 1
  | .nil => 1
  | .ptr d => uptoBulk d + 1
  | .slice elems spare => uptoBulkAll elems + uptoBulkAll spare + 1
  | .agg parts => uptoBulkAll parts + 1
  | .iface _ d => uptoBulk d + 1
  | .map entries => uptoBulkEntries entries + 1
  | .held _ => 1
def uptoBulkAll {H : Type} : List (DataW H) → Nat
  | [] => 0
  | d :: r => uptoBulk d + uptoBulkAll r
def uptoBulkEntries {H : Type} : List (Lit × DataW H) → Nat
  | [] => 0
  | x :: r => uptoBulkEntry x + uptoBulkEntries r
def uptoBulkEntry {H : Type} : Lit × DataW H → Nat
  | (.string bytes, d) => bytes.length + uptoBulk d + 1
  | (_, d) => uptoBulk d + 1
 end
def uptoSmall : (H : Type) → List (DataW H) → Bool := fun _ ds => decide (uptoBulkAll ds ≤ 1048576)
def OpenSpec.upto (s : _root_.Go.ChangeSpec) : _root_.Go.OpenSpec := { _root_.Go.OpenSpec.ofChange s with cond := some uptoSmall }

/-- 'laws.FnExactProgramMisses', WHERE WHAT IT READS IS OF BULK AT MOST 1048576: true; the input reads as it did. -/
def fnExactProgramMissesUptoRow : OpenClaim := { program := "ythfcdmcpponheaagreat", sum := "a54d7a7b3c780329169670c1747b5f82d2ee075f1b9dc9909888ff463e56e59d", func := "loop.example/loopnests/laws.FnExactProgramMisses", spec := "fnExactProgramMisses", inPlace := ["internal/bytealg.IndexByteString", "internal/bytealg.IndexString"], unfollowed := true, recurses := true, named := ["internal/bytealg.MaxLen"], loops := true, apart := false, narrowed := true }
def FnExactProgramMissesUptoSaid : Prop := fnExactProgramMissesUptoRow.holds Tryz.pinned (OpenSpec.upto fnExactProgramMissesSpec)

/-- 'laws.FnExactCandidateSteps', WHERE WHAT IT READS IS OF BULK AT MOST 1048576: true; the input reads as it did. -/
def fnExactCandidateStepsUptoRow : OpenClaim := { program := "ythfcdmcpponheaagreat", sum := "a54d7a7b3c780329169670c1747b5f82d2ee075f1b9dc9909888ff463e56e59d", func := "loop.example/loopnests/laws.FnExactCandidateSteps", spec := "fnExactCandidateSteps", inPlace := ["internal/bytealg.IndexByteString", "internal/bytealg.IndexString"], unfollowed := true, recurses := true, named := ["internal/bytealg.MaxLen"], loops := true, apart := false, narrowed := true }
def FnExactCandidateStepsUptoSaid : Prop := fnExactCandidateStepsUptoRow.holds Tryz.pinned (OpenSpec.upto fnExactCandidateStepsSpec)

/-- 'laws.FnExactRunProgram', WHERE WHAT IT READS IS OF BULK AT MOST 1048576: true; the input reads as it did. -/
def fnExactRunProgramUptoRow : OpenClaim := { program := "ythfcdmcpponheaagreat", sum := "a54d7a7b3c780329169670c1747b5f82d2ee075f1b9dc9909888ff463e56e59d", func := "loop.example/loopnests/laws.FnExactRunProgram", spec := "fnExactRunProgram", inPlace := ["internal/bytealg.IndexByteString", "internal/bytealg.IndexString"], unfollowed := true, recurses := true, named := ["internal/bytealg.MaxLen"], loops := true, apart := false, narrowed := true }
def FnExactRunProgramUptoSaid : Prop := fnExactRunProgramUptoRow.holds Tryz.pinned (OpenSpec.upto fnExactRunProgramSpec)

/-- 'laws.FnExactRunOrder', WHERE WHAT IT READS IS OF BULK AT MOST 1048576: true; the input reads as it did. -/
def fnExactRunOrderUptoRow : OpenClaim := { program := "ythfcdmcpponheaagreat", sum := "a54d7a7b3c780329169670c1747b5f82d2ee075f1b9dc9909888ff463e56e59d", func := "loop.example/loopnests/laws.FnExactRunOrder", spec := "fnExactRunOrder", inPlace := ["internal/bytealg.IndexByteString", "internal/bytealg.IndexString"], unfollowed := true, recurses := true, named := ["internal/bytealg.MaxLen"], loops := true, apart := false, narrowed := true }
def FnExactRunOrderUptoSaid : Prop := fnExactRunOrderUptoRow.holds Tryz.pinned (OpenSpec.upto fnExactRunOrderSpec)

/-- 'laws.FnExactRunInstance', WHERE WHAT IT READS IS OF BULK AT MOST 1048576: true; the input reads as it did. -/
def fnExactRunInstanceUptoRow : OpenClaim := { program := "ythfcdmcpponheaagreat", sum := "a54d7a7b3c780329169670c1747b5f82d2ee075f1b9dc9909888ff463e56e59d", func := "loop.example/loopnests/laws.FnExactRunInstance", spec := "fnExactRunInstance", inPlace := ["internal/bytealg.IndexByteString", "internal/bytealg.IndexString"], unfollowed := true, recurses := true, named := ["internal/bytealg.MaxLen"], loops := true, apart := false, narrowed := true }
def FnExactRunInstanceUptoSaid : Prop := fnExactRunInstanceUptoRow.holds Tryz.pinned (OpenSpec.upto fnExactRunInstanceSpec)

/-- 'laws.FnRunParts', WHERE WHAT IT READS IS OF BULK AT MOST 1048576: true; the input reads as it did. -/
def fnRunPartsUptoRow : OpenClaim := { program := "ythfcdmcpponheaagreat", sum := "a54d7a7b3c780329169670c1747b5f82d2ee075f1b9dc9909888ff463e56e59d", func := "loop.example/loopnests/laws.FnRunParts", spec := "fnRunParts", inPlace := ["internal/bytealg.IndexByteString", "internal/bytealg.IndexString"], unfollowed := true, recurses := true, named := ["internal/bytealg.MaxLen"], apart := false, narrowed := true }
def FnRunPartsUptoSaid : Prop := fnRunPartsUptoRow.holds Tryz.pinned (OpenSpec.upto fnRunPartsSpec)

/-- 'laws.FnWrittenCells', WHERE WHAT IT READS IS OF BULK AT MOST 1048576: true; the input reads as it did. -/
def fnWrittenCellsUptoRow : OpenClaim := { program := "ythfcdmcpponheaagreat", sum := "a54d7a7b3c780329169670c1747b5f82d2ee075f1b9dc9909888ff463e56e59d", func := "loop.example/loopnests/laws.FnWrittenCells", spec := "fnWrittenCells", inPlace := ["internal/bytealg.IndexByteString", "internal/bytealg.IndexString"], unfollowed := true, recurses := true, named := ["internal/bytealg.MaxLen"], apart := false, narrowed := true }
def FnWrittenCellsUptoSaid : Prop := fnWrittenCellsUptoRow.holds Tryz.pinned (OpenSpec.upto fnWrittenCellsSpec)

/-- 'laws.FnRunProgram', WHERE WHAT IT READS IS OF BULK AT MOST 1048576: true; the input reads as it did. -/
def fnRunProgramUptoRow : OpenClaim := { program := "ythfcdmcpponheaagreat", sum := "a54d7a7b3c780329169670c1747b5f82d2ee075f1b9dc9909888ff463e56e59d", func := "loop.example/loopnests/laws.FnRunProgram", spec := "fnRunProgram", inPlace := ["internal/bytealg.IndexByteString", "internal/bytealg.IndexString"], unfollowed := true, recurses := true, named := ["internal/bytealg.MaxLen"], apart := false, narrowed := true }
def FnRunProgramUptoSaid : Prop := fnRunProgramUptoRow.holds Tryz.pinned (OpenSpec.upto fnRunProgramSpec)

/-- 'laws.FnInputCells', WHERE WHAT IT READS IS OF BULK AT MOST 1048576: true; the input reads as it did. -/
def fnInputCellsUptoRow : OpenClaim := { program := "ythfcdmcpponheaagreat", sum := "a54d7a7b3c780329169670c1747b5f82d2ee075f1b9dc9909888ff463e56e59d", func := "loop.example/loopnests/laws.FnInputCells", spec := "fnInputCells", inPlace := ["internal/bytealg.IndexByteString", "internal/bytealg.IndexString"], unfollowed := true, recurses := true, named := ["internal/bytealg.MaxLen"], apart := false, narrowed := true }
def FnInputCellsUptoSaid : Prop := fnInputCellsUptoRow.holds Tryz.pinned (OpenSpec.upto fnInputCellsSpec)

/-- 'laws.FnRunTwice', WHERE WHAT IT READS IS OF BULK AT MOST 1048576: true; the input reads as it did. -/
def fnRunTwiceUptoRow : OpenClaim := { program := "ythfcdmcpponheaagreat", sum := "a54d7a7b3c780329169670c1747b5f82d2ee075f1b9dc9909888ff463e56e59d", func := "loop.example/loopnests/laws.FnRunTwice", spec := "fnRunTwice", inPlace := ["internal/bytealg.IndexByteString", "internal/bytealg.IndexString"], unfollowed := true, recurses := true, named := ["internal/bytealg.MaxLen"], apart := false, narrowed := true }
def FnRunTwiceUptoSaid : Prop := fnRunTwiceUptoRow.holds Tryz.pinned (OpenSpec.upto fnRunTwiceSpec)

/-- 'laws.FnRunInstance', WHERE WHAT IT READS IS OF BULK AT MOST 1048576: true; the input reads as it did. -/
def fnRunInstanceUptoRow : OpenClaim := { program := "ythfcdmcpponheaagreat", sum := "a54d7a7b3c780329169670c1747b5f82d2ee075f1b9dc9909888ff463e56e59d", func := "loop.example/loopnests/laws.FnRunInstance", spec := "fnRunInstance", inPlace := ["internal/bytealg.IndexByteString", "internal/bytealg.IndexString"], unfollowed := true, recurses := true, named := ["internal/bytealg.MaxLen"], apart := false, narrowed := true }
def FnRunInstanceUptoSaid : Prop := fnRunInstanceUptoRow.holds Tryz.pinned (OpenSpec.upto fnRunInstanceSpec)

/-- 'laws.FnRunOrder', WHERE WHAT IT READS IS OF BULK AT MOST 1048576: true; the input reads as it did. -/
def fnRunOrderUptoRow : OpenClaim := { program := "ythfcdmcpponheaagreat", sum := "a54d7a7b3c780329169670c1747b5f82d2ee075f1b9dc9909888ff463e56e59d", func := "loop.example/loopnests/laws.FnRunOrder", spec := "fnRunOrder", inPlace := ["internal/bytealg.IndexByteString", "internal/bytealg.IndexString"], unfollowed := true, recurses := true, named := ["internal/bytealg.MaxLen"], apart := false, narrowed := true }
def FnRunOrderUptoSaid : Prop := fnRunOrderUptoRow.holds Tryz.pinned (OpenSpec.upto fnRunOrderSpec)

end Rows
end Go.Proofs.YthfcdmcpponheaaGreat
