/-
  NARROWER THAN 'FOR EVERY INPUT', by the rows' own cells (each row's printed sentence says how): FnExactProgramMisses: loops · FnExactCandidateSteps: loops · FnExactRunProgram: loops.
  DERIVED. THE GIVEN ROWS OF THIS SEAT. 12 by the template 'for every input the law returns true; each argument reads behind the call as it read before'; 0 by the template 'total and deterministic' (their statements: YtdcjmccimcppbaaGreatTotals.lean).
  GIVEN WITH THE SEED: the statements are not yours to turn. If you find one false, say at which input.
  Laid BY PROGRAM, IN A SANDBOX (cutbox-rows.mjs): the forced cells as the released guide's own fill.sh prints them over the translation b1e451db7f592329… (all of the seat's roots in one cut). By AI agents, Wed Nov 11 2026. No macro, syntax, notation, axiom, sorry.
-/
import Derived.Test.YtdcjmccimcppbaaGreatChecked
import GoSem.Claim
import GoSem.ClaimJoined
import GoSem.ClaimMapViews
import Derived.JoinedTies
import Derived.KernelRfl
namespace Go.Proofs.YtdcjmccimcppbaaGreat
/- THE CELL 'sum', in the pinned program and in every row, IS THE sha256 OF THE DUMP (.gsa) THAT YtdcjmccimcppbaaGreatProg.lean LOADS. Nothing in Lean hashes anything: it is a label: what it is worth is what the hold of that sum in a sandbox is worth. -/
noncomputable def Tryz.pinned : Pinned := { name := "ytdcjmccimcppbaagreat", sum := "b1e451db7f5923298e2e7b0406adeec090e0febbae442f7cb2ea3bc93db7b804", checked := Tryz.checked }
namespace Rows
def none {H : Type} : Left H := { results := [], args := [] }

/-- 'laws.FnFoldProgram': WHATEVER THE INPUT: true; the input reads as it did. -/
def fnFoldProgramSpec : ChangeSpec := { name := "fnFoldProgram", fn := fun _ => fun
  | [d1, d2] => { results := [.lit (.bool true)], args := [d1, d2] }
  | _ => none }
def fnFoldProgramRow : OpenClaim := { program := "ytdcjmccimcppbaagreat", sum := "b1e451db7f5923298e2e7b0406adeec090e0febbae442f7cb2ea3bc93db7b804", func := "loop.example/loopnests/laws.FnFoldProgram", spec := "fnFoldProgram", inPlace := ["internal/bytealg.IndexByteString", "internal/bytealg.IndexString"], unfollowed := true, recurses := true, named := ["internal/bytealg.MaxLen"], apart := false }
def FnFoldProgramSaid : Prop := fnFoldProgramRow.holds Tryz.pinned (OpenSpec.ofChange fnFoldProgramSpec)

/-- ITS FALSE NEIGHBOUR: 'it returns false'. Refute it at one input. -/
def fnFoldProgramWrong : ChangeSpec := { name := "fnFoldProgram", fn := fun _ => fun
  | [d1, d2] => { results := [.lit (.bool false)], args := [d1, d2] }
  | _ => none }
def FnFoldProgramWrongFalsely : Prop := fnFoldProgramRow.holds Tryz.pinned (OpenSpec.ofChange fnFoldProgramWrong)

/-- 'laws.FnSwapParts': WHATEVER THE INPUT: true; the input reads as it did. -/
def fnSwapPartsSpec : ChangeSpec := { name := "fnSwapParts", fn := fun _ => fun
  | [d1, d2] => { results := [.lit (.bool true)], args := [d1, d2] }
  | _ => none }
def fnSwapPartsRow : OpenClaim := { program := "ytdcjmccimcppbaagreat", sum := "b1e451db7f5923298e2e7b0406adeec090e0febbae442f7cb2ea3bc93db7b804", func := "loop.example/loopnests/laws.FnSwapParts", spec := "fnSwapParts", inPlace := ["internal/bytealg.IndexByteString", "internal/bytealg.IndexString"], unfollowed := true, recurses := true, named := ["internal/bytealg.MaxLen"], apart := false }
def FnSwapPartsSaid : Prop := fnSwapPartsRow.holds Tryz.pinned (OpenSpec.ofChange fnSwapPartsSpec)

/-- ITS FALSE NEIGHBOUR: 'it returns false'. Refute it at one input. -/
def fnSwapPartsWrong : ChangeSpec := { name := "fnSwapParts", fn := fun _ => fun
  | [d1, d2] => { results := [.lit (.bool false)], args := [d1, d2] }
  | _ => none }
def FnSwapPartsWrongFalsely : Prop := fnSwapPartsRow.holds Tryz.pinned (OpenSpec.ofChange fnSwapPartsWrong)

/-- 'laws.FnDropPart': WHATEVER THE INPUT: true; the input reads as it did. -/
def fnDropPartSpec : ChangeSpec := { name := "fnDropPart", fn := fun _ => fun
  | [d1, d2] => { results := [.lit (.bool true)], args := [d1, d2] }
  | _ => none }
def fnDropPartRow : OpenClaim := { program := "ytdcjmccimcppbaagreat", sum := "b1e451db7f5923298e2e7b0406adeec090e0febbae442f7cb2ea3bc93db7b804", func := "loop.example/loopnests/laws.FnDropPart", spec := "fnDropPart", inPlace := ["internal/bytealg.IndexByteString", "internal/bytealg.IndexString"], unfollowed := true, recurses := true, named := ["internal/bytealg.MaxLen"], apart := false }
def FnDropPartSaid : Prop := fnDropPartRow.holds Tryz.pinned (OpenSpec.ofChange fnDropPartSpec)

/-- ITS FALSE NEIGHBOUR: 'it returns false'. Refute it at one input. -/
def fnDropPartWrong : ChangeSpec := { name := "fnDropPart", fn := fun _ => fun
  | [d1, d2] => { results := [.lit (.bool false)], args := [d1, d2] }
  | _ => none }
def FnDropPartWrongFalsely : Prop := fnDropPartRow.holds Tryz.pinned (OpenSpec.ofChange fnDropPartWrong)

/-- 'laws.FnSplitLoop': WHATEVER THE INPUT: true; the input reads as it did. -/
def fnSplitLoopSpec : ChangeSpec := { name := "fnSplitLoop", fn := fun _ => fun
  | [d1, d2] => { results := [.lit (.bool true)], args := [d1, d2] }
  | _ => none }
def fnSplitLoopRow : OpenClaim := { program := "ytdcjmccimcppbaagreat", sum := "b1e451db7f5923298e2e7b0406adeec090e0febbae442f7cb2ea3bc93db7b804", func := "loop.example/loopnests/laws.FnSplitLoop", spec := "fnSplitLoop", inPlace := ["internal/bytealg.IndexByteString", "internal/bytealg.IndexString", "slices.overlaps[loop.example/loopnests/impl.Part]"], unfollowed := true, recurses := true, named := ["internal/bytealg.MaxLen"], apart := false }
def FnSplitLoopSaid : Prop := fnSplitLoopRow.holds Tryz.pinned (OpenSpec.ofChange fnSplitLoopSpec)

/-- ITS FALSE NEIGHBOUR: 'it returns false'. Refute it at one input. -/
def fnSplitLoopWrong : ChangeSpec := { name := "fnSplitLoop", fn := fun _ => fun
  | [d1, d2] => { results := [.lit (.bool false)], args := [d1, d2] }
  | _ => none }
def FnSplitLoopWrongFalsely : Prop := fnSplitLoopRow.holds Tryz.pinned (OpenSpec.ofChange fnSplitLoopWrong)

/-- 'laws.FnFuseParts': WHATEVER THE INPUT: true; the input reads as it did. -/
def fnFusePartsSpec : ChangeSpec := { name := "fnFuseParts", fn := fun _ => fun
  | [d1, d2] => { results := [.lit (.bool true)], args := [d1, d2] }
  | _ => none }
def fnFusePartsRow : OpenClaim := { program := "ytdcjmccimcppbaagreat", sum := "b1e451db7f5923298e2e7b0406adeec090e0febbae442f7cb2ea3bc93db7b804", func := "loop.example/loopnests/laws.FnFuseParts", spec := "fnFuseParts", inPlace := ["internal/bytealg.IndexByteString", "internal/bytealg.IndexString"], unfollowed := true, recurses := true, named := ["internal/bytealg.MaxLen"], apart := false }
def FnFusePartsSaid : Prop := fnFusePartsRow.holds Tryz.pinned (OpenSpec.ofChange fnFusePartsSpec)

/-- ITS FALSE NEIGHBOUR: 'it returns false'. Refute it at one input. -/
def fnFusePartsWrong : ChangeSpec := { name := "fnFuseParts", fn := fun _ => fun
  | [d1, d2] => { results := [.lit (.bool false)], args := [d1, d2] }
  | _ => none }
def FnFusePartsWrongFalsely : Prop := fnFusePartsRow.holds Tryz.pinned (OpenSpec.ofChange fnFusePartsWrong)

/-- 'laws.FnDistributePart': WHATEVER THE INPUT: true; the input reads as it did. -/
def fnDistributePartSpec : ChangeSpec := { name := "fnDistributePart", fn := fun _ => fun
  | [d1, d2] => { results := [.lit (.bool true)], args := [d1, d2] }
  | _ => none }
def fnDistributePartRow : OpenClaim := { program := "ytdcjmccimcppbaagreat", sum := "b1e451db7f5923298e2e7b0406adeec090e0febbae442f7cb2ea3bc93db7b804", func := "loop.example/loopnests/laws.FnDistributePart", spec := "fnDistributePart", inPlace := ["internal/bytealg.IndexByteString", "internal/bytealg.IndexString", "slices.overlaps[loop.example/loopnests/impl.Part]"], unfollowed := true, recurses := true, named := ["internal/bytealg.MaxLen"], apart := false }
def FnDistributePartSaid : Prop := fnDistributePartRow.holds Tryz.pinned (OpenSpec.ofChange fnDistributePartSpec)

/-- ITS FALSE NEIGHBOUR: 'it returns false'. Refute it at one input. -/
def fnDistributePartWrong : ChangeSpec := { name := "fnDistributePart", fn := fun _ => fun
  | [d1, d2] => { results := [.lit (.bool false)], args := [d1, d2] }
  | _ => none }
def FnDistributePartWrongFalsely : Prop := fnDistributePartRow.holds Tryz.pinned (OpenSpec.ofChange fnDistributePartWrong)

/-- 'laws.FnStripMine': WHATEVER THE INPUT: true; the input reads as it did. -/
def fnStripMineSpec : ChangeSpec := { name := "fnStripMine", fn := fun _ => fun
  | [d1, d2] => { results := [.lit (.bool true)], args := [d1, d2] }
  | _ => none }
def fnStripMineRow : OpenClaim := { program := "ytdcjmccimcppbaagreat", sum := "b1e451db7f5923298e2e7b0406adeec090e0febbae442f7cb2ea3bc93db7b804", func := "loop.example/loopnests/laws.FnStripMine", spec := "fnStripMine", inPlace := ["internal/bytealg.IndexByteString", "internal/bytealg.IndexString", "slices.overlaps[loop.example/loopnests/impl.Loop]"], unfollowed := true, recurses := true, named := ["internal/bytealg.MaxLen"], apart := false }
def FnStripMineSaid : Prop := fnStripMineRow.holds Tryz.pinned (OpenSpec.ofChange fnStripMineSpec)

/-- ITS FALSE NEIGHBOUR: 'it returns false'. Refute it at one input. -/
def fnStripMineWrong : ChangeSpec := { name := "fnStripMine", fn := fun _ => fun
  | [d1, d2] => { results := [.lit (.bool false)], args := [d1, d2] }
  | _ => none }
def FnStripMineWrongFalsely : Prop := fnStripMineRow.holds Tryz.pinned (OpenSpec.ofChange fnStripMineWrong)

/-- 'laws.FnMissesZero': WHATEVER THE INPUT: true; the input reads as it did. -/
def fnMissesZeroSpec : ChangeSpec := { name := "fnMissesZero", fn := fun _ => fun
  | [d] => { results := [.lit (.bool true)], args := [d] }
  | _ => none }
def fnMissesZeroRow : OpenClaim := { program := "ytdcjmccimcppbaagreat", sum := "b1e451db7f5923298e2e7b0406adeec090e0febbae442f7cb2ea3bc93db7b804", func := "loop.example/loopnests/laws.FnMissesZero", spec := "fnMissesZero", inPlace := ["internal/bytealg.IndexByteString", "internal/bytealg.IndexString"], unfollowed := true, recurses := true, named := ["internal/bytealg.MaxLen"], apart := false }
def FnMissesZeroSaid : Prop := fnMissesZeroRow.holds Tryz.pinned (OpenSpec.ofChange fnMissesZeroSpec)

/-- ITS FALSE NEIGHBOUR: 'it returns false'. Refute it at one input. -/
def fnMissesZeroWrong : ChangeSpec := { name := "fnMissesZero", fn := fun _ => fun
  | [d] => { results := [.lit (.bool false)], args := [d] }
  | _ => none }
def FnMissesZeroWrongFalsely : Prop := fnMissesZeroRow.holds Tryz.pinned (OpenSpec.ofChange fnMissesZeroWrong)

/-- 'laws.FnProgramMisses': WHATEVER THE INPUT: true; the input reads as it did. -/
def fnProgramMissesSpec : ChangeSpec := { name := "fnProgramMisses", fn := fun _ => fun
  | [d1, d2] => { results := [.lit (.bool true)], args := [d1, d2] }
  | _ => none }
def fnProgramMissesRow : OpenClaim := { program := "ytdcjmccimcppbaagreat", sum := "b1e451db7f5923298e2e7b0406adeec090e0febbae442f7cb2ea3bc93db7b804", func := "loop.example/loopnests/laws.FnProgramMisses", spec := "fnProgramMisses", inPlace := ["internal/bytealg.IndexByteString", "internal/bytealg.IndexString", "slices.overlaps[loop.example/loopnests/impl.Loop]"], unfollowed := true, recurses := true, named := ["internal/bytealg.MaxLen"], apart := false }
def FnProgramMissesSaid : Prop := fnProgramMissesRow.holds Tryz.pinned (OpenSpec.ofChange fnProgramMissesSpec)

/-- ITS FALSE NEIGHBOUR: 'it returns false'. Refute it at one input. -/
def fnProgramMissesWrong : ChangeSpec := { name := "fnProgramMisses", fn := fun _ => fun
  | [d1, d2] => { results := [.lit (.bool false)], args := [d1, d2] }
  | _ => none }
def FnProgramMissesWrongFalsely : Prop := fnProgramMissesRow.holds Tryz.pinned (OpenSpec.ofChange fnProgramMissesWrong)

/-- 'laws.FnExactProgramMisses': WHATEVER THE INPUT: true; the input reads as it did. -/
def fnExactProgramMissesSpec : ChangeSpec := { name := "fnExactProgramMisses", fn := fun _ => fun
  | [d1, d2] => { results := [.lit (.bool true)], args := [d1, d2] }
  | _ => none }
def fnExactProgramMissesRow : OpenClaim := { program := "ytdcjmccimcppbaagreat", sum := "b1e451db7f5923298e2e7b0406adeec090e0febbae442f7cb2ea3bc93db7b804", func := "loop.example/loopnests/laws.FnExactProgramMisses", spec := "fnExactProgramMisses", inPlace := ["internal/bytealg.IndexByteString", "internal/bytealg.IndexString"], unfollowed := true, recurses := true, named := ["internal/bytealg.MaxLen"], loops := true, apart := false }
def FnExactProgramMissesSaid : Prop := fnExactProgramMissesRow.holds Tryz.pinned (OpenSpec.ofChange fnExactProgramMissesSpec)

/-- ITS FALSE NEIGHBOUR: 'it returns false'. Refute it at one input. -/
def fnExactProgramMissesWrong : ChangeSpec := { name := "fnExactProgramMisses", fn := fun _ => fun
  | [d1, d2] => { results := [.lit (.bool false)], args := [d1, d2] }
  | _ => none }
def FnExactProgramMissesWrongFalsely : Prop := fnExactProgramMissesRow.holds Tryz.pinned (OpenSpec.ofChange fnExactProgramMissesWrong)

/-- 'laws.FnExactCandidateSteps': WHATEVER THE INPUT: true; the input reads as it did. -/
def fnExactCandidateStepsSpec : ChangeSpec := { name := "fnExactCandidateSteps", fn := fun _ => fun
  | [d] => { results := [.lit (.bool true)], args := [d] }
  | _ => none }
def fnExactCandidateStepsRow : OpenClaim := { program := "ytdcjmccimcppbaagreat", sum := "b1e451db7f5923298e2e7b0406adeec090e0febbae442f7cb2ea3bc93db7b804", func := "loop.example/loopnests/laws.FnExactCandidateSteps", spec := "fnExactCandidateSteps", inPlace := ["internal/bytealg.IndexByteString", "internal/bytealg.IndexString"], unfollowed := true, recurses := true, named := ["internal/bytealg.MaxLen"], loops := true, apart := false }
def FnExactCandidateStepsSaid : Prop := fnExactCandidateStepsRow.holds Tryz.pinned (OpenSpec.ofChange fnExactCandidateStepsSpec)

/-- ITS FALSE NEIGHBOUR: 'it returns false'. Refute it at one input. -/
def fnExactCandidateStepsWrong : ChangeSpec := { name := "fnExactCandidateSteps", fn := fun _ => fun
  | [d] => { results := [.lit (.bool false)], args := [d] }
  | _ => none }
def FnExactCandidateStepsWrongFalsely : Prop := fnExactCandidateStepsRow.holds Tryz.pinned (OpenSpec.ofChange fnExactCandidateStepsWrong)

/-- 'laws.FnExactRunProgram': WHATEVER THE INPUT: true; the input reads as it did. -/
def fnExactRunProgramSpec : ChangeSpec := { name := "fnExactRunProgram", fn := fun _ => fun
  | [d1, d2] => { results := [.lit (.bool true)], args := [d1, d2] }
  | _ => none }
def fnExactRunProgramRow : OpenClaim := { program := "ytdcjmccimcppbaagreat", sum := "b1e451db7f5923298e2e7b0406adeec090e0febbae442f7cb2ea3bc93db7b804", func := "loop.example/loopnests/laws.FnExactRunProgram", spec := "fnExactRunProgram", inPlace := ["internal/bytealg.IndexByteString", "internal/bytealg.IndexString"], unfollowed := true, recurses := true, named := ["internal/bytealg.MaxLen"], loops := true, apart := false }
def FnExactRunProgramSaid : Prop := fnExactRunProgramRow.holds Tryz.pinned (OpenSpec.ofChange fnExactRunProgramSpec)

/-- ITS FALSE NEIGHBOUR: 'it returns false'. Refute it at one input. -/
def fnExactRunProgramWrong : ChangeSpec := { name := "fnExactRunProgram", fn := fun _ => fun
  | [d1, d2] => { results := [.lit (.bool false)], args := [d1, d2] }
  | _ => none }
def FnExactRunProgramWrongFalsely : Prop := fnExactRunProgramRow.holds Tryz.pinned (OpenSpec.ofChange fnExactRunProgramWrong)

/- THE SECOND FORM. 'bulk': how many values and letters a reading holds, each counted each time it is reached (what is shared counts as often as it is met; a slice's spare places count too). A statement '..UptoSaid' is the law's where the arguments, and the package variables that the reading takes, are together of bulk at most 1048576: NARROWER than '..Said'. Prove '..Said' where nothing that the law and all that it calls make is longer than what came in: it says more and counts as full. Else prove '..UptoSaid'. A law counts once. -/
mutual
def uptoBulk {H : Type} : DataW H → Nat
  | .lit (.string bytes) => bytes.length + 1
  | .lit _ => 1
  | .nil => 1
  | .ptr d => uptoBulk d + 1
  | .slice elems spare => uptoBulkAll elems + uptoBulkAll spare + 1
  | .agg parts => uptoBulkAll parts + 1
  | .iface _ d => uptoBulk d + 1
  | .map entries => uptoBulkEntries entries + 1
  | .held _ => 1
def uptoBulkAll {H : Type} : List (DataW H) → Nat
  | [] => 0
  | d :: r => uptoBulk d + uptoBulkAll r
def uptoBulkEntries {H : Type} : List (Lit × DataW H) → Nat
  | [] => 0
  | x :: r => uptoBulkEntry x + uptoBulkEntries r
def uptoBulkEntry {H : Type} : Lit × DataW H → Nat
  | (.string bytes, d) => bytes.length + uptoBulk d + 1
  | (_, d) => uptoBulk d + 1
 end
def uptoSmall : (H : Type) → List (DataW H) → Bool := fun _ ds => decide (uptoBulkAll ds ≤ 1048576)
def OpenSpec.upto (s : _root_.Go.ChangeSpec) : _root_.Go.OpenSpec := { _root_.Go.OpenSpec.ofChange s with cond := some uptoSmall }

/-- 'laws.FnFoldProgram', WHERE WHAT IT READS IS OF BULK AT MOST 1048576: true; the input reads as it did. -/
def fnFoldProgramUptoRow : OpenClaim := { program := "ytdcjmccimcppbaagreat", sum := "b1e451db7f5923298e2e7b0406adeec090e0febbae442f7cb2ea3bc93db7b804", func := "loop.example/loopnests/laws.FnFoldProgram", spec := "fnFoldProgram", inPlace := ["internal/bytealg.IndexByteString", "internal/bytealg.IndexString"], unfollowed := true, recurses := true, named := ["internal/bytealg.MaxLen"], apart := false, narrowed := true }
def FnFoldProgramUptoSaid : Prop := fnFoldProgramUptoRow.holds Tryz.pinned (OpenSpec.upto fnFoldProgramSpec)

/-- 'laws.FnSwapParts', WHERE WHAT IT READS IS OF BULK AT MOST 1048576: true; the input reads as it did. -/
def fnSwapPartsUptoRow : OpenClaim := { program := "ytdcjmccimcppbaagreat", sum := "b1e451db7f5923298e2e7b0406adeec090e0febbae442f7cb2ea3bc93db7b804", func := "loop.example/loopnests/laws.FnSwapParts", spec := "fnSwapParts", inPlace := ["internal/bytealg.IndexByteString", "internal/bytealg.IndexString"], unfollowed := true, recurses := true, named := ["internal/bytealg.MaxLen"], apart := false, narrowed := true }
def FnSwapPartsUptoSaid : Prop := fnSwapPartsUptoRow.holds Tryz.pinned (OpenSpec.upto fnSwapPartsSpec)

/-- 'laws.FnDropPart', WHERE WHAT IT READS IS OF BULK AT MOST 1048576: true; the input reads as it did. -/
def fnDropPartUptoRow : OpenClaim := { program := "ytdcjmccimcppbaagreat", sum := "b1e451db7f5923298e2e7b0406adeec090e0febbae442f7cb2ea3bc93db7b804", func := "loop.example/loopnests/laws.FnDropPart", spec := "fnDropPart", inPlace := ["internal/bytealg.IndexByteString", "internal/bytealg.IndexString"], unfollowed := true, recurses := true, named := ["internal/bytealg.MaxLen"], apart := false, narrowed := true }
def FnDropPartUptoSaid : Prop := fnDropPartUptoRow.holds Tryz.pinned (OpenSpec.upto fnDropPartSpec)

/-- 'laws.FnSplitLoop', WHERE WHAT IT READS IS OF BULK AT MOST 1048576: true; the input reads as it did. -/
def fnSplitLoopUptoRow : OpenClaim := { program := "ytdcjmccimcppbaagreat", sum := "b1e451db7f5923298e2e7b0406adeec090e0febbae442f7cb2ea3bc93db7b804", func := "loop.example/loopnests/laws.FnSplitLoop", spec := "fnSplitLoop", inPlace := ["internal/bytealg.IndexByteString", "internal/bytealg.IndexString", "slices.overlaps[loop.example/loopnests/impl.Part]"], unfollowed := true, recurses := true, named := ["internal/bytealg.MaxLen"], apart := false, narrowed := true }
def FnSplitLoopUptoSaid : Prop := fnSplitLoopUptoRow.holds Tryz.pinned (OpenSpec.upto fnSplitLoopSpec)

/-- 'laws.FnFuseParts', WHERE WHAT IT READS IS OF BULK AT MOST 1048576: true; the input reads as it did. -/
def fnFusePartsUptoRow : OpenClaim := { program := "ytdcjmccimcppbaagreat", sum := "b1e451db7f5923298e2e7b0406adeec090e0febbae442f7cb2ea3bc93db7b804", func := "loop.example/loopnests/laws.FnFuseParts", spec := "fnFuseParts", inPlace := ["internal/bytealg.IndexByteString", "internal/bytealg.IndexString"], unfollowed := true, recurses := true, named := ["internal/bytealg.MaxLen"], apart := false, narrowed := true }
def FnFusePartsUptoSaid : Prop := fnFusePartsUptoRow.holds Tryz.pinned (OpenSpec.upto fnFusePartsSpec)

/-- 'laws.FnDistributePart', WHERE WHAT IT READS IS OF BULK AT MOST 1048576: true; the input reads as it did. -/
def fnDistributePartUptoRow : OpenClaim := { program := "ytdcjmccimcppbaagreat", sum := "b1e451db7f5923298e2e7b0406adeec090e0febbae442f7cb2ea3bc93db7b804", func := "loop.example/loopnests/laws.FnDistributePart", spec := "fnDistributePart", inPlace := ["internal/bytealg.IndexByteString", "internal/bytealg.IndexString", "slices.overlaps[loop.example/loopnests/impl.Part]"], unfollowed := true, recurses := true, named := ["internal/bytealg.MaxLen"], apart := false, narrowed := true }
def FnDistributePartUptoSaid : Prop := fnDistributePartUptoRow.holds Tryz.pinned (OpenSpec.upto fnDistributePartSpec)

/-- 'laws.FnStripMine', WHERE WHAT IT READS IS OF BULK AT MOST 1048576: true; the input reads as it did. -/
def fnStripMineUptoRow : OpenClaim := { program := "ytdcjmccimcppbaagreat", sum := "b1e451db7f5923298e2e7b0406adeec090e0febbae442f7cb2ea3bc93db7b804", func := "loop.example/loopnests/laws.FnStripMine", spec := "fnStripMine", inPlace := ["internal/bytealg.IndexByteString", "internal/bytealg.IndexString", "slices.overlaps[loop.example/loopnests/impl.Loop]"], unfollowed := true, recurses := true, named := ["internal/bytealg.MaxLen"], apart := false, narrowed := true }
def FnStripMineUptoSaid : Prop := fnStripMineUptoRow.holds Tryz.pinned (OpenSpec.upto fnStripMineSpec)

/-- 'laws.FnMissesZero', WHERE WHAT IT READS IS OF BULK AT MOST 1048576: true; the input reads as it did. -/
def fnMissesZeroUptoRow : OpenClaim := { program := "ytdcjmccimcppbaagreat", sum := "b1e451db7f5923298e2e7b0406adeec090e0febbae442f7cb2ea3bc93db7b804", func := "loop.example/loopnests/laws.FnMissesZero", spec := "fnMissesZero", inPlace := ["internal/bytealg.IndexByteString", "internal/bytealg.IndexString"], unfollowed := true, recurses := true, named := ["internal/bytealg.MaxLen"], apart := false, narrowed := true }
def FnMissesZeroUptoSaid : Prop := fnMissesZeroUptoRow.holds Tryz.pinned (OpenSpec.upto fnMissesZeroSpec)

/-- 'laws.FnProgramMisses', WHERE WHAT IT READS IS OF BULK AT MOST 1048576: true; the input reads as it did. -/
def fnProgramMissesUptoRow : OpenClaim := { program := "ytdcjmccimcppbaagreat", sum := "b1e451db7f5923298e2e7b0406adeec090e0febbae442f7cb2ea3bc93db7b804", func := "loop.example/loopnests/laws.FnProgramMisses", spec := "fnProgramMisses", inPlace := ["internal/bytealg.IndexByteString", "internal/bytealg.IndexString", "slices.overlaps[loop.example/loopnests/impl.Loop]"], unfollowed := true, recurses := true, named := ["internal/bytealg.MaxLen"], apart := false, narrowed := true }
def FnProgramMissesUptoSaid : Prop := fnProgramMissesUptoRow.holds Tryz.pinned (OpenSpec.upto fnProgramMissesSpec)

/-- 'laws.FnExactProgramMisses', WHERE WHAT IT READS IS OF BULK AT MOST 1048576: true; the input reads as it did. -/
def fnExactProgramMissesUptoRow : OpenClaim := { program := "ytdcjmccimcppbaagreat", sum := "b1e451db7f5923298e2e7b0406adeec090e0febbae442f7cb2ea3bc93db7b804", func := "loop.example/loopnests/laws.FnExactProgramMisses", spec := "fnExactProgramMisses", inPlace := ["internal/bytealg.IndexByteString", "internal/bytealg.IndexString"], unfollowed := true, recurses := true, named := ["internal/bytealg.MaxLen"], loops := true, apart := false, narrowed := true }
def FnExactProgramMissesUptoSaid : Prop := fnExactProgramMissesUptoRow.holds Tryz.pinned (OpenSpec.upto fnExactProgramMissesSpec)

/-- 'laws.FnExactCandidateSteps', WHERE WHAT IT READS IS OF BULK AT MOST 1048576: true; the input reads as it did. -/
def fnExactCandidateStepsUptoRow : OpenClaim := { program := "ytdcjmccimcppbaagreat", sum := "b1e451db7f5923298e2e7b0406adeec090e0febbae442f7cb2ea3bc93db7b804", func := "loop.example/loopnests/laws.FnExactCandidateSteps", spec := "fnExactCandidateSteps", inPlace := ["internal/bytealg.IndexByteString", "internal/bytealg.IndexString"], unfollowed := true, recurses := true, named := ["internal/bytealg.MaxLen"], loops := true, apart := false, narrowed := true }
def FnExactCandidateStepsUptoSaid : Prop := fnExactCandidateStepsUptoRow.holds Tryz.pinned (OpenSpec.upto fnExactCandidateStepsSpec)

/-- 'laws.FnExactRunProgram', WHERE WHAT IT READS IS OF BULK AT MOST 1048576: true; the input reads as it did. -/
def fnExactRunProgramUptoRow : OpenClaim := { program := "ytdcjmccimcppbaagreat", sum := "b1e451db7f5923298e2e7b0406adeec090e0febbae442f7cb2ea3bc93db7b804", func := "loop.example/loopnests/laws.FnExactRunProgram", spec := "fnExactRunProgram", inPlace := ["internal/bytealg.IndexByteString", "internal/bytealg.IndexString"], unfollowed := true, recurses := true, named := ["internal/bytealg.MaxLen"], loops := true, apart := false, narrowed := true }
def FnExactRunProgramUptoSaid : Prop := fnExactRunProgramUptoRow.holds Tryz.pinned (OpenSpec.upto fnExactRunProgramSpec)

end Rows
end Go.Proofs.YtdcjmccimcppbaaGreat
