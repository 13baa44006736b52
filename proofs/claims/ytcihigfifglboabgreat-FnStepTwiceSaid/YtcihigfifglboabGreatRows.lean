/-
  No cell of these rows narrows 'for every input' (looked for: loops, veiled, ifaces, maps, wideKeys, modest, calm, conditions, laid).
  DERIVED. THE GIVEN ROWS OF THIS SEAT. 5 by the template 'for every input the law returns true; each argument reads behind the call as it read before'; 0 by the template 'total and deterministic' (their statements: YtcihigfifglboabGreatTotals.lean).
  GIVEN WITH THE SEED: the statements are not yours to turn. If you find one false, say at which input.
  Laid BY PROGRAM, IN A SANDBOX (cutbox-rows.mjs): the forced cells as the released guide's own fill.sh prints them over the translation b8ff0a7bfb31dc7e… (all of the seat's roots in one cut). By AI agents, Wed Nov 11 2026. No macro, syntax, notation, axiom, sorry.
-/
import Derived.Test.YtcihigfifglboabGreatChecked
import GoSem.Claim
import GoSem.ClaimJoined
import GoSem.ClaimMapViews
import Derived.JoinedTies
import Derived.KernelRfl
namespace Go.Proofs.YtcihigfifglboabGreat
/- THE CELL 'sum', in the pinned program and in every row, IS THE sha256 OF THE DUMP (.gsa) THAT YtcihigfifglboabGreatProg.lean LOADS. Nothing in Lean hashes anything: it is a label: what it is worth is what the hold of that sum in a sandbox is worth. -/
noncomputable def Tryz.pinned : Pinned := { name := "ytcihigfifglboabgreat", sum := "b8ff0a7bfb31dc7e8264b3a98d338251e6f728ea906c54707b7e34bc8450b4dc", checked := Tryz.checked }
namespace Rows
def none {H : Type} : Left H := { results := [], args := [] }

/-- 'laws.FnTransformCount': WHATEVER THE INPUT: true; the input reads as it did. -/
def fnTransformCountSpec : ChangeSpec := { name := "fnTransformCount", fn := fun _ => fun
  | [d] => { results := [.lit (.bool true)], args := [d] }
  | _ => none }
def fnTransformCountRow : OpenClaim := { program := "ytcihigfifglboabgreat", sum := "b8ff0a7bfb31dc7e8264b3a98d338251e6f728ea906c54707b7e34bc8450b4dc", func := "loop.example/loopnests/laws.FnTransformCount", spec := "fnTransformCount", inPlace := ["internal/bytealg.IndexByteString", "internal/bytealg.IndexString"], unfollowed := true, recurses := true, named := ["internal/bytealg.MaxLen"], apart := false }
def FnTransformCountSaid : Prop := fnTransformCountRow.holds Tryz.pinned (OpenSpec.ofChange fnTransformCountSpec)

/-- ITS FALSE NEIGHBOUR: 'it returns false'. Refute it at one input. -/
def fnTransformCountWrong : ChangeSpec := { name := "fnTransformCount", fn := fun _ => fun
  | [d] => { results := [.lit (.bool false)], args := [d] }
  | _ => none }
def FnTransformCountWrongFalsely : Prop := fnTransformCountRow.holds Tryz.pinned (OpenSpec.ofChange fnTransformCountWrong)

/-- 'laws.FnStepsEmpty': WHATEVER THE INPUT: true; the input reads as it did. -/
def fnStepsEmptySpec : ChangeSpec := { name := "fnStepsEmpty", fn := fun _ => fun
  | [d] => { results := [.lit (.bool true)], args := [d] }
  | _ => none }
def fnStepsEmptyRow : OpenClaim := { program := "ytcihigfifglboabgreat", sum := "b8ff0a7bfb31dc7e8264b3a98d338251e6f728ea906c54707b7e34bc8450b4dc", func := "loop.example/loopnests/laws.FnStepsEmpty", spec := "fnStepsEmpty", inPlace := ["internal/bytealg.IndexByteString", "internal/bytealg.IndexString", "slices.overlaps[loop.example/loopnests/impl.Loop]", "slices.overlaps[loop.example/loopnests/impl.Part]"], unfollowed := true, recurses := true, named := ["internal/bytealg.MaxLen"], apart := false }
def FnStepsEmptySaid : Prop := fnStepsEmptyRow.holds Tryz.pinned (OpenSpec.ofChange fnStepsEmptySpec)

/-- ITS FALSE NEIGHBOUR: 'it returns false'. Refute it at one input. -/
def fnStepsEmptyWrong : ChangeSpec := { name := "fnStepsEmpty", fn := fun _ => fun
  | [d] => { results := [.lit (.bool false)], args := [d] }
  | _ => none }
def FnStepsEmptyWrongFalsely : Prop := fnStepsEmptyRow.holds Tryz.pinned (OpenSpec.ofChange fnStepsEmptyWrong)

/-- 'laws.FnStepsCompose': WHATEVER THE INPUT: true; the input reads as it did. -/
def fnStepsComposeSpec : ChangeSpec := { name := "fnStepsCompose", fn := fun _ => fun
  | [d1, d2] => { results := [.lit (.bool true)], args := [d1, d2] }
  | _ => none }
def fnStepsComposeRow : OpenClaim := { program := "ytcihigfifglboabgreat", sum := "b8ff0a7bfb31dc7e8264b3a98d338251e6f728ea906c54707b7e34bc8450b4dc", func := "loop.example/loopnests/laws.FnStepsCompose", spec := "fnStepsCompose", inPlace := ["internal/bytealg.IndexByteString", "internal/bytealg.IndexString", "slices.overlaps[loop.example/loopnests/impl.Loop]", "slices.overlaps[loop.example/loopnests/impl.Part]"], unfollowed := true, recurses := true, named := ["internal/bytealg.MaxLen"], apart := false }
def FnStepsComposeSaid : Prop := fnStepsComposeRow.holds Tryz.pinned (OpenSpec.ofChange fnStepsComposeSpec)

/-- ITS FALSE NEIGHBOUR: 'it returns false'. Refute it at one input. -/
def fnStepsComposeWrong : ChangeSpec := { name := "fnStepsCompose", fn := fun _ => fun
  | [d1, d2] => { results := [.lit (.bool false)], args := [d1, d2] }
  | _ => none }
def FnStepsComposeWrongFalsely : Prop := fnStepsComposeRow.holds Tryz.pinned (OpenSpec.ofChange fnStepsComposeWrong)

/-- 'laws.FnStepTwice': WHATEVER THE INPUT: true; the input reads as it did. -/
def fnStepTwiceSpec : ChangeSpec := { name := "fnStepTwice", fn := fun _ => fun
  | [d] => { results := [.lit (.bool true)], args := [d] }
  | _ => none }
def fnStepTwiceRow : OpenClaim := { program := "ytcihigfifglboabgreat", sum := "b8ff0a7bfb31dc7e8264b3a98d338251e6f728ea906c54707b7e34bc8450b4dc", func := "loop.example/loopnests/laws.FnStepTwice", spec := "fnStepTwice", inPlace := ["internal/bytealg.IndexByteString", "internal/bytealg.IndexString", "slices.overlaps[loop.example/loopnests/impl.Loop]", "slices.overlaps[loop.example/loopnests/impl.Part]"], unfollowed := true, recurses := true, named := ["internal/bytealg.MaxLen"], apart := false }
def FnStepTwiceSaid : Prop := fnStepTwiceRow.holds Tryz.pinned (OpenSpec.ofChange fnStepTwiceSpec)

/-- ITS FALSE NEIGHBOUR: 'it returns false'. Refute it at one input. -/
def fnStepTwiceWrong : ChangeSpec := { name := "fnStepTwice", fn := fun _ => fun
  | [d] => { results := [.lit (.bool false)], args := [d] }
  | _ => none }
def FnStepTwiceWrongFalsely : Prop := fnStepTwiceRow.holds Tryz.pinned (OpenSpec.ofChange fnStepTwiceWrong)

/-- 'laws.FnApplyStep': WHATEVER THE INPUT: true; the input reads as it did. -/
def fnApplyStepSpec : ChangeSpec := { name := "fnApplyStep", fn := fun _ => fun
  | [d1, d2] => { results := [.lit (.bool true)], args := [d1, d2] }
  | _ => none }
def fnApplyStepRow : OpenClaim := { program := "ytcihigfifglboabgreat", sum := "b8ff0a7bfb31dc7e8264b3a98d338251e6f728ea906c54707b7e34bc8450b4dc", func := "loop.example/loopnests/laws.FnApplyStep", spec := "fnApplyStep", inPlace := ["internal/bytealg.IndexByteString", "internal/bytealg.IndexString", "slices.overlaps[loop.example/loopnests/impl.Loop]", "slices.overlaps[loop.example/loopnests/impl.Part]"], unfollowed := true, recurses := true, named := ["internal/bytealg.MaxLen"], apart := false }
def FnApplyStepSaid : Prop := fnApplyStepRow.holds Tryz.pinned (OpenSpec.ofChange fnApplyStepSpec)

/-- ITS FALSE NEIGHBOUR: 'it returns false'. Refute it at one input. -/
def fnApplyStepWrong : ChangeSpec := { name := "fnApplyStep", fn := fun _ => fun
  | [d1, d2] => { results := [.lit (.bool false)], args := [d1, d2] }
  | _ => none }
def FnApplyStepWrongFalsely : Prop := fnApplyStepRow.holds Tryz.pinned (OpenSpec.ofChange fnApplyStepWrong)

/- THE SECOND FORM. 'bulk': how many values and letters a reading holds, each counted each time it is reached (what is shared counts as often as it is met; a slice's spare places count too). A statement '..UptoSaid' is the law's where the arguments, and the package variables that the reading takes, are together of bulk at most 1048576: NARROWER than '..Said'. Prove '..Said' where nothing that the law and all that it calls make is longer than what came in: it says more and counts as full. Else prove '..UptoSaid'. A law counts once. -/
mutual
def uptoBulk {H : Type} : DataW H → Nat
  | .lit (.string bytes) => bytes.length + 1
  | .lit _ => 1
  | .nil => 1
  | .ptr d => uptoBulk d + 1
  | .slice elems spare => uptoBulkAll elems + uptoBulkAll spare + 1
  | .agg parts => uptoBulkAll parts + 1
  | .iface _ d => uptoBulk d + 1
  | .map entries => uptoBulkEntries entries + 1
  | .held _ => 1
def uptoBulkAll {H : Type} : List (DataW H) → Nat
  | [] => 0
  | d :: r => uptoBulk d + uptoBulkAll r
def uptoBulkEntries {H : Type} : List (Lit × DataW H) → Nat
  | [] => 0
  | x :: r => uptoBulkEntry x + uptoBulkEntries r
def uptoBulkEntry {H : Type} : Lit × DataW H → Nat
  | (.string bytes, d) => bytes.length + uptoBulk d + 1
  | (_, d) => uptoBulk d + 1
 end
def uptoSmall : (H : Type) → List (DataW H) → Bool := fun _ ds => decide (uptoBulkAll ds ≤ 1048576)
def OpenSpec.upto (s : _root_.Go.ChangeSpec) : _root_.Go.OpenSpec := { _root_.Go.OpenSpec.ofChange s with cond := some uptoSmall }

/-- 'laws.FnTransformCount', WHERE WHAT IT READS IS OF BULK AT MOST 1048576: true; the input reads as it did. -/
def fnTransformCountUptoRow : OpenClaim := { program := "ytcihigfifglboabgreat", sum := "b8ff0a7bfb31dc7e8264b3a98d338251e6f728ea906c54707b7e34bc8450b4dc", func := "loop.example/loopnests/laws.FnTransformCount", spec := "fnTransformCount", inPlace := ["internal/bytealg.IndexByteString", "internal/bytealg.IndexString"], unfollowed := true, recurses := true, named := ["internal/bytealg.MaxLen"], apart := false, narrowed := true }
def FnTransformCountUptoSaid : Prop := fnTransformCountUptoRow.holds Tryz.pinned (OpenSpec.upto fnTransformCountSpec)

/-- 'laws.FnStepsEmpty', WHERE WHAT IT READS IS OF BULK AT MOST 1048576: true; the input reads as it did. -/
def fnStepsEmptyUptoRow : OpenClaim := { program := "ytcihigfifglboabgreat", sum := "b8ff0a7bfb31dc7e8264b3a98d338251e6f728ea906c54707b7e34bc8450b4dc", func := "loop.example/loopnests/laws.FnStepsEmpty", spec := "fnStepsEmpty", inPlace := ["internal/bytealg.IndexByteString", "internal/bytealg.IndexString", "slices.overlaps[loop.example/loopnests/impl.Loop]", "slices.overlaps[loop.example/loopnests/impl.Part]"], unfollowed := true, recurses := true, named := ["internal/bytealg.MaxLen"], apart := false, narrowed := true }
def FnStepsEmptyUptoSaid : Prop := fnStepsEmptyUptoRow.holds Tryz.pinned (OpenSpec.upto fnStepsEmptySpec)

/-- 'laws.FnStepsCompose', WHERE WHAT IT READS IS OF BULK AT MOST 1048576: true; the input reads as it did. -/
def fnStepsComposeUptoRow : OpenClaim := { program := "ytcihigfifglboabgreat", sum := "b8ff0a7bfb31dc7e8264b3a98d338251e6f728ea906c54707b7e34bc8450b4dc", func := "loop.example/loopnests/laws.FnStepsCompose", spec := "fnStepsCompose", inPlace := ["internal/bytealg.IndexByteString", "internal/bytealg.IndexString", "slices.overlaps[loop.example/loopnests/impl.Loop]", "slices.overlaps[loop.example/loopnests/impl.Part]"], unfollowed := true, recurses := true, named := ["internal/bytealg.MaxLen"], apart := false, narrowed := true }
def FnStepsComposeUptoSaid : Prop := fnStepsComposeUptoRow.holds Tryz.pinned (OpenSpec.upto fnStepsComposeSpec)

/-- 'laws.FnStepTwice', WHERE WHAT IT READS IS OF BULK AT MOST 1048576: true; the input reads as it did. -/
def fnStepTwiceUptoRow : OpenClaim := { program := "ytcihigfifglboabgreat", sum := "b8ff0a7bfb31dc7e8264b3a98d338251e6f728ea906c54707b7e34bc8450b4dc", func := "loop.example/loopnests/laws.FnStepTwice", spec := "fnStepTwice", inPlace := ["internal/bytealg.IndexByteString", "internal/bytealg.IndexString", "slices.overlaps[loop.example/loopnests/impl.Loop]", "slices.overlaps[loop.example/loopnests/impl.Part]"], unfollowed := true, recurses := true, named := ["internal/bytealg.MaxLen"], apart := false, narrowed := true }
def FnStepTwiceUptoSaid : Prop := fnStepTwiceUptoRow.holds Tryz.pinned (OpenSpec.upto fnStepTwiceSpec)

/-- 'laws.FnApplyStep', WHERE WHAT IT READS IS OF BULK AT MOST 1048576: true; the input reads as it did. -/
def fnApplyStepUptoRow : OpenClaim := { program := "ytcihigfifglboabgreat", sum := "b8ff0a7bfb31dc7e8264b3a98d338251e6f728ea906c54707b7e34bc8450b4dc", func := "loop.example/loopnests/laws.FnApplyStep", spec := "fnApplyStep", inPlace := ["internal/bytealg.IndexByteString", "internal/bytealg.IndexString", "slices.overlaps[loop.example/loopnests/impl.Loop]", "slices.overlaps[loop.example/loopnests/impl.Part]"], unfollowed := true, recurses := true, named := ["internal/bytealg.MaxLen"], apart := false, narrowed := true }
def FnApplyStepUptoSaid : Prop := fnApplyStepUptoRow.holds Tryz.pinned (OpenSpec.upto fnApplyStepSpec)

end Rows
end Go.Proofs.YtcihigfifglboabGreat
