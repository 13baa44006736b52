/-
  No cell of these rows narrows 'for every input' (looked for: loops, veiled, ifaces, maps, wideKeys, modest, calm, conditions, laid).
  DERIVED. THE GIVEN ROWS OF THIS SEAT. 7 by the template 'for every input the law returns true; each argument reads behind the call as it read before'; 0 by the template 'total and deterministic' (their statements: YtjmaejilmokdgaaGreatTotals.lean).
  GIVEN WITH THE SEED: the statements are not yours to turn. If you find one false, say at which input.
  Laid BY PROGRAM, IN A SANDBOX (cutbox-rows.mjs): the forced cells as the released guide's own fill.sh prints them over the translation cd5f2a55ffd5b3dd… (all of the seat's roots in one cut). By AI agents, Wed Nov 11 2026. No macro, syntax, notation, axiom, sorry.
-/
import Derived.Test.YtjmaejilmokdgaaGreatChecked
import GoSem.Claim
import GoSem.ClaimJoined
import GoSem.ClaimMapViews
import Derived.JoinedTies
import Derived.KernelRfl
namespace Go.Proofs.YtjmaejilmokdgaaGreat
/- THE CELL 'sum', in the pinned program and in every row, IS THE sha256 OF THE DUMP (.gsa) THAT YtjmaejilmokdgaaGreatProg.lean LOADS. Nothing in Lean hashes anything: it is a label: what it is worth is what the hold of that sum in a sandbox is worth. -/
noncomputable def Tryz.pinned : Pinned := { name := "ytjmaejilmokdgaagreat", sum := "cd5f2a55ffd5b3dd0336947263f144e303ad579b485a0ade77c79fce4e90f05d", checked := Tryz.checked }
namespace Rows
def none {H : Type} : Left H := { results := [], args := [] }

/-- 'laws.FnReverseLoop': WHATEVER THE INPUT: true; the input reads as it did. -/
def fnReverseLoopSpec : ChangeSpec := { name := "fnReverseLoop", fn := fun _ => fun
  | [d1, d2] => { results := [.lit (.bool true)], args := [d1, d2] }
  | _ => none }
def fnReverseLoopRow : OpenClaim := { program := "ytjmaejilmokdgaagreat", sum := "cd5f2a55ffd5b3dd0336947263f144e303ad579b485a0ade77c79fce4e90f05d", func := "loop.example/loopnests/laws.FnReverseLoop", spec := "fnReverseLoop", inPlace := ["internal/bytealg.IndexByteString", "internal/bytealg.IndexString"], unfollowed := true, recurses := true, named := ["internal/bytealg.MaxLen"], apart := false }
def FnReverseLoopSaid : Prop := fnReverseLoopRow.holds Tryz.pinned (OpenSpec.ofChange fnReverseLoopSpec)

/-- ITS FALSE NEIGHBOUR: 'it returns false'. Refute it at one input. -/
def fnReverseLoopWrong : ChangeSpec := { name := "fnReverseLoop", fn := fun _ => fun
  | [d1, d2] => { results := [.lit (.bool false)], args := [d1, d2] }
  | _ => none }
def FnReverseLoopWrongFalsely : Prop := fnReverseLoopRow.holds Tryz.pinned (OpenSpec.ofChange fnReverseLoopWrong)

/-- 'laws.FnInterchange': WHATEVER THE INPUT: true; the input reads as it did. -/
def fnInterchangeSpec : ChangeSpec := { name := "fnInterchange", fn := fun _ => fun
  | [d1, d2] => { results := [.lit (.bool true)], args := [d1, d2] }
  | _ => none }
def fnInterchangeRow : OpenClaim := { program := "ytjmaejilmokdgaagreat", sum := "cd5f2a55ffd5b3dd0336947263f144e303ad579b485a0ade77c79fce4e90f05d", func := "loop.example/loopnests/laws.FnInterchange", spec := "fnInterchange", inPlace := ["internal/bytealg.IndexByteString", "internal/bytealg.IndexString"], unfollowed := true, recurses := true, named := ["internal/bytealg.MaxLen"], apart := false }
def FnInterchangeSaid : Prop := fnInterchangeRow.holds Tryz.pinned (OpenSpec.ofChange fnInterchangeSpec)

/-- ITS FALSE NEIGHBOUR: 'it returns false'. Refute it at one input. -/
def fnInterchangeWrong : ChangeSpec := { name := "fnInterchange", fn := fun _ => fun
  | [d1, d2] => { results := [.lit (.bool false)], args := [d1, d2] }
  | _ => none }
def FnInterchangeWrongFalsely : Prop := fnInterchangeRow.holds Tryz.pinned (OpenSpec.ofChange fnInterchangeWrong)

/-- 'laws.FnInterchangeTwice': WHATEVER THE INPUT: true; the input reads as it did. -/
def fnInterchangeTwiceSpec : ChangeSpec := { name := "fnInterchangeTwice", fn := fun _ => fun
  | [d] => { results := [.lit (.bool true)], args := [d] }
  | _ => none }
def fnInterchangeTwiceRow : OpenClaim := { program := "ytjmaejilmokdgaagreat", sum := "cd5f2a55ffd5b3dd0336947263f144e303ad579b485a0ade77c79fce4e90f05d", func := "loop.example/loopnests/laws.FnInterchangeTwice", spec := "fnInterchangeTwice", inPlace := ["internal/bytealg.IndexByteString", "internal/bytealg.IndexString"], unfollowed := true, recurses := true, named := ["internal/bytealg.MaxLen"], apart := false }
def FnInterchangeTwiceSaid : Prop := fnInterchangeTwiceRow.holds Tryz.pinned (OpenSpec.ofChange fnInterchangeTwiceSpec)

/-- ITS FALSE NEIGHBOUR: 'it returns false'. Refute it at one input. -/
def fnInterchangeTwiceWrong : ChangeSpec := { name := "fnInterchangeTwice", fn := fun _ => fun
  | [d] => { results := [.lit (.bool false)], args := [d] }
  | _ => none }
def FnInterchangeTwiceWrongFalsely : Prop := fnInterchangeTwiceRow.holds Tryz.pinned (OpenSpec.ofChange fnInterchangeTwiceWrong)

/-- 'laws.FnTransformCount': WHATEVER THE INPUT: true; the input reads as it did. -/
def fnTransformCountSpec : ChangeSpec := { name := "fnTransformCount", fn := fun _ => fun
  | [d] => { results := [.lit (.bool true)], args := [d] }
  | _ => none }
def fnTransformCountRow : OpenClaim := { program := "ytjmaejilmokdgaagreat", sum := "cd5f2a55ffd5b3dd0336947263f144e303ad579b485a0ade77c79fce4e90f05d", func := "loop.example/loopnests/laws.FnTransformCount", spec := "fnTransformCount", inPlace := ["internal/bytealg.IndexByteString", "internal/bytealg.IndexString"], unfollowed := true, recurses := true, named := ["internal/bytealg.MaxLen"], apart := false }
def FnTransformCountSaid : Prop := fnTransformCountRow.holds Tryz.pinned (OpenSpec.ofChange fnTransformCountSpec)

/-- ITS FALSE NEIGHBOUR: 'it returns false'. Refute it at one input. -/
def fnTransformCountWrong : ChangeSpec := { name := "fnTransformCount", fn := fun _ => fun
  | [d] => { results := [.lit (.bool false)], args := [d] }
  | _ => none }
def FnTransformCountWrongFalsely : Prop := fnTransformCountRow.holds Tryz.pinned (OpenSpec.ofChange fnTransformCountWrong)

/-- 'laws.FnParallelReverse': WHATEVER THE INPUT: true; the input reads as it did. -/
def fnParallelReverseSpec : ChangeSpec := { name := "fnParallelReverse", fn := fun _ => fun
  | [d] => { results := [.lit (.bool true)], args := [d] }
  | _ => none }
def fnParallelReverseRow : OpenClaim := { program := "ytjmaejilmokdgaagreat", sum := "cd5f2a55ffd5b3dd0336947263f144e303ad579b485a0ade77c79fce4e90f05d", func := "loop.example/loopnests/laws.FnParallelReverse", spec := "fnParallelReverse", inPlace := ["internal/bytealg.IndexByteString", "internal/bytealg.IndexString"], unfollowed := true, recurses := true, named := ["internal/bytealg.MaxLen"], apart := false }
def FnParallelReverseSaid : Prop := fnParallelReverseRow.holds Tryz.pinned (OpenSpec.ofChange fnParallelReverseSpec)

/-- ITS FALSE NEIGHBOUR: 'it returns false'. Refute it at one input. -/
def fnParallelReverseWrong : ChangeSpec := { name := "fnParallelReverse", fn := fun _ => fun
  | [d] => { results := [.lit (.bool false)], args := [d] }
  | _ => none }
def FnParallelReverseWrongFalsely : Prop := fnParallelReverseRow.holds Tryz.pinned (OpenSpec.ofChange fnParallelReverseWrong)

/-- 'laws.FnSplitLoop': WHATEVER THE INPUT: true; the input reads as it did. -/
def fnSplitLoopSpec : ChangeSpec := { name := "fnSplitLoop", fn := fun _ => fun
  | [d1, d2] => { results := [.lit (.bool true)], args := [d1, d2] }
  | _ => none }
def fnSplitLoopRow : OpenClaim := { program := "ytjmaejilmokdgaagreat", sum := "cd5f2a55ffd5b3dd0336947263f144e303ad579b485a0ade77c79fce4e90f05d", func := "loop.example/loopnests/laws.FnSplitLoop", spec := "fnSplitLoop", inPlace := ["internal/bytealg.IndexByteString", "internal/bytealg.IndexString", "slices.overlaps[loop.example/loopnests/impl.Part]"], unfollowed := true, recurses := true, named := ["internal/bytealg.MaxLen"], apart := false }
def FnSplitLoopSaid : Prop := fnSplitLoopRow.holds Tryz.pinned (OpenSpec.ofChange fnSplitLoopSpec)

/-- ITS FALSE NEIGHBOUR: 'it returns false'. Refute it at one input. -/
def fnSplitLoopWrong : ChangeSpec := { name := "fnSplitLoop", fn := fun _ => fun
  | [d1, d2] => { results := [.lit (.bool false)], args := [d1, d2] }
  | _ => none }
def FnSplitLoopWrongFalsely : Prop := fnSplitLoopRow.holds Tryz.pinned (OpenSpec.ofChange fnSplitLoopWrong)

/-- 'laws.FnParallelRun': WHATEVER THE INPUT: true; the input reads as it did. -/
def fnParallelRunSpec : ChangeSpec := { name := "fnParallelRun", fn := fun _ => fun
  | [d] => { results := [.lit (.bool true)], args := [d] }
  | _ => none }
def fnParallelRunRow : OpenClaim := { program := "ytjmaejilmokdgaagreat", sum := "cd5f2a55ffd5b3dd0336947263f144e303ad579b485a0ade77c79fce4e90f05d", func := "loop.example/loopnests/laws.FnParallelRun", spec := "fnParallelRun", inPlace := ["internal/bytealg.IndexByteString", "internal/bytealg.IndexString"], unfollowed := true, recurses := true, named := ["internal/bytealg.MaxLen"], apart := false }
def FnParallelRunSaid : Prop := fnParallelRunRow.holds Tryz.pinned (OpenSpec.ofChange fnParallelRunSpec)

/-- ITS FALSE NEIGHBOUR: 'it returns false'. Refute it at one input. -/
def fnParallelRunWrong : ChangeSpec := { name := "fnParallelRun", fn := fun _ => fun
  | [d] => { results := [.lit (.bool false)], args := [d] }
  | _ => none }
def FnParallelRunWrongFalsely : Prop := fnParallelRunRow.holds Tryz.pinned (OpenSpec.ofChange fnParallelRunWrong)

/- THE SECOND FORM. 'bulk': how many values and letters a reading holds, each counted each time it is reached (what is shared counts as often as it is met; a slice's spare places count too). A statement '..UptoSaid' is the law's where the arguments, and the package variables that the reading takes, are together of bulk at most 1048576: NARROWER than '..Said'. Prove '..Said' where nothing that the law and all that it calls make is longer than what came in: it says more and counts as full. Else prove '..UptoSaid'. A law counts once. -/
mutual
def uptoBulk {H : Type} : DataW H → Nat
  | .lit (.string bytes) => bytes.length + 1
  | .lit _ => 1
  | .nil => 1
  | .ptr d => uptoBulk d + 1
  | .slice elems spare => uptoBulkAll elems + uptoBulkAll spare + 1
  | .agg parts => uptoBulkAll parts + 1
  | .iface _ d => uptoBulk d + 1
  | .map entries => uptoBulkEntries entries + 1
  | .held _ => 1
def uptoBulkAll {H : Type} : List (DataW H) → Nat
  | [] => 0
  | d :: r => uptoBulk d + uptoBulkAll r
def uptoBulkEntries {H : Type} : List (Lit × DataW H) → Nat
  | [] => 0
  | x :: r => uptoBulkEntry x + uptoBulkEntries r
def uptoBulkEntry {H : Type} : Lit × DataW H → Nat
  | (.string bytes, d) => bytes.length + uptoBulk d + 1
  | (_, d) => uptoBulk d + 1
 end
def uptoSmall : (H : Type) → List (DataW H) → Bool := fun _ ds => decide (uptoBulkAll ds ≤ 1048576)
def OpenSpec.upto (s : _root_.Go.ChangeSpec) : _root_.Go.OpenSpec := { _root_.Go.OpenSpec.ofChange s with cond := some uptoSmall }

/-- 'laws.FnReverseLoop', WHERE WHAT IT READS IS OF BULK AT MOST 1048576: true; the input reads as it did. -/
def fnReverseLoopUptoRow : OpenClaim := { program := "ytjmaejilmokdgaagreat", sum := "cd5f2a55ffd5b3dd0336947263f144e303ad579b485a0ade77c79fce4e90f05d", func := "loop.example/loopnests/laws.FnReverseLoop", spec := "fnReverseLoop", inPlace := ["internal/bytealg.IndexByteString", "internal/bytealg.IndexString"], unfollowed := true, recurses := true, named := ["internal/bytealg.MaxLen"], apart := false, narrowed := true }
def FnReverseLoopUptoSaid : Prop := fnReverseLoopUptoRow.holds Tryz.pinned (OpenSpec.upto fnReverseLoopSpec)

/-- 'laws.FnInterchange', WHERE WHAT IT READS IS OF BULK AT MOST 1048576: true; the input reads as it did. -/
def fnInterchangeUptoRow : OpenClaim := { program := "ytjmaejilmokdgaagreat", sum := "cd5f2a55ffd5b3dd0336947263f144e303ad579b485a0ade77c79fce4e90f05d", func := "loop.example/loopnests/laws.FnInterchange", spec := "fnInterchange", inPlace := ["internal/bytealg.IndexByteString", "internal/bytealg.IndexString"], unfollowed := true, recurses := true, named := ["internal/bytealg.MaxLen"], apart := false, narrowed := true }
def FnInterchangeUptoSaid : Prop := fnInterchangeUptoRow.holds Tryz.pinned (OpenSpec.upto fnInterchangeSpec)

/-- 'laws.FnInterchangeTwice', WHERE WHAT IT READS IS OF BULK AT MOST 1048576: true; the input reads as it did. -/
def fnInterchangeTwiceUptoRow : OpenClaim := { program := "ytjmaejilmokdgaagreat", sum := "cd5f2a55ffd5b3dd0336947263f144e303ad579b485a0ade77c79fce4e90f05d", func := "loop.example/loopnests/laws.FnInterchangeTwice", spec := "fnInterchangeTwice", inPlace := ["internal/bytealg.IndexByteString", "internal/bytealg.IndexString"], unfollowed := true, recurses := true, named := ["internal/bytealg.MaxLen"], apart := false, narrowed := true }
def FnInterchangeTwiceUptoSaid : Prop := fnInterchangeTwiceUptoRow.holds Tryz.pinned (OpenSpec.upto fnInterchangeTwiceSpec)

/-- 'laws.FnTransformCount', WHERE WHAT IT READS IS OF BULK AT MOST 1048576: true; the input reads as it did. -/
def fnTransformCountUptoRow : OpenClaim := { program := "ytjmaejilmokdgaagreat", sum := "cd5f2a55ffd5b3dd0336947263f144e303ad579b485a0ade77c79fce4e90f05d", func := "loop.example/loopnests/laws.FnTransformCount", spec := "fnTransformCount", inPlace := ["internal/bytealg.IndexByteString", "internal/bytealg.IndexString"], unfollowed := true, recurses := true, named := ["internal/bytealg.MaxLen"], apart := false, narrowed := true }
def FnTransformCountUptoSaid : Prop := fnTransformCountUptoRow.holds Tryz.pinned (OpenSpec.upto fnTransformCountSpec)

/-- 'laws.FnParallelReverse', WHERE WHAT IT READS IS OF BULK AT MOST 1048576: true; the input reads as it did. -/
def fnParallelReverseUptoRow : OpenClaim := { program := "ytjmaejilmokdgaagreat", sum := "cd5f2a55ffd5b3dd0336947263f144e303ad579b485a0ade77c79fce4e90f05d", func := "loop.example/loopnests/laws.FnParallelReverse", spec := "fnParallelReverse", inPlace := ["internal/bytealg.IndexByteString", "internal/bytealg.IndexString"], unfollowed := true, recurses := true, named := ["internal/bytealg.MaxLen"], apart := false, narrowed := true }
def FnParallelReverseUptoSaid : Prop := fnParallelReverseUptoRow.holds Tryz.pinned (OpenSpec.upto fnParallelReverseSpec)

/-- 'laws.FnSplitLoop', WHERE WHAT IT READS IS OF BULK AT MOST 1048576: true; the input reads as it did. -/
def fnSplitLoopUptoRow : OpenClaim := { program := "ytjmaejilmokdgaagreat", sum := "cd5f2a55ffd5b3dd0336947263f144e303ad579b485a0ade77c79fce4e90f05d", func := "loop.example/loopnests/laws.FnSplitLoop", spec := "fnSplitLoop", inPlace := ["internal/bytealg.IndexByteString", "internal/bytealg.IndexString", "slices.overlaps[loop.example/loopnests/impl.Part]"], unfollowed := true, recurses := true, named := ["internal/bytealg.MaxLen"], apart := false, narrowed := true }
def FnSplitLoopUptoSaid : Prop := fnSplitLoopUptoRow.holds Tryz.pinned (OpenSpec.upto fnSplitLoopSpec)

/-- 'laws.FnParallelRun', WHERE WHAT IT READS IS OF BULK AT MOST 1048576: true; the input reads as it did. -/
def fnParallelRunUptoRow : OpenClaim := { program := "ytjmaejilmokdgaagreat", sum := "cd5f2a55ffd5b3dd0336947263f144e303ad579b485a0ade77c79fce4e90f05d", func := "loop.example/loopnests/laws.FnParallelRun", spec := "fnParallelRun", inPlace := ["internal/bytealg.IndexByteString", "internal/bytealg.IndexString"], unfollowed := true, recurses := true, named := ["internal/bytealg.MaxLen"], apart := false, narrowed := true }
def FnParallelRunUptoSaid : Prop := fnParallelRunUptoRow.holds Tryz.pinned (OpenSpec.upto fnParallelRunSpec)

end Rows
end Go.Proofs.YtjmaejilmokdgaaGreat
