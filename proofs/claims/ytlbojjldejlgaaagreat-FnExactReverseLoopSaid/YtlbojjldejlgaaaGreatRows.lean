/-
  NARROWER THAN 'FOR EVERY INPUT', by the rows' own cells (each row's printed sentence says how): FnExactSkewLoop: loops · FnExactShiftLoop: loops · FnExactStripMine: loops · FnExactInterchange: loops · FnExactReverseLoop: loops.
  DERIVED. THE GIVEN ROWS OF THIS SEAT. 5 by the template 'for every input the law returns true; each argument reads behind the call as it read before'; 0 by the template 'total and deterministic' (their statements: YtlbojjldejlgaaaGreatTotals.lean).
  GIVEN WITH THE SEED: the statements are not yours to turn. If you find one false, say at which input.
  Laid BY PROGRAM, IN A SANDBOX (cutbox-rows.mjs): the forced cells as the released guide's own fill.sh prints them over the translation 3a7c4fcd1287899c… (all of the seat's roots in one cut). By AI agents, Wed Nov 11 2026. No macro, syntax, notation, axiom, sorry.
-/
import Derived.Test.YtlbojjldejlgaaaGreatChecked
import GoSem.Claim
import GoSem.ClaimJoined
import GoSem.ClaimMapViews
import Derived.JoinedTies
import Derived.KernelRfl
namespace Go.Proofs.YtlbojjldejlgaaaGreat
/- THE CELL 'sum', in the pinned program and in every row, IS THE sha256 OF THE DUMP (.gsa) THAT YtlbojjldejlgaaaGreatProg.lean LOADS. Nothing in Lean hashes anything: it is a label: what it is worth is what the hold of that sum in a sandbox is worth. -/
noncomputable def Tryz.pinned : Pinned := { name := "ytlbojjldejlgaaagreat", sum := "3a7c4fcd1287899ceca452793c110adb31fb1f6a35a193816ea51cba06fdd8d2", checked := Tryz.checked }
namespace Rows
def none {H : Type} : Left H := { results := [], args := [] }

/-- 'laws.FnExactSkewLoop': WHATEVER THE INPUT: true; the input reads as it did. -/
def fnExactSkewLoopSpec : ChangeSpec := { name := "fnExactSkewLoop", fn := fun _ => fun
  | [d1, d2, d3, d4] => { results := [.lit (.bool true)], args := [d1, d2, d3, d4] }
  | _ => none }
def fnExactSkewLoopRow : OpenClaim := { program := "ytlbojjldejlgaaagreat", sum := "3a7c4fcd1287899ceca452793c110adb31fb1f6a35a193816ea51cba06fdd8d2", func := "loop.example/loopnests/laws.FnExactSkewLoop", spec := "fnExactSkewLoop", inPlace := ["internal/bytealg.IndexByteString", "internal/bytealg.IndexString"], unfollowed := true, recurses := true, named := ["internal/bytealg.MaxLen"], loops := true, apart := false }
def FnExactSkewLoopSaid : Prop := fnExactSkewLoopRow.holds Tryz.pinned (OpenSpec.ofChange fnExactSkewLoopSpec)

/-- ITS FALSE NEIGHBOUR: 'it returns false'. Refute it at one input. -/
def fnExactSkewLoopWrong : ChangeSpec := { name := "fnExactSkewLoop", fn := fun _ => fun
  | [d1, d2, d3, d4] => { results := [.lit (.bool false)], args := [d1, d2, d3, d4] }
  | _ => none }
def FnExactSkewLoopWrongFalsely : Prop := fnExactSkewLoopRow.holds Tryz.pinned (OpenSpec.ofChange fnExactSkewLoopWrong)

/-- 'laws.FnExactShiftLoop': WHATEVER THE INPUT: true; the input reads as it did. -/
def fnExactShiftLoopSpec : ChangeSpec := { name := "fnExactShiftLoop", fn := fun _ => fun
  | [d1, d2, d3, d4] => { results := [.lit (.bool true)], args := [d1, d2, d3, d4] }
  | _ => none }
def fnExactShiftLoopRow : OpenClaim := { program := "ytlbojjldejlgaaagreat", sum := "3a7c4fcd1287899ceca452793c110adb31fb1f6a35a193816ea51cba06fdd8d2", func := "loop.example/loopnests/laws.FnExactShiftLoop", spec := "fnExactShiftLoop", inPlace := ["internal/bytealg.IndexByteString", "internal/bytealg.IndexString"], unfollowed := true, recurses := true, named := ["internal/bytealg.MaxLen"], loops := true, apart := false }
def FnExactShiftLoopSaid : Prop := fnExactShiftLoopRow.holds Tryz.pinned (OpenSpec.ofChange fnExactShiftLoopSpec)

/-- ITS FALSE NEIGHBOUR: 'it returns false'. Refute it at one input. -/
def fnExactShiftLoopWrong : ChangeSpec := { name := "fnExactShiftLoop", fn := fun _ => fun
  | [d1, d2, d3, d4] => { results := [.lit (.bool false)], args := [d1, d2, d3, d4] }
  | _ => none }
def FnExactShiftLoopWrongFalsely : Prop := fnExactShiftLoopRow.holds Tryz.pinned (OpenSpec.ofChange fnExactShiftLoopWrong)

/-- 'laws.FnExactStripMine': WHATEVER THE INPUT: true; the input reads as it did. -/
def fnExactStripMineSpec : ChangeSpec := { name := "fnExactStripMine", fn := fun _ => fun
  | [d1, d2, d3, d4] => { results := [.lit (.bool true)], args := [d1, d2, d3, d4] }
  | _ => none }
def fnExactStripMineRow : OpenClaim := { program := "ytlbojjldejlgaaagreat", sum := "3a7c4fcd1287899ceca452793c110adb31fb1f6a35a193816ea51cba06fdd8d2", func := "loop.example/loopnests/laws.FnExactStripMine", spec := "fnExactStripMine", inPlace := ["internal/bytealg.IndexByteString", "internal/bytealg.IndexString", "slices.overlaps[loop.example/loopnests/impl.Loop]"], unfollowed := true, recurses := true, named := ["internal/bytealg.MaxLen"], loops := true, apart := false }
def FnExactStripMineSaid : Prop := fnExactStripMineRow.holds Tryz.pinned (OpenSpec.ofChange fnExactStripMineSpec)

/-- ITS FALSE NEIGHBOUR: 'it returns false'. Refute it at one input. -/
def fnExactStripMineWrong : ChangeSpec := { name := "fnExactStripMine", fn := fun _ => fun
  | [d1, d2, d3, d4] => { results := [.lit (.bool false)], args := [d1, d2, d3, d4] }
  | _ => none }
def FnExactStripMineWrongFalsely : Prop := fnExactStripMineRow.holds Tryz.pinned (OpenSpec.ofChange fnExactStripMineWrong)

/-- 'laws.FnExactInterchange': WHATEVER THE INPUT: true; the input reads as it did. -/
def fnExactInterchangeSpec : ChangeSpec := { name := "fnExactInterchange", fn := fun _ => fun
  | [d1, d2, d3] => { results := [.lit (.bool true)], args := [d1, d2, d3] }
  | _ => none }
def fnExactInterchangeRow : OpenClaim := { program := "ytlbojjldejlgaaagreat", sum := "3a7c4fcd1287899ceca452793c110adb31fb1f6a35a193816ea51cba06fdd8d2", func := "loop.example/loopnests/laws.FnExactInterchange", spec := "fnExactInterchange", inPlace := ["internal/bytealg.IndexByteString", "internal/bytealg.IndexString"], unfollowed := true, recurses := true, named := ["internal/bytealg.MaxLen"], loops := true, apart := false }
def FnExactInterchangeSaid : Prop := fnExactInterchangeRow.holds Tryz.pinned (OpenSpec.ofChange fnExactInterchangeSpec)

/-- ITS FALSE NEIGHBOUR: 'it returns false'. Refute it at one input. -/
def fnExactInterchangeWrong : ChangeSpec := { name := "fnExactInterchange", fn := fun _ => fun
  | [d1, d2, d3] => { results := [.lit (.bool false)], args := [d1, d2, d3] }
  | _ => none }
def FnExactInterchangeWrongFalsely : Prop := fnExactInterchangeRow.holds Tryz.pinned (OpenSpec.ofChange fnExactInterchangeWrong)

/-- 'laws.FnExactReverseLoop': WHATEVER THE INPUT: true; the input reads as it did. -/
def fnExactReverseLoopSpec : ChangeSpec := { name := "fnExactReverseLoop", fn := fun _ => fun
  | [d1, d2, d3] => { results := [.lit (.bool true)], args := [d1, d2, d3] }
  | _ => none }
def fnExactReverseLoopRow : OpenClaim := { program := "ytlbojjldejlgaaagreat", sum := "3a7c4fcd1287899ceca452793c110adb31fb1f6a35a193816ea51cba06fdd8d2", func := "loop.example/loopnests/laws.FnExactReverseLoop", spec := "fnExactReverseLoop", inPlace := ["internal/bytealg.IndexByteString", "internal/bytealg.IndexString"], unfollowed := true, recurses := true, named := ["internal/bytealg.MaxLen"], loops := true, apart := false }
def FnExactReverseLoopSaid : Prop := fnExactReverseLoopRow.holds Tryz.pinned (OpenSpec.ofChange fnExactReverseLoopSpec)

/-- ITS FALSE NEIGHBOUR: 'it returns false'. Refute it at one input. -/
def fnExactReverseLoopWrong : ChangeSpec := { name := "fnExactReverseLoop", fn := fun _ => fun
  | [d1, d2, d3] => { results := [.lit (.bool false)], args := [d1, d2, d3] }
  | _ => none }
def FnExactReverseLoopWrongFalsely : Prop := fnExactReverseLoopRow.holds Tryz.pinned (OpenSpec.ofChange fnExactReverseLoopWrong)

/- THE SECOND FORM. 'bulk': how many values and letters a reading holds, each counted each time it is reached (what is shared counts as often as it is met; a slice's spare places count too). A statement '..UptoSaid' is the law's where the arguments, and the package variables that the reading takes, are together of bulk at most 1048576: NARROWER than '..Said'. Prove '..Said' where nothing that the law and all that it calls make is longer than what came in: it says more and counts as full. Else prove '..UptoSaid'. A law counts once. -/
mutual
def uptoBulk {H : Type} : DataW H → Nat
  | .lit (.string bytes) => bytes.length + 1
  | .lit _ => 1
  | .nil => 1
  | .ptr d => uptoBulk d + 1
  | .slice elems spare => uptoBulkAll elems + uptoBulkAll spare + 1
  | .agg parts => uptoBulkAll parts + 1
  | .iface _ d => uptoBulk d + 1
  | .map entries => uptoBulkEntries entries + 1
  | .held _ => 1
def uptoBulkAll {H : Type} : List (DataW H) → Nat
  | [] => 0
  | d :: r => uptoBulk d + uptoBulkAll r
def uptoBulkEntries {H : Type} : List (Lit × DataW H) → Nat
  | [] => 0
  | x :: r => uptoBulkEntry x + uptoBulkEntries r
def uptoBulkEntry {H : Type} : Lit × DataW H → Nat
  | (.string bytes, d) => bytes.length + uptoBulk d + 1
  | (_, d) => uptoBulk d + 1
 end
def uptoSmall : (H : Type) → List (DataW H) → Bool := fun _ ds => decide (uptoBulkAll ds ≤ 1048576)
def OpenSpec.upto (s : _root_.Go.ChangeSpec) : _root_.Go.OpenSpec := { _root_.Go.OpenSpec.ofChange s with cond := some uptoSmall }

/-- 'laws.FnExactSkewLoop', WHERE WHAT IT READS IS OF BULK AT MOST 1048576: true; the input reads as it did. -/
def fnExactSkewLoopUptoRow : OpenClaim := { program := "ytlbojjldejlgaaagreat", sum := "3a7c4fcd1287899ceca452793c110adb31fb1f6a35a193816ea51cba06fdd8d2", func := "loop.example/loopnests/laws.FnExactSkewLoop", spec := "fnExactSkewLoop", inPlace := ["internal/bytealg.IndexByteString", "internal/bytealg.IndexString"], unfollowed := true, recurses := true, named := ["internal/bytealg.MaxLen"], loops := true, apart := false, narrowed := true }
def FnExactSkewLoopUptoSaid : Prop := fnExactSkewLoopUptoRow.holds Tryz.pinned (OpenSpec.upto fnExactSkewLoopSpec)

/-- 'laws.FnExactShiftLoop', WHERE WHAT IT READS IS OF BULK AT MOST 1048576: true; the input reads as it did. -/
def fnExactShiftLoopUptoRow : OpenClaim := { program := "ytlbojjldejlgaaagreat", sum := "3a7c4fcd1287899ceca452793c110adb31fb1f6a35a193816ea51cba06fdd8d2", func := "loop.example/loopnests/laws.FnExactShiftLoop", spec := "fnExactShiftLoop", inPlace := ["internal/bytealg.IndexByteString", "internal/bytealg.IndexString"], unfollowed := true, recurses := true, named := ["internal/bytealg.MaxLen"], loops := true, apart := false, narrowed := true }
def FnExactShiftLoopUptoSaid : Prop := fnExactShiftLoopUptoRow.holds Tryz.pinned (OpenSpec.upto fnExactShiftLoopSpec)

/-- 'laws.FnExactStripMine', WHERE WHAT IT READS IS OF BULK AT MOST 1048576: true; the input reads as it did. -/
def fnExactStripMineUptoRow : OpenClaim := { program := "ytlbojjldejlgaaagreat", sum := "3a7c4fcd1287899ceca452793c110adb31fb1f6a35a193816ea51cba06fdd8d2", func := "loop.example/loopnests/laws.FnExactStripMine", spec := "fnExactStripMine", inPlace := ["internal/bytealg.IndexByteString", "internal/bytealg.IndexString", "slices.overlaps[loop.example/loopnests/impl.Loop]"], unfollowed := true, recurses := true, named := ["internal/bytealg.MaxLen"], loops := true, apart := false, narrowed := true }
def FnExactStripMineUptoSaid : Prop := fnExactStripMineUptoRow.holds Tryz.pinned (OpenSpec.upto fnExactStripMineSpec)

/-- 'laws.FnExactInterchange', WHERE WHAT IT READS IS OF BULK AT MOST 1048576: true; the input reads as it did. -/
def fnExactInterchangeUptoRow : OpenClaim := { program := "ytlbojjldejlgaaagreat", sum := "3a7c4fcd1287899ceca452793c110adb31fb1f6a35a193816ea51cba06fdd8d2", func := "loop.example/loopnests/laws.FnExactInterchange", spec := "fnExactInterchange", inPlace := ["internal/bytealg.IndexByteString", "internal/bytealg.IndexString"], unfollowed := true, recurses := true, named := ["internal/bytealg.MaxLen"], loops := true, apart := false, narrowed := true }
def FnExactInterchangeUptoSaid : Prop := fnExactInterchangeUptoRow.holds Tryz.pinned (OpenSpec.upto fnExactInterchangeSpec)

/-- 'laws.FnExactReverseLoop', WHERE WHAT IT READS IS OF BULK AT MOST 1048576: true; the input reads as it did. -/
def fnExactReverseLoopUptoRow : OpenClaim := { program := "ytlbojjldejlgaaagreat", sum := "3a7c4fcd1287899ceca452793c110adb31fb1f6a35a193816ea51cba06fdd8d2", func := "loop.example/loopnests/laws.FnExactReverseLoop", spec := "fnExactReverseLoop", inPlace := ["internal/bytealg.IndexByteString", "internal/bytealg.IndexString"], unfollowed := true, recurses := true, named := ["internal/bytealg.MaxLen"], loops := true, apart := false, narrowed := true }
def FnExactReverseLoopUptoSaid : Prop := fnExactReverseLoopUptoRow.holds Tryz.pinned (OpenSpec.upto fnExactReverseLoopSpec)

end Rows
end Go.Proofs.YtlbojjldejlgaaaGreat
