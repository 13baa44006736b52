/-
  DERIVED. GIVEN WITH THE SEED: THE CARDS: each row of YtbgbodhagkdffaaGreatDoorRows.lean that lists a variable, with what it lists TIED to the program's text (the seventh form; the later family's looks); each row that meets fmt, with fmt's text TOLD by the authors' own Lean function (tested against real Go, not proved from fmt's source: count such statements apart). THE CARD IS WHAT COUNTS. Prove the row's statement (the work); the ties are given (YtbgbodhagkdffaaGreatDoorTie.lean); close each card by the builder's one call (the guide's Derived/Test/ToyasCard.lean, 'card_holds'). Laid BY PROGRAM, IN A SANDBOX (cutbox-door.mjs). By AI agents, Wed Nov 11 2026. No macro, syntax, notation, axiom, sorry.
-/
import Derived.Test.YtbgbodhagkdffaaGreatDoorRows
import GoSem.ClaimSeven
namespace Go.Proofs.YtbgbodhagkdffaaGreatDoor
namespace Rows

/-- THE TIED CARD OF 'laws.FnScriptSteps'. -/
def fnScriptStepsCard : Claim7 := { stood := { row := fnScriptStepsRow, standIns := [], harness := (true, "c2016a450e274d469767019519f116213bc8a3777404e1df68e8affcb4b84ad7"), looks := true }, kinds := [], alts := [], laidByText := true, laidKinds := [.data, .data, .data, .data, .sentinel, .sentinel, .pinned], laidTests := true, laidLooks := .later }
def FnScriptStepsCardSaid : Prop := Claim7.holds Tryz.pinned (.plain (OpenSpec.ofChange fnScriptStepsSpec)) fnScriptStepsCard

/-- THE SECOND FORM's CARD OF 'laws.FnScriptSteps'. -/
def fnScriptStepsUptoCard : Claim7 := { stood := { row := fnScriptStepsUptoRow, standIns := [], harness := (true, "c2016a450e274d469767019519f116213bc8a3777404e1df68e8affcb4b84ad7"), looks := true }, kinds := [], alts := [], laidByText := true, laidKinds := [.data, .data, .data, .data, .sentinel, .sentinel, .pinned], laidTests := true, laidLooks := .later }
def FnScriptStepsUptoCardSaid : Prop := Claim7.holds Tryz.pinned (.plain (OpenSpec.upto fnScriptStepsSpec)) fnScriptStepsUptoCard
end Rows
end Go.Proofs.YtbgbodhagkdffaaGreatDoor
