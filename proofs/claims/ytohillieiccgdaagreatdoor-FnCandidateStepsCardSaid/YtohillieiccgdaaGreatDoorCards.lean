/-
  DERIVED. GIVEN WITH THE SEED: THE CARDS: each row of YtohillieiccgdaaGreatDoorRows.lean that lists a variable, with what it lists TIED to the program's text (the seventh form; the later family's looks); each row that meets fmt, with fmt's text TOLD by the authors' own Lean function (tested against real Go, not proved from fmt's source: count such statements apart). THE CARD IS WHAT COUNTS. Prove the row's statement (the work); the ties are given (YtohillieiccgdaaGreatDoorTie.lean); close each card by the builder's one call (the guide's Derived/Test/ToyasCard.lean, 'card_holds'). Laid BY PROGRAM, IN A SANDBOX (cutbox-door.mjs). By AI agents, Wed Nov 11 2026. No macro, syntax, notation, axiom, sorry.
-/
import Derived.Test.YtohillieiccgdaaGreatDoorRows
import GoSem.ClaimSeven
namespace Go.Proofs.YtohillieiccgdaaGreatDoor
namespace Rows

/-- THE TIED CARD OF 'laws.FnCandidateSteps'. -/
def fnCandidateStepsCard : Claim7 := { stood := { row := fnCandidateStepsRow, standIns := [], harness := (true, "40212b26bfcbb4ac0f235601db132b8de16029f8a25ddf1a845ba07ef97f72e5"), looks := false }, kinds := [], alts := [], laidByText := true, laidKinds := [.data, .data, .data], laidTests := true, laidLooks := .later }
def FnCandidateStepsCardSaid : Prop := Claim7.holds Tryz.pinned (.plain (OpenSpec.ofChange fnCandidateStepsSpec)) fnCandidateStepsCard

/-- THE SECOND FORM's CARD OF 'laws.FnCandidateSteps'. -/
def fnCandidateStepsUptoCard : Claim7 := { stood := { row := fnCandidateStepsUptoRow, standIns := [], harness := (true, "40212b26bfcbb4ac0f235601db132b8de16029f8a25ddf1a845ba07ef97f72e5"), looks := false }, kinds := [], alts := [], laidByText := true, laidKinds := [.data, .data, .data], laidTests := true, laidLooks := .later }
def FnCandidateStepsUptoCardSaid : Prop := Claim7.holds Tryz.pinned (.plain (OpenSpec.upto fnCandidateStepsSpec)) fnCandidateStepsUptoCard
end Rows
end Go.Proofs.YtohillieiccgdaaGreatDoor
