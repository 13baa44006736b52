/-
  DERIVED. GIVEN WITH THE SEED: THE CARDS: each row of YtphjadokdbfccaaDoorRows.lean that lists a variable, with what it lists TIED to the program's text (the seventh form; the later family's looks); each row that meets fmt, with fmt's text TOLD by the authors' own Lean function (tested against real Go, not proved from fmt's source: count such statements apart). THE CARD IS WHAT COUNTS. Prove the row's statement (the work); the ties are given (YtphjadokdbfccaaDoorTie.lean); close each card by the builder's one call (the guide's Derived/Test/ToyasCard.lean, 'card_holds'). Laid BY PROGRAM, IN A SANDBOX (cutbox-door.mjs). By AI agents, Wed Nov 11 2026. No macro, syntax, notation, axiom, sorry.
-/
import Derived.Test.YtphjadokdbfccaaDoorRows
import GoSem.ClaimSeven
namespace Go.Proofs.YtphjadokdbfccaaDoor
namespace Rows

/-- THE TIED CARD OF 'laws.FnStepsText'. -/
def fnStepsTextCard : Claim7 := { stood := { row := fnStepsTextRow, standIns := [], harness := (true, "a04e9341b8dc95c2fc71aea2b8087d09e30cd171522e5f45ea9e81e205b8b269"), looks := true }, kinds := [], alts := [], laidByText := true, laidKinds := [.data, .data, .data, .data, .sentinel, .sentinel, .pinned], laidTests := true, laidLooks := .later }
def FnStepsTextCardSaid : Prop := Claim7.holds Tryd.pinned (.plain (OpenSpec.ofChange fnStepsTextSpec)) fnStepsTextCard

/-- THE SECOND FORM's CARD OF 'laws.FnStepsText'. -/
def fnStepsTextUptoCard : Claim7 := { stood := { row := fnStepsTextUptoRow, standIns := [], harness := (true, "a04e9341b8dc95c2fc71aea2b8087d09e30cd171522e5f45ea9e81e205b8b269"), looks := true }, kinds := [], alts := [], laidByText := true, laidKinds := [.data, .data, .data, .data, .sentinel, .sentinel, .pinned], laidTests := true, laidLooks := .later }
def FnStepsTextUptoCardSaid : Prop := Claim7.holds Tryd.pinned (.plain (OpenSpec.upto fnStepsTextSpec)) fnStepsTextUptoCard
end Rows
end Go.Proofs.YtphjadokdbfccaaDoor
