/-
  DERIVED. GIVEN WITH THE SEED: THE CARDS: each row of YtihcoegdfbpngaaGreatDoorRows.lean that lists a variable, with what it lists TIED to the program's text (the seventh form; the later family's looks); each row that meets fmt, with fmt's text TOLD by the authors' own Lean function (tested against real Go, not proved from fmt's source: count such statements apart). THE CARD IS WHAT COUNTS. Prove the row's statement (the work); the ties are given (YtihcoegdfbpngaaGreatDoorTie.lean); close each card by the builder's one call (the guide's Derived/Test/ToyasCard.lean, 'card_holds'). Laid BY PROGRAM, IN A SANDBOX (cutbox-door.mjs). By AI agents, Wed Nov 11 2026. No macro, syntax, notation, axiom, sorry.
-/
import Derived.Test.YtihcoegdfbpngaaGreatDoorRows
import GoSem.ClaimSeven
namespace Go.Proofs.YtihcoegdfbpngaaGreatDoor
namespace Rows

/-- THE TIED CARD OF 'glossatorlaw1.RelexReference'. -/
def relexReferenceCard : Claim7 := { stood := { row := relexReferenceRow, standIns := [], harness := (true, "cbd1eceaf2f534171621cfc5d37f65f84afd2cda4c5433e12d9dc35a8fbe6817"), looks := false }, kinds := [], alts := [], laidByText := true, laidKinds := [.listed, .data], laidTests := true, laidLooks := .later }
def RelexReferenceCardSaid : Prop := Claim7.holds Tryz.pinned (.plain (OpenSpec.ofChange relexReferenceSpec)) relexReferenceCard

/-- THE SECOND FORM's CARD OF 'glossatorlaw1.RelexReference'. -/
def relexReferenceUptoCard : Claim7 := { stood := { row := relexReferenceUptoRow, standIns := [], harness := (true, "cbd1eceaf2f534171621cfc5d37f65f84afd2cda4c5433e12d9dc35a8fbe6817"), looks := false }, kinds := [], alts := [], laidByText := true, laidKinds := [.listed, .data], laidTests := true, laidLooks := .later }
def RelexReferenceUptoCardSaid : Prop := Claim7.holds Tryz.pinned (.plain (OpenSpec.upto relexReferenceSpec)) relexReferenceUptoCard
end Rows
end Go.Proofs.YtihcoegdfbpngaaGreatDoor
