/-
  DERIVED. GIVEN WITH THE SEED: THE CARDS: each row of YtndpndmhoheloaaGreatDoorRows.lean that lists a variable, with what it lists TIED to the program's text (the seventh form; the later family's looks); each row that meets fmt, with fmt's text TOLD by the authors' own Lean function (tested against real Go, not proved from fmt's source: count such statements apart). THE CARD IS WHAT COUNTS. Prove the row's statement (the work); the ties are given (YtndpndmhoheloaaGreatDoorTie.lean); close each card by the builder's one call (the guide's Derived/Test/ToyasCard.lean, 'card_holds'). Laid BY PROGRAM, IN A SANDBOX (cutbox-door.mjs). By AI agents, Wed Nov 11 2026. No macro, syntax, notation, axiom, sorry.
-/
import Derived.Test.YtndpndmhoheloaaGreatDoorRows
import GoSem.ClaimSeven
namespace Go.Proofs.YtndpndmhoheloaaGreatDoor
namespace Rows

/-- THE TIED CARD OF 'glossatorlaw1.ServerReference'. -/
def serverReferenceCard : Claim7 := { stood := { row := serverReferenceRow, standIns := [], harness := (true, "4481fa4149d5292ca2adbe42ad0538354025371f96e7e26fd42275a5a30b9774"), looks := true }, kinds := [], alts := [], laidByText := true, laidKinds := [.listed, .data], laidTests := true, laidLooks := .later }
def ServerReferenceCardSaid : Prop := Claim7.holds Tryz.pinned (.plain (OpenSpec.ofChange serverReferenceSpec)) serverReferenceCard

/-- THE SECOND FORM's CARD OF 'glossatorlaw1.ServerReference'. -/
def serverReferenceUptoCard : Claim7 := { stood := { row := serverReferenceUptoRow, standIns := [], harness := (true, "4481fa4149d5292ca2adbe42ad0538354025371f96e7e26fd42275a5a30b9774"), looks := true }, kinds := [], alts := [], laidByText := true, laidKinds := [.listed, .data], laidTests := true, laidLooks := .later }
def ServerReferenceUptoCardSaid : Prop := Claim7.holds Tryz.pinned (.plain (OpenSpec.upto serverReferenceSpec)) serverReferenceUptoCard
end Rows
end Go.Proofs.YtndpndmhoheloaaGreatDoor
