/-
  DERIVED. GIVEN WITH THE SEED: THE CARDS: each row of YtciigdplioadeaaGreatDoorRows.lean that lists a variable, with what it lists TIED to the program's text (the seventh form; the later family's looks); each row that meets fmt, with fmt's text TOLD by the authors' own Lean function (tested against real Go, not proved from fmt's source: count such statements apart). THE CARD IS WHAT COUNTS. Prove the row's statement (the work); the ties are given (YtciigdplioadeaaGreatDoorTie.lean); close each card by the builder's one call (the guide's Derived/Test/ToyasCard.lean, 'card_holds'). Laid BY PROGRAM, IN A SANDBOX (cutbox-door.mjs). By AI agents, Wed Nov 11 2026. No macro, syntax, notation, axiom, sorry.
-/
import Derived.Test.YtciigdplioadeaaGreatDoorRows
import GoSem.ClaimSeven
namespace Go.Proofs.YtciigdplioadeaaGreatDoor
namespace Rows

/-- THE TIED CARD OF 'glossatorlaw1.WorkspaceReference'. -/
def workspaceReferenceCard : Claim7 := { stood := { row := workspaceReferenceRow, standIns := [], harness := (true, "2145d98db54c88f1ce985d5ba2cbfee7b1cb1449bd9d295abe5c293a797ff58d"), looks := true }, kinds := [], alts := [], laidByText := true, laidKinds := [.data, .data, .data, .sentinel, .sentinel, .listed, .data], laidTests := true, laidLooks := .later }
def WorkspaceReferenceCardSaid : Prop := Claim7.holds Tryz.pinned (.plain (OpenSpec.ofChange workspaceReferenceSpec)) workspaceReferenceCard

/-- THE SECOND FORM's CARD OF 'glossatorlaw1.WorkspaceReference'. -/
def workspaceReferenceUptoCard : Claim7 := { stood := { row := workspaceReferenceUptoRow, standIns := [], harness := (true, "2145d98db54c88f1ce985d5ba2cbfee7b1cb1449bd9d295abe5c293a797ff58d"), looks := true }, kinds := [], alts := [], laidByText := true, laidKinds := [.data, .data, .data, .sentinel, .sentinel, .listed, .data], laidTests := true, laidLooks := .later }
def WorkspaceReferenceUptoCardSaid : Prop := Claim7.holds Tryz.pinned (.plain (OpenSpec.upto workspaceReferenceSpec)) workspaceReferenceUptoCard
end Rows
end Go.Proofs.YtciigdplioadeaaGreatDoor
