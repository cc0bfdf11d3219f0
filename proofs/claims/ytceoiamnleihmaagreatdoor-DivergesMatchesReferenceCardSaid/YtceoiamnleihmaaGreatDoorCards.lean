/-
  DERIVED. GIVEN WITH THE SEED: THE CARDS: each row of YtceoiamnleihmaaGreatDoorRows.lean that lists a variable, with what it lists TIED to the program's text (the seventh form; the later family's looks); each row that meets fmt, with fmt's text TOLD by the authors' own Lean function (tested against real Go, not proved from fmt's source: count such statements apart). THE CARD IS WHAT COUNTS. Prove the row's statement (the work); the ties are given (YtceoiamnleihmaaGreatDoorTie.lean); close each card by the builder's one call (the guide's Derived/Test/ToyasCard.lean, 'card_holds'). Laid BY PROGRAM, IN A SANDBOX (cutbox-door.mjs). By AI agents, Wed Nov 11 2026. No macro, syntax, notation, axiom, sorry.
-/
import Derived.Test.YtceoiamnleihmaaGreatDoorRows
import GoSem.ClaimSeven
namespace Go.Proofs.YtceoiamnleihmaaGreatDoor
namespace Rows

/-- THE TIED CARD OF 'glossatorkeep2.DivergingBlockStaysDiverging'. -/
def divergingBlockStaysDivergingCard : Claim7 := { stood := { row := divergingBlockStaysDivergingRow, standIns := [], harness := (true, "fc684127bb376093e921777e3641b184a4f5d557dd5829bd4afd0d8b80f33ebb"), looks := true }, kinds := [], alts := [], laidByText := true, laidKinds := [.data, .data, .data, .sentinel, .sentinel, .listed, .data], laidTests := true, laidLooks := .later }
def DivergingBlockStaysDivergingCardSaid : Prop := Claim7.holds Tryz.pinned (.plain (OpenSpec.ofChange divergingBlockStaysDivergingSpec)) divergingBlockStaysDivergingCard

/-- THE TIED CARD OF 'glossatorlaw2.DivergesMatchesReference'. -/
def divergesMatchesReferenceCard : Claim7 := { stood := { row := divergesMatchesReferenceRow, standIns := [], harness := (true, "fc684127bb376093e921777e3641b184a4f5d557dd5829bd4afd0d8b80f33ebb"), looks := true }, kinds := [], alts := [], laidByText := true, laidKinds := [.data, .data, .data, .sentinel, .sentinel, .listed, .data], laidTests := true, laidLooks := .later }
def DivergesMatchesReferenceCardSaid : Prop := Claim7.holds Tryz.pinned (.plain (OpenSpec.ofChange divergesMatchesReferenceSpec)) divergesMatchesReferenceCard

/-- THE SECOND FORM's CARD OF 'glossatorkeep2.DivergingBlockStaysDiverging'. -/
def divergingBlockStaysDivergingUptoCard : Claim7 := { stood := { row := divergingBlockStaysDivergingUptoRow, standIns := [], harness := (true, "fc684127bb376093e921777e3641b184a4f5d557dd5829bd4afd0d8b80f33ebb"), looks := true }, kinds := [], alts := [], laidByText := true, laidKinds := [.data, .data, .data, .sentinel, .sentinel, .listed, .data], laidTests := true, laidLooks := .later }
def DivergingBlockStaysDivergingUptoCardSaid : Prop := Claim7.holds Tryz.pinned (.plain (OpenSpec.upto divergingBlockStaysDivergingSpec)) divergingBlockStaysDivergingUptoCard

/-- THE SECOND FORM's CARD OF 'glossatorlaw2.DivergesMatchesReference'. -/
def divergesMatchesReferenceUptoCard : Claim7 := { stood := { row := divergesMatchesReferenceUptoRow, standIns := [], harness := (true, "fc684127bb376093e921777e3641b184a4f5d557dd5829bd4afd0d8b80f33ebb"), looks := true }, kinds := [], alts := [], laidByText := true, laidKinds := [.data, .data, .data, .sentinel, .sentinel, .listed, .data], laidTests := true, laidLooks := .later }
def DivergesMatchesReferenceUptoCardSaid : Prop := Claim7.holds Tryz.pinned (.plain (OpenSpec.upto divergesMatchesReferenceSpec)) divergesMatchesReferenceUptoCard
end Rows
end Go.Proofs.YtceoiamnleihmaaGreatDoor
