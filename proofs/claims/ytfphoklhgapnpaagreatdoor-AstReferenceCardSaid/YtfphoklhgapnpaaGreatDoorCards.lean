/-
  DERIVED. GIVEN WITH THE SEED: THE CARDS: each row of YtfphoklhgapnpaaGreatDoorRows.lean that lists a variable, with what it lists TIED to the program's text (the seventh form; the later family's looks); each row that meets fmt, with fmt's text TOLD by the authors' own Lean function (tested against real Go, not proved from fmt's source: count such statements apart). THE CARD IS WHAT COUNTS. Prove the row's statement (the work); the ties are given (YtfphoklhgapnpaaGreatDoorTie.lean); close each card by the builder's one call (the guide's Derived/Test/ToyasCard.lean, 'card_holds'). Laid BY PROGRAM, IN A SANDBOX (cutbox-door.mjs). By AI agents, Wed Nov 11 2026. No macro, syntax, notation, axiom, sorry.
-/
import Derived.Test.YtfphoklhgapnpaaGreatDoorRows
import GoSem.ClaimSeven
namespace Go.Proofs.YtfphoklhgapnpaaGreatDoor
namespace Rows

/-- THE TIED CARD OF 'glossatorlaw1.SymbolsReference'. -/
def symbolsReferenceCard : Claim7 := { stood := { row := symbolsReferenceRow, standIns := [], harness := (true, "58586767e47499d8a53e929851c2053c11c2f114e1f9bc2d65d0f33ed6db54cd"), looks := true }, kinds := [], alts := [], laidByText := true, laidKinds := [.data, .data, .data, .sentinel, .sentinel, .listed, .data], laidTests := true, laidLooks := .later }
def SymbolsReferenceCardSaid : Prop := Claim7.holds Tryz.pinned (.plain (OpenSpec.ofChange symbolsReferenceSpec)) symbolsReferenceCard

/-- THE TIED CARD OF 'glossatorlaw1.ExportsReference'. -/
def exportsReferenceCard : Claim7 := { stood := { row := exportsReferenceRow, standIns := [], harness := (true, "58586767e47499d8a53e929851c2053c11c2f114e1f9bc2d65d0f33ed6db54cd"), looks := true }, kinds := [], alts := [], laidByText := true, laidKinds := [.data, .data, .data, .sentinel, .sentinel, .listed, .data], laidTests := true, laidLooks := .later }
def ExportsReferenceCardSaid : Prop := Claim7.holds Tryz.pinned (.plain (OpenSpec.ofChange exportsReferenceSpec)) exportsReferenceCard

/-- THE TIED CARD OF 'glossatorlaw1.AstReference'. -/
def astReferenceCard : Claim7 := { stood := { row := astReferenceRow, standIns := [], harness := (true, "58586767e47499d8a53e929851c2053c11c2f114e1f9bc2d65d0f33ed6db54cd"), looks := true }, kinds := [], alts := [], laidByText := true, laidKinds := [.data, .data, .data, .sentinel, .sentinel, .listed, .data], laidTests := true, laidLooks := .later }
def AstReferenceCardSaid : Prop := Claim7.holds Tryz.pinned (.plain (OpenSpec.ofChange astReferenceSpec)) astReferenceCard

/-- THE SECOND FORM's CARD OF 'glossatorlaw1.SymbolsReference'. -/
def symbolsReferenceUptoCard : Claim7 := { stood := { row := symbolsReferenceUptoRow, standIns := [], harness := (true, "58586767e47499d8a53e929851c2053c11c2f114e1f9bc2d65d0f33ed6db54cd"), looks := true }, kinds := [], alts := [], laidByText := true, laidKinds := [.data, .data, .data, .sentinel, .sentinel, .listed, .data], laidTests := true, laidLooks := .later }
def SymbolsReferenceUptoCardSaid : Prop := Claim7.holds Tryz.pinned (.plain (OpenSpec.upto symbolsReferenceSpec)) symbolsReferenceUptoCard

/-- THE SECOND FORM's CARD OF 'glossatorlaw1.ExportsReference'. -/
def exportsReferenceUptoCard : Claim7 := { stood := { row := exportsReferenceUptoRow, standIns := [], harness := (true, "58586767e47499d8a53e929851c2053c11c2f114e1f9bc2d65d0f33ed6db54cd"), looks := true }, kinds := [], alts := [], laidByText := true, laidKinds := [.data, .data, .data, .sentinel, .sentinel, .listed, .data], laidTests := true, laidLooks := .later }
def ExportsReferenceUptoCardSaid : Prop := Claim7.holds Tryz.pinned (.plain (OpenSpec.upto exportsReferenceSpec)) exportsReferenceUptoCard

/-- THE SECOND FORM's CARD OF 'glossatorlaw1.AstReference'. -/
def astReferenceUptoCard : Claim7 := { stood := { row := astReferenceUptoRow, standIns := [], harness := (true, "58586767e47499d8a53e929851c2053c11c2f114e1f9bc2d65d0f33ed6db54cd"), looks := true }, kinds := [], alts := [], laidByText := true, laidKinds := [.data, .data, .data, .sentinel, .sentinel, .listed, .data], laidTests := true, laidLooks := .later }
def AstReferenceUptoCardSaid : Prop := Claim7.holds Tryz.pinned (.plain (OpenSpec.upto astReferenceSpec)) astReferenceUptoCard
end Rows
end Go.Proofs.YtfphoklhgapnpaaGreatDoor
