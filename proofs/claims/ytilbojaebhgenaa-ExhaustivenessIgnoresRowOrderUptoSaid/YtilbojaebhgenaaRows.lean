/-
  NARROWER THAN 'FOR EVERY INPUT', by the rows' own cells (each row's printed sentence says how): AddingRowsPreservesExhaustiveness: loops · RemovingRedundantRows: loops · ExhaustivenessIgnoresRowOrder: loops · MissingRowIsUnmatched: loops · MatchesAgreesWithReference: loops.
  DERIVED. THE GIVEN ROWS OF THIS SEAT. 5 by the template 'for every input the law returns true; each argument reads behind the call as it read before'; 0 by the template 'total and deterministic' (their statements: YtilbojaebhgenaaTotals.lean).
  GIVEN WITH THE SEED: the statements are not yours to turn. If you find one false, say at which input.
  Laid BY PROGRAM, IN A SANDBOX (cutbox-rows.mjs): the forced cells as the released guide's own fill.sh prints them over the translation 600efd15a9b103c5… (all of the seat's roots in one cut). By AI agents, Wed Nov 11 2026. No macro, syntax, notation, axiom, sorry.
-/
import Derived.Test.YtilbojaebhgenaaChecked
import GoSem.Claim
import GoSem.ClaimJoined
import GoSem.ClaimMapViews
import Derived.JoinedTies
import Derived.KernelRfl
namespace Go.Proofs.Ytilbojaebhgenaa
/- THE CELL 'sum', in the pinned program and in every row, IS THE sha256 OF THE DUMP (.gsa) THAT YtilbojaebhgenaaProg.lean LOADS. Nothing in Lean hashes anything: it is a label: what it is worth is what the hold of that sum in a sandbox is worth. -/
noncomputable def Try.pinned : Pinned := { name := "ytilbojaebhgenaa", sum := "600efd15a9b103c5cf91cf3361a04d3e27885b9f5bde31090aee2f7bf2ca0775", checked := Try.checked }
namespace Rows
def none {H : Type} : Left H := { results := [], args := [] }

/-- 'glossatorkeep2.AddingRowsPreservesExhaustiveness': WHATEVER THE INPUT: true; the input reads as it did. -/
def addingRowsPreservesExhaustivenessSpec : ChangeSpec := { name := "addingRowsPreservesExhaustiveness", fn := fun _ => fun
  | [d1, d2, d3, d4] => { results := [.lit (.bool true)], args := [d1, d2, d3, d4] }
  | _ => none }
def addingRowsPreservesExhaustivenessRow : OpenClaim := { program := "ytilbojaebhgenaa", sum := "600efd15a9b103c5cf91cf3361a04d3e27885b9f5bde31090aee2f7bf2ca0775", func := "glossator/glossatorkeep2.AddingRowsPreservesExhaustiveness", spec := "addingRowsPreservesExhaustiveness", unfollowed := true, recurses := true, loops := true, apart := false }
def AddingRowsPreservesExhaustivenessSaid : Prop := addingRowsPreservesExhaustivenessRow.holds Try.pinned (OpenSpec.ofChange addingRowsPreservesExhaustivenessSpec)

/-- ITS FALSE NEIGHBOUR: 'it returns false'. Refute it at one input. -/
def addingRowsPreservesExhaustivenessWrong : ChangeSpec := { name := "addingRowsPreservesExhaustiveness", fn := fun _ => fun
  | [d1, d2, d3, d4] => { results := [.lit (.bool false)], args := [d1, d2, d3, d4] }
  | _ => none }
def AddingRowsPreservesExhaustivenessWrongFalsely : Prop := addingRowsPreservesExhaustivenessRow.holds Try.pinned (OpenSpec.ofChange addingRowsPreservesExhaustivenessWrong)

/-- 'glossatorkeep2.RemovingRedundantRows': WHATEVER THE INPUT: true; the input reads as it did. -/
def removingRedundantRowsSpec : ChangeSpec := { name := "removingRedundantRows", fn := fun _ => fun
  | [d1, d2, d3] => { results := [.lit (.bool true)], args := [d1, d2, d3] }
  | _ => none }
def removingRedundantRowsRow : OpenClaim := { program := "ytilbojaebhgenaa", sum := "600efd15a9b103c5cf91cf3361a04d3e27885b9f5bde31090aee2f7bf2ca0775", func := "glossator/glossatorkeep2.RemovingRedundantRows", spec := "removingRedundantRows", unfollowed := true, recurses := true, loops := true, apart := false }
def RemovingRedundantRowsSaid : Prop := removingRedundantRowsRow.holds Try.pinned (OpenSpec.ofChange removingRedundantRowsSpec)

/-- ITS FALSE NEIGHBOUR: 'it returns false'. Refute it at one input. -/
def removingRedundantRowsWrong : ChangeSpec := { name := "removingRedundantRows", fn := fun _ => fun
  | [d1, d2, d3] => { results := [.lit (.bool false)], args := [d1, d2, d3] }
  | _ => none }
def RemovingRedundantRowsWrongFalsely : Prop := removingRedundantRowsRow.holds Try.pinned (OpenSpec.ofChange removingRedundantRowsWrong)

/-- 'glossatorkeep2.ExhaustivenessIgnoresRowOrder': WHATEVER THE INPUT: true; the input reads as it did. -/
def exhaustivenessIgnoresRowOrderSpec : ChangeSpec := { name := "exhaustivenessIgnoresRowOrder", fn := fun _ => fun
  | [d1, d2, d3] => { results := [.lit (.bool true)], args := [d1, d2, d3] }
  | _ => none }
def exhaustivenessIgnoresRowOrderRow : OpenClaim := { program := "ytilbojaebhgenaa", sum := "600efd15a9b103c5cf91cf3361a04d3e27885b9f5bde31090aee2f7bf2ca0775", func := "glossator/glossatorkeep2.ExhaustivenessIgnoresRowOrder", spec := "exhaustivenessIgnoresRowOrder", unfollowed := true, recurses := true, loops := true, apart := false }
def ExhaustivenessIgnoresRowOrderSaid : Prop := exhaustivenessIgnoresRowOrderRow.holds Try.pinned (OpenSpec.ofChange exhaustivenessIgnoresRowOrderSpec)

/-- ITS FALSE NEIGHBOUR: 'it returns false'. Refute it at one input. -/
def exhaustivenessIgnoresRowOrderWrong : ChangeSpec := { name := "exhaustivenessIgnoresRowOrder", fn := fun _ => fun
  | [d1, d2, d3] => { results := [.lit (.bool false)], args := [d1, d2, d3] }
  | _ => none }
def ExhaustivenessIgnoresRowOrderWrongFalsely : Prop := exhaustivenessIgnoresRowOrderRow.holds Try.pinned (OpenSpec.ofChange exhaustivenessIgnoresRowOrderWrong)

/-- 'glossatorkeep2.MissingRowIsUnmatched': WHATEVER THE INPUT: true; the input reads as it did. -/
def missingRowIsUnmatchedSpec : ChangeSpec := { name := "missingRowIsUnmatched", fn := fun _ => fun
  | [d1, d2, d3, d4] => { results := [.lit (.bool true)], args := [d1, d2, d3, d4] }
  | _ => none }
def missingRowIsUnmatchedRow : OpenClaim := { program := "ytilbojaebhgenaa", sum := "600efd15a9b103c5cf91cf3361a04d3e27885b9f5bde31090aee2f7bf2ca0775", func := "glossator/glossatorkeep2.MissingRowIsUnmatched", spec := "missingRowIsUnmatched", unfollowed := true, recurses := true, loops := true, apart := false }
def MissingRowIsUnmatchedSaid : Prop := missingRowIsUnmatchedRow.holds Try.pinned (OpenSpec.ofChange missingRowIsUnmatchedSpec)

/-- ITS FALSE NEIGHBOUR: 'it returns false'. Refute it at one input. -/
def missingRowIsUnmatchedWrong : ChangeSpec := { name := "missingRowIsUnmatched", fn := fun _ => fun
  | [d1, d2, d3, d4] => { results := [.lit (.bool false)], args := [d1, d2, d3, d4] }
  | _ => none }
def MissingRowIsUnmatchedWrongFalsely : Prop := missingRowIsUnmatchedRow.holds Try.pinned (OpenSpec.ofChange missingRowIsUnmatchedWrong)

/-- 'glossatorlaw2.MatchesAgreesWithReference': WHATEVER THE INPUT: true; the input reads as it did. -/
def matchesAgreesWithReferenceSpec : ChangeSpec := { name := "matchesAgreesWithReference", fn := fun _ => fun
  | [d1, d2] => { results := [.lit (.bool true)], args := [d1, d2] }
  | _ => none }
def matchesAgreesWithReferenceRow : OpenClaim := { program := "ytilbojaebhgenaa", sum := "600efd15a9b103c5cf91cf3361a04d3e27885b9f5bde31090aee2f7bf2ca0775", func := "glossator/glossatorlaw2.MatchesAgreesWithReference", spec := "matchesAgreesWithReference", unfollowed := true, recurses := true, loops := true, apart := false }
def MatchesAgreesWithReferenceSaid : Prop := matchesAgreesWithReferenceRow.holds Try.pinned (OpenSpec.ofChange matchesAgreesWithReferenceSpec)

/-- ITS FALSE NEIGHBOUR: 'it returns false'. Refute it at one input. -/
def matchesAgreesWithReferenceWrong : ChangeSpec := { name := "matchesAgreesWithReference", fn := fun _ => fun
  | [d1, d2] => { results := [.lit (.bool false)], args := [d1, d2] }
  | _ => none }
def MatchesAgreesWithReferenceWrongFalsely : Prop := matchesAgreesWithReferenceRow.holds Try.pinned (OpenSpec.ofChange matchesAgreesWithReferenceWrong)

/- THE SECOND FORM. 'bulk': how many values and letters a reading holds, each counted each time it is reached (what is shared counts as often as it is met; a slice's spare places count too). A statement '..UptoSaid' is the law's where the arguments, and the package variables that the reading takes, are together of bulk at most 1048576: NARROWER than '..Said'. Prove '..Said' where nothing that the law and all that it calls make is longer than what came in: it says more and counts as full. Else prove '..UptoSaid'. A law counts once. -/
mutual
def uptoBulk {H : Type} : DataW H → Nat
  | .lit (.string bytes) => bytes.length + 1
  | .lit _ => 1
  | .nil => 1
  | .ptr d => uptoBulk d + 1
  | .slice elems spare => uptoBulkAll elems + uptoBulkAll spare + 1
  | .agg parts => uptoBulkAll parts + 1
  | .iface _ d => uptoBulk d + 1
  | .map entries => uptoBulkEntries entries + 1
  | .held _ => 1
def uptoBulkAll {H : Type} : List (DataW H) → Nat
  | [] => 0
  | d :: r => uptoBulk d + uptoBulkAll r
def uptoBulkEntries {H : Type} : List (Lit × DataW H) → Nat
  | [] => 0
  | x :: r => uptoBulkEntry x + uptoBulkEntries r
def uptoBulkEntry {H : Type} : Lit × DataW H → Nat
  | (.string bytes, d) => bytes.length + uptoBulk d + 1
  | (_, d) => uptoBulk d + 1
 end
def uptoSmall : (H : Type) → List (DataW H) → Bool := fun _ ds => decide (uptoBulkAll ds ≤ 1048576)
def OpenSpec.upto (s : _root_.Go.ChangeSpec) : _root_.Go.OpenSpec := { _root_.Go.OpenSpec.ofChange s with cond := some uptoSmall }

/-- 'glossatorkeep2.AddingRowsPreservesExhaustiveness', WHERE WHAT IT READS IS OF BULK AT MOST 1048576: true; the input reads as it did. -/
def addingRowsPreservesExhaustivenessUptoRow : OpenClaim := { program := "ytilbojaebhgenaa", sum := "600efd15a9b103c5cf91cf3361a04d3e27885b9f5bde31090aee2f7bf2ca0775", func := "glossator/glossatorkeep2.AddingRowsPreservesExhaustiveness", spec := "addingRowsPreservesExhaustiveness", unfollowed := true, recurses := true, loops := true, apart := false, narrowed := true }
def AddingRowsPreservesExhaustivenessUptoSaid : Prop := addingRowsPreservesExhaustivenessUptoRow.holds Try.pinned (OpenSpec.upto addingRowsPreservesExhaustivenessSpec)

/-- 'glossatorkeep2.RemovingRedundantRows', WHERE WHAT IT READS IS OF BULK AT MOST 1048576: true; the input reads as it did. -/
def removingRedundantRowsUptoRow : OpenClaim := { program := "ytilbojaebhgenaa", sum := "600efd15a9b103c5cf91cf3361a04d3e27885b9f5bde31090aee2f7bf2ca0775", func := "glossator/glossatorkeep2.RemovingRedundantRows", spec := "removingRedundantRows", unfollowed := true, recurses := true, loops := true, apart := false, narrowed := true }
def RemovingRedundantRowsUptoSaid : Prop := removingRedundantRowsUptoRow.holds Try.pinned (OpenSpec.upto removingRedundantRowsSpec)

/-- 'glossatorkeep2.ExhaustivenessIgnoresRowOrder', WHERE WHAT IT READS IS OF BULK AT MOST 1048576: true; the input reads as it did. -/
def exhaustivenessIgnoresRowOrderUptoRow : OpenClaim := { program := "ytilbojaebhgenaa", sum := "600efd15a9b103c5cf91cf3361a04d3e27885b9f5bde31090aee2f7bf2ca0775", func := "glossator/glossatorkeep2.ExhaustivenessIgnoresRowOrder", spec := "exhaustivenessIgnoresRowOrder", unfollowed := true, recurses := true, loops := true, apart := false, narrowed := true }
def ExhaustivenessIgnoresRowOrderUptoSaid : Prop := exhaustivenessIgnoresRowOrderUptoRow.holds Try.pinned (OpenSpec.upto exhaustivenessIgnoresRowOrderSpec)

/-- 'glossatorkeep2.MissingRowIsUnmatched', WHERE WHAT IT READS IS OF BULK AT MOST 1048576: true; the input reads as it did. -/
def missingRowIsUnmatchedUptoRow : OpenClaim := { program := "ytilbojaebhgenaa", sum := "600efd15a9b103c5cf91cf3361a04d3e27885b9f5bde31090aee2f7bf2ca0775", func := "glossator/glossatorkeep2.MissingRowIsUnmatched", spec := "missingRowIsUnmatched", unfollowed := true, recurses := true, loops := true, apart := false, narrowed := true }
def MissingRowIsUnmatchedUptoSaid : Prop := missingRowIsUnmatchedUptoRow.holds Try.pinned (OpenSpec.upto missingRowIsUnmatchedSpec)

/-- 'glossatorlaw2.MatchesAgreesWithReference', WHERE WHAT IT READS IS OF BULK AT MOST 1048576: true; the input reads as it did. -/
def matchesAgreesWithReferenceUptoRow : OpenClaim := { program := "ytilbojaebhgenaa", sum := "600efd15a9b103c5cf91cf3361a04d3e27885b9f5bde31090aee2f7bf2ca0775", func := "glossator/glossatorlaw2.MatchesAgreesWithReference", spec := "matchesAgreesWithReference", unfollowed := true, recurses := true, loops := true, apart := false, narrowed := true }
def MatchesAgreesWithReferenceUptoSaid : Prop := matchesAgreesWithReferenceUptoRow.holds Try.pinned (OpenSpec.upto matchesAgreesWithReferenceSpec)

end Rows
end Go.Proofs.Ytilbojaebhgenaa
