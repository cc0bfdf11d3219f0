/-
  NARROWER THAN 'FOR EVERY INPUT', by the rows' own cells (each row's printed sentence says how): FoldIsIdempotent: loops · FoldMatchesReference: loops.
  DERIVED. THE GIVEN ROWS OF THIS SEAT. 3 by the template 'for every input the law returns true; each argument reads behind the call as it read before'; 0 by the template 'total and deterministic' (their statements: YtdlejojjomibkaaTotals.lean).
  GIVEN WITH THE SEED: the statements are not yours to turn. If you find one false, say at which input.
  Laid BY PROGRAM, IN A SANDBOX (cutbox-rows.mjs): the forced cells as the released guide's own fill.sh prints them over the translation 13c8f1478fd5e572… (all of the seat's roots in one cut). By AI agents, Wed Nov 11 2026. No macro, syntax, notation, axiom, sorry.
-/
import Derived.Test.YtdlejojjomibkaaChecked
import GoSem.Claim
import GoSem.ClaimJoined
import GoSem.ClaimMapViews
import Derived.JoinedTies
import Derived.KernelRfl
namespace Go.Proofs.Ytdlejojjomibkaa
/- THE CELL 'sum', in the pinned program and in every row, IS THE sha256 OF THE DUMP (.gsa) THAT YtdlejojjomibkaaProg.lean LOADS. Nothing in Lean hashes anything: it is a label: what it is worth is what the hold of that sum in a sandbox is worth. -/
noncomputable def Try.pinned : Pinned := { name := "ytdlejojjomibkaa", sum := "13c8f1478fd5e5723902a1731f8d00d6c039ec6396253404c8b727c4e51713ba", checked := Try.checked }
namespace Rows
def none {H : Type} : Left H := { results := [], args := [] }

/-- 'glossatorkeep2.FoldIsIdempotent': WHATEVER THE INPUT: true; the input reads as it did. -/
def foldIsIdempotentSpec : ChangeSpec := { name := "foldIsIdempotent", fn := fun _ => fun
  | [d] => { results := [.lit (.bool true)], args := [d] }
  | _ => none }
def foldIsIdempotentRow : OpenClaim := { program := "ytdlejojjomibkaa", sum := "13c8f1478fd5e5723902a1731f8d00d6c039ec6396253404c8b727c4e51713ba", func := "glossator/glossatorkeep2.FoldIsIdempotent", spec := "foldIsIdempotent", recurses := true, loops := true, apart := false }
def FoldIsIdempotentSaid : Prop := foldIsIdempotentRow.holds Try.pinned (OpenSpec.ofChange foldIsIdempotentSpec)

/-- ITS FALSE NEIGHBOUR: 'it returns false'. Refute it at one input. -/
def foldIsIdempotentWrong : ChangeSpec := { name := "foldIsIdempotent", fn := fun _ => fun
  | [d] => { results := [.lit (.bool false)], args := [d] }
  | _ => none }
def FoldIsIdempotentWrongFalsely : Prop := foldIsIdempotentRow.holds Try.pinned (OpenSpec.ofChange foldIsIdempotentWrong)

/-- 'glossatorkeep2.FoldComputesArithmetic': WHATEVER THE INPUT: true; the input reads as it did. -/
def foldComputesArithmeticSpec : ChangeSpec := { name := "foldComputesArithmetic", fn := fun _ => fun
  | [d1, d2, d3] => { results := [.lit (.bool true)], args := [d1, d2, d3] }
  | _ => none }
def foldComputesArithmeticRow : OpenClaim := { program := "ytdlejojjomibkaa", sum := "13c8f1478fd5e5723902a1731f8d00d6c039ec6396253404c8b727c4e51713ba", func := "glossator/glossatorkeep2.FoldComputesArithmetic", spec := "foldComputesArithmetic", unfollowed := true, recurses := true, apart := false }
def FoldComputesArithmeticSaid : Prop := foldComputesArithmeticRow.holds Try.pinned (OpenSpec.ofChange foldComputesArithmeticSpec)

/-- ITS FALSE NEIGHBOUR: 'it returns false'. Refute it at one input. -/
def foldComputesArithmeticWrong : ChangeSpec := { name := "foldComputesArithmetic", fn := fun _ => fun
  | [d1, d2, d3] => { results := [.lit (.bool false)], args := [d1, d2, d3] }
  | _ => none }
def FoldComputesArithmeticWrongFalsely : Prop := foldComputesArithmeticRow.holds Try.pinned (OpenSpec.ofChange foldComputesArithmeticWrong)

/-- 'glossatorlaw2.FoldMatchesReference': WHATEVER THE INPUT: true; the input reads as it did. -/
def foldMatchesReferenceSpec : ChangeSpec := { name := "foldMatchesReference", fn := fun _ => fun
  | [d] => { results := [.lit (.bool true)], args := [d] }
  | _ => none }
def foldMatchesReferenceRow : OpenClaim := { program := "ytdlejojjomibkaa", sum := "13c8f1478fd5e5723902a1731f8d00d6c039ec6396253404c8b727c4e51713ba", func := "glossator/glossatorlaw2.FoldMatchesReference", spec := "foldMatchesReference", recurses := true, loops := true, apart := false }
def FoldMatchesReferenceSaid : Prop := foldMatchesReferenceRow.holds Try.pinned (OpenSpec.ofChange foldMatchesReferenceSpec)

/-- ITS FALSE NEIGHBOUR: 'it returns false'. Refute it at one input. -/
def foldMatchesReferenceWrong : ChangeSpec := { name := "foldMatchesReference", fn := fun _ => fun
  | [d] => { results := [.lit (.bool false)], args := [d] }
  | _ => none }
def FoldMatchesReferenceWrongFalsely : Prop := foldMatchesReferenceRow.holds Try.pinned (OpenSpec.ofChange foldMatchesReferenceWrong)

/- THE SECOND FORM. 'bulk': how many values and letters a reading holds, each counted each time it is reached (what is shared counts as often as it is met; a slice's spare places count too). A statement '..UptoSaid' is the law's where the arguments, and the package variables that the reading takes, are together of bulk at most 1048576: NARROWER than '..Said'. Prove '..Said' where nothing that the law and all that it calls make is longer than what came in: it says more and counts as full. Else prove '..UptoSaid'. A law counts once. -/
mutual
def uptoBulk {H : Type} : DataW H → Nat
  | .lit (.string bytes) => bytes.length + 1
  | .lit _ => 1
  | .nil => 1
  | .ptr d => uptoBulk d + 1
  | .slice elems spare => uptoBulkAll elems + uptoBulkAll spare + 1
  | .agg parts => uptoBulkAll parts + 1
  | .iface _ d => uptoBulk d + 1
  | .map entries => uptoBulkEntries entries + 1
  | .held _ => 1
def uptoBulkAll {H : Type} : List (DataW H) → Nat
  | [] => 0
  | d :: r => uptoBulk d + uptoBulkAll r
def uptoBulkEntries {H : Type} : List (Lit × DataW H) → Nat
  | [] => 0
  | x :: r => uptoBulkEntry x + uptoBulkEntries r
def uptoBulkEntry {H : Type} : Lit × DataW H → Nat
  | (.string bytes, d) => bytes.length + uptoBulk d + 1
  | (_, d) => uptoBulk d + 1
 end
def uptoSmall : (H : Type) → List (DataW H) → Bool := fun _ ds => decide (uptoBulkAll ds ≤ 1048576)
def OpenSpec.upto (s : _root_.Go.ChangeSpec) : _root_.Go.OpenSpec := { _root_.Go.OpenSpec.ofChange s with cond := some uptoSmall }

/-- 'glossatorkeep2.FoldIsIdempotent', WHERE WHAT IT READS IS OF BULK AT MOST 1048576: true; the input reads as it did. -/
def foldIsIdempotentUptoRow : OpenClaim := { program := "ytdlejojjomibkaa", sum := "13c8f1478fd5e5723902a1731f8d00d6c039ec6396253404c8b727c4e51713ba", func := "glossator/glossatorkeep2.FoldIsIdempotent", spec := "foldIsIdempotent", recurses := true, loops := true, apart := false, narrowed := true }
def FoldIsIdempotentUptoSaid : Prop := foldIsIdempotentUptoRow.holds Try.pinned (OpenSpec.upto foldIsIdempotentSpec)

/-- 'glossatorkeep2.FoldComputesArithmetic', WHERE WHAT IT READS IS OF BULK AT MOST 1048576: true; the input reads as it did. -/
def foldComputesArithmeticUptoRow : OpenClaim := { program := "ytdlejojjomibkaa", sum := "13c8f1478fd5e5723902a1731f8d00d6c039ec6396253404c8b727c4e51713ba", func := "glossator/glossatorkeep2.FoldComputesArithmetic", spec := "foldComputesArithmetic", unfollowed := true, recurses := true, apart := false, narrowed := true }
def FoldComputesArithmeticUptoSaid : Prop := foldComputesArithmeticUptoRow.holds Try.pinned (OpenSpec.upto foldComputesArithmeticSpec)

/-- 'glossatorlaw2.FoldMatchesReference', WHERE WHAT IT READS IS OF BULK AT MOST 1048576: true; the input reads as it did. -/
def foldMatchesReferenceUptoRow : OpenClaim := { program := "ytdlejojjomibkaa", sum := "13c8f1478fd5e5723902a1731f8d00d6c039ec6396253404c8b727c4e51713ba", func := "glossator/glossatorlaw2.FoldMatchesReference", spec := "foldMatchesReference", recurses := true, loops := true, apart := false, narrowed := true }
def FoldMatchesReferenceUptoSaid : Prop := foldMatchesReferenceUptoRow.holds Try.pinned (OpenSpec.upto foldMatchesReferenceSpec)

end Rows
end Go.Proofs.Ytdlejojjomibkaa
