/- Part 5 of a proof of the law AstReference: Go data as trees, the walks of the functions that the law reaches, the plain laws. -/
import Derived.Test.YtfphoklhgapnpaaGreatDoorHAAstReference
import Derived.Test.YtfphoklhgapnpaaGreatDoorHCAstReference
import Derived.Test.YtfphoklhgapnpaaGreatDoorHDAstReference
import Derived.Stop.Joined
import Derived.WalkKit
import Derived.ProofKit
import Derived.ChangeOld
import Derived.KernelRfl
set_option linter.unusedVariables false
set_option linter.unusedSimpArgs false
namespace Go.Proofs.YtfphoklhgapnpaaGreatDoor.headY5
open Go.ChangeShapes Go.WideShapes Go.ChangeAt Go.RowKit
set_option maxRecDepth 100000 in
theorem closed:joinedFacts Tryz.prog 5 Tryz.f5 Rows.astReferenceSpec Rows.astReferenceRow=true:=by
  unfold joinedFacts;rw[headFacts.mayEnter,headFacts.liftsFinal,headFacts.make,headZ5.inPlace,headZ5.named,headV5.unfollowed,headV5.recurses]
  kernel_rfl
end Go.Proofs.YtfphoklhgapnpaaGreatDoor.headY5
