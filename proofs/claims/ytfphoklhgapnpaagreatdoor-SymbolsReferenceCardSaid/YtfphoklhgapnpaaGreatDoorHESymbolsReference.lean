/- Part 5 of a proof of the law SymbolsReference: Go data as trees, the walks of the functions that the law reaches, the plain laws. -/
import Derived.Test.YtfphoklhgapnpaaGreatDoorHASymbolsReference
import Derived.Test.YtfphoklhgapnpaaGreatDoorHCSymbolsReference
import Derived.Test.YtfphoklhgapnpaaGreatDoorHDSymbolsReference
import Derived.Stop.Joined
import Derived.WalkKit
import Derived.ProofKit
import Derived.ChangeOld
import Derived.KernelRfl
set_option linter.unusedVariables false
set_option linter.unusedSimpArgs false
namespace Go.Proofs.YtfphoklhgapnpaaGreatDoor.headY3
open Go.ChangeShapes Go.WideShapes Go.ChangeAt Go.RowKit
set_option maxRecDepth 100000 in
theorem closed:joinedFacts Tryz.prog 3 Tryz.f3 Rows.symbolsReferenceSpec Rows.symbolsReferenceRow=true:=by
  unfold joinedFacts;rw[headFacts.mayEnter,headFacts.liftsFinal,headFacts.make,headZ3.inPlace,headZ3.named,headV3.unfollowed,headV3.recurses]
  kernel_rfl
end Go.Proofs.YtfphoklhgapnpaaGreatDoor.headY3
