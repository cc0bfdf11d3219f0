/- Part 4 of a proof of the law AstReference: Go data as trees, the walks of the functions that the law reaches, the plain laws. -/
import Derived.Test.YtfphoklhgapnpaaGreatDoorRows
import GoSem.ClaimGoes
import Derived.KernelRfl
set_option linter.unusedVariables false
set_option linter.unusedSimpArgs false
set_option maxRecDepth 100000
namespace Go.Proofs.YtfphoklhgapnpaaGreatDoor.headV5
theorem unfollowed:(Rows.astReferenceRow.unfollowed==Tryz.prog.unfollowed 5)=true:=by kernel_rfl
theorem recurses:(Rows.astReferenceRow.recurses==Tryz.prog.recurses 5)=true:=by kernel_rfl
end Go.Proofs.YtfphoklhgapnpaaGreatDoor.headV5
