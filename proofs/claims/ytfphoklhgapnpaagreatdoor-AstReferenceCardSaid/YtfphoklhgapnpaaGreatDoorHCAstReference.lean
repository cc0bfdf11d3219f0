/- Part 3 of a proof of the law AstReference: Go data as trees, the walks of the functions that the law reaches, the plain laws. -/
import Derived.Test.YtfphoklhgapnpaaGreatDoorRows
import GoSem.ClaimGoes
import Derived.KernelRfl
set_option linter.unusedVariables false
set_option linter.unusedSimpArgs false
set_option maxRecDepth 100000
namespace Go.Proofs.YtfphoklhgapnpaaGreatDoor.headZ5
theorem inPlace:(Rows.astReferenceRow.inPlace==Tryz.prog.inPlace 5)=true:=by kernel_rfl
theorem named:(Rows.astReferenceRow.named==Tryz.prog.varsNamed 5)=true:=by kernel_rfl
end Go.Proofs.YtfphoklhgapnpaaGreatDoor.headZ5
