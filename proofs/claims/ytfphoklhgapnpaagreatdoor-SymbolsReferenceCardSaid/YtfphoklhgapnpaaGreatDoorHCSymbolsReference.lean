/- Part 3 of a proof of the law SymbolsReference: Go data as trees, the walks of the functions that the law reaches, the plain laws. -/
import Derived.Test.YtfphoklhgapnpaaGreatDoorRows
import GoSem.ClaimGoes
import Derived.KernelRfl
set_option linter.unusedVariables false
set_option linter.unusedSimpArgs false
set_option maxRecDepth 100000
namespace Go.Proofs.YtfphoklhgapnpaaGreatDoor.headZ3
theorem inPlace:(Rows.symbolsReferenceRow.inPlace==Tryz.prog.inPlace 3)=true:=by kernel_rfl
theorem named:(Rows.symbolsReferenceRow.named==Tryz.prog.varsNamed 3)=true:=by kernel_rfl
end Go.Proofs.YtfphoklhgapnpaaGreatDoor.headZ3
