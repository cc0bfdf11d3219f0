/- Part 2 of a proof of the law AstReference: Go data as trees, the walks of the functions that the law reaches, the plain laws. -/
import Derived.Test.YtfphoklhgapnpaaGreatDoorRows
import GoSem.ClaimGoes
import Derived.KernelRfl
set_option linter.unusedVariables false
set_option linter.unusedSimpArgs false
set_option maxRecDepth 100000
namespace Go.Proofs.YtfphoklhgapnpaaGreatDoor.headX5
theorem fnm:Tryz.prog.funcNamed "glossator/glossatorlaw1.AstReference" =some 5:=by kernel_rfl
theorem aPx:Tryz.prog.goes 5=false:=by kernel_rfl
theorem goes:false=Rows.astReferenceRow.goesBy Tryz.pinned.checked.prog:=by
  show false=(Tryz.prog.goesFrom "glossator/glossatorlaw1.AstReference" ||false);unfold Program.goesFrom;rw[fnm,Option.any_some,aPx];rfl
end Go.Proofs.YtfphoklhgapnpaaGreatDoor.headX5
