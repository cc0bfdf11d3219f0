/- Part 2 of a proof of the law SymbolsReference: Go data as trees, the walks of the functions that the law reaches, the plain laws. -/
import Derived.Test.YtfphoklhgapnpaaGreatDoorRows
import GoSem.ClaimGoes
import Derived.KernelRfl
set_option linter.unusedVariables false
set_option linter.unusedSimpArgs false
set_option maxRecDepth 100000
namespace Go.Proofs.YtfphoklhgapnpaaGreatDoor.headX3
theorem fnm:Tryz.prog.funcNamed "glossator/glossatorlaw1.SymbolsReference" =some 3:=by kernel_rfl
theorem aOd:Tryz.prog.goes 3=false:=by kernel_rfl
theorem goes:false=Rows.symbolsReferenceRow.goesBy Tryz.pinned.checked.prog:=by
  show false=(Tryz.prog.goesFrom "glossator/glossatorlaw1.SymbolsReference" ||false);unfold Program.goesFrom;rw[fnm,Option.any_some,aOd];rfl
end Go.Proofs.YtfphoklhgapnpaaGreatDoor.headX3
