/- Part 6 of a proof of the law LexerReference: Go data as trees, the walks of the functions that the law reaches, the plain laws. -/
import Derived.Test.YtcdpgegppjmdjaaDoorGELexerReference
import Derived.Test.YtcdpgegppjmdjaaDoorRows
set_option linter.unusedVariables false
set_option linter.unusedSimpArgs false
set_option maxRecDepth 100000
namespace Go.Proofs.YtcdpgegppjmdjaaDoor.headFacts
open Go.Abs
def restC : List Char := sg [97, 116, 32, 103, 108, 111, 115, 115, 97, 116, 111, 114, 47, 103, 108, 111, 115, 115, 97, 116, 111, 114, 108, 97, 119, 49, 46, 76, 101, 120, 101, 114, 82, 101, 102, 101, 114, 101, 110, 99, 101]
theorem io : Tryd.prog.initOrder = String.ofList (sg [104, 97, 114, 110, 101, 115, 115] ++ Char.ofNat 32 :: (sg [51, 54, 102, 57, 57, 54, 56, 55, 57, 56, 102, 49, 52, 98, 50, 55, 55, 48, 53, 101, 49, 53, 98, 57, 100, 100, 50, 97, 48, 98, 49, 97, 97, 55, 100, 102, 56, 98, 98, 97, 50, 55, 101, 56, 98, 54, 48, 55, 49, 57, 52, 99, 100, 99, 50, 101, 101, 48, 55, 53, 99, 49, 98, 49] ++ Char.ofNat 32 :: (sg [99, 117, 116] ++ Char.ofNat 32 :: restC))) := by kernel_rfl
theorem beh : behindMainWord (wordsSigns Tryd.prog.initOrder.toList) = "cut".toList :: wordsSigns restC := behind_of io (by decide) (by decide) (by decide) (by kernel_rfl) (by kernel_rfl)
theorem later : Tryd.prog.laysLater = false := by kernel_rfl
theorem refl : Tryd.prog.bearsReflect = false := by kernel_rfl
theorem door : Tryd.prog.doorFits [] = true := by kernel_rfl
theorem mayEnter : Tryd.prog.mayEnter = true := mayEnter_of beh later refl door
theorem liftsFinal : Tryd.prog.liftsFinal = false := liftsFinal_of beh
theorem make : Tryd.prog.make = some .cut := make_of beh
end Go.Proofs.YtcdpgegppjmdjaaDoor.headFacts
