/- Part 6 of a proof of the law GreentreeReference: Go data as trees, the walks of the functions that the law reaches, the plain laws. -/
import Derived.Test.YtllfdppfagffiaaGEGreentreeReference
import Derived.Test.YtllfdppfagffiaaRows
set_option linter.unusedVariables false
set_option linter.unusedSimpArgs false
set_option maxRecDepth 100000
namespace Go.Proofs.Ytllfdppfagffiaa.headFacts
open Go.Abs
def restC : List Char := sg [97, 116, 32, 103, 108, 111, 115, 115, 97, 116, 111, 114, 47, 103, 108, 111, 115, 115, 97, 116, 111, 114, 108, 97, 119, 49, 46, 71, 114, 101, 101, 110, 116, 114, 101, 101, 82, 101, 102, 101, 114, 101, 110, 99, 101]
theorem io : Try.prog.initOrder = String.ofList (sg [104, 97, 114, 110, 101, 115, 115] ++ Char.ofNat 32 :: (sg [100, 99, 57, 100, 101, 57, 98, 48, 99, 98, 101, 51, 50, 101, 49, 55, 57, 57, 97, 51, 51, 102, 52, 100, 100, 49, 99, 102, 49, 102, 50, 53, 52, 50, 56, 98, 53, 97, 53, 98, 57, 57, 100, 52, 49, 100, 100, 101, 57, 57, 98, 101, 97, 54, 101, 99, 55, 99, 101, 52, 48, 48, 57, 57] ++ Char.ofNat 32 :: (sg [99, 117, 116] ++ Char.ofNat 32 :: restC))) := by kernel_rfl
theorem beh : behindMainWord (wordsSigns Try.prog.initOrder.toList) = "cut".toList :: wordsSigns restC := behind_of io (by decide) (by decide) (by decide) (by kernel_rfl) (by kernel_rfl)
theorem later : Try.prog.laysLater = false := by kernel_rfl
theorem refl : Try.prog.bearsReflect = false := by kernel_rfl
theorem door : Try.prog.doorFits [] = true := by kernel_rfl
theorem mayEnter : Try.prog.mayEnter = true := mayEnter_of beh later refl door
theorem liftsFinal : Try.prog.liftsFinal = false := liftsFinal_of beh
theorem make : Try.prog.make = some .cut := make_of beh
end Go.Proofs.Ytllfdppfagffiaa.headFacts
