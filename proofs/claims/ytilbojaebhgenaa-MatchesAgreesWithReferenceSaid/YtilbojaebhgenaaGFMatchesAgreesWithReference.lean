/- Part 6 of a proof of the law MatchesAgreesWithReference: Go data as trees, the walks of the functions that the law reaches, the plain laws. -/
import Derived.Test.YtilbojaebhgenaaGEMatchesAgreesWithReference
import Derived.Test.YtilbojaebhgenaaRows
set_option linter.unusedVariables false
set_option linter.unusedSimpArgs false
set_option maxRecDepth 100000
namespace Go.Proofs.Ytilbojaebhgenaa.headFacts
open Go.Abs
def restC : List Char := sg [97, 116, 32, 103, 108, 111, 115, 115, 97, 116, 111, 114, 47, 103, 108, 111, 115, 115, 97, 116, 111, 114, 107, 101, 101, 112, 50, 46, 65, 100, 100, 105, 110, 103, 82, 111, 119, 115, 80, 114, 101, 115, 101, 114, 118, 101, 115, 69, 120, 104, 97, 117, 115, 116, 105, 118, 101, 110, 101, 115, 115, 32, 103, 108, 111, 115, 115, 97, 116, 111, 114, 47, 103, 108, 111, 115, 115, 97, 116, 111, 114, 107, 101, 101, 112, 50, 46, 82, 101, 109, 111, 118, 105, 110, 103, 82, 101, 100, 117, 110, 100, 97, 110, 116, 82, 111, 119, 115, 32, 103, 108, 111, 115, 115, 97, 116, 111, 114, 47, 103, 108, 111, 115, 115, 97, 116, 111, 114, 107, 101, 101, 112, 50, 46, 69, 120, 104, 97, 117, 115, 116, 105, 118, 101, 110, 101, 115, 115, 73, 103, 110, 111, 114, 101, 115, 82, 111, 119, 79, 114, 100, 101, 114, 32, 103, 108, 111, 115, 115, 97, 116, 111, 114, 47, 103, 108, 111, 115, 115, 97, 116, 111, 114, 107, 101, 101, 112, 50, 46, 77, 105, 115, 115, 105, 110, 103, 82, 111, 119, 73, 115, 85, 110, 109, 97, 116, 99, 104, 101, 100, 32, 103, 108, 111, 115, 115, 97, 116, 111, 114, 47, 103, 108, 111, 115, 115, 97, 116, 111, 114, 108, 97, 119, 50, 46, 77, 97, 116, 99, 104, 101, 115, 65, 103, 114, 101, 101, 115, 87, 105, 116, 104, 82, 101, 102, 101, 114, 101, 110, 99, 101]
theorem io : Try.prog.initOrder = String.ofList (sg [104, 97, 114, 110, 101, 115, 115] ++ Char.ofNat 32 :: (sg [99, 53, 52, 48, 52, 57, 55, 51, 98, 51, 100, 54, 98, 101, 101, 57, 57, 48, 97, 53, 49, 48, 57, 99, 102, 57, 100, 55, 57, 56, 98, 54, 97, 97, 48, 52, 57, 102, 51, 100, 57, 53, 57, 100, 55, 49, 50, 52, 56, 50, 54, 98, 57, 54, 100, 51, 53, 99, 100, 54, 101, 102, 51, 97] ++ Char.ofNat 32 :: (sg [99, 117, 116] ++ Char.ofNat 32 :: restC))) := by kernel_rfl
theorem beh : behindMainWord (wordsSigns Try.prog.initOrder.toList) = "cut".toList :: wordsSigns restC := behind_of io (by decide) (by decide) (by decide) (by kernel_rfl) (by kernel_rfl)
theorem later : Try.prog.laysLater = false := by kernel_rfl
theorem refl : Try.prog.bearsReflect = false := by kernel_rfl
theorem door : Try.prog.doorFits [] = true := by kernel_rfl
theorem mayEnter : Try.prog.mayEnter = true := mayEnter_of beh later refl door
theorem liftsFinal : Try.prog.liftsFinal = false := liftsFinal_of beh
theorem make : Try.prog.make = some .cut := make_of beh
end Go.Proofs.Ytilbojaebhgenaa.headFacts
