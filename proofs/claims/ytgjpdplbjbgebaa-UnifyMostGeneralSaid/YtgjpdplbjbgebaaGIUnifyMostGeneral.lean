/- Part 9 of a proof of the law UnifyMostGeneral: Go data as trees, the walks of the functions that the law reaches, the plain laws. -/
import Derived.Test.YtgjpdplbjbgebaaGHUnifyMostGeneral
import Derived.Test.YtgjpdplbjbgebaaRows
set_option linter.unusedVariables false
set_option linter.unusedSimpArgs false
set_option maxRecDepth 100000
namespace Go.Proofs.Ytgjpdplbjbgebaa.headFacts
open Go.Abs
def restC : List Char := sg [97, 116, 32, 103, 108, 111, 115, 115, 97, 116, 111, 114, 47, 103, 108, 111, 115, 115, 97, 116, 111, 114, 108, 97, 119, 50, 46, 85, 110, 105, 102, 121, 77, 97, 116, 99, 104, 101, 115, 82, 101, 102, 101, 114, 101, 110, 99, 101, 32, 103, 108, 111, 115, 115, 97, 116, 111, 114, 47, 103, 108, 111, 115, 115, 97, 116, 111, 114, 107, 101, 101, 112, 50, 46, 85, 110, 105, 102, 121, 79, 114, 100, 101, 114, 73, 110, 100, 101, 112, 101, 110, 100, 101, 110, 116, 32, 103, 108, 111, 115, 115, 97, 116, 111, 114, 47, 103, 108, 111, 115, 115, 97, 116, 111, 114, 107, 101, 101, 112, 50, 46, 85, 110, 105, 102, 121, 83, 111, 108, 118, 101, 115, 69, 113, 117, 97, 116, 105, 111, 110, 115, 32, 103, 108, 111, 115, 115, 97, 116, 111, 114, 47, 103, 108, 111, 115, 115, 97, 116, 111, 114, 107, 101, 101, 112, 50, 46, 85, 110, 105, 102, 121, 77, 111, 110, 111, 116, 111, 110, 101, 32, 103, 108, 111, 115, 115, 97, 116, 111, 114, 47, 103, 108, 111, 115, 115, 97, 116, 111, 114, 107, 101, 101, 112, 50, 46, 85, 110, 105, 102, 121, 77, 111, 115, 116, 71, 101, 110, 101, 114, 97, 108]
theorem io : Try.prog.initOrder = String.ofList (sg [104, 97, 114, 110, 101, 115, 115] ++ Char.ofNat 32 :: (sg [51, 50, 98, 56, 49, 49, 98, 97, 51, 101, 97, 99, 54, 102, 102, 97, 99, 54, 52, 98, 48, 101, 53, 53, 54, 98, 100, 101, 49, 99, 57, 52, 54, 50, 57, 55, 54, 52, 50, 52, 53, 53, 102, 99, 98, 50, 54, 54, 56, 97, 49, 101, 49, 102, 101, 48, 55, 48, 55, 102, 99, 48, 51, 55] ++ Char.ofNat 32 :: (sg [99, 117, 116] ++ Char.ofNat 32 :: restC))) := by kernel_rfl
theorem beh : behindMainWord (wordsSigns Try.prog.initOrder.toList) = "cut".toList :: wordsSigns restC := behind_of io (by decide) (by decide) (by decide) (by kernel_rfl) (by kernel_rfl)
theorem later : Try.prog.laysLater = false := by kernel_rfl
theorem refl : Try.prog.bearsReflect = false := by kernel_rfl
theorem door : Try.prog.doorFits [] = true := by kernel_rfl
theorem mayEnter : Try.prog.mayEnter = true := mayEnter_of beh later refl door
theorem liftsFinal : Try.prog.liftsFinal = false := liftsFinal_of beh
theorem make : Try.prog.make = some .cut := make_of beh
end Go.Proofs.Ytgjpdplbjbgebaa.headFacts
