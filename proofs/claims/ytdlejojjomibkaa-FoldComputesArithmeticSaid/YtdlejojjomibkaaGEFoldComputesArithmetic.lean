/- Part 5 of a proof of the law FoldComputesArithmetic: Go data as trees, the walks of the functions that the law reaches, the plain laws. -/
import Derived.Test.YtdlejojjomibkaaGDFoldComputesArithmetic
import Derived.Test.YtdlejojjomibkaaRows
set_option maxRecDepth 100000
namespace Go.Proofs.Ytdlejojjomibkaa.headFacts
open Go.Abs
def restC : List Char := sg [97, 116, 32, 103, 108, 111, 115, 115, 97, 116, 111, 114, 47, 103, 108, 111, 115, 115, 97, 116, 111, 114, 107, 101, 101, 112, 50, 46, 70, 111, 108, 100, 73, 115, 73, 100, 101, 109, 112, 111, 116, 101, 110, 116, 32, 103, 108, 111, 115, 115, 97, 116, 111, 114, 47, 103, 108, 111, 115, 115, 97, 116, 111, 114, 107, 101, 101, 112, 50, 46, 70, 111, 108, 100, 67, 111, 109, 112, 117, 116, 101, 115, 65, 114, 105, 116, 104, 109, 101, 116, 105, 99, 32, 103, 108, 111, 115, 115, 97, 116, 111, 114, 47, 103, 108, 111, 115, 115, 97, 116, 111, 114, 108, 97, 119, 50, 46, 70, 111, 108, 100, 77, 97, 116, 99, 104, 101, 115, 82, 101, 102, 101, 114, 101, 110, 99, 101]
theorem io : Try.prog.initOrder = String.ofList (sg [104, 97, 114, 110, 101, 115, 115] ++ Char.ofNat 32 :: (sg [54, 52, 97, 53, 102, 99, 57, 57, 56, 54, 51, 98, 55, 98, 49, 98, 52, 49, 52, 52, 49, 55, 101, 50, 54, 100, 99, 48, 98, 97, 102, 97, 54, 101, 102, 98, 53, 102, 97, 100, 98, 101, 48, 54, 54, 101, 97, 48, 51, 55, 55, 98, 56, 53, 48, 54, 55, 98, 49, 50, 51, 100, 97, 50] ++ Char.ofNat 32 :: (sg [99, 117, 116] ++ Char.ofNat 32 :: restC))) := by kernel_rfl
theorem beh : behindMainWord (wordsSigns Try.prog.initOrder.toList) = "cut".toList :: wordsSigns restC := behind_of io (by decide) (by decide) (by decide) (by kernel_rfl) (by kernel_rfl)
theorem later : Try.prog.laysLater = false := by kernel_rfl
theorem refl : Try.prog.bearsReflect = false := by kernel_rfl
theorem door : Try.prog.doorFits [] = true := by kernel_rfl
theorem mayEnter : Try.prog.mayEnter = true := mayEnter_of beh later refl door
theorem liftsFinal : Try.prog.liftsFinal = false := liftsFinal_of beh
theorem make : Try.prog.make = some .cut := make_of beh
end Go.Proofs.Ytdlejojjomibkaa.headFacts
