/- Part 6 of a proof of the law PositionReference: Go data as trees, the walks of the functions that the law reaches, the plain laws. -/
import Derived.Test.YtgdedgpolhepmaaDoorGEPositionReference
import Derived.Test.YtgdedgpolhepmaaDoorRows
set_option linter.unusedVariables false
set_option linter.unusedSimpArgs false
set_option maxRecDepth 100000
namespace Go.Proofs.YtgdedgpolhepmaaDoor.headFacts
open Go.Abs
def restC : List Char := sg [97, 116, 32, 103, 108, 111, 115, 115, 97, 116, 111, 114, 47, 103, 108, 111, 115, 115, 97, 116, 111, 114, 108, 97, 119, 49, 46, 80, 111, 115, 105, 116, 105, 111, 110, 82, 101, 102, 101, 114, 101, 110, 99, 101]
theorem io : Tryd.prog.initOrder = String.ofList (sg [104, 97, 114, 110, 101, 115, 115] ++ Char.ofNat 32 :: (sg [56, 101, 49, 99, 54, 49, 97, 49, 55, 57, 49, 49, 54, 49, 52, 57, 98, 102, 102, 52, 49, 54, 49, 57, 98, 56, 55, 51, 53, 50, 101, 51, 56, 48, 97, 49, 100, 102, 49, 48, 97, 97, 99, 55, 98, 56, 100, 102, 57, 102, 97, 102, 54, 54, 50, 100, 49, 56, 56, 54, 55, 53, 56, 50] ++ Char.ofNat 32 :: (sg [99, 117, 116] ++ Char.ofNat 32 :: restC))) := by kernel_rfl
theorem beh : behindMainWord (wordsSigns Tryd.prog.initOrder.toList) = "cut".toList :: wordsSigns restC := behind_of io (by decide) (by decide) (by decide) (by kernel_rfl) (by kernel_rfl)
theorem later : Tryd.prog.laysLater = false := by kernel_rfl
theorem refl : Tryd.prog.bearsReflect = false := by kernel_rfl
theorem door : Tryd.prog.doorFits [] = true := by kernel_rfl
theorem mayEnter : Tryd.prog.mayEnter = true := mayEnter_of beh later refl door
theorem liftsFinal : Tryd.prog.liftsFinal = false := liftsFinal_of beh
theorem make : Tryd.prog.make = some .cut := make_of beh
end Go.Proofs.YtgdedgpolhepmaaDoor.headFacts
