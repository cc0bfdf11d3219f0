/- Part 10 of a proof of the law WorkspaceReference: Go data as trees, the walks of the functions that the law reaches, the plain laws. -/
import Derived.Test.YtciigdplioadeaaGreatDoorGIWorkspaceReference
import Derived.Test.YtciigdplioadeaaGreatDoorRows
set_option linter.unusedVariables false
set_option linter.unusedSimpArgs false
set_option maxRecDepth 100000
namespace Go.Proofs.YtciigdplioadeaaGreatDoor.headFacts
open Go.Abs
def restC : List Char := sg [97, 116, 32, 103, 108, 111, 115, 115, 97, 116, 111, 114, 47, 103, 108, 111, 115, 115, 97, 116, 111, 114, 108, 97, 119, 49, 46, 87, 111, 114, 107, 115, 112, 97, 99, 101, 82, 101, 102, 101, 114, 101, 110, 99, 101]
theorem io : Tryz.prog.initOrder = String.ofList (sg [104, 97, 114, 110, 101, 115, 115] ++ Char.ofNat 32 :: (sg [50, 49, 52, 53, 100, 57, 56, 100, 98, 53, 52, 99, 56, 56, 102, 49, 99, 101, 57, 56, 53, 100, 53, 98, 97, 50, 99, 98, 102, 101, 101, 55, 98, 49, 99, 98, 49, 52, 52, 57, 98, 100, 57, 100, 50, 57, 53, 97, 98, 101, 53, 99, 50, 57, 51, 97, 55, 57, 55, 102, 102, 53, 56, 100] ++ Char.ofNat 32 :: (sg [99, 117, 116] ++ Char.ofNat 32 :: restC))) := by kernel_rfl
theorem beh : behindMainWord (wordsSigns Tryz.prog.initOrder.toList) = "cut".toList :: wordsSigns restC := behind_of io (by decide) (by decide) (by decide) (by kernel_rfl) (by kernel_rfl)
theorem later : Tryz.prog.laysLater = false := by kernel_rfl
theorem refl : Tryz.prog.bearsReflect = false := by kernel_rfl
theorem door : Tryz.prog.doorFits [] = true := by kernel_rfl
theorem mayEnter : Tryz.prog.mayEnter = true := mayEnter_of beh later refl door
theorem liftsFinal : Tryz.prog.liftsFinal = false := liftsFinal_of beh
theorem make : Tryz.prog.make = some .cut := make_of beh
end Go.Proofs.YtciigdplioadeaaGreatDoor.headFacts
