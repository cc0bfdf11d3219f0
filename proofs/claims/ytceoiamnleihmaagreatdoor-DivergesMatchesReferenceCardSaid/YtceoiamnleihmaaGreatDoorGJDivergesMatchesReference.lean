/- Part 10 of a proof of the law DivergesMatchesReference: Go data as trees, the walks of the functions that the law reaches, the plain laws. -/
import Derived.Test.YtceoiamnleihmaaGreatDoorGIDivergesMatchesReference
import Derived.Test.YtceoiamnleihmaaGreatDoorRows
set_option linter.unusedVariables false
set_option linter.unusedSimpArgs false
set_option maxRecDepth 100000
namespace Go.Proofs.YtceoiamnleihmaaGreatDoor.headFacts
open Go.Abs
def restC : List Char := sg [97, 116, 32, 103, 108, 111, 115, 115, 97, 116, 111, 114, 47, 103, 108, 111, 115, 115, 97, 116, 111, 114, 107, 101, 101, 112, 50, 46, 68, 105, 118, 101, 114, 103, 105, 110, 103, 66, 108, 111, 99, 107, 83, 116, 97, 121, 115, 68, 105, 118, 101, 114, 103, 105, 110, 103, 32, 103, 108, 111, 115, 115, 97, 116, 111, 114, 47, 103, 108, 111, 115, 115, 97, 116, 111, 114, 108, 97, 119, 50, 46, 68, 105, 118, 101, 114, 103, 101, 115, 77, 97, 116, 99, 104, 101, 115, 82, 101, 102, 101, 114, 101, 110, 99, 101]
theorem io : Tryz.prog.initOrder = String.ofList (sg [104, 97, 114, 110, 101, 115, 115] ++ Char.ofNat 32 :: (sg [102, 99, 54, 56, 52, 49, 50, 55, 98, 98, 51, 55, 54, 48, 57, 51, 101, 57, 50, 49, 55, 55, 55, 101, 51, 54, 52, 49, 98, 49, 56, 52, 97, 52, 102, 53, 100, 53, 53, 55, 100, 100, 53, 56, 50, 57, 98, 100, 52, 97, 102, 100, 48, 100, 56, 98, 56, 48, 102, 51, 51, 101, 98, 98] ++ Char.ofNat 32 :: (sg [99, 117, 116] ++ Char.ofNat 32 :: restC))) := by kernel_rfl
theorem beh : behindMainWord (wordsSigns Tryz.prog.initOrder.toList) = "cut".toList :: wordsSigns restC := behind_of io (by decide) (by decide) (by decide) (by kernel_rfl) (by kernel_rfl)
theorem later : Tryz.prog.laysLater = false := by kernel_rfl
theorem refl : Tryz.prog.bearsReflect = false := by kernel_rfl
theorem door : Tryz.prog.doorFits [] = true := by kernel_rfl
theorem mayEnter : Tryz.prog.mayEnter = true := mayEnter_of beh later refl door
theorem liftsFinal : Tryz.prog.liftsFinal = false := liftsFinal_of beh
theorem make : Tryz.prog.make = some .cut := make_of beh
end Go.Proofs.YtceoiamnleihmaaGreatDoor.headFacts
