/- Part 9 of a proof of the law RelexReference: Go data as trees, the walks of the functions that the law reaches, the plain laws. -/
import Derived.Test.YtihcoegdfbpngaaGreatDoorGHRelexReference
import Derived.Test.YtihcoegdfbpngaaGreatDoorRows
set_option linter.unusedVariables false
set_option linter.unusedSimpArgs false
set_option maxRecDepth 100000
namespace Go.Proofs.YtihcoegdfbpngaaGreatDoor.headFacts
open Go.Abs
def restC : List Char := sg [97, 116, 32, 103, 108, 111, 115, 115, 97, 116, 111, 114, 47, 103, 108, 111, 115, 115, 97, 116, 111, 114, 108, 97, 119, 49, 46, 82, 101, 108, 101, 120, 82, 101, 102, 101, 114, 101, 110, 99, 101]
theorem io : Tryz.prog.initOrder = String.ofList (sg [104, 97, 114, 110, 101, 115, 115] ++ Char.ofNat 32 :: (sg [99, 98, 100, 49, 101, 99, 101, 97, 102, 50, 102, 53, 51, 52, 49, 55, 49, 54, 50, 49, 99, 102, 99, 53, 100, 51, 55, 102, 54, 53, 102, 56, 52, 97, 102, 100, 50, 99, 100, 97, 52, 99, 53, 52, 51, 51, 101, 49, 50, 100, 57, 100, 99, 51, 53, 97, 56, 102, 98, 101, 54, 56, 49, 55] ++ Char.ofNat 32 :: (sg [99, 117, 116] ++ Char.ofNat 32 :: restC))) := by kernel_rfl
theorem beh : behindMainWord (wordsSigns Tryz.prog.initOrder.toList) = "cut".toList :: wordsSigns restC := behind_of io (by decide) (by decide) (by decide) (by kernel_rfl) (by kernel_rfl)
theorem later : Tryz.prog.laysLater = false := by kernel_rfl
theorem refl : Tryz.prog.bearsReflect = false := by kernel_rfl
theorem door : Tryz.prog.doorFits [] = true := by kernel_rfl
theorem mayEnter : Tryz.prog.mayEnter = true := mayEnter_of beh later refl door
theorem liftsFinal : Tryz.prog.liftsFinal = false := liftsFinal_of beh
theorem make : Tryz.prog.make = some .cut := make_of beh
end Go.Proofs.YtihcoegdfbpngaaGreatDoor.headFacts
namespace Go.Proofs.YtihcoegdfbpngaaGreatDoor.bulks
theorem one_le {H : Type} (d : DataW H) : 1 ≤ Rows.uptoBulk d := by
  cases d with
  | lit l => cases l <;> simp [Rows.uptoBulk]
  | nil => simp [Rows.uptoBulk]
  | ptr d => simp [Rows.uptoBulk]
  | slice elems spare => simp [Rows.uptoBulk]
  | agg parts => simp [Rows.uptoBulk]
  | iface t d => simp [Rows.uptoBulk]
  | map entries => simp [Rows.uptoBulk]
  | held h => simp [Rows.uptoBulk]
theorem length_le {H : Type} (l : List (DataW H)) : l.length ≤ Rows.uptoBulkAll l := by
  induction l with
  | nil => simp [Rows.uptoBulkAll]
  | cons x r ih => have := one_le x; simp only [Rows.uptoBulkAll, List.length_cons]; omega
theorem sl_len {α H : Type} {D : α → DataW H → Prop} {xs : List α} {d : DataW H} (h : Go.Abs.SlD D xs d) : xs.length + 1 ≤ Rows.uptoBulk d := by
  rcases h with ⟨rfl, rfl⟩ | ⟨els, sp, rfl, h1, _⟩
  · simp [Rows.uptoBulk]
  · have := length_le els
    simp only [Rows.uptoBulk]; omega
theorem bound {H : Type} {l : List (DataW H)} (hk : Rows.uptoSmall H l = true) : Rows.uptoBulkAll l ≤ 1048576 := of_decide_eq_true hk
end Go.Proofs.YtihcoegdfbpngaaGreatDoor.bulks
