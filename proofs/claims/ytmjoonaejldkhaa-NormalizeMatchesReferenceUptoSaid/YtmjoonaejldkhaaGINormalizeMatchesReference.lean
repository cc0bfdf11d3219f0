/- Part 9 of a proof of the law NormalizeMatchesReference: Go data as trees, the walks of the functions that the law reaches, the plain laws. -/
import Derived.Test.YtmjoonaejldkhaaGHNormalizeMatchesReference
import Derived.Test.YtmjoonaejldkhaaRows
set_option linter.unusedVariables false
set_option linter.unusedSimpArgs false
set_option maxRecDepth 100000
namespace Go.Proofs.Ytmjoonaejldkhaa.headFacts
open Go.Abs
def restC : List Char := sg [97, 116, 32, 103, 108, 111, 115, 115, 97, 116, 111, 114, 47, 103, 108, 111, 115, 115, 97, 116, 111, 114, 107, 101, 101, 112, 50, 46, 83, 99, 104, 101, 109, 101, 77, 97, 116, 99, 104, 82, 111, 117, 110, 100, 84, 114, 105, 112, 32, 103, 108, 111, 115, 115, 97, 116, 111, 114, 47, 103, 108, 111, 115, 115, 97, 116, 111, 114, 107, 101, 101, 112, 50, 46, 83, 99, 104, 101, 109, 101, 73, 103, 110, 111, 114, 101, 115, 65, 98, 115, 101, 110, 116, 80, 97, 114, 97, 109, 101, 116, 101, 114, 115, 32, 103, 108, 111, 115, 115, 97, 116, 111, 114, 47, 103, 108, 111, 115, 115, 97, 116, 111, 114, 107, 101, 101, 112, 50, 46, 83, 117, 98, 115, 116, 105, 116, 117, 116, 101, 69, 108, 105, 109, 105, 110, 97, 116, 101, 115, 86, 97, 114, 105, 97, 98, 108, 101, 32, 103, 108, 111, 115, 115, 97, 116, 111, 114, 47, 103, 108, 111, 115, 115, 97, 116, 111, 114, 107, 101, 101, 112, 50, 46, 83, 117, 98, 115, 116, 105, 116, 117, 116, 101, 67, 111, 109, 109, 117, 116, 101, 115, 32, 103, 108, 111, 115, 115, 97, 116, 111, 114, 47, 103, 108, 111, 115, 115, 97, 116, 111, 114, 108, 97, 119, 50, 46, 84, 121, 112, 101, 79, 112, 101, 114, 97, 116, 105, 111, 110, 115, 32, 103, 108, 111, 115, 115, 97, 116, 111, 114, 47, 103, 108, 111, 115, 115, 97, 116, 111, 114, 108, 97, 119, 50, 46, 70, 111, 114, 109, 97, 116, 77, 97, 116, 99, 104, 101, 115, 82, 101, 102, 101, 114, 101, 110, 99, 101, 32, 103, 108, 111, 115, 115, 97, 116, 111, 114, 47, 103, 108, 111, 115, 115, 97, 116, 111, 114, 107, 101, 101, 112, 50, 46, 83, 111, 108, 118, 101, 82, 101, 116, 117, 114, 110, 115, 86, 97, 108, 105, 100, 80, 114, 111, 111, 102, 32, 103, 108, 111, 115, 115, 97, 116, 111, 114, 47, 103, 108, 111, 115, 115, 97, 116, 111, 114, 107, 101, 101, 112, 50, 46, 67, 104, 101, 99, 107, 80, 114, 111, 111, 102, 82, 101, 106, 101, 99, 116, 115, 79, 116, 104, 101, 114, 84, 121, 112, 101, 32, 103, 108, 111, 115, 115, 97, 116, 111, 114, 47, 103, 108, 111, 115, 115, 97, 116, 111, 114, 108, 97, 119, 50, 46, 83, 111, 108, 118, 101, 77, 97, 116, 99, 104, 101, 115, 82, 101, 102, 101, 114, 101, 110, 99, 101, 32, 103, 108, 111, 115, 115, 97, 116, 111, 114, 47, 103, 108, 111, 115, 115, 97, 116, 111, 114, 107, 101, 101, 112, 50, 46, 83, 111, 108, 118, 101, 87, 105, 116, 104, 77, 111, 114, 101, 65, 115, 115, 117, 109, 112, 116, 105, 111, 110, 115, 32, 103, 108, 111, 115, 115, 97, 116, 111, 114, 47, 103, 108, 111, 115, 115, 97, 116, 111, 114, 107, 101, 101, 112, 50, 46, 78, 111, 114, 109, 97, 108, 105, 122, 101, 73, 115, 73, 100, 101, 109, 112, 111, 116, 101, 110, 116, 32, 103, 108, 111, 115, 115, 97, 116, 111, 114, 47, 103, 108, 111, 115, 115, 97, 116, 111, 114, 107, 101, 101, 112, 50, 46, 78, 111, 114, 109, 97, 108, 105, 122, 101, 73, 115, 67, 111, 109, 112, 111, 115, 105, 116, 105, 111, 110, 97, 108, 32, 103, 108, 111, 115, 115, 97, 116, 111, 114, 47, 103, 108, 111, 115, 115, 97, 116, 111, 114, 108, 97, 119, 50, 46, 78, 111, 114, 109, 97, 108, 105, 122, 101, 77, 97, 116, 99, 104, 101, 115, 82, 101, 102, 101, 114, 101, 110, 99, 101, 32, 103, 108, 111, 115, 115, 97, 116, 111, 114, 47, 103, 108, 111, 115, 115, 97, 116, 111, 114, 108, 97, 119, 50, 46, 85, 110, 105, 102, 121, 77, 97, 116, 99, 104, 101, 115, 82, 101, 102, 101, 114, 101, 110, 99, 101, 32, 103, 108, 111, 115, 115, 97, 116, 111, 114, 47, 103, 108, 111, 115, 115, 97, 116, 111, 114, 107, 101, 101, 112, 50, 46, 85, 110, 105, 102, 121, 79, 114, 100, 101, 114, 73, 110, 100, 101, 112, 101, 110, 100, 101, 110, 116, 32, 103, 108, 111, 115, 115, 97, 116, 111, 114, 47, 103, 108, 111, 115, 115, 97, 116, 111, 114, 107, 101, 101, 112, 50, 46, 85, 110, 105, 102, 121, 83, 111, 108, 118, 101, 115, 69, 113, 117, 97, 116, 105, 111, 110, 115, 32, 103, 108, 111, 115, 115, 97, 116, 111, 114, 47, 103, 108, 111, 115, 115, 97, 116, 111, 114, 107, 101, 101, 112, 50, 46, 85, 110, 105, 102, 121, 77, 111, 110, 111, 116, 111, 110, 101, 32, 103, 108, 111, 115, 115, 97, 116, 111, 114, 47, 103, 108, 111, 115, 115, 97, 116, 111, 114, 107, 101, 101, 112, 50, 46, 85, 110, 105, 102, 121, 77, 111, 115, 116, 71, 101, 110, 101, 114, 97, 108]
theorem io : Try.prog.initOrder = String.ofList (sg [104, 97, 114, 110, 101, 115, 115] ++ Char.ofNat 32 :: (sg [57, 51, 54, 57, 54, 53, 100, 53, 52, 102, 101, 51, 98, 51, 100, 102, 51, 49, 49, 97, 50, 98, 98, 57, 100, 101, 55, 48, 102, 51, 49, 48, 54, 56, 55, 57, 55, 57, 52, 98, 102, 55, 56, 56, 102, 49, 53, 97, 49, 49, 51, 98, 99, 57, 98, 100, 48, 54, 52, 52, 100, 56, 48, 48] ++ Char.ofNat 32 :: (sg [99, 117, 116] ++ Char.ofNat 32 :: restC))) := by kernel_rfl
theorem beh : behindMainWord (wordsSigns Try.prog.initOrder.toList) = "cut".toList :: wordsSigns restC := behind_of io (by decide) (by decide) (by decide) (by kernel_rfl) (by kernel_rfl)
theorem later : Try.prog.laysLater = false := by kernel_rfl
theorem refl : Try.prog.bearsReflect = false := by kernel_rfl
theorem door : Try.prog.doorFits [] = true := by kernel_rfl
theorem mayEnter : Try.prog.mayEnter = true := mayEnter_of beh later refl door
theorem liftsFinal : Try.prog.liftsFinal = false := liftsFinal_of beh
theorem make : Try.prog.make = some .cut := make_of beh
end Go.Proofs.Ytmjoonaejldkhaa.headFacts
namespace Go.Proofs.Ytmjoonaejldkhaa.bulks
theorem one_le {H : Type} (d : DataW H) : 1 ≤ Rows.uptoBulk d := by
  cases d with
  | lit l => cases l <;> simp [Rows.uptoBulk]
  | nil => simp [Rows.uptoBulk]
  | ptr d => simp [Rows.uptoBulk]
  | slice elems spare => simp [Rows.uptoBulk]
  | agg parts => simp [Rows.uptoBulk]
  | iface t d => simp [Rows.uptoBulk]
  | map entries => simp [Rows.uptoBulk]
  | held h => simp [Rows.uptoBulk]
theorem length_le {H : Type} (l : List (DataW H)) : l.length ≤ Rows.uptoBulkAll l := by
  induction l with
  | nil => simp [Rows.uptoBulkAll]
  | cons x r ih => have := one_le x; simp only [Rows.uptoBulkAll, List.length_cons]; omega
theorem mem_le {H : Type} {l : List (DataW H)} {d : DataW H} (h : d ∈ l) : Rows.uptoBulk d ≤ Rows.uptoBulkAll l := by
  induction l with
  | nil => cases h
  | cons x r ih =>
    simp only [Rows.uptoBulkAll]
    rcases List.mem_cons.1 h with rfl | h
    · omega
    · have := ih h; omega
theorem sl_len {α H : Type} {D : α → DataW H → Prop} {xs : List α} {d : DataW H} (h : Go.Abs.SlD D xs d) : xs.length + 1 ≤ Rows.uptoBulk d := by
  rcases h with ⟨rfl, rfl⟩ | ⟨els, sp, rfl, h1, _⟩
  · simp [Rows.uptoBulk]
  · have := length_le els
    simp only [Rows.uptoBulk]; omega
/-- A sum over a slice's elements. -/
theorem sl_sum {α H : Type} {D : α → DataW H → Prop} {xs : List α} {d : DataW H} (h : Go.Abs.SlD D xs d) (sz : α → Nat) (hs : ∀ a d, D a d → sz a ≤ Rows.uptoBulk d) : (xs.map sz).sum + 1 ≤ Rows.uptoBulk d := by
  rcases h with ⟨rfl, rfl⟩ | ⟨els, sp, rfl, h1, h2⟩
  · simp [Rows.uptoBulk]
  · have key : ∀ (xs : List α) (els : List (DataW H)), xs.length = els.length → (∀ i (h1 : i < xs.length) (h2 : i < els.length), D xs[i] els[i]) → (xs.map sz).sum ≤ Rows.uptoBulkAll els := by
      intro xs
      induction xs with
      | nil => intro els _ _; simp
      | cons x xs ih =>
        intro els h1 h2
        match els, h1 with
        | e :: els, h1 =>
          have := hs x e (h2 0 (by simp) (by simp))
          have := ih els (by simpa using h1) (fun i h3 h4 => h2 (i + 1) (by simpa using h3) (by simpa using h4))
          simp only [List.map_cons, List.sum_cons, Rows.uptoBulkAll]; omega
    have := key xs els h1 h2
    simp only [Rows.uptoBulk]; omega
theorem bound {H : Type} {l : List (DataW H)} (hk : Rows.uptoSmall H l = true) : Rows.uptoBulkAll l ≤ 1048576 := of_decide_eq_true hk
end Go.Proofs.Ytmjoonaejldkhaa.bulks
namespace Go.Proofs.Ytmjoonaejldkhaa.bulks
open Go.Abs
theorem ty_sizes {H : Type} : ∀ (xs : List Ty) (es : List (DataW H)), xs.length = es.length → (∀ j (h1 : j < xs.length) (h2 : j < es.length), xs[j].size ≤ Rows.uptoBulk es[j]) → Ty.sizes xs ≤ Rows.uptoBulkAll es
  | [], es, _, _ => by simp [Ty.sizes]
  | x :: xs, [], h, _ => by cases h
  | x :: xs, e :: es, h, hs => by
    have h1 := hs 0 (by simp) (by simp)
    have h2 := ty_sizes xs es (by simpa using h) fun j a b => hs (j + 1) (by simpa using a) (by simpa using b)
    simp only [List.getElem_cons_zero] at h1
    simp only [Ty.sizes, Rows.uptoBulkAll]; omega
theorem ty_size {H : Type} {t : Ty} {d : DataW H} (h : TyD t d) : t.size ≤ Rows.uptoBulk d := by
  induction h with
  | nil k i => simp [Ty.size, Ty.sizes, Rows.uptoBulk, Rows.uptoBulkAll]
  | slice k i xs es sp hl h ih =>
    have := ty_sizes xs es hl ih
    simp only [Ty.size, Rows.uptoBulk, Rows.uptoBulkAll]
    omega
end Go.Proofs.Ytmjoonaejldkhaa.bulks
