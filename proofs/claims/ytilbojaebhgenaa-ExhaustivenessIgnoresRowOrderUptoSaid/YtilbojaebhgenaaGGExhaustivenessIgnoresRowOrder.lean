/- Part 7 of a proof of the law ExhaustivenessIgnoresRowOrder: Go data as trees, the walks of the functions that the law reaches, the plain laws. -/
import Derived.Test.YtilbojaebhgenaaGFExhaustivenessIgnoresRowOrder
import Derived.Test.YtilbojaebhgenaaRows
set_option linter.unusedVariables false
set_option linter.unusedSimpArgs false
set_option maxRecDepth 100000
namespace Go.Proofs.Ytilbojaebhgenaa.headFacts
open Go.Abs
def restC : List Char := sg [97, 116, 32, 103, 108, 111, 115, 115, 97, 116, 111, 114, 47, 103, 108, 111, 115, 115, 97, 116, 111, 114, 107, 101, 101, 112, 50, 46, 65, 100, 100, 105, 110, 103, 82, 111, 119, 115, 80, 114, 101, 115, 101, 114, 118, 101, 115, 69, 120, 104, 97, 117, 115, 116, 105, 118, 101, 110, 101, 115, 115, 32, 103, 108, 111, 115, 115, 97, 116, 111, 114, 47, 103, 108, 111, 115, 115, 97, 116, 111, 114, 107, 101, 101, 112, 50, 46, 82, 101, 109, 111, 118, 105, 110, 103, 82, 101, 100, 117, 110, 100, 97, 110, 116, 82, 111, 119, 115, 32, 103, 108, 111, 115, 115, 97, 116, 111, 114, 47, 103, 108, 111, 115, 115, 97, 116, 111, 114, 107, 101, 101, 112, 50, 46, 69, 120, 104, 97, 117, 115, 116, 105, 118, 101, 110, 101, 115, 115, 73, 103, 110, 111, 114, 101, 115, 82, 111, 119, 79, 114, 100, 101, 114, 32, 103, 108, 111, 115, 115, 97, 116, 111, 114, 47, 103, 108, 111, 115, 115, 97, 116, 111, 114, 107, 101, 101, 112, 50, 46, 77, 105, 115, 115, 105, 110, 103, 82, 111, 119, 73, 115, 85, 110, 109, 97, 116, 99, 104, 101, 100, 32, 103, 108, 111, 115, 115, 97, 116, 111, 114, 47, 103, 108, 111, 115, 115, 97, 116, 111, 114, 108, 97, 119, 50, 46, 77, 97, 116, 99, 104, 101, 115, 65, 103, 114, 101, 101, 115, 87, 105, 116, 104, 82, 101, 102, 101, 114, 101, 110, 99, 101]
theorem io : Try.prog.initOrder = String.ofList (sg [104, 97, 114, 110, 101, 115, 115] ++ Char.ofNat 32 :: (sg [99, 53, 52, 48, 52, 57, 55, 51, 98, 51, 100, 54, 98, 101, 101, 57, 57, 48, 97, 53, 49, 48, 57, 99, 102, 57, 100, 55, 57, 56, 98, 54, 97, 97, 48, 52, 57, 102, 51, 100, 57, 53, 57, 100, 55, 49, 50, 52, 56, 50, 54, 98, 57, 54, 100, 51, 53, 99, 100, 54, 101, 102, 51, 97] ++ Char.ofNat 32 :: (sg [99, 117, 116] ++ Char.ofNat 32 :: restC))) := by kernel_rfl
theorem beh : behindMainWord (wordsSigns Try.prog.initOrder.toList) = "cut".toList :: wordsSigns restC := behind_of io (by decide) (by decide) (by decide) (by kernel_rfl) (by kernel_rfl)
theorem later : Try.prog.laysLater = false := by kernel_rfl
theorem refl : Try.prog.bearsReflect = false := by kernel_rfl
theorem door : Try.prog.doorFits [] = true := by kernel_rfl
theorem mayEnter : Try.prog.mayEnter = true := mayEnter_of beh later refl door
theorem liftsFinal : Try.prog.liftsFinal = false := liftsFinal_of beh
theorem make : Try.prog.make = some .cut := make_of beh
end Go.Proofs.Ytilbojaebhgenaa.headFacts
namespace Go.Proofs.Ytilbojaebhgenaa.bulks
theorem one_le {H : Type} (d : DataW H) : 1 ≤ Rows.uptoBulk d := by
  cases d with
  | lit l => cases l <;> simp [Rows.uptoBulk]
  | nil => simp [Rows.uptoBulk]
  | ptr d => simp [Rows.uptoBulk]
  | slice elems spare => simp [Rows.uptoBulk]
  | agg parts => simp [Rows.uptoBulk]
  | iface t d => simp [Rows.uptoBulk]
  | map entries => simp [Rows.uptoBulk]
  | held h => simp [Rows.uptoBulk]
theorem length_le {H : Type} (l : List (DataW H)) : l.length ≤ Rows.uptoBulkAll l := by
  induction l with
  | nil => simp [Rows.uptoBulkAll]
  | cons x r ih => have := one_le x; simp only [Rows.uptoBulkAll, List.length_cons]; omega
theorem mem_le {H : Type} {l : List (DataW H)} {d : DataW H} (h : d ∈ l) : Rows.uptoBulk d ≤ Rows.uptoBulkAll l := by
  induction l with
  | nil => cases h
  | cons x r ih =>
    simp only [Rows.uptoBulkAll]
    rcases List.mem_cons.1 h with rfl | h
    · omega
    · have := ih h; omega
theorem sl_len {α H : Type} {D : α → DataW H → Prop} {xs : List α} {d : DataW H} (h : Go.Abs.SlD D xs d) : xs.length + 1 ≤ Rows.uptoBulk d := by
  rcases h with ⟨rfl, rfl⟩ | ⟨els, sp, rfl, h1, _⟩
  · simp [Rows.uptoBulk]
  · have := length_le els
    simp only [Rows.uptoBulk]; omega
/-- A sum over a slice's elements. -/
theorem sl_sum {α H : Type} {D : α → DataW H → Prop} {xs : List α} {d : DataW H} (h : Go.Abs.SlD D xs d) (sz : α → Nat) (hs : ∀ a d, D a d → sz a ≤ Rows.uptoBulk d) : (xs.map sz).sum + 1 ≤ Rows.uptoBulk d := by
  rcases h with ⟨rfl, rfl⟩ | ⟨els, sp, rfl, h1, h2⟩
  · simp [Rows.uptoBulk]
  · have key : ∀ (xs : List α) (els : List (DataW H)), xs.length = els.length → (∀ i (h1 : i < xs.length) (h2 : i < els.length), D xs[i] els[i]) → (xs.map sz).sum ≤ Rows.uptoBulkAll els := by
      intro xs
      induction xs with
      | nil => intro els _ _; simp
      | cons x xs ih =>
        intro els h1 h2
        match els, h1 with
        | e :: els, h1 =>
          have := hs x e (h2 0 (by simp) (by simp))
          have := ih els (by simpa using h1) (fun i h3 h4 => h2 (i + 1) (by simpa using h3) (by simpa using h4))
          simp only [List.map_cons, List.sum_cons, Rows.uptoBulkAll]; omega
    have := key xs els h1 h2
    simp only [Rows.uptoBulk]; omega
theorem bound {H : Type} {l : List (DataW H)} (hk : Rows.uptoSmall H l = true) : Rows.uptoBulkAll l ≤ 1048576 := of_decide_eq_true hk
end Go.Proofs.Ytilbojaebhgenaa.bulks
namespace Go.Proofs.Ytilbojaebhgenaa.bulks
open Go.Abs
theorem ty_sizes {H : Type} : ∀ (xs : List Ty) (es : List (DataW H)), xs.length = es.length → (∀ j (h1 : j < xs.length) (h2 : j < es.length), xs[j].size ≤ Rows.uptoBulk es[j]) → Ty.sizes xs ≤ Rows.uptoBulkAll es
  | [], es, _, _ => by simp [Ty.sizes]
  | x :: xs, [], h, _ => by cases h
  | x :: xs, e :: es, h, hs => by
    have h1 := hs 0 (by simp) (by simp)
    have h2 := ty_sizes xs es (by simpa using h) fun j a b => hs (j + 1) (by simpa using a) (by simpa using b)
    simp only [List.getElem_cons_zero] at h1
    simp only [Ty.sizes, Rows.uptoBulkAll]; omega
theorem ty_size {H : Type} {t : Ty} {d : DataW H} (h : TyD t d) : t.size ≤ Rows.uptoBulk d := by
  induction h with
  | nil k i => simp [Ty.size, Ty.sizes, Rows.uptoBulk, Rows.uptoBulkAll]
  | slice k i xs es sp hl h ih =>
    have := ty_sizes xs es hl ih
    simp only [Ty.size, Rows.uptoBulk, Rows.uptoBulkAll]
    omega
end Go.Proofs.Ytilbojaebhgenaa.bulks
