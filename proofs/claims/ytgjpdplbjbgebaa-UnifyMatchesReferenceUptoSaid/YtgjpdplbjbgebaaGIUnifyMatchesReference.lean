/- Part 9 of a proof of the law UnifyMatchesReference: Go data as trees, the walks of the functions that the law reaches, the plain laws. -/
import Derived.Test.YtgjpdplbjbgebaaGHUnifyMatchesReference
import Derived.Test.YtgjpdplbjbgebaaRows
set_option linter.unusedVariables false
set_option linter.unusedSimpArgs false
set_option maxRecDepth 100000
namespace Go.Proofs.Ytgjpdplbjbgebaa.headFacts
open Go.Abs
def restC : List Char := sg [97, 116, 32, 103, 108, 111, 115, 115, 97, 116, 111, 114, 47, 103, 108, 111, 115, 115, 97, 116, 111, 114, 108, 97, 119, 50, 46, 85, 110, 105, 102, 121, 77, 97, 116, 99, 104, 101, 115, 82, 101, 102, 101, 114, 101, 110, 99, 101, 32, 103, 108, 111, 115, 115, 97, 116, 111, 114, 47, 103, 108, 111, 115, 115, 97, 116, 111, 114, 107, 101, 101, 112, 50, 46, 85, 110, 105, 102, 121, 79, 114, 100, 101, 114, 73, 110, 100, 101, 112, 101, 110, 100, 101, 110, 116, 32, 103, 108, 111, 115, 115, 97, 116, 111, 114, 47, 103, 108, 111, 115, 115, 97, 116, 111, 114, 107, 101, 101, 112, 50, 46, 85, 110, 105, 102, 121, 83, 111, 108, 118, 101, 115, 69, 113, 117, 97, 116, 105, 111, 110, 115, 32, 103, 108, 111, 115, 115, 97, 116, 111, 114, 47, 103, 108, 111, 115, 115, 97, 116, 111, 114, 107, 101, 101, 112, 50, 46, 85, 110, 105, 102, 121, 77, 111, 110, 111, 116, 111, 110, 101, 32, 103, 108, 111, 115, 115, 97, 116, 111, 114, 47, 103, 108, 111, 115, 115, 97, 116, 111, 114, 107, 101, 101, 112, 50, 46, 85, 110, 105, 102, 121, 77, 111, 115, 116, 71, 101, 110, 101, 114, 97, 108]
theorem io : Try.prog.initOrder = String.ofList (sg [104, 97, 114, 110, 101, 115, 115] ++ Char.ofNat 32 :: (sg [51, 50, 98, 56, 49, 49, 98, 97, 51, 101, 97, 99, 54, 102, 102, 97, 99, 54, 52, 98, 48, 101, 53, 53, 54, 98, 100, 101, 49, 99, 57, 52, 54, 50, 57, 55, 54, 52, 50, 52, 53, 53, 102, 99, 98, 50, 54, 54, 56, 97, 49, 101, 49, 102, 101, 48, 55, 48, 55, 102, 99, 48, 51, 55] ++ Char.ofNat 32 :: (sg [99, 117, 116] ++ Char.ofNat 32 :: restC))) := by kernel_rfl
theorem beh : behindMainWord (wordsSigns Try.prog.initOrder.toList) = "cut".toList :: wordsSigns restC := behind_of io (by decide) (by decide) (by decide) (by kernel_rfl) (by kernel_rfl)
theorem later : Try.prog.laysLater = false := by kernel_rfl
theorem refl : Try.prog.bearsReflect = false := by kernel_rfl
theorem door : Try.prog.doorFits [] = true := by kernel_rfl
theorem mayEnter : Try.prog.mayEnter = true := mayEnter_of beh later refl door
theorem liftsFinal : Try.prog.liftsFinal = false := liftsFinal_of beh
theorem make : Try.prog.make = some .cut := make_of beh
end Go.Proofs.Ytgjpdplbjbgebaa.headFacts
namespace Go.Proofs.Ytgjpdplbjbgebaa.bulks
/-- A sum over a slice's elements. -/
theorem sl_sum {α H : Type} {D : α → DataW H → Prop} {xs : List α} {d : DataW H} (h : Go.Abs.SlD D xs d) (sz : α → Nat) (hs : ∀ a d, D a d → sz a ≤ Rows.uptoBulk d) : (xs.map sz).sum + 1 ≤ Rows.uptoBulk d := by
  rcases h with ⟨rfl, rfl⟩ | ⟨els, sp, rfl, h1, h2⟩
  · simp [Rows.uptoBulk]
  · have key : ∀ (xs : List α) (els : List (DataW H)), xs.length = els.length → (∀ i (h1 : i < xs.length) (h2 : i < els.length), D xs[i] els[i]) → (xs.map sz).sum ≤ Rows.uptoBulkAll els := by
      intro xs
      induction xs with
      | nil => intro els _ _; simp
      | cons x xs ih =>
        intro els h1 h2
        match els, h1 with
        | e :: els, h1 =>
          have := hs x e (h2 0 (by simp) (by simp))
          have := ih els (by simpa using h1) (fun i h3 h4 => h2 (i + 1) (by simpa using h3) (by simpa using h4))
          simp only [List.map_cons, List.sum_cons, Rows.uptoBulkAll]; omega
    have := key xs els h1 h2
    simp only [Rows.uptoBulk]; omega
theorem bound {H : Type} {l : List (DataW H)} (hk : Rows.uptoSmall H l = true) : Rows.uptoBulkAll l ≤ 1048576 := of_decide_eq_true hk
end Go.Proofs.Ytgjpdplbjbgebaa.bulks
namespace Go.Proofs.Ytgjpdplbjbgebaa.bulks
open Go.Abs
theorem ty_sizes {H : Type} : ∀ (xs : List Ty) (es : List (DataW H)), xs.length = es.length → (∀ j (h1 : j < xs.length) (h2 : j < es.length), xs[j].size ≤ Rows.uptoBulk es[j]) → Ty.sizes xs ≤ Rows.uptoBulkAll es
  | [], es, _, _ => by simp [Ty.sizes]
  | x :: xs, [], h, _ => by cases h
  | x :: xs, e :: es, h, hs => by
    have h1 := hs 0 (by simp) (by simp)
    have h2 := ty_sizes xs es (by simpa using h) fun j a b => hs (j + 1) (by simpa using a) (by simpa using b)
    simp only [List.getElem_cons_zero] at h1
    simp only [Ty.sizes, Rows.uptoBulkAll]; omega
theorem ty_size {H : Type} {t : Ty} {d : DataW H} (h : TyD t d) : t.size ≤ Rows.uptoBulk d := by
  induction h with
  | nil k i => simp [Ty.size, Ty.sizes, Rows.uptoBulk, Rows.uptoBulkAll]
  | slice k i xs es sp hl h ih =>
    have := ty_sizes xs es hl ih
    simp only [Ty.size, Rows.uptoBulk, Rows.uptoBulkAll]
    omega
end Go.Proofs.Ytgjpdplbjbgebaa.bulks
namespace Go.Proofs.Ytgjpdplbjbgebaa.bulks
open Go.Abs
theorem sum_memE {l : List Eq2} {s : Eq2} (h : s ∈ l) : s.l.size + s.r.size ≤ (l.map fun s => s.l.size + s.r.size).sum := by
  induction l with
  | nil => cases h
  | cons a l ih =>
    rw [List.map_cons, List.sum_cons]
    rcases List.mem_cons.1 h with rfl | h
    · omega
    · have := ih h; omega
theorem eqs_b {H : Type} {r : List Eq2} {d : DataW H} (h : SlD Eq2D r d) : ∀ s ∈ r, s.l.size + s.r.size ≤ Rows.uptoBulk d := by
  have h2 := sl_sum h (fun s => s.l.size + s.r.size) (fun s e he => by
    obtain ⟨d0, d1, rfl, h0, h1⟩ := he
    have := ty_size h0
    have := ty_size h1
    simp only [Rows.uptoBulk, Rows.uptoBulkAll]; omega)
  intro s hs
  have := sum_memE hs
  omega
end Go.Proofs.Ytgjpdplbjbgebaa.bulks
