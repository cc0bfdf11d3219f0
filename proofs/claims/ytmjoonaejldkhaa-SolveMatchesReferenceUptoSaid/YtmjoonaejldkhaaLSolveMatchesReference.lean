/- Proved here: the statement of the law SolveMatchesReference (second form): for every input that its row speaks of (of bulk at most 1048576) the call returns true, and the input reads as it did. No condition of ours. -/
import Derived.Test.YtmjoonaejldkhaaGGSolveMatchesReference
import Derived.Test.YtmjoonaejldkhaaRows
import Derived.WalkKit
import Derived.ProofKit
import Derived.OpenShut
import Derived.ShutString
import Derived.ChangeOld
import Derived.Below
namespace Go.Proofs.Ytmjoonaejldkhaa.solveMatchesReferenceDone
open Go.ChangeShapes Go.WideShapes Go.ChangeAt Go.RowKit
open Go.ChangeMaps (open_string shut_string)
open Go.Abs (env0 RLl rd_ty rd_slice rd_int)
set_option linter.unusedVariables false

theorem own : ownKnob Try.prog.godebug = none := by kernel_rfl
theorem laidOut : laidOutB Try.prog = true := by kernel_rfl
set_option maxRecDepth 100000 in
theorem closed : joinedFacts Try.prog 11 Try.f11 (Rows.OpenSpec.upto Rows.solveMatchesReferenceSpec).bare Rows.solveMatchesReferenceUptoRow = true := by
  unfold joinedFacts
  rw [headFacts.mayEnter, headFacts.liftsFinal, headFacts.make]
  kernel_rfl
theorem bDc : Try.prog.bytesOf 71 = 120 := by kernel_rfl
theorem bTB : Try.prog.bytesOf 74 = 48 := by kernel_rfl
theorem sl_mem {α H : Type} {D : α → DataW H → Prop} {xs : List α} {d : DataW H} (h : Go.Abs.SlD D xs d) {a : α} (ha : a ∈ xs) : ∃ e, D a e ∧ Rows.uptoBulk e ≤ Rows.uptoBulk d := by
  rcases h with ⟨rfl, rfl⟩ | ⟨els, sp, rfl, h1, h2⟩
  · cases ha
  · obtain ⟨j, hj, rfl⟩ := List.mem_iff_getElem.1 ha
    refine ⟨els[j]'(by omega), h2 j hj (by omega), ?_⟩
    have := bulks.mem_le (List.getElem_mem (l := els) (by omega : j < els.length))
    simp only [Rows.uptoBulk]; omega
theorem dc_ps {H : Type} {d : Go.Abs.Dc} {e : DataW H} (h : Go.Abs.DcD d e) : d.ps.length ≤ Rows.uptoBulk e := by
  obtain ⟨d0, d1, d3, d4, rfl, k0, _⟩ := h
  have := bulks.sl_len k0
  simp only [Rows.uptoBulk, Rows.uptoBulkAll]; omega
theorem dc_ty {H : Type} {d : Go.Abs.Dc} {e : DataW H} (h : Go.Abs.DcD d e) : d.t.size ≤ Rows.uptoBulk e := by
  obtain ⟨d0, d1, d3, d4, rfl, _, k1, _⟩ := h
  have := bulks.ty_size k1
  simp only [Rows.uptoBulk, Rows.uptoBulkAll]; omega
set_option maxRecDepth 100000 in
/-- What the walk gives, for every argument. -/
theorem contract (H : Type) (enc : TypeId × Value → H) (W : World) (base : Nat) (args : Array Value) (ds gs : List (DataW H)) (before : List MemPlace)
    (hval : ∀ (j : Nat) t v, Try.f11.params[j]? = some t → args[j]? = some v → Value.okWide Try.prog W .any base t v)
    (hW : DataW.Whole enc Try.prog Try.f11.params.toList Rows.solveMatchesReferenceSpec.vars false W args.toList ds gs before)
    (hz : (DataW.weightsEach Try.prog (Try.f11.params.toList ++ Rows.solveMatchesReferenceSpec.plain.varTypes Try.prog) (ds ++ gs)).all (· ≤ reachBytes) = true)
    (hk : Rows.uptoSmall H (ds ++ gs) = true) :
    Calls Try.prog 11 args W fun e W' => ∃ v, e = .returned v ∧ Rows.solveMatchesReferenceSpec.post enc Try.prog Try.f11 false true false false W args v W' := by
  have hW' := hW
  obtain ⟨p, q, hA0, hV, rfl, hfz, hnd⟩ := hW
  have hA : DataW.TrodAll enc Try.prog W 0 (fun _ => true) true Try.f11.params.toList args.toList ds p := hA0
  rw [Try.params11] at hA hval hz
  obtain ⟨v0, vs0, d0, ds0, p0, q0, hargs, rfl, rfl, h0, r0⟩ := trodAll_cons hA
  obtain ⟨v1, vs1, d1, ds1, p1, q1, rfl, rfl, rfl, h1, r1⟩ := trodAll_cons r0
  obtain ⟨v2, vs2, d2, ds2, p2, q2, rfl, rfl, rfl, h2, r2⟩ := trodAll_cons r1
  obtain ⟨v3, vs3, d3, ds3, p3, q3, rfl, rfl, rfl, h3, r3⟩ := trodAll_cons r2
  obtain ⟨rfl, rfl, rfl⟩ := trodAll_nil r3
  obtain rfl : args = #[v0, v1, v2, v3] := by cases args; simp_all
  obtain ⟨rfl, rfl⟩ := trodVars_none hV
  have hz0 : (DataW.weightsEach Try.prog [59, 60, 24, 3] [d0, d1, d2, d3]).all (· ≤ reachBytes) = true := hz
  simp only [DataW.weightsEach, List.append_nil, List.all_append, Bool.and_eq_true] at hz0
  obtain ⟨z0, z1, z2, z3⟩ := hz0
  have k0 := h0
  have lt0 : ∀ x ∈ p0, x.block < W.heap.size := by obtain ⟨m, hm⟩ := k0; exact DataW.trod_lt m _ _ _ hm
  obtain ⟨fu0, h0⟩ := h0
  obtain ⟨b0, l0, m0, rfl⟩ := okWide_slice Try.underlying59 (hval 0 59 v0 rfl rfl)
  obtain ⟨t0, u0, c0, e0, f0⟩ := rd_slice Go.Abs.Dc.enc Go.Abs.DcD Try.underlying59 (fun a => by rw [Go.Abs.Dc.enc_len]; kernel_rfl) h0 (fun n cs' x' _ h' => Go.Abs.rd_Dc n cs' x' h')
  obtain rfl : u0 = .slice b0 l0 m0 := by simpa [Value.cells] using c0.symm
  have k1 := h1
  have lt1 : ∀ x ∈ p1, x.block < W.heap.size := by obtain ⟨m, hm⟩ := k1; exact DataW.trod_lt m _ _ _ hm
  obtain ⟨fu1, h1⟩ := h1
  obtain ⟨b1, l1, m1, rfl⟩ := okWide_slice Try.underlying60 (hval 1 60 v1 rfl rfl)
  obtain ⟨t1, u1, c1, e1, f1⟩ := rd_slice Go.Abs.TB.enc Go.Abs.TBD Try.underlying60 (fun a => by rw [Go.Abs.TB.enc_len]; kernel_rfl) h1 (fun n cs' x' _ h' => Go.Abs.rd_TB n cs' x' h')
  obtain rfl : u1 = .slice b1 l1 m1 := by simpa [Value.cells] using c1.symm
  have k2 := h2
  have lt2 : ∀ x ∈ p2, x.block < W.heap.size := by obtain ⟨m, hm⟩ := k2; exact DataW.trod_lt m _ _ _ hm
  obtain ⟨fu2, h2⟩ := h2
  have o2 := hval 2 24 v2 rfl rfl
  simp only [Value.okWide, Try.underlying24] at o2
  obtain ⟨a2, rfl, _⟩ := o2
  obtain ⟨t2, e2, f2⟩ := rd_ty Go.Abs.tyAt fu2 _ _ h2
  replace e2 := e2.agg
  rw [Go.Abs.Ty.enc_agg] at e2
  have k3 := h3
  have lt3 : ∀ x ∈ p3, x.block < W.heap.size := by obtain ⟨m, hm⟩ := k3; exact DataW.trod_lt m _ _ _ hm
  obtain ⟨fu3, h3⟩ := h3
  obtain ⟨t3, e3, f3, g3, c3⟩ := rd_int Try.underlying3 h3
  obtain rfl : v3 = .int .i64 t3 := by have := okWide_int Try.underlying3 (hval 3 3 v3 rfl rfl); obtain ⟨m, rfl, _⟩ := this; simpa [Value.cells] using c3
  replace e3 := e3.one
  try dsimp only at f0 f1 f2 f3
  have em : maxLen = 9223372036854775807 := by decide
  have eb : reachBytes = 140737488351232 := rfl
  have hb := bulks.bound hk
  simp only [List.append_nil, Rows.uptoBulkAll] at hb
  have s0 := Go.Abs.sl_weights Try.underlying59 f0 z0
  have s1 := Go.Abs.sl_weights Try.underlying60 f1 z1
  rw [bDc] at s0
  rw [bTB] at s1
  have hdB : ∀ d ∈ t0, d.B := fun d hd => by
    obtain ⟨e, h1, h2⟩ := s0.2 d hd
    refine ⟨Go.Abs.Dc_weights h1 h2, ?_⟩
    obtain ⟨e', h3, h4⟩ := sl_mem f0 hd
    have := dc_ps h3
    omega
  have hd0 : ∀ d ∈ t0.take (min t0.length 8), d.B := fun d hd => hdB d (List.mem_of_mem_take hd)
  have hsl : t1.length ≤ maxLen := by rw [em]; omega
  have hs : ∀ b ∈ t1, b.W := fun b hbm => by obtain ⟨e, h1, h2⟩ := s1.2 b hbm; exact Go.Abs.TB_weights h1 h2
  have w2 := Go.Abs.ty_weights Go.Abs.tyAt f2 z2
  have hdR : ∀ d ∈ t0.take (min t0.length 8), d.R := fun d hd => by
    have hm := List.mem_of_mem_take hd
    refine ⟨hdB d hm, ?_⟩
    obtain ⟨e', h3, h4⟩ := sl_mem f0 hm
    have := dc_ty h3
    omega
  refine (Go.Abs.calls_of_pc (Go.Abs.law_solveref t0 t1 t2 t3 hdR hsl hs w2) W _ (RLl.rl (.cons e0 (.cons e1 (.cons e2 (.cons e3 (.nil))))))).mono fun e W' ⟨he, bel⟩ => ?_
  subst he
  exact ⟨_, rfl, _, _, _, [], _, [], hW', trodAll_mk1 (shut_bool Try.underlying4 _), (trodAll_cons_mk (Below.trod laidOut (by kernel_rfl) (of_decide_eq_true (by kernel_rfl)) k0 bel lt0) (trodAll_cons_mk (Below.trod laidOut (by kernel_rfl) (of_decide_eq_true (by kernel_rfl)) k1 bel lt1) (trodAll_cons_mk (Below.trod laidOut (by kernel_rfl) (of_decide_eq_true (by kernel_rfl)) k2 bel lt2) (trodAll_cons_mk (Below.trod laidOut (by kernel_rfl) (of_decide_eq_true (by kernel_rfl)) k3 bel lt3) trodAll_mk0)))), rfl, bel.frame _, fun h => by cases h⟩

set_option maxRecDepth 100000 in
theorem lifted (os : Os) (started : os.Started) (H : Type) (enc : TypeId × Value → H) (F : Stop.Interp) :
    ReturnsInHanded {} Try.checked os 11 .any ((Rows.OpenSpec.upto Rows.solveMatchesReferenceSpec).pre6 enc Try.prog Try.f11 Rows.solveMatchesReferenceUptoRow.domain false) (((Rows.OpenSpec.upto Rows.solveMatchesReferenceSpec).at F).post enc Try.prog Try.f11 false true false false) := by
  refine returnsInHanded_of_cond_sized (C := Try.checked) (s := Rows.OpenSpec.upto Rows.solveMatchesReferenceSpec) (k := Rows.uptoSmall) rfl own started (by kernel_rfl) Try.func11
    (OpenSpec.witness (enc := enc) (C := Try.checked) (s := Rows.OpenSpec.upto Rows.solveMatchesReferenceSpec) (k := Rows.uptoSmall) rfl false ⟨#[], #[.slice none 0 0, .slice none 0 0, .agg #[.int .i64 0, .int .i64 0, .slice none 0 0], .int .i64 0], []⟩ 8 (by kernel_rfl) (by kernel_rfl) (by kernel_rfl)
      (x := ([.nil, .nil, .agg [.lit (.int .i64 0), .lit (.int .i64 0), .nil], .lit (.int .i64 0)], [], [])) (by kernel_rfl) rfl (by kernel_rfl)) ?_
  intro W base args ds gs before hval hW _ hk hz _
  exact contract H enc W base args ds gs before hval hW hz hk

theorem over : Rows.solveMatchesReferenceUptoRow.holds Try.pinned (Rows.OpenSpec.upto Rows.solveMatchesReferenceSpec) :=
  OpenClaim.holds_of_cond 11 Try.f11 rfl rfl rfl rfl rfl rfl rfl ⟨rfl, rfl, rfl, rfl, rfl⟩ rfl rfl rfl rfl rfl (by kernel_rfl) Try.func11 closed
    (of_decide_eq_true (by kernel_rfl)) (by unfold Func.isWrapper; first | (rw [if_pos (by decide +kernel)]; kernel_rfl) | (rw [if_neg (by decide +kernel)]; exact ⟨rfl, rfl⟩))
    (fun os started H enc _ F => lifted os started H enc F)

/-- The statement. -/
theorem proved : Rows.SolveMatchesReferenceUptoSaid := over
end Go.Proofs.Ytmjoonaejldkhaa.solveMatchesReferenceDone
