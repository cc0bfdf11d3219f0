/- Proved here: the statement of the law SubstituteCommutes: for every input that its row speaks of the call returns true, and the input reads as it did. No condition of ours. -/
import Derived.Test.YtmjoonaejldkhaaGFSubstituteCommutes
import Derived.Test.YtmjoonaejldkhaaRows
import Derived.WalkKit
import Derived.ProofKit
import Derived.OpenShut
import Derived.ShutString
import Derived.ChangeOld
import Derived.Below
namespace Go.Proofs.Ytmjoonaejldkhaa.substituteCommutesDone
open Go.ChangeShapes Go.WideShapes Go.ChangeAt Go.RowKit
open Go.ChangeMaps (open_string shut_string)
open Go.Abs (env0 RLl rd_ty rd_slice rd_int)
set_option linter.unusedVariables false

theorem own : ownKnob Try.prog.godebug = none := by kernel_rfl
theorem laidOut : laidOutB Try.prog = true := by kernel_rfl
set_option maxRecDepth 100000 in
theorem closed : joinedFacts Try.prog 6 Try.f6 Rows.substituteCommutesSpec Rows.substituteCommutesRow = true := by
  unfold joinedFacts
  rw [headFacts.mayEnter, headFacts.liftsFinal, headFacts.make]
  kernel_rfl
theorem _root_.Go.Abs.tyAt : Go.Abs.TyAt Try.prog 24 22 := ⟨⟨_, _, _, Try.underlying24, Try.underlying3, Try.underlying3, rfl, rfl, rfl, rfl, by kernel_rfl, by kernel_rfl⟩, Try.underlying22, by kernel_rfl, by kernel_rfl, by kernel_rfl⟩
theorem bInt : Try.prog.bytesOf 3 = 8 := by kernel_rfl
theorem bTy : Try.prog.bytesOf 24 = 40 := by kernel_rfl
set_option maxRecDepth 100000 in
/-- What the walk gives, for every argument. -/
theorem contract (H : Type) (enc : TypeId × Value → H) (W : World) (base : Nat) (args : Array Value) (ds gs : List (DataW H)) (before : List MemPlace)
    (hval : ∀ (j : Nat) t v, Try.f6.params[j]? = some t → args[j]? = some v → Value.okWide Try.prog W .any base t v)
    (hW : DataW.Whole enc Try.prog Try.f6.params.toList Rows.substituteCommutesSpec.vars false W args.toList ds gs before)
    (hz : (DataW.weightsEach Try.prog (Try.f6.params.toList ++ Rows.substituteCommutesSpec.plain.varTypes Try.prog) (ds ++ gs)).all (· ≤ reachBytes) = true) :
    Calls Try.prog 6 args W fun e W' => ∃ v, e = .returned v ∧ Rows.substituteCommutesSpec.post enc Try.prog Try.f6 false true false false W args v W' := by
  have hW' := hW
  obtain ⟨p, q, hA0, hV, rfl, hfz, hnd⟩ := hW
  have hA : DataW.TrodAll enc Try.prog W 0 (fun _ => true) true Try.f6.params.toList args.toList ds p := hA0
  rw [Try.params6] at hA hval hz
  obtain ⟨v0, vs0, d0, ds0, p0, q0, hargs, rfl, rfl, h0, r0⟩ := trodAll_cons hA
  obtain ⟨v1, vs1, d1, ds1, p1, q1, rfl, rfl, rfl, h1, r1⟩ := trodAll_cons r0
  obtain ⟨v2, vs2, d2, ds2, p2, q2, rfl, rfl, rfl, h2, r2⟩ := trodAll_cons r1
  obtain ⟨v3, vs3, d3, ds3, p3, q3, rfl, rfl, rfl, h3, r3⟩ := trodAll_cons r2
  obtain ⟨v4, vs4, d4, ds4, p4, q4, rfl, rfl, rfl, h4, r4⟩ := trodAll_cons r3
  obtain ⟨rfl, rfl, rfl⟩ := trodAll_nil r4
  obtain rfl : args = #[v0, v1, v2, v3, v4] := by cases args; simp_all
  obtain ⟨rfl, rfl⟩ := trodVars_none hV
  have hz0 : (DataW.weightsEach Try.prog [24, 24, 24, 3, 3] [d0, d1, d2, d3, d4]).all (· ≤ reachBytes) = true := hz
  simp only [DataW.weightsEach, List.append_nil, List.all_append, Bool.and_eq_true] at hz0
  obtain ⟨z0, z1, z2, z3, z4⟩ := hz0
  have k0 := h0
  have lt0 : ∀ x ∈ p0, x.block < W.heap.size := by obtain ⟨m, hm⟩ := k0; exact DataW.trod_lt m _ _ _ hm
  obtain ⟨fu0, h0⟩ := h0
  have o0 := hval 0 24 v0 rfl rfl
  simp only [Value.okWide, Try.underlying24] at o0
  obtain ⟨a0, rfl, _⟩ := o0
  obtain ⟨t0, e0, f0⟩ := rd_ty Go.Abs.tyAt fu0 _ _ h0
  replace e0 := e0.agg
  rw [Go.Abs.Ty.enc_agg] at e0
  have k1 := h1
  have lt1 : ∀ x ∈ p1, x.block < W.heap.size := by obtain ⟨m, hm⟩ := k1; exact DataW.trod_lt m _ _ _ hm
  obtain ⟨fu1, h1⟩ := h1
  have o1 := hval 1 24 v1 rfl rfl
  simp only [Value.okWide, Try.underlying24] at o1
  obtain ⟨a1, rfl, _⟩ := o1
  obtain ⟨t1, e1, f1⟩ := rd_ty Go.Abs.tyAt fu1 _ _ h1
  replace e1 := e1.agg
  rw [Go.Abs.Ty.enc_agg] at e1
  have k2 := h2
  have lt2 : ∀ x ∈ p2, x.block < W.heap.size := by obtain ⟨m, hm⟩ := k2; exact DataW.trod_lt m _ _ _ hm
  obtain ⟨fu2, h2⟩ := h2
  have o2 := hval 2 24 v2 rfl rfl
  simp only [Value.okWide, Try.underlying24] at o2
  obtain ⟨a2, rfl, _⟩ := o2
  obtain ⟨t2, e2, f2⟩ := rd_ty Go.Abs.tyAt fu2 _ _ h2
  replace e2 := e2.agg
  rw [Go.Abs.Ty.enc_agg] at e2
  have k3 := h3
  have lt3 : ∀ x ∈ p3, x.block < W.heap.size := by obtain ⟨m, hm⟩ := k3; exact DataW.trod_lt m _ _ _ hm
  obtain ⟨fu3, h3⟩ := h3
  obtain ⟨t3, e3, f3, g3, c3⟩ := rd_int Try.underlying3 h3
  obtain rfl : v3 = .int .i64 t3 := by have := okWide_int Try.underlying3 (hval 3 3 v3 rfl rfl); obtain ⟨m, rfl, _⟩ := this; simpa [Value.cells] using c3
  replace e3 := e3.one
  have k4 := h4
  have lt4 : ∀ x ∈ p4, x.block < W.heap.size := by obtain ⟨m, hm⟩ := k4; exact DataW.trod_lt m _ _ _ hm
  obtain ⟨fu4, h4⟩ := h4
  obtain ⟨t4, e4, f4, g4, c4⟩ := rd_int Try.underlying3 h4
  obtain rfl : v4 = .int .i64 t4 := by have := okWide_int Try.underlying3 (hval 4 3 v4 rfl rfl); obtain ⟨m, rfl, _⟩ := this; simpa [Value.cells] using c4
  replace e4 := e4.one
  try dsimp only at f0 f1 f2 f3 f4
  refine (Go.Abs.calls_of_pc (Go.Abs.law_comm t0 t1 t2 t3 t4 (Go.Abs.ty_weights Go.Abs.tyAt f0 z0) (Go.Abs.ty_weights Go.Abs.tyAt f1 z1) (Go.Abs.ty_weights Go.Abs.tyAt f2 z2)) W _ (RLl.rl (.cons e0 (.cons e1 (.cons e2 (.cons e3 (.cons e4 (.nil)))))))).mono fun e W' ⟨he, bel⟩ => ?_
  subst he
  exact ⟨_, rfl, _, _, _, [], _, [], hW', trodAll_mk1 (shut_bool Try.underlying4 _), (trodAll_cons_mk (Below.trod laidOut (by kernel_rfl) (of_decide_eq_true (by kernel_rfl)) k0 bel lt0) (trodAll_cons_mk (Below.trod laidOut (by kernel_rfl) (of_decide_eq_true (by kernel_rfl)) k1 bel lt1) (trodAll_cons_mk (Below.trod laidOut (by kernel_rfl) (of_decide_eq_true (by kernel_rfl)) k2 bel lt2) (trodAll_cons_mk (Below.trod laidOut (by kernel_rfl) (of_decide_eq_true (by kernel_rfl)) k3 bel lt3) (trodAll_cons_mk (Below.trod laidOut (by kernel_rfl) (of_decide_eq_true (by kernel_rfl)) k4 bel lt4) trodAll_mk0))))), rfl, bel.frame _, fun h => by cases h⟩

set_option maxRecDepth 100000 in
theorem lifted (os : Os) (started : os.Started) (H : Type) (enc : TypeId × Value → H) :
    ReturnsInHanded {} Try.checked os 6 .any (Rows.substituteCommutesSpec.pre6 enc Try.prog Try.f6 Rows.substituteCommutesRow.domain false) (Rows.substituteCommutesSpec.post enc Try.prog Try.f6 false true false false) := by
  refine returnsInHanded_of_change_sized (C := Try.checked) own started (by kernel_rfl) Try.func6
    (ChangeSpec.witness6 (enc := enc) (C := Try.checked) false ⟨#[], #[.agg #[.int .i64 0, .int .i64 0, .slice none 0 0], .agg #[.int .i64 0, .int .i64 0, .slice none 0 0], .agg #[.int .i64 0, .int .i64 0, .slice none 0 0], .int .i64 0, .int .i64 0], []⟩ 8 (by kernel_rfl) (by kernel_rfl) (by kernel_rfl) (by kernel_rfl)) ?_
  intro W base args ds gs before hval hW _ hz _
  exact contract H enc W base args ds gs before hval hW hz

theorem over : Rows.substituteCommutesRow.holds Try.pinned (OpenSpec.ofChange Rows.substituteCommutesSpec) :=
  OpenClaim.holds_of_wide 6 Try.f6 rfl rfl rfl rfl rfl rfl rfl ⟨rfl, rfl, rfl, rfl, rfl⟩ rfl rfl rfl rfl rfl (by kernel_rfl) Try.func6 closed
    (of_decide_eq_true (by kernel_rfl)) (by unfold Func.isWrapper; first | (rw [if_pos (by decide +kernel)]; kernel_rfl) | (rw [if_neg (by decide +kernel)]; exact ⟨rfl, rfl⟩))
    (fun os started H enc _ => lifted os started H enc)

/-- The statement. -/
theorem proved : Rows.SubstituteCommutesSaid := over
end Go.Proofs.Ytmjoonaejldkhaa.substituteCommutesDone
