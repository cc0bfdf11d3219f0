/- Proved here: the statement of the law TypeOperations (second form): for every input that its row speaks of (of bulk at most 1048576) the call returns true, and the input reads as it did. No condition of ours. -/
import Derived.Test.YtmjoonaejldkhaaGGTypeOperations
import Derived.Test.YtmjoonaejldkhaaRows
import Derived.WalkKit
import Derived.ProofKit
import Derived.OpenShut
import Derived.ShutString
import Derived.ChangeOld
import Derived.Below
namespace Go.Proofs.Ytmjoonaejldkhaa.typeOperationsDone
open Go.ChangeShapes Go.WideShapes Go.ChangeAt Go.RowKit
open Go.ChangeMaps (open_string shut_string)
open Go.Abs (env0 RLl rd_ty rd_slice rd_int)
set_option linter.unusedVariables false

theorem own : ownKnob Try.prog.godebug = none := by kernel_rfl
theorem laidOut : laidOutB Try.prog = true := by kernel_rfl
set_option maxRecDepth 100000 in
theorem closed : joinedFacts Try.prog 7 Try.f7 (Rows.OpenSpec.upto Rows.typeOperationsSpec).bare Rows.typeOperationsUptoRow = true := by
  unfold joinedFacts
  rw [headFacts.mayEnter, headFacts.liftsFinal, headFacts.make]
  kernel_rfl
theorem _root_.Go.Abs.tyAt : Go.Abs.TyAt Try.prog 24 22 := ⟨⟨_, _, _, Try.underlying24, Try.underlying3, Try.underlying3, rfl, rfl, rfl, rfl, by kernel_rfl, by kernel_rfl⟩, Try.underlying22, by kernel_rfl, by kernel_rfl, by kernel_rfl⟩
theorem bInt : Try.prog.bytesOf 3 = 8 := by kernel_rfl
theorem bTy : Try.prog.bytesOf 24 = 40 := by kernel_rfl
theorem _root_.Go.Abs.bdAt : Go.Abs.BdAt Try.prog 42 24 := ⟨⟨_, _, Try.underlying42, Try.underlying3, rfl, rfl, rfl, by kernel_rfl⟩, by kernel_rfl⟩
set_option maxRecDepth 100000 in
/-- What the walk gives, for every argument. -/
theorem contract (H : Type) (enc : TypeId × Value → H) (W : World) (base : Nat) (args : Array Value) (ds gs : List (DataW H)) (before : List MemPlace)
    (hval : ∀ (j : Nat) t v, Try.f7.params[j]? = some t → args[j]? = some v → Value.okWide Try.prog W .any base t v)
    (hW : DataW.Whole enc Try.prog Try.f7.params.toList Rows.typeOperationsSpec.vars false W args.toList ds gs before)
    (hz : (DataW.weightsEach Try.prog (Try.f7.params.toList ++ Rows.typeOperationsSpec.plain.varTypes Try.prog) (ds ++ gs)).all (· ≤ reachBytes) = true)
    (hk : Rows.uptoSmall H (ds ++ gs) = true) :
    Calls Try.prog 7 args W fun e W' => ∃ v, e = .returned v ∧ Rows.typeOperationsSpec.post enc Try.prog Try.f7 false true false false W args v W' := by
  have hW' := hW
  obtain ⟨p, q, hA0, hV, rfl, hfz, hnd⟩ := hW
  have hA : DataW.TrodAll enc Try.prog W 0 (fun _ => true) true Try.f7.params.toList args.toList ds p := hA0
  rw [Try.params7] at hA hval hz
  obtain ⟨v0, vs0, d0, ds0, p0, q0, hargs, rfl, rfl, h0, r0⟩ := trodAll_cons hA
  obtain ⟨v1, vs1, d1, ds1, p1, q1, rfl, rfl, rfl, h1, r1⟩ := trodAll_cons r0
  obtain ⟨v2, vs2, d2, ds2, p2, q2, rfl, rfl, rfl, h2, r2⟩ := trodAll_cons r1
  obtain ⟨rfl, rfl, rfl⟩ := trodAll_nil r2
  obtain rfl : args = #[v0, v1, v2] := by cases args; simp_all
  obtain ⟨rfl, rfl⟩ := trodVars_none hV
  have hz0 : (DataW.weightsEach Try.prog [24, 24, 43] [d0, d1, d2]).all (· ≤ reachBytes) = true := hz
  simp only [DataW.weightsEach, List.append_nil, List.all_append, Bool.and_eq_true] at hz0
  obtain ⟨z0, z1, z2⟩ := hz0
  have k0 := h0
  have lt0 : ∀ x ∈ p0, x.block < W.heap.size := by obtain ⟨m, hm⟩ := k0; exact DataW.trod_lt m _ _ _ hm
  obtain ⟨fu0, h0⟩ := h0
  have o0 := hval 0 24 v0 rfl rfl
  simp only [Value.okWide, Try.underlying24] at o0
  obtain ⟨a0, rfl, _⟩ := o0
  obtain ⟨t0, e0, f0⟩ := rd_ty Go.Abs.tyAt fu0 _ _ h0
  replace e0 := e0.agg
  rw [Go.Abs.Ty.enc_agg] at e0
  have k1 := h1
  have lt1 : ∀ x ∈ p1, x.block < W.heap.size := by obtain ⟨m, hm⟩ := k1; exact DataW.trod_lt m _ _ _ hm
  obtain ⟨fu1, h1⟩ := h1
  have o1 := hval 1 24 v1 rfl rfl
  simp only [Value.okWide, Try.underlying24] at o1
  obtain ⟨a1, rfl, _⟩ := o1
  obtain ⟨t1, e1, f1⟩ := rd_ty Go.Abs.tyAt fu1 _ _ h1
  replace e1 := e1.agg
  rw [Go.Abs.Ty.enc_agg] at e1
  have k2 := h2
  have lt2 : ∀ x ∈ p2, x.block < W.heap.size := by obtain ⟨m, hm⟩ := k2; exact DataW.trod_lt m _ _ _ hm
  obtain ⟨fu2, h2⟩ := h2
  obtain ⟨b2, l2, m2, rfl⟩ := okWide_slice Try.underlying43 (hval 2 43 v2 rfl rfl)
  obtain ⟨t2, u2, c2, e2, f2⟩ := rd_slice Go.Abs.Bd.enc Go.Abs.BdD Try.underlying43 (fun a => by rw [Go.Abs.Bd.enc_len]; kernel_rfl) h2 (fun n cs' x' _ h' => Go.Abs.rd_bd Go.Abs.tyAt Go.Abs.bdAt n cs' x' h')
  obtain rfl : u2 = .slice b2 l2 m2 := by simpa [Value.cells] using c2.symm
  try dsimp only at f0 f1 f2
  have em : maxLen = 9223372036854775807 := by decide
  have hb := bulks.bound hk
  simp only [List.append_nil, Rows.uptoBulkAll] at hb
  have s0 := bulks.ty_size f0
  have s1 := bulks.sl_len f2
  have s2 := (Go.Abs.sl_weights Try.underlying43 f2 z2).2
  refine (Go.Abs.calls_of_pc (Go.Abs.law_ops t0 t1 t2 (Go.Abs.ty_weights Go.Abs.tyAt f0 z0) (Go.Abs.ty_weights Go.Abs.tyAt f1 z1) (by rw [em]; omega) (fun a ha => by obtain ⟨d, h1, h2⟩ := s2 a ha; exact Go.Abs.bd_weights Go.Abs.tyAt Go.Abs.bdAt h1 h2) (by omega)) W _ (RLl.rl (.cons e0 (.cons e1 (.cons e2 (.nil)))))).mono fun e W' ⟨he, bel⟩ => ?_
  subst he
  exact ⟨_, rfl, _, _, _, [], _, [], hW', trodAll_mk1 (shut_bool Try.underlying4 _), (trodAll_cons_mk (Below.trod laidOut (by kernel_rfl) (of_decide_eq_true (by kernel_rfl)) k0 bel lt0) (trodAll_cons_mk (Below.trod laidOut (by kernel_rfl) (of_decide_eq_true (by kernel_rfl)) k1 bel lt1) (trodAll_cons_mk (Below.trod laidOut (by kernel_rfl) (of_decide_eq_true (by kernel_rfl)) k2 bel lt2) trodAll_mk0))), rfl, bel.frame _, fun h => by cases h⟩

set_option maxRecDepth 100000 in
theorem lifted (os : Os) (started : os.Started) (H : Type) (enc : TypeId × Value → H) (F : Stop.Interp) :
    ReturnsInHanded {} Try.checked os 7 .any ((Rows.OpenSpec.upto Rows.typeOperationsSpec).pre6 enc Try.prog Try.f7 Rows.typeOperationsUptoRow.domain false) (((Rows.OpenSpec.upto Rows.typeOperationsSpec).at F).post enc Try.prog Try.f7 false true false false) := by
  refine returnsInHanded_of_cond_sized (C := Try.checked) (s := Rows.OpenSpec.upto Rows.typeOperationsSpec) (k := Rows.uptoSmall) rfl own started (by kernel_rfl) Try.func7
    (OpenSpec.witness (enc := enc) (C := Try.checked) (s := Rows.OpenSpec.upto Rows.typeOperationsSpec) (k := Rows.uptoSmall) rfl false ⟨#[], #[.agg #[.int .i64 0, .int .i64 0, .slice none 0 0], .agg #[.int .i64 0, .int .i64 0, .slice none 0 0], .slice none 0 0], []⟩ 8 (by kernel_rfl) (by kernel_rfl) (by kernel_rfl)
      (x := ([.agg [.lit (.int .i64 0), .lit (.int .i64 0), .nil], .agg [.lit (.int .i64 0), .lit (.int .i64 0), .nil], .nil], [], [])) (by kernel_rfl) rfl (by kernel_rfl)) ?_
  intro W base args ds gs before hval hW _ hk hz _
  exact contract H enc W base args ds gs before hval hW hz hk

theorem over : Rows.typeOperationsUptoRow.holds Try.pinned (Rows.OpenSpec.upto Rows.typeOperationsSpec) :=
  OpenClaim.holds_of_cond 7 Try.f7 rfl rfl rfl rfl rfl rfl rfl ⟨rfl, rfl, rfl, rfl, rfl⟩ rfl rfl rfl rfl rfl (by kernel_rfl) Try.func7 closed
    (of_decide_eq_true (by kernel_rfl)) (by unfold Func.isWrapper; first | (rw [if_pos (by decide +kernel)]; kernel_rfl) | (rw [if_neg (by decide +kernel)]; exact ⟨rfl, rfl⟩))
    (fun os started H enc _ F => lifted os started H enc F)

/-- The statement. -/
theorem proved : Rows.TypeOperationsUptoSaid := over
end Go.Proofs.Ytmjoonaejldkhaa.typeOperationsDone
