/- Proved here: the statement of the law UnifyOrderIndependent: for every input that its row speaks of the call returns true, and the input reads as it did. No condition of ours. -/
import Derived.Test.YtgjpdplbjbgebaaGFUnifyOrderIndependent
import Derived.Test.YtgjpdplbjbgebaaRows
import Derived.WalkKit
import Derived.ProofKit
import Derived.OpenShut
import Derived.ShutString
import Derived.ChangeOld
import Derived.Below
set_option linter.unusedVariables false
set_option linter.unusedSimpArgs false
namespace Go.Proofs.Ytgjpdplbjbgebaa.unifyOrderIndependentDone
open Go.ChangeShapes Go.WideShapes Go.ChangeAt Go.RowKit
open Go.ChangeMaps (open_string shut_string)
open Go.Abs (env0 RLl rd_ty rd_slice rd_int)

theorem own : ownKnob Try.prog.godebug = none := by kernel_rfl
theorem laidOut : laidOutB Try.prog = true := by kernel_rfl
set_option maxRecDepth 100000 in
theorem closed : joinedFacts Try.prog 4 Try.f4 Rows.unifyOrderIndependentSpec Rows.unifyOrderIndependentRow = true := by
  unfold joinedFacts
  rw [headFacts.mayEnter, headFacts.liftsFinal, headFacts.make]
  kernel_rfl
theorem bEq : Try.prog.bytesOf 31 = 80 := by kernel_rfl
theorem bBd : Try.prog.bytesOf 42 = 48 := by kernel_rfl
set_option maxRecDepth 100000 in
/-- What the walk gives, for every argument. -/
theorem contract (H : Type) (enc : TypeId × Value → H) (W : World) (base : Nat) (args : Array Value) (ds gs : List (DataW H)) (before : List MemPlace)
    (hval : ∀ (j : Nat) t v, Try.f4.params[j]? = some t → args[j]? = some v → Value.okWide Try.prog W .any base t v)
    (hW : DataW.Whole enc Try.prog Try.f4.params.toList Rows.unifyOrderIndependentSpec.vars false W args.toList ds gs before)
    (hz : (DataW.weightsEach Try.prog (Try.f4.params.toList ++ Rows.unifyOrderIndependentSpec.plain.varTypes Try.prog) (ds ++ gs)).all (· ≤ reachBytes) = true) :
    Calls Try.prog 4 args W fun e W' => ∃ v, e = .returned v ∧ Rows.unifyOrderIndependentSpec.post enc Try.prog Try.f4 false true false false W args v W' := by
  have hW' := hW
  obtain ⟨p, q, hA0, hV, rfl, hfz, hnd⟩ := hW
  have hA : DataW.TrodAll enc Try.prog W 0 (fun _ => true) true Try.f4.params.toList args.toList ds p := hA0
  rw [Try.params4] at hA hval hz
  obtain ⟨v0, vs0, d0, ds0, p0, q0, hargs, rfl, rfl, h0, r0⟩ := trodAll_cons hA
  obtain ⟨rfl, rfl, rfl⟩ := trodAll_nil r0
  obtain rfl : args = #[v0] := by cases args; simp_all
  obtain ⟨rfl, rfl⟩ := trodVars_none hV
  have hz0 : (DataW.weightsEach Try.prog [22] [d0]).all (· ≤ reachBytes) = true := hz
  simp only [DataW.weightsEach, List.append_nil, List.all_append, Bool.and_eq_true] at hz0
  have z0 := hz0
  have k0 := h0
  have lt0 : ∀ x ∈ p0, x.block < W.heap.size := by obtain ⟨m, hm⟩ := k0; exact DataW.trod_lt m _ _ _ hm
  obtain ⟨fu0, h0⟩ := h0
  obtain ⟨b0, l0, m0, rfl⟩ := okWide_slice Try.underlying22 (hval 0 22 v0 rfl rfl)
  obtain ⟨t0, u0, c0, e0, f0⟩ := rd_slice Go.Abs.Eq2.enc Go.Abs.Eq2D Try.underlying22 (fun a => by rw [Go.Abs.Eq2.enc_len]; kernel_rfl) h0 (fun n cs' x' _ h' => Go.Abs.rd_Eq2 n cs' x' h')
  obtain rfl : u0 = .slice b0 l0 m0 := by simpa [Value.cells] using c0.symm
  try dsimp only at f0
  have em : maxLen = 9223372036854775807 := by decide
  have eb : reachBytes = 140737488351232 := rfl
  have s0 := Go.Abs.sl_weights Try.underlying22 f0 z0
  rw [bEq] at s0
  have hw : ∀ e ∈ t0, e.l.W ∧ e.r.W := fun e he => by obtain ⟨d, h1, h2⟩ := s0.2 e he; exact Go.Abs.Eq2_weights h1 h2
  have hl : t0.length ≤ maxLen := by rw [em]; omega
  have hl2 : (t0.length : Int) * 80 ≤ 140737488351232 := by omega
  refine (Go.Abs.calls_of_pc (Go.Abs.law_ord t0 hw (by omega)) W _ (RLl.rl (.cons e0 (.nil)))).mono fun e W' ⟨he, bel⟩ => ?_
  subst he
  exact ⟨_, rfl, _, _, _, [], _, [], hW', trodAll_mk1 (shut_bool Try.underlying4 _), (trodAll_cons_mk (Below.trod laidOut (by kernel_rfl) (of_decide_eq_true (by kernel_rfl)) k0 bel lt0) trodAll_mk0), rfl, bel.frame _, fun h => by cases h⟩

set_option maxRecDepth 100000 in
theorem lifted (os : Os) (started : os.Started) (H : Type) (enc : TypeId × Value → H) :
    ReturnsInHanded {} Try.checked os 4 .any (Rows.unifyOrderIndependentSpec.pre6 enc Try.prog Try.f4 Rows.unifyOrderIndependentRow.domain false) (Rows.unifyOrderIndependentSpec.post enc Try.prog Try.f4 false true false false) := by
  refine returnsInHanded_of_change_sized (C := Try.checked) own started (by kernel_rfl) Try.func4
    (ChangeSpec.witness6 (enc := enc) (C := Try.checked) false ⟨#[], #[.slice none 0 0], []⟩ 8 (by kernel_rfl) (by kernel_rfl) (by kernel_rfl) (by kernel_rfl)) ?_
  intro W base args ds gs before hval hW _ hz _
  exact contract H enc W base args ds gs before hval hW hz

theorem over : Rows.unifyOrderIndependentRow.holds Try.pinned (OpenSpec.ofChange Rows.unifyOrderIndependentSpec) :=
  OpenClaim.holds_of_wide 4 Try.f4 rfl rfl rfl rfl rfl rfl rfl ⟨rfl, rfl, rfl, rfl, rfl⟩ rfl rfl rfl rfl rfl (by kernel_rfl) Try.func4 closed
    (of_decide_eq_true (by kernel_rfl)) (by unfold Func.isWrapper; first | (rw [if_pos (by decide +kernel)]; kernel_rfl) | (rw [if_neg (by decide +kernel)]; exact ⟨rfl, rfl⟩))
    (fun os started H enc _ => lifted os started H enc)

/-- The statement. -/
theorem proved : Rows.UnifyOrderIndependentSaid := over
end Go.Proofs.Ytgjpdplbjbgebaa.unifyOrderIndependentDone
