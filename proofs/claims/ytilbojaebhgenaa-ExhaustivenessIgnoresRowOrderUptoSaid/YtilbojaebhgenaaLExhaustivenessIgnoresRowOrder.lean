/- Proved here: the statement of the law ExhaustivenessIgnoresRowOrder (second form): for every input that its row speaks of (of bulk at most 1048576) the call returns true, and the input reads as it did. No condition of ours. -/
import Derived.Test.YtilbojaebhgenaaGGExhaustivenessIgnoresRowOrder
import Derived.Test.YtilbojaebhgenaaRows
import Derived.WalkKit
import Derived.ProofKit
import Derived.OpenShut
import Derived.ShutString
import Derived.ChangeOld
import Derived.Below
set_option linter.unusedVariables false
set_option linter.unusedSimpArgs false
namespace Go.Proofs.Ytilbojaebhgenaa.exhaustivenessIgnoresRowOrderDone
open Go.ChangeShapes Go.WideShapes Go.ChangeAt Go.RowKit
open Go.ChangeMaps (open_string shut_string)
open Go.Abs (env0 RLl rd_ty rd_slice rd_int)

theorem own : ownKnob Try.prog.godebug = none := by kernel_rfl
theorem laidOut : laidOutB Try.prog = true := by kernel_rfl
set_option maxRecDepth 100000 in
theorem closed : joinedFacts Try.prog 5 Try.f5 (Rows.OpenSpec.upto Rows.exhaustivenessIgnoresRowOrderSpec).bare Rows.exhaustivenessIgnoresRowOrderUptoRow = true := by
  unfold joinedFacts
  rw [headFacts.mayEnter, headFacts.liftsFinal, headFacts.make]
  kernel_rfl
theorem bDm : Try.prog.bytesOf 48 = 32 := by kernel_rfl
theorem bInt : Try.prog.bytesOf 3 = 8 := by kernel_rfl
theorem bRow : Try.prog.bytesOf 25 = 24 := by kernel_rfl
theorem bTy : Try.prog.bytesOf 42 = 40 := by kernel_rfl
theorem row_w {H : Type} {r : Go.Abs.Row} {e : DataW H} (h : Go.Abs.SlD Go.Abs.TyD r e) (hz : (e.weights Try.prog 25).all (· ≤ reachBytes) = true) : r.length * 40 ≤ 2 ^ 47 ∧ ∀ u ∈ r, u.W := by
  have eb : reachBytes = 140737488351232 := rfl
  have s := Go.Abs.sl_weights Try.underlying25 h hz
  rw [bTy] at s
  exact ⟨by omega, fun u hu => by obtain ⟨e, h1, h2⟩ := s.2 u hu; exact Go.Abs.ty_weights Go.Abs.tyAt h1 h2⟩
theorem row_b {H : Type} {r : Go.Abs.Row} {e : DataW H} (h : Go.Abs.SlD Go.Abs.TyD r e) : Go.Abs.nws r + 1 ≤ Rows.uptoBulk e := by
  have := bulks.sl_sum h Go.Abs.Ty.size (fun a d h => bulks.ty_size h)
  rw [← Go.Abs.sizes_sum] at this
  have := Go.Abs.nws_sizes r
  omega
theorem rows_b {H : Type} {rs : List Go.Abs.Row} {e : DataW H} (h : Go.Abs.SlD (Go.Abs.SlD Go.Abs.TyD) rs e) : Go.Abs.nwR rs + 1 ≤ Rows.uptoBulk e :=
  bulks.sl_sum h Go.Abs.nws (fun a d h => by have := row_b h; omega)
set_option maxRecDepth 100000 in
/-- What the walk gives, for every argument. -/
theorem contract (H : Type) (enc : TypeId × Value → H) (W : World) (base : Nat) (args : Array Value) (ds gs : List (DataW H)) (before : List MemPlace)
    (hval : ∀ (j : Nat) t v, Try.f5.params[j]? = some t → args[j]? = some v → Value.okWide Try.prog W .any base t v)
    (hW : DataW.Whole enc Try.prog Try.f5.params.toList Rows.exhaustivenessIgnoresRowOrderSpec.vars false W args.toList ds gs before)
    (hz : (DataW.weightsEach Try.prog (Try.f5.params.toList ++ Rows.exhaustivenessIgnoresRowOrderSpec.plain.varTypes Try.prog) (ds ++ gs)).all (· ≤ reachBytes) = true)
    (hk : Rows.uptoSmall H (ds ++ gs) = true) :
    Calls Try.prog 5 args W fun e W' => ∃ v, e = .returned v ∧ Rows.exhaustivenessIgnoresRowOrderSpec.post enc Try.prog Try.f5 false true false false W args v W' := by
  have hW' := hW
  obtain ⟨p, q, hA0, hV, rfl, hfz, hnd⟩ := hW
  have hA : DataW.TrodAll enc Try.prog W 0 (fun _ => true) true Try.f5.params.toList args.toList ds p := hA0
  rw [Try.params5] at hA hval hz
  obtain ⟨v0, vs0, d0, ds0, p0, q0, hargs, rfl, rfl, h0, r0⟩ := trodAll_cons hA
  obtain ⟨v1, vs1, d1, ds1, p1, q1, rfl, rfl, rfl, h1, r1⟩ := trodAll_cons r0
  obtain ⟨v2, vs2, d2, ds2, p2, q2, rfl, rfl, rfl, h2, r2⟩ := trodAll_cons r1
  obtain ⟨rfl, rfl, rfl⟩ := trodAll_nil r2
  obtain rfl : args = #[v0, v1, v2] := by cases args; simp_all
  obtain ⟨rfl, rfl⟩ := trodVars_none hV
  have hz0 : (DataW.weightsEach Try.prog [22, 23, 24] [d0, d1, d2]).all (· ≤ reachBytes) = true := hz
  simp only [DataW.weightsEach, List.append_nil, List.all_append, Bool.and_eq_true] at hz0
  obtain ⟨z0, z1, z2⟩ := hz0
  have k0 := h0
  have lt0 : ∀ x ∈ p0, x.block < W.heap.size := by obtain ⟨m, hm⟩ := k0; exact DataW.trod_lt m _ _ _ hm
  obtain ⟨fu0, h0⟩ := h0
  obtain ⟨b0, l0, m0, rfl⟩ := okWide_slice Try.underlying22 (hval 0 22 v0 rfl rfl)
  obtain ⟨t0, u0, c0, e0, f0⟩ := rd_slice Go.Abs.Dm.enc Go.Abs.DmD Try.underlying22 (fun a => by rw [Go.Abs.Dm.enc_len]; kernel_rfl) h0 (fun n cs' x' _ h' => Go.Abs.rd_Dm n cs' x' h')
  obtain rfl : u0 = .slice b0 l0 m0 := by simpa [Value.cells] using c0.symm
  have k1 := h1
  have lt1 : ∀ x ∈ p1, x.block < W.heap.size := by obtain ⟨m, hm⟩ := k1; exact DataW.trod_lt m _ _ _ hm
  obtain ⟨fu1, h1⟩ := h1
  obtain ⟨b1, l1, m1, rfl⟩ := okWide_slice Try.underlying23 (hval 1 23 v1 rfl rfl)
  obtain ⟨t1, u1, c1, e1, f1⟩ := rd_slice Go.Abs.vint (fun n d => d = .lit (.int .i64 n)) Try.underlying23 (fun _ => by show 1 = _; kernel_rfl) h1 (fun n cs' x' _ h' => by obtain ⟨m, a, b, _⟩ := rd_int Try.underlying3 h'; exact ⟨m, a, b⟩)
  obtain rfl : u1 = .slice b1 l1 m1 := by simpa [Value.cells] using c1.symm
  have k2 := h2
  have lt2 : ∀ x ∈ p2, x.block < W.heap.size := by obtain ⟨m, hm⟩ := k2; exact DataW.trod_lt m _ _ _ hm
  obtain ⟨fu2, h2⟩ := h2
  obtain ⟨b2, l2, m2, rfl⟩ := okWide_slice Try.underlying24 (hval 2 24 v2 rfl rfl)
  obtain ⟨t2, u2, c2, e2, f2⟩ := rd_slice (fun l => Go.Abs.PV.slice (l.map Go.Abs.Ty.enc) .none) (Go.Abs.SlD Go.Abs.TyD) Try.underlying24 (fun a => by show 1 = _; kernel_rfl) h2 (fun n cs' x' _ h' => by obtain ⟨xs, v, rfl, hr, hd⟩ := rd_slice Go.Abs.Ty.enc Go.Abs.TyD Try.underlying25 (by intro a; rw [Go.Abs.Ty.enc_len]; kernel_rfl) h' (fun m cs' x' _ h' => Go.Abs.rd_Ty m cs' x' h'); exact ⟨xs, .cons hr .nil, hd⟩)
  obtain rfl : u2 = .slice b2 l2 m2 := by simpa [Value.cells] using c2.symm
  try dsimp only at f0 f1 f2
  have em : maxLen = 9223372036854775807 := by decide
  have eb : reachBytes = 140737488351232 := rfl
  have hb := bulks.bound hk
  simp only [List.append_nil, Rows.uptoBulkAll] at hb
  have s0 := Go.Abs.sl_weights Try.underlying22 f0 z0
  have s1 := Go.Abs.sl_weights Try.underlying23 f1 z1
  have s2 := Go.Abs.sl_weights Try.underlying24 f2 z2
  rw [bDm] at s0
  rw [bInt] at s1
  rw [bRow] at s2
  have b2 := rows_b f2
  have hx : Go.Abs.XIn t0 t1 t2 := ⟨⟨by omega, fun d hd => by obtain ⟨e, h1, h2⟩ := s0.2 d hd; exact Go.Abs.Dm_weights h1 h2⟩, by omega, ⟨by omega, fun r hr => by obtain ⟨e, h1, h2⟩ := s2.2 r hr; exact row_w h1 h2⟩, by omega⟩
  refine (Go.Abs.calls_of_pc (Go.Abs.law_order t0 t1 t2 hx) W _ (RLl.rl (.cons e0 (.cons e1 (.cons e2 (.nil)))))).mono fun e W' ⟨he, bel⟩ => ?_
  subst he
  exact ⟨_, rfl, _, _, _, [], _, [], hW', trodAll_mk1 (shut_bool Try.underlying4 _), (trodAll_cons_mk (Below.trod laidOut (by kernel_rfl) (of_decide_eq_true (by kernel_rfl)) k0 bel lt0) (trodAll_cons_mk (Below.trod laidOut (by kernel_rfl) (of_decide_eq_true (by kernel_rfl)) k1 bel lt1) (trodAll_cons_mk (Below.trod laidOut (by kernel_rfl) (of_decide_eq_true (by kernel_rfl)) k2 bel lt2) trodAll_mk0))), rfl, bel.frame _, fun h => by cases h⟩

set_option maxRecDepth 100000 in
theorem lifted (os : Os) (started : os.Started) (H : Type) (enc : TypeId × Value → H) (F : Stop.Interp) :
    ReturnsInHanded {} Try.checked os 5 .any ((Rows.OpenSpec.upto Rows.exhaustivenessIgnoresRowOrderSpec).pre6 enc Try.prog Try.f5 Rows.exhaustivenessIgnoresRowOrderUptoRow.domain false) (((Rows.OpenSpec.upto Rows.exhaustivenessIgnoresRowOrderSpec).at F).post enc Try.prog Try.f5 false true false false) := by
  refine returnsInHanded_of_cond_sized (C := Try.checked) (s := Rows.OpenSpec.upto Rows.exhaustivenessIgnoresRowOrderSpec) (k := Rows.uptoSmall) rfl own started (by kernel_rfl) Try.func5
    (OpenSpec.witness (enc := enc) (C := Try.checked) (s := Rows.OpenSpec.upto Rows.exhaustivenessIgnoresRowOrderSpec) (k := Rows.uptoSmall) rfl false ⟨#[], #[.slice none 0 0, .slice none 0 0, .slice none 0 0], []⟩ 8 (by kernel_rfl) (by kernel_rfl) (by kernel_rfl)
      (x := ([.nil, .nil, .nil], [], [])) (by kernel_rfl) rfl (by kernel_rfl)) ?_
  intro W base args ds gs before hval hW _ hk hz _
  exact contract H enc W base args ds gs before hval hW hz hk

theorem over : Rows.exhaustivenessIgnoresRowOrderUptoRow.holds Try.pinned (Rows.OpenSpec.upto Rows.exhaustivenessIgnoresRowOrderSpec) :=
  OpenClaim.holds_of_cond 5 Try.f5 rfl rfl rfl rfl rfl rfl rfl ⟨rfl, rfl, rfl, rfl, rfl⟩ rfl rfl rfl rfl rfl (by kernel_rfl) Try.func5 closed
    (of_decide_eq_true (by kernel_rfl)) (by unfold Func.isWrapper; first | (rw [if_pos (by decide +kernel)]; kernel_rfl) | (rw [if_neg (by decide +kernel)]; exact ⟨rfl, rfl⟩))
    (fun os started H enc _ F => lifted os started H enc F)

/-- The statement. -/
theorem proved : Rows.ExhaustivenessIgnoresRowOrderUptoSaid := over
end Go.Proofs.Ytilbojaebhgenaa.exhaustivenessIgnoresRowOrderDone
