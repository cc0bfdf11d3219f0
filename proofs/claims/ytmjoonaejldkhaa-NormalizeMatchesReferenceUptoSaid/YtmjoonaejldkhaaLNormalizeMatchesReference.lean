/- Proved here: the statement of the law NormalizeMatchesReference (second form): for every input that its row speaks of (of bulk at most 1048576) the call returns true, and the input reads as it did. No condition of ours. -/
import Derived.Test.YtmjoonaejldkhaaGINormalizeMatchesReference
import Derived.Test.YtmjoonaejldkhaaRows
import Derived.WalkKit
import Derived.ProofKit
import Derived.OpenShut
import Derived.ShutString
import Derived.ChangeOld
import Derived.Below
set_option linter.unusedVariables false
set_option linter.unusedSimpArgs false
namespace Go.Proofs.Ytmjoonaejldkhaa.normalizeMatchesReferenceDone
open Go.ChangeShapes Go.WideShapes Go.ChangeAt Go.RowKit
open Go.ChangeMaps (open_string shut_string)
open Go.Abs (env0 RLl rd_ty rd_slice rd_int)

theorem own : ownKnob Try.prog.godebug = none := by kernel_rfl
theorem laidOut : laidOutB Try.prog = true := by kernel_rfl
set_option maxRecDepth 100000 in
theorem closed : joinedFacts Try.prog 15 Try.f15 (Rows.OpenSpec.upto Rows.normalizeMatchesReferenceSpec).bare Rows.normalizeMatchesReferenceUptoRow = true := by
  unfold joinedFacts
  rw [headFacts.mayEnter, headFacts.liftsFinal, headFacts.make]
  kernel_rfl
theorem bDc : Try.prog.bytesOf 71 = 120 := by kernel_rfl
theorem bTB : Try.prog.bytesOf 74 = 48 := by kernel_rfl
theorem sl_mem {α H : Type} {D : α → DataW H → Prop} {xs : List α} {d : DataW H} (h : Go.Abs.SlD D xs d) {a : α} (ha : a ∈ xs) : ∃ e, D a e ∧ Rows.uptoBulk e ≤ Rows.uptoBulk d := by
  rcases h with ⟨rfl, rfl⟩ | ⟨els, sp, rfl, h1, h2⟩
  · cases ha
  · obtain ⟨j, hj, rfl⟩ := List.mem_iff_getElem.1 ha
    refine ⟨els[j]'(by omega), h2 j hj (by omega), ?_⟩
    have := bulks.mem_le (List.getElem_mem (l := els) (by omega : j < els.length))
    simp only [Rows.uptoBulk]; omega
theorem dc_ps {H : Type} {d : Go.Abs.Dc} {e : DataW H} (h : Go.Abs.DcD d e) : d.ps.length ≤ Rows.uptoBulk e := by
  obtain ⟨d0, d1, d3, d4, rfl, k0, _⟩ := h
  have := bulks.sl_len k0
  simp only [Rows.uptoBulk, Rows.uptoBulkAll]; omega
theorem dc_ty {H : Type} {d : Go.Abs.Dc} {e : DataW H} (h : Go.Abs.DcD d e) : d.t.size ≤ Rows.uptoBulk e := by
  obtain ⟨d0, d1, d3, d4, rfl, _, k1, _⟩ := h
  have := bulks.ty_size k1
  simp only [Rows.uptoBulk, Rows.uptoBulkAll]; omega
set_option maxRecDepth 100000 in
/-- What the walk gives, for every argument. -/
theorem contract (H : Type) (enc : TypeId × Value → H) (W : World) (base : Nat) (args : Array Value) (ds gs : List (DataW H)) (before : List MemPlace)
    (hval : ∀ (j : Nat) t v, Try.f15.params[j]? = some t → args[j]? = some v → Value.okWide Try.prog W .any base t v)
    (hW : DataW.Whole enc Try.prog Try.f15.params.toList Rows.normalizeMatchesReferenceSpec.vars false W args.toList ds gs before)
    (hz : (DataW.weightsEach Try.prog (Try.f15.params.toList ++ Rows.normalizeMatchesReferenceSpec.plain.varTypes Try.prog) (ds ++ gs)).all (· ≤ reachBytes) = true)
    (hk : Rows.uptoSmall H (ds ++ gs) = true) :
    Calls Try.prog 15 args W fun e W' => ∃ v, e = .returned v ∧ Rows.normalizeMatchesReferenceSpec.post enc Try.prog Try.f15 false true false false W args v W' := by
  have hW' := hW
  obtain ⟨p, q, hA0, hV, rfl, hfz, hnd⟩ := hW
  have hA : DataW.TrodAll enc Try.prog W 0 (fun _ => true) true Try.f15.params.toList args.toList ds p := hA0
  rw [Try.params15] at hA hval hz
  obtain ⟨v0, vs0, d0, ds0, p0, q0, hargs, rfl, rfl, h0, r0⟩ := trodAll_cons hA
  obtain ⟨v1, vs1, d1, ds1, p1, q1, rfl, rfl, rfl, h1, r1⟩ := trodAll_cons r0
  obtain ⟨v2, vs2, d2, ds2, p2, q2, rfl, rfl, rfl, h2, r2⟩ := trodAll_cons r1
  obtain ⟨v3, vs3, d3, ds3, p3, q3, rfl, rfl, rfl, h3, r3⟩ := trodAll_cons r2
  obtain ⟨rfl, rfl, rfl⟩ := trodAll_nil r3
  obtain rfl : args = #[v0, v1, v2, v3] := by cases args; simp_all
  obtain ⟨rfl, rfl⟩ := trodVars_none hV
  have hz0 : (DataW.weightsEach Try.prog [56, 59, 60, 24] [d0, d1, d2, d3]).all (· ≤ reachBytes) = true := hz
  simp only [DataW.weightsEach, List.append_nil, List.all_append, Bool.and_eq_true] at hz0
  obtain ⟨z0, z1, z2, z3⟩ := hz0
  have k0 := h0
  have lt0 : ∀ x ∈ p0, x.block < W.heap.size := by obtain ⟨m, hm⟩ := k0; exact DataW.trod_lt m _ _ _ hm
  obtain ⟨fu0, h0⟩ := h0
  have o0 := hval 0 56 v0 rfl rfl
  simp only [Value.okWide, Try.underlying56] at o0
  obtain ⟨a0, rfl, _⟩ := o0
  obtain ⟨t0, e0, f0⟩ := Go.Abs.rd_Rs fu0 _ _ h0
  replace e0 := e0.agg
  rw [Go.Abs.Rs.enc_agg] at e0
  have k1 := h1
  have lt1 : ∀ x ∈ p1, x.block < W.heap.size := by obtain ⟨m, hm⟩ := k1; exact DataW.trod_lt m _ _ _ hm
  obtain ⟨fu1, h1⟩ := h1
  obtain ⟨b1, l1, m1, rfl⟩ := okWide_slice Try.underlying59 (hval 1 59 v1 rfl rfl)
  obtain ⟨t1, u1, c1, e1, f1⟩ := rd_slice Go.Abs.Dc.enc Go.Abs.DcD Try.underlying59 (fun a => by rw [Go.Abs.Dc.enc_len]; kernel_rfl) h1 (fun n cs' x' _ h' => Go.Abs.rd_Dc n cs' x' h')
  obtain rfl : u1 = .slice b1 l1 m1 := by simpa [Value.cells] using c1.symm
  have k2 := h2
  have lt2 : ∀ x ∈ p2, x.block < W.heap.size := by obtain ⟨m, hm⟩ := k2; exact DataW.trod_lt m _ _ _ hm
  obtain ⟨fu2, h2⟩ := h2
  obtain ⟨b2, l2, m2, rfl⟩ := okWide_slice Try.underlying60 (hval 2 60 v2 rfl rfl)
  obtain ⟨t2, u2, c2, e2, f2⟩ := rd_slice Go.Abs.TB.enc Go.Abs.TBD Try.underlying60 (fun a => by rw [Go.Abs.TB.enc_len]; kernel_rfl) h2 (fun n cs' x' _ h' => Go.Abs.rd_TB n cs' x' h')
  obtain rfl : u2 = .slice b2 l2 m2 := by simpa [Value.cells] using c2.symm
  have k3 := h3
  have lt3 : ∀ x ∈ p3, x.block < W.heap.size := by obtain ⟨m, hm⟩ := k3; exact DataW.trod_lt m _ _ _ hm
  obtain ⟨fu3, h3⟩ := h3
  have o3 := hval 3 24 v3 rfl rfl
  simp only [Value.okWide, Try.underlying24] at o3
  obtain ⟨a3, rfl, _⟩ := o3
  obtain ⟨t3, e3, f3⟩ := rd_ty Go.Abs.tyAt fu3 _ _ h3
  replace e3 := e3.agg
  rw [Go.Abs.Ty.enc_agg] at e3
  try dsimp only at f0 f1 f2 f3
  have em : maxLen = 9223372036854775807 := by decide
  have eb : reachBytes = 140737488351232 := rfl
  have hb := bulks.bound hk
  simp only [List.append_nil, Rows.uptoBulkAll] at hb
  have s1 := Go.Abs.sl_weights Try.underlying59 f1 z1
  have s2 := Go.Abs.sl_weights Try.underlying60 f2 z2
  rw [bDc] at s1
  rw [bTB] at s2
  have hl : t1.length ≤ maxLen := by rw [em]; omega
  have hd : ∀ d ∈ t1, d.B := fun d hd => by
    obtain ⟨e, h1, h2⟩ := s1.2 d hd
    refine ⟨Go.Abs.Dc_weights h1 h2, ?_⟩
    obtain ⟨e', h3, h4⟩ := sl_mem f1 hd
    have := dc_ps h3
    omega
  have hsl : t2.length ≤ maxLen := by rw [em]; omega
  have hs : ∀ b ∈ t2, b.W := fun b hbm => by obtain ⟨e, h1, h2⟩ := s2.2 b hbm; exact Go.Abs.TB_weights h1 h2
  have w3 := Go.Abs.ty_weights Go.Abs.tyAt f3 z3
  have hl1 := bulks.sl_len f1
  have hts := bulks.ty_size f3
  have hdz : ∀ d ∈ t1, d.t.size ≤ 1048576 := fun d hd => by
    obtain ⟨e', h3, h4⟩ := sl_mem f1 hd
    have := dc_ty h3
    omega
  have hdR : ∀ d ∈ t1, d.R := fun d hm => ⟨hd d hm, by have := hdz d hm; omega⟩
  refine (Go.Abs.calls_of_pc (Go.Abs.law_nref t0 t1 t2 t3 (by omega) hdR (fun d h => by have := hdz d h; omega) hsl hs w3 (by omega)) W _ (RLl.rl (.cons e0 (.cons e1 (.cons e2 (.cons e3 (.nil))))))).mono fun e W' ⟨he, bel⟩ => ?_
  subst he
  exact ⟨_, rfl, _, _, _, [], _, [], hW', trodAll_mk1 (shut_bool Try.underlying4 _), (trodAll_cons_mk (Below.trod laidOut (by kernel_rfl) (of_decide_eq_true (by kernel_rfl)) k0 bel lt0) (trodAll_cons_mk (Below.trod laidOut (by kernel_rfl) (of_decide_eq_true (by kernel_rfl)) k1 bel lt1) (trodAll_cons_mk (Below.trod laidOut (by kernel_rfl) (of_decide_eq_true (by kernel_rfl)) k2 bel lt2) (trodAll_cons_mk (Below.trod laidOut (by kernel_rfl) (of_decide_eq_true (by kernel_rfl)) k3 bel lt3) trodAll_mk0)))), rfl, bel.frame _, fun h => by cases h⟩

set_option maxRecDepth 100000 in
theorem lifted (os : Os) (started : os.Started) (H : Type) (enc : TypeId × Value → H) (F : Stop.Interp) :
    ReturnsInHanded {} Try.checked os 15 .any ((Rows.OpenSpec.upto Rows.normalizeMatchesReferenceSpec).pre6 enc Try.prog Try.f15 Rows.normalizeMatchesReferenceUptoRow.domain false) (((Rows.OpenSpec.upto Rows.normalizeMatchesReferenceSpec).at F).post enc Try.prog Try.f15 false true false false) := by
  refine returnsInHanded_of_cond_sized (C := Try.checked) (s := Rows.OpenSpec.upto Rows.normalizeMatchesReferenceSpec) (k := Rows.uptoSmall) rfl own started (by kernel_rfl) Try.func15
    (OpenSpec.witness (enc := enc) (C := Try.checked) (s := Rows.OpenSpec.upto Rows.normalizeMatchesReferenceSpec) (k := Rows.uptoSmall) rfl false ⟨#[], #[.agg #[.slice none 0 0, .slice none 0 0, .slice none 0 0], .slice none 0 0, .slice none 0 0, .agg #[.int .i64 0, .int .i64 0, .slice none 0 0]], []⟩ 8 (by kernel_rfl) (by kernel_rfl) (by kernel_rfl)
      (x := ([.agg [.nil, .nil, .nil], .nil, .nil, .agg [.lit (.int .i64 0), .lit (.int .i64 0), .nil]], [], [])) (by kernel_rfl) rfl (by kernel_rfl)) ?_
  intro W base args ds gs before hval hW _ hk hz _
  exact contract H enc W base args ds gs before hval hW hz hk

theorem over : Rows.normalizeMatchesReferenceUptoRow.holds Try.pinned (Rows.OpenSpec.upto Rows.normalizeMatchesReferenceSpec) :=
  OpenClaim.holds_of_cond 15 Try.f15 rfl rfl rfl rfl rfl rfl rfl ⟨rfl, rfl, rfl, rfl, rfl⟩ rfl rfl rfl rfl rfl (by kernel_rfl) Try.func15 closed
    (of_decide_eq_true (by kernel_rfl)) (by unfold Func.isWrapper; first | (rw [if_pos (by decide +kernel)]; kernel_rfl) | (rw [if_neg (by decide +kernel)]; exact ⟨rfl, rfl⟩))
    (fun os started H enc _ F => lifted os started H enc F)

/-- The statement. -/
theorem proved : Rows.NormalizeMatchesReferenceUptoSaid := over
end Go.Proofs.Ytmjoonaejldkhaa.normalizeMatchesReferenceDone
