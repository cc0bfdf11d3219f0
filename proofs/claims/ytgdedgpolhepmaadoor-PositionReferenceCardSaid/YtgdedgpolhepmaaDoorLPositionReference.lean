/- Proved here: the statement of the law PositionReference: for every input that its row speaks of (the package variables that it lists tied to the pruned copy of the program) the call returns true, and the input reads as it did. No condition of ours. -/
import Derived.Test.YtgdedgpolhepmaaDoorGFPositionReference
import Derived.Test.YtgdedgpolhepmaaDoorTie
import Derived.Test.YtgdedgpolhepmaaDoorCards
import Derived.SevenTiedAt
import Derived.Lib.LaidU8
import Derived.LaidMore
import Derived.Lay
import Derived.Stop.Joined
import Derived.WalkKit
import Derived.ProofKit
import Derived.OpenShut
import Derived.ShutString
import Derived.ChangeOld
import Derived.Below
set_option linter.unusedVariables false
set_option linter.unusedSimpArgs false
namespace Go.Proofs.YtgdedgpolhepmaaDoor.positionReferenceDone
open Go.ChangeShapes Go.WideShapes Go.ChangeAt Go.RowKit
open Go.ChangeMaps (open_string shut_string)
open Go.Abs (env0 RLl rd_ty rd_slice rd_int rd_string)

theorem own : ownKnob Tryd.prog.godebug = none := by kernel_rfl
theorem laidOut : laidOutB Tryd.prog = true := by kernel_rfl
theorem extra8 : Go.Proofs.U8Extra Tryd.prog Tryd.lays197_ren := by constructor <;> kernel_rfl
theorem d3 : Rows.laid_unicode_utf8_first = Go.Lib.firstData := by kernel_rfl
theorem d4 : (Rows.laid_unicode_utf8_acceptRanges : DataW Unit) = Go.Lib.acceptData := by kernel_rfl
theorem of_laid {W : World} (h : laidMetH Tryd.prog [("unicode/utf8.acceptRanges", Rows.laid_unicode_utf8_acceptRanges), ("unicode/utf8.first", Rows.laid_unicode_utf8_first)] W) : ∀ b vs, Go.Abs.AObj.glob b vs ∈ Go.Abs.G0 → ∀ i (h : i < vs.length), W.cell? ⟨b, i, none⟩ = some vs[i] := by
  rw [MakeChecks.laidMetH_plain _ _ _ (by kernel_rfl)] at h
  have hT : Go.Lib.Utf8Tabs 1 2 W := Go.Proofs.utf8Tabs_of_reads { Tryd.lays197 with } extra8 (d3 ▸ Go.Lib.laidMet.reads h (.tail _ (.head _))) (d4 ▸ Go.Lib.laidMet.reads h (.head _))
  intro b vs hb i hi
  simp only [Go.Abs.G0, List.mem_cons, List.not_mem_nil, or_false, Go.Abs.AObj.glob.injEq] at hb
  rcases hb with ⟨rfl, rfl⟩ | ⟨rfl, rfl⟩
  · have hl : Go.Abs.firstV.length = 256 := by simp [Go.Abs.firstV]
    rw [hT.1 i (by omega)]
    simp [Go.Abs.firstV]
  · have hl : Go.Abs.accV.length = 32 := by simp [Go.Abs.accV]
    have h2 := hT.2 (i / 2) (by omega)
    rcases Nat.mod_two_eq_zero_or_one i with e | e
    · have h3 := h2.1
      rw [show 2 * (i / 2) = i by omega] at h3
      rw [h3]
      simp [Go.Abs.accV, e]
    · have h3 := h2.2
      rw [show 2 * (i / 2) + 1 = i by omega] at h3
      rw [h3]
      simp [Go.Abs.accV, e]
set_option maxRecDepth 100000 in
theorem closed : joinedFacts Tryd.prog 3 Tryd.f3 Rows.positionReferenceSpec Rows.positionReferenceRow = true := by
  unfold joinedFacts
  rw [headFacts.mayEnter, headFacts.liftsFinal, headFacts.make]
  kernel_rfl

set_option maxRecDepth 100000 in
/-- What the walk gives, for every argument. -/
theorem contract (H : Type) (enc : TypeId × Value → H) (W : World) (base : Nat) (args : Array Value) (ds gs : List (DataW H)) (before : List MemPlace)
    (hval : ∀ (j : Nat) t v, Tryd.f3.params[j]? = some t → args[j]? = some v → Value.okWide Tryd.prog W .any base t v)
    (hW : DataW.Whole enc Tryd.prog Tryd.f3.params.toList Rows.positionReferenceSpec.vars false W args.toList ds gs before)
    (hz : (DataW.weightsEach Tryd.prog (Tryd.f3.params.toList ++ Rows.positionReferenceSpec.plain.varTypes Tryd.prog) (ds ++ gs)).all (· ≤ reachBytes) = true)
    (hL : laidMetH Tryd.prog [("unicode/utf8.acceptRanges", Rows.laid_unicode_utf8_acceptRanges), ("unicode/utf8.first", Rows.laid_unicode_utf8_first)] W) :
    Calls Tryd.prog 3 args W fun e W' => ∃ v, e = .returned v ∧ Rows.positionReferenceSpec.post enc Tryd.prog Tryd.f3 false true false false W args v W' := by
  have hW' := hW
  have hL' := of_laid hL
  obtain ⟨p, q, hA0, hV, rfl, hfz, hnd⟩ := hW
  have hA : DataW.TrodAll enc Tryd.prog W 0 (fun _ => true) true Tryd.f3.params.toList args.toList ds p := hA0
  rw [Tryd.params3] at hA hval hz
  obtain ⟨v0, vs0, d0, ds0, p0, q0, hargs, rfl, rfl, h0, r0⟩ := trodAll_cons hA
  obtain ⟨v1, vs1, d1, ds1, p1, q1, rfl, rfl, rfl, h1, r1⟩ := trodAll_cons r0
  obtain ⟨v2, vs2, d2, ds2, p2, q2, rfl, rfl, rfl, h2, r2⟩ := trodAll_cons r1
  obtain ⟨rfl, rfl, rfl⟩ := trodAll_nil r2
  obtain rfl : args = #[v0, v1, v2] := by cases args; simp_all
  obtain ⟨rfl, rfl⟩ := trodVars_none hV
  have hz0 : (DataW.weightsEach Tryd.prog [9, 3, 23] [d0, d1, d2]).all (· ≤ reachBytes) = true := hz
  simp only [DataW.weightsEach, List.append_nil, List.all_append, Bool.and_eq_true] at hz0
  obtain ⟨z0, z1, z2⟩ := hz0
  have k0 := h0
  have lt0 : ∀ x ∈ p0, x.block < W.heap.size := by obtain ⟨m, hm⟩ := k0; exact DataW.trod_lt m _ _ _ hm
  obtain ⟨fu0, h0⟩ := h0
  obtain ⟨t0, e0, f0, g0⟩ := rd_string Tryd.underlying9 h0
  obtain ⟨x0, rfl, _⟩ := okWide_string Tryd.underlying9 (hval 0 9 v0 rfl rfl)
  replace e0 := e0.one
  have k1 := h1
  have lt1 : ∀ x ∈ p1, x.block < W.heap.size := by obtain ⟨m, hm⟩ := k1; exact DataW.trod_lt m _ _ _ hm
  obtain ⟨fu1, h1⟩ := h1
  obtain ⟨t1, e1, f1, g1, c1⟩ := rd_int Tryd.underlying3 h1
  obtain rfl : v1 = .int .i64 t1 := by have := okWide_int Tryd.underlying3 (hval 1 3 v1 rfl rfl); obtain ⟨m, rfl, _⟩ := this; simpa [Value.cells] using c1
  replace e1 := e1.one
  have k2 := h2
  have lt2 : ∀ x ∈ p2, x.block < W.heap.size := by obtain ⟨m, hm⟩ := k2; exact DataW.trod_lt m _ _ _ hm
  obtain ⟨fu2, h2⟩ := h2
  have o2 := hval 2 23 v2 rfl rfl
  simp only [Value.okWide, Tryd.underlying23] at o2
  obtain ⟨a2, rfl, _⟩ := o2
  obtain ⟨t2, e2, f2⟩ := Go.Abs.rd_Po fu2 _ _ h2
  replace e2 := e2.agg
  rw [Go.Abs.Po.enc_agg] at e2
  try dsimp only at f0 f1 f2
  refine (Go.Abs.calls_of_pg (Go.Abs.law_c t0 g0 t1 t2) W (fun o ho => by rcases List.mem_cons.1 ho with e | e; exact ⟨_, _, e⟩; exact ⟨_, _, List.mem_singleton.1 e⟩) hL' _ (RLl.rl (.cons e0 (.cons e1 (.cons e2 (.nil)))))).mono fun e W' ⟨he, bel⟩ => ?_
  subst he
  exact ⟨_, rfl, _, _, _, [], _, [], hW', trodAll_mk1 (shut_bool Tryd.underlying4 _), (trodAll_cons_mk (Below.trod laidOut (by kernel_rfl) (of_decide_eq_true (by kernel_rfl)) k0 bel lt0) (trodAll_cons_mk (Below.trod laidOut (by kernel_rfl) (of_decide_eq_true (by kernel_rfl)) k1 bel lt1) (trodAll_cons_mk (Below.trod laidOut (by kernel_rfl) (of_decide_eq_true (by kernel_rfl)) k2 bel lt2) trodAll_mk0))), rfl, bel.frame _, fun h => by cases h⟩

set_option maxRecDepth 100000 in
theorem lifted (os : Os) (started : os.Started) (H : Type) (enc : TypeId × Value → H) :
    ReturnsInHanded {} Tryd.checked os 3 .any (fun w args => (Rows.positionReferenceSpec.pre enc Tryd.prog Tryd.f3 [] false w args ∧ laidMetH Tryd.prog [("unicode/utf8.acceptRanges", Rows.laid_unicode_utf8_acceptRanges), ("unicode/utf8.first", Rows.laid_unicode_utf8_first)] w) ∧ sizedMet enc Tryd.prog Tryd.f3 (OpenSpec.ofChange Rows.positionReferenceSpec) false w args)
      (Rows.positionReferenceSpec.post enc Tryd.prog Tryd.f3 false true false false) := by
  refine returnsInHanded_of_change_and (C := Tryd.checked) (X := fun w _ => laidMetH Tryd.prog [("unicode/utf8.acceptRanges", Rows.laid_unicode_utf8_acceptRanges), ("unicode/utf8.first", Rows.laid_unicode_utf8_first)] w) (fun _ _ _ hh h => h.of_heap hh) own started (by kernel_rfl) Tryd.func3
    (ChangeSpec.witness_shaped (enc := enc) (C := Tryd.checked) (os := os) (X := fun w _ => laidMetH Tryd.prog [("unicode/utf8.acceptRanges", Rows.laid_unicode_utf8_acceptRanges), ("unicode/utf8.first", Rows.laid_unicode_utf8_first)] w) false (World.laidAll Tryd.prog os [("unicode/utf8.acceptRanges", Rows.laid_unicode_utf8_acceptRanges), ("unicode/utf8.first", Rows.laid_unicode_utf8_first)]) #[.string ByteArray.empty, .int .i64 0, .agg #[.int .i64 0, .int .i64 0]] 8 (World.laidAll_os _ _ _) (World.shaped_of_ZipB (by kernel_rfl) (by kernel_rfl)) (by kernel_rfl) (by kernel_rfl) (by kernel_rfl) (by rw [MakeChecks.laidMetH_plain _ _ _ (by kernel_rfl)]; exact laidMet_laidAll _ (by kernel_rfl) (by kernel_rfl))) ?_
  intro W base args ds gs before hval hW _ hz hL _
  exact contract H enc W base args ds gs before hval hW hz hL

theorem over : Rows.positionReferenceRow.holds Tryd.pinned (OpenSpec.ofChange Rows.positionReferenceSpec) :=
  OpenClaim.holds_of_wide 3 Tryd.f3 rfl rfl rfl rfl rfl rfl rfl ⟨rfl, rfl, rfl, rfl, rfl⟩ rfl rfl rfl rfl rfl (by kernel_rfl) Tryd.func3 closed
    (of_decide_eq_true (by kernel_rfl)) (by unfold Func.isWrapper; first | (rw [if_pos (by decide +kernel)]; kernel_rfl) | (rw [if_neg (by decide +kernel)]; exact ⟨rfl, rfl⟩))
    (fun os started H enc _ => lifted os started H enc)

/-- The statement: the card. -/
theorem proved : Rows.PositionReferenceCardSaid :=
  Claim7.holds_tied_plain_at .later [] [.data, .pinned] true (true, "8e1c61a179116149bff41619b87352e380a1df10aac7b8df9faf662d18867582") false
    over (fun _ h => by cases h) (by kernel_rfl) (fun _ h => by cases h) positionReference_row_tie rfl ⟨rfl, rfl⟩ (by kernel_rfl) rfl
    (fun f fn hf hfn => by
      obtain rfl : f = 3 := Option.some.inj ((show Tryd.prog.funcNamed "glossator/glossatorlaw1.PositionReference" = some 3 by kernel_rfl).symm.trans hf) |>.symm
      obtain rfl : fn = Tryd.f3 := (Option.some.inj (Tryd.func3.symm.trans hfn)).symm
      exact ⟨by kernel_rfl, fun j t ht => by
        rw [Tryd.params3] at ht
        have hm : t ∈ [9, 3, 23] := by simpa using Array.mem_of_getElem? ht
        have hall : ([9, 3, 23].all fun u => !Tryd.prog.wantsStandIn u) = true := by kernel_rfl
        exact (show Tryd.prog.wantsStandIn t = false by simpa using List.all_eq_true.1 hall t hm)⟩)
    (by kernel_rfl)
end Go.Proofs.YtgdedgpolhepmaaDoor.positionReferenceDone
