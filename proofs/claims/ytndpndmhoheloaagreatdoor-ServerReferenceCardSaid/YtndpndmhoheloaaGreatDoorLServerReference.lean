/- Proved here: the statement of the law ServerReference: for every input that its row speaks of (the package variables that it lists tied to the pruned copy of the program) the call returns true, and the input reads as it did. No condition of ours. -/
import Derived.Test.YtndpndmhoheloaaGreatDoorGIServerReference
import Derived.Test.YtndpndmhoheloaaGreatDoorHAServerReference
import Derived.Test.YtndpndmhoheloaaGreatDoorTie
import Derived.Test.YtndpndmhoheloaaGreatDoorCards
import Derived.SevenTiedAt
import Derived.Lib.LaidU8
import Derived.LaidMore
import Derived.Lay
import Derived.Stop.Joined
import Derived.WalkKit
import Derived.ProofKit
import Derived.OpenShut
import Derived.ShutString
import Derived.ChangeOld
import Derived.Below
set_option linter.unusedVariables false
set_option linter.unusedSimpArgs false
namespace Go.Proofs.YtndpndmhoheloaaGreatDoor.serverReferenceDone
open Go.ChangeShapes Go.WideShapes Go.ChangeAt Go.RowKit
open Go.ChangeMaps (open_string shut_string)
open Go.Abs (env0 RLl rd_ty rd_slice rd_int rd_string)

theorem own : ownKnob Tryz.prog.godebug = none := by kernel_rfl
theorem laidOut : laidOutB Tryz.prog = true := by kernel_rfl
theorem gA : Tryz.prog.globalNamed "strings.asciiSpace" = some 1 := by kernel_rfl
theorem tA : (Tryz.prog.globals[1]?).map (·.type) = some 181 := by kernel_rfl
theorem gR : Go.Proofs.Tryz.lays157_ren.g 0 = 1 := by kernel_rfl
theorem c5 : Tryz.prog.cellsOf 5 = 1 := by kernel_rfl
theorem datum {H : Type} : (Rows.laid_strings_asciiSpace : DataW H) = .agg ((List.range 256).map fun c => .lit (.int .u8 (if Go.Lib.isSp (UInt8.ofNat c) then 1 else 0))) := by kernel_rfl
theorem of_laid {W : World} (h : laidMetH Tryz.prog [("unicode.White_Space", Rows.laid_unicode_White_Space), ("strings.asciiSpace", Rows.laid_strings_asciiSpace)] W) : ∀ b vs, Go.Abs.AObj.glob b vs ∈ Go.Abs.G0 → ∀ i (h : i < vs.length), W.cell? ⟨b, i, none⟩ = some vs[i] := by
  intro b vs hb i hi
  simp only [Go.Abs.G0, Go.Abs.GC, Go.Abs.gO, List.mem_singleton, Go.Abs.AObj.glob.injEq] at hb
  obtain ⟨rfl, rfl⟩ := hb
  rw [MakeChecks.laidMetH_plain _ _ _ (by kernel_rfl)] at h
  obtain ⟨g1, t1, cs1, f1, p1, hg1, ht1, hv1, hd1⟩ := Go.Lib.laidMet.reads h (n := "strings.asciiSpace") (d := Rows.laid_strings_asciiSpace) (by simp only [List.mem_cons, true_or, or_true])
  obtain rfl := Option.some.inj (gA.symm.trans hg1)
  obtain rfl := Option.some.inj (tA.symm.trans ht1)
  have hl : Go.Abs.spT.length = 256 := by simp [Go.Abs.spT]
  rw [datum] at hd1
  obtain ⟨v, e1, e2⟩ := Go.Abs.laid_ints Tryz.underlying181 Tryz.underlying5 c5 hd1 i (by omega)
  have := World.var?_cell hg1 hv1 i
  rw [← Array.getElem?_toList, e2] at this
  rw [gR, this]
  have h256 : i < 256 := by omega
  simp only [List.getElem?_map, List.getElem?_range h256, Option.map_some, Option.some.injEq, DataW.lit.injEq, Lit.int.injEq] at e1
  simp [Go.Abs.spT, e1.2.symm]
set_option maxRecDepth 100000 in
theorem closed : joinedFacts Tryz.prog 3 Tryz.f3 Rows.serverReferenceSpec Rows.serverReferenceRow = true := by
  unfold joinedFacts
  rw [headFacts.mayEnter, headFacts.liftsFinal, headFacts.make]
  kernel_rfl

set_option maxRecDepth 100000 in
/-- What the walk gives, for every argument. -/
theorem contract (H : Type) (enc : TypeId × Value → H) (W : World) (base : Nat) (args : Array Value) (ds gs : List (DataW H)) (before : List MemPlace)
    (hval : ∀ (j : Nat) t v, Tryz.f3.params[j]? = some t → args[j]? = some v → Value.okWide Tryz.prog W .any base t v)
    (hW : DataW.Whole enc Tryz.prog Tryz.f3.params.toList Rows.serverReferenceSpec.vars false W args.toList ds gs before)
    (hz : (DataW.weightsEach Tryz.prog (Tryz.f3.params.toList ++ Rows.serverReferenceSpec.plain.varTypes Tryz.prog) (ds ++ gs)).all (· ≤ reachBytes) = true)
    (hL : laidMetH Tryz.prog [("unicode.White_Space", Rows.laid_unicode_White_Space), ("strings.asciiSpace", Rows.laid_strings_asciiSpace)] W) :
    Calls Tryz.prog 3 args W fun e W' => ∃ v, e = .returned v ∧ Rows.serverReferenceSpec.post enc Tryz.prog Tryz.f3 false true false false W args v W' := by
  have hW' := hW
  have hL' := of_laid hL
  obtain ⟨p, q, hA0, hV, rfl, hfz, hnd⟩ := hW
  have hA : DataW.TrodAll enc Tryz.prog W 0 (fun _ => true) true Tryz.f3.params.toList args.toList ds p := hA0
  rw [Tryz.params3] at hA hval hz
  obtain ⟨v0, vs0, d0, ds0, p0, q0, hargs, rfl, rfl, h0, r0⟩ := trodAll_cons hA
  obtain ⟨rfl, rfl, rfl⟩ := trodAll_nil r0
  obtain rfl : args = #[v0] := by cases args; simp_all
  obtain ⟨rfl, rfl⟩ := trodVars_none hV
  have hz0 : (DataW.weightsEach Tryz.prog [22] [d0]).all (· ≤ reachBytes) = true := hz
  simp only [DataW.weightsEach, List.append_nil, List.all_append, Bool.and_eq_true] at hz0
  have z0 := hz0
  have k0 := h0
  have lt0 : ∀ x ∈ p0, x.block < W.heap.size := by obtain ⟨m, hm⟩ := k0; exact DataW.trod_lt m _ _ _ hm
  obtain ⟨fu0, h0⟩ := h0
  obtain ⟨b0, l0, m0, rfl⟩ := okWide_slice Tryz.underlying22 (hval 0 22 v0 rfl rfl)
  obtain ⟨t0, u0, c0, e0, f0⟩ := rd_slice Go.Abs.Ev.enc Go.Abs.EvD Tryz.underlying22 (fun a => by rw [Go.Abs.Ev.enc_len]; kernel_rfl) h0 (fun n cs' x' _ h' => Go.Abs.rd_Ev n cs' x' h')
  obtain rfl : u0 = .slice b0 l0 m0 := by simpa [Value.cells] using c0.symm
  try dsimp only at f0
  have hb : reachBytes = 140737488351232 := rfl
  have em : maxLen = 9223372036854775807 := by decide
  have s0 := Go.Abs.sl_weights Tryz.underlying22 f0 z0
  have hl : t0.length ≤ maxLen := by have := s0.1; rw [show Tryz.prog.bytesOf 34 = 128 from by kernel_rfl, hb] at this; omega
  have hn : ∀ m ∈ t0, Go.Abs.evOk m := fun m hm => by obtain ⟨d', hd, hw⟩ := s0.2 m hm; exact Go.Abs.evOk_rd hd hw
  refine (Go.Abs.calls_of_ga (G := Go.Abs.G0) (Go.Abs.law_c rfl t0 hl hn) W (fun o ho => ⟨_, _, List.mem_singleton.1 ho⟩) hL' _ (RLl.rl (.cons e0 (.nil)))).mono fun e W' ⟨he, bel⟩ => ?_
  subst he
  exact ⟨_, rfl, _, _, _, [], _, [], hW', trodAll_mk1 (shut_bool Tryz.underlying4 _), (trodAll_cons_mk (Below.trod laidOut (by kernel_rfl) (of_decide_eq_true (by kernel_rfl)) k0 bel lt0) trodAll_mk0), rfl, bel.frame _, fun h => by cases h⟩

set_option maxRecDepth 100000 in
theorem lifted (os : Os) (started : os.Started) (H : Type) (enc : TypeId × Value → H) :
    ReturnsInHanded {} Tryz.checked os 3 .any (fun w args => (Rows.serverReferenceSpec.pre enc Tryz.prog Tryz.f3 [] false w args ∧ laidMetH Tryz.prog [("unicode.White_Space", Rows.laid_unicode_White_Space), ("strings.asciiSpace", Rows.laid_strings_asciiSpace)] w) ∧ sizedMet enc Tryz.prog Tryz.f3 (OpenSpec.ofChange Rows.serverReferenceSpec) false w args)
      (Rows.serverReferenceSpec.post enc Tryz.prog Tryz.f3 false true false false) := by
  refine returnsInHanded_of_change_and (C := Tryz.checked) (X := fun w _ => laidMetH Tryz.prog [("unicode.White_Space", Rows.laid_unicode_White_Space), ("strings.asciiSpace", Rows.laid_strings_asciiSpace)] w) (fun _ _ _ hh h => h.of_heap hh) own started (by kernel_rfl) Tryz.func3
    (ChangeSpec.witness_shaped (enc := enc) (C := Tryz.checked) (os := os) (X := fun w _ => laidMetH Tryz.prog [("unicode.White_Space", Rows.laid_unicode_White_Space), ("strings.asciiSpace", Rows.laid_strings_asciiSpace)] w) false (World.laidAll Tryz.prog os [("unicode.White_Space", Rows.laid_unicode_White_Space), ("strings.asciiSpace", Rows.laid_strings_asciiSpace)]) #[.slice none 0 0] 8 (World.laidAll_os _ _ _) (World.shaped_of_ZipB (by kernel_rfl) (by kernel_rfl)) (by kernel_rfl) (by kernel_rfl) (by kernel_rfl) (by rw [MakeChecks.laidMetH_plain _ _ _ (by kernel_rfl)]; exact laidMet_laidAll _ (by kernel_rfl) (by kernel_rfl))) ?_
  intro W base args ds gs before hval hW _ hz hL _
  exact contract H enc W base args ds gs before hval hW hz hL

theorem over : Rows.serverReferenceRow.holds Tryz.pinned (OpenSpec.ofChange Rows.serverReferenceSpec) :=
  OpenClaim.holds_of_wide 3 Tryz.f3 rfl rfl rfl rfl rfl rfl rfl ⟨rfl, rfl, rfl, rfl, rfl⟩ rfl rfl rfl rfl rfl (by kernel_rfl) Tryz.func3 closed
    (of_decide_eq_true (by kernel_rfl)) (by unfold Func.isWrapper; first | (rw [if_pos (by decide +kernel)]; kernel_rfl) | (rw [if_neg (by decide +kernel)]; exact ⟨rfl, rfl⟩))
    (fun os started H enc _ => lifted os started H enc)

/-- The statement: the card. -/
theorem proved : Rows.ServerReferenceCardSaid :=
  Claim7.holds_tied_plain_at .later [] [.listed, .data] true (true, "4481fa4149d5292ca2adbe42ad0538354025371f96e7e26fd42275a5a30b9774") true
    over (fun _ h => by cases h) (by kernel_rfl) (fun _ h => by cases h) serverReference_row_tie rfl ⟨rfl, rfl⟩ (by kernel_rfl) rfl
    (fun f fn hf hfn => by
      obtain rfl : f = 3 := Option.some.inj ((show Tryz.prog.funcNamed "glossator/glossatorlaw1.ServerReference" = some 3 by kernel_rfl).symm.trans hf) |>.symm
      obtain rfl : fn = Tryz.f3 := (Option.some.inj (Tryz.func3.symm.trans hfn)).symm
      exact ⟨by kernel_rfl, fun j t ht => by
        rw [Tryz.params3] at ht
        have hm : t ∈ [22] := by simpa using Array.mem_of_getElem? ht
        have hall : ([22].all fun u => !Tryz.prog.wantsStandIn u) = true := by kernel_rfl
        exact (show Tryz.prog.wantsStandIn t = false by simpa using List.all_eq_true.1 hall t hm)⟩)
    (by kernel_rfl)
end Go.Proofs.YtndpndmhoheloaaGreatDoor.serverReferenceDone
