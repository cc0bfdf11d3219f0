/- Proved here: the statement of the law SymbolsReference: for every input that its row speaks of (the package variables that it lists tied to the pruned copy of the program) the call returns true, and the input reads as it did. No condition of ours. -/
import Derived.Test.YtfphoklhgapnpaaGreatDoorGGSymbolsReference
import Derived.Test.YtfphoklhgapnpaaGreatDoorHASymbolsReference
import Derived.Test.YtfphoklhgapnpaaGreatDoorHBSymbolsReference
import Derived.Test.YtfphoklhgapnpaaGreatDoorHCSymbolsReference
import Derived.Test.YtfphoklhgapnpaaGreatDoorHDSymbolsReference
import Derived.Test.YtfphoklhgapnpaaGreatDoorHESymbolsReference
import Derived.Test.YtfphoklhgapnpaaGreatDoorTie
import Derived.Test.YtfphoklhgapnpaaGreatDoorCards
import Derived.SevenTiedAt
import Derived.Lib.LaidU8
import Derived.LaidMore
import Derived.Lay
import Derived.Stop.Joined
import Derived.WalkKit
import Derived.ProofKit
import Derived.OpenShut
import Derived.ShutString
import Derived.ChangeOld
import Derived.Below
set_option linter.unusedVariables false
set_option linter.unusedSimpArgs false
namespace Go.Proofs.YtfphoklhgapnpaaGreatDoor.symbolsReferenceDone
open Go.ChangeShapes Go.WideShapes Go.ChangeAt Go.RowKit
open Go.ChangeMaps (open_string shut_string)
open Go.Abs (env0 RLl rd_ty rd_slice rd_int rd_string)

theorem own : ownKnob Tryz.prog.godebug = none := by kernel_rfl
theorem laidOut : laidOutB Tryz.prog = true := by kernel_rfl
theorem gA : Tryz.prog.globalNamed "strings.asciiSpace" = some 0 := by kernel_rfl
theorem tA : (Tryz.prog.globals[0]?).map (·.type) = some 242 := by kernel_rfl
theorem gR : Go.Proofs.Tryz.lays157_ren.g 0 = 0 := by kernel_rfl
theorem c5 : Tryz.prog.cellsOf 5 = 1 := by kernel_rfl
theorem g3 : Tryz.prog.globalNamed "strconv.ErrSyntax" = some 3 := by kernel_rfl
theorem g4 : Tryz.prog.globalNamed "strconv.ErrRange" = some 4 := by kernel_rfl
theorem t3 : (Tryz.prog.globals[3]?).map (·.type) = some 128 := by kernel_rfl
theorem t4 : (Tryz.prog.globals[4]?).map (·.type) = some 128 := by kernel_rfl
theorem datum {H : Type} : (Rows.laid_strings_asciiSpace : DataW H) = .agg ((List.range 256).map fun c => .lit (.int .u8 (if Go.Lib.isSp (UInt8.ofNat c) then 1 else 0))) := by kernel_rfl
theorem of_laid {W : World} (h : laidMetH Tryz.prog [("math/bits.deBruijn32tab", Rows.laid_math_bits_deBruijn32tab), ("math/bits.deBruijn64tab", Rows.laid_math_bits_deBruijn64tab), ("internal/strconv.uint64pow10", Rows.laid_internal_strconv_uint64pow10), ("strconv.ErrRange", Rows.laid_strconv_ErrRange), ("strconv.ErrSyntax", Rows.laid_strconv_ErrSyntax), ("unicode.White_Space", Rows.laid_unicode_White_Space), ("strings.asciiSpace", Rows.laid_strings_asciiSpace)] W) : ∃ e3 e4, (∃ a b, e3 = Value.iface a b) ∧ (∃ a b, e4 = Value.iface a b) ∧ ∀ b vs, Go.Abs.AObj.glob b vs ∈ Go.Abs.GE e3 e4 → ∀ i (h : i < vs.length), W.cell? ⟨b, i, none⟩ = some vs[i] := by
  rw [MakeChecks.laidMetH_plain _ _ _ (by kernel_rfl)] at h
  obtain ⟨g1, t1, cs1, f1, p1, hg1, ht1, hv1, hd1⟩ := Go.Lib.laidMet.reads h (n := "strings.asciiSpace") (d := Rows.laid_strings_asciiSpace) (by simp only [List.mem_cons, true_or, or_true])
  obtain ⟨g2, t2, cs2, f2, p2, hg2, ht2, hv2, hd2⟩ := Go.Lib.laidMet.reads h (n := "strconv.ErrSyntax") (d := Rows.laid_strconv_ErrSyntax) (by simp only [List.mem_cons, true_or, or_true])
  obtain ⟨g5, t5, cs5, f5, p5, hg5, ht5, hv5, hd5⟩ := Go.Lib.laidMet.reads h (n := "strconv.ErrRange") (d := Rows.laid_strconv_ErrRange) (by simp only [List.mem_cons, true_or, or_true])
  obtain rfl := Option.some.inj (gA.symm.trans hg1)
  obtain rfl := Option.some.inj (tA.symm.trans ht1)
  obtain rfl := Option.some.inj (g3.symm.trans hg2)
  obtain rfl := Option.some.inj (t3.symm.trans ht2)
  obtain rfl := Option.some.inj (g4.symm.trans hg5)
  obtain rfl := Option.some.inj (t4.symm.trans ht5)
  obtain ⟨a3, b3, e3⟩ := Go.Abs.trod_ifc ⟨_, Tryz.underlying128⟩ hd2
  obtain ⟨a4, b4, e4⟩ := Go.Abs.trod_ifc ⟨_, Tryz.underlying128⟩ hd5
  refine ⟨_, _, ⟨a3, b3, rfl⟩, ⟨a4, b4, rfl⟩, ?_⟩
  intro b vs hb i hi
  simp only [Go.Abs.GE, Go.Abs.gO, List.mem_cons, List.not_mem_nil, or_false, Go.Abs.AObj.glob.injEq] at hb
  rcases hb with ⟨rfl, rfl⟩ | ⟨rfl, rfl⟩ | ⟨rfl, rfl⟩
  · have hl : Go.Abs.spT.length = 256 := by simp [Go.Abs.spT]
    rw [datum] at hd1
    obtain ⟨v, e1, e2⟩ := Go.Abs.laid_ints Tryz.underlying242 Tryz.underlying5 c5 hd1 i (by omega)
    have := World.var?_cell hg1 hv1 i
    rw [← Array.getElem?_toList, e2] at this
    rw [gR, this]
    have h256 : i < 256 := by omega
    simp only [List.getElem?_map, List.getElem?_range h256, Option.map_some, Option.some.injEq, DataW.lit.injEq, Lit.int.injEq] at e1
    simp [Go.Abs.spT, e1.2.symm]
  · obtain rfl : i = 0 := by simpa using hi
    have := World.var?_cell hg2 hv2 0
    rw [← Array.getElem?_toList, e3] at this
    exact this
  · obtain rfl : i = 0 := by simpa using hi
    have := World.var?_cell hg5 hv5 0
    rw [← Array.getElem?_toList, e4] at this
    exact this
set_option maxRecDepth 100000 in
/-- What the walk gives, for every argument. -/
theorem contract (H : Type) (enc : TypeId × Value → H) (W : World) (base : Nat) (args : Array Value) (ds gs : List (DataW H)) (before : List MemPlace)
    (hval : ∀ (j : Nat) t v, Tryz.f3.params[j]? = some t → args[j]? = some v → Value.okWide Tryz.prog W .any base t v)
    (hW : DataW.Whole enc Tryz.prog Tryz.f3.params.toList Rows.symbolsReferenceSpec.vars false W args.toList ds gs before)
    (hz : (DataW.weightsEach Tryz.prog (Tryz.f3.params.toList ++ Rows.symbolsReferenceSpec.plain.varTypes Tryz.prog) (ds ++ gs)).all (· ≤ reachBytes) = true)
    (hL : laidMetH Tryz.prog [("math/bits.deBruijn32tab", Rows.laid_math_bits_deBruijn32tab), ("math/bits.deBruijn64tab", Rows.laid_math_bits_deBruijn64tab), ("internal/strconv.uint64pow10", Rows.laid_internal_strconv_uint64pow10), ("strconv.ErrRange", Rows.laid_strconv_ErrRange), ("strconv.ErrSyntax", Rows.laid_strconv_ErrSyntax), ("unicode.White_Space", Rows.laid_unicode_White_Space), ("strings.asciiSpace", Rows.laid_strings_asciiSpace)] W) :
    Calls Tryz.prog 3 args W fun e W' => ∃ v, e = .returned v ∧ Rows.symbolsReferenceSpec.post enc Tryz.prog Tryz.f3 false true false false W args v W' := by
  have hW' := hW
  have hL' := of_laid hL
  obtain ⟨p, q, hA0, hV, rfl, hfz, hnd⟩ := hW
  have hA : DataW.TrodAll enc Tryz.prog W 0 (fun _ => true) true Tryz.f3.params.toList args.toList ds p := hA0
  rw [Tryz.params3] at hA hval hz
  obtain ⟨v0, vs0, d0, ds0, p0, q0, hargs, rfl, rfl, h0, r0⟩ := trodAll_cons hA
  obtain ⟨v1, vs1, d1, ds1, p1, q1, rfl, rfl, rfl, h1, r1⟩ := trodAll_cons r0
  obtain ⟨v2, vs2, d2, ds2, p2, q2, rfl, rfl, rfl, h2, r2⟩ := trodAll_cons r1
  obtain ⟨v3, vs3, d3, ds3, p3, q3, rfl, rfl, rfl, h3, r3⟩ := trodAll_cons r2
  obtain ⟨rfl, rfl, rfl⟩ := trodAll_nil r3
  obtain rfl : args = #[v0, v1, v2, v3] := by cases args; simp_all
  obtain ⟨rfl, rfl⟩ := trodVars_none hV
  have hz0 : (DataW.weightsEach Tryz.prog [22, 3, 3, 3] [d0, d1, d2, d3]).all (· ≤ reachBytes) = true := hz
  simp only [DataW.weightsEach, List.append_nil, List.all_append, Bool.and_eq_true] at hz0
  obtain ⟨z0, z1, z2, z3⟩ := hz0
  have k0 := h0
  have lt0 : ∀ x ∈ p0, x.block < W.heap.size := by obtain ⟨m, hm⟩ := k0; exact DataW.trod_lt m _ _ _ hm
  obtain ⟨fu0, h0⟩ := h0
  obtain ⟨b0, l0, m0, rfl⟩ := okWide_slice Tryz.underlying22 (hval 0 22 v0 rfl rfl)
  obtain ⟨t0, u0, c0, e0, f0⟩ := rd_slice Go.Abs.Md.enc Go.Abs.MdD Tryz.underlying22 (fun a => by rw [Go.Abs.Md.enc_len]; kernel_rfl) h0 (fun n cs' x' _ h' => Go.Abs.rd_Md n cs' x' h')
  obtain rfl : u0 = .slice b0 l0 m0 := by simpa [Value.cells] using c0.symm
  have k1 := h1
  have lt1 : ∀ x ∈ p1, x.block < W.heap.size := by obtain ⟨m, hm⟩ := k1; exact DataW.trod_lt m _ _ _ hm
  obtain ⟨fu1, h1⟩ := h1
  obtain ⟨t1, e1, f1, g1, c1⟩ := rd_int Tryz.underlying3 h1
  obtain rfl : v1 = .int .i64 t1 := by have := okWide_int Tryz.underlying3 (hval 1 3 v1 rfl rfl); obtain ⟨m, rfl, _⟩ := this; simpa [Value.cells] using c1
  replace e1 := e1.one
  have k2 := h2
  have lt2 : ∀ x ∈ p2, x.block < W.heap.size := by obtain ⟨m, hm⟩ := k2; exact DataW.trod_lt m _ _ _ hm
  obtain ⟨fu2, h2⟩ := h2
  obtain ⟨t2, e2, f2, g2, c2⟩ := rd_int Tryz.underlying3 h2
  obtain rfl : v2 = .int .i64 t2 := by have := okWide_int Tryz.underlying3 (hval 2 3 v2 rfl rfl); obtain ⟨m, rfl, _⟩ := this; simpa [Value.cells] using c2
  replace e2 := e2.one
  have k3 := h3
  have lt3 : ∀ x ∈ p3, x.block < W.heap.size := by obtain ⟨m, hm⟩ := k3; exact DataW.trod_lt m _ _ _ hm
  obtain ⟨fu3, h3⟩ := h3
  obtain ⟨t3, e3, f3, g3, c3⟩ := rd_int Tryz.underlying3 h3
  obtain rfl : v3 = .int .i64 t3 := by have := okWide_int Tryz.underlying3 (hval 3 3 v3 rfl rfl); obtain ⟨m, rfl, _⟩ := this; simpa [Value.cells] using c3
  replace e3 := e3.one
  try dsimp only at f0 f1 f2 f3
  have hb : reachBytes = 140737488351232 := rfl
  have em : maxLen = 9223372036854775807 := by decide
  have s0 := Go.Abs.sl_weights Tryz.underlying22 f0 z0
  have hl : t0.length ≤ maxLen := by have := s0.1; rw [show Tryz.prog.bytesOf 89 = 32 from by kernel_rfl, hb] at this; omega
  have hn : ∀ m ∈ t0, m.name.length ≤ maxLen := fun m hm => by obtain ⟨d', hd, _⟩ := s0.2 m hm; exact hd.2.1
  have hs : ∀ m ∈ t0, m.src.length ≤ maxLen := fun m hm => by obtain ⟨d', hd, _⟩ := s0.2 m hm; exact hd.2.2
  obtain ⟨E3, E4, i3, i4, hc⟩ := hL'
  refine (Go.Abs.calls_of_ga ((Go.Abs.law_sy (Go.Abs.preE _ _) (Go.Abs.errE i3 i4) t0 t1 t2 t3 hl hn hs).mono fun _ _ h => h.1) W Go.Abs.globE hc _ (RLl.rl (.cons e0 (.cons e1 (.cons e2 (.cons e3 (.nil))))))).mono fun e W' ⟨he, bel⟩ => ?_
  subst he
  exact ⟨_, rfl, _, _, _, [], _, [], hW', trodAll_mk1 (shut_bool Tryz.underlying4 _), (trodAll_cons_mk (Below.trod laidOut (by kernel_rfl) (of_decide_eq_true (by kernel_rfl)) k0 bel lt0) (trodAll_cons_mk (Below.trod laidOut (by kernel_rfl) (of_decide_eq_true (by kernel_rfl)) k1 bel lt1) (trodAll_cons_mk (Below.trod laidOut (by kernel_rfl) (of_decide_eq_true (by kernel_rfl)) k2 bel lt2) (trodAll_cons_mk (Below.trod laidOut (by kernel_rfl) (of_decide_eq_true (by kernel_rfl)) k3 bel lt3) trodAll_mk0)))), rfl, bel.frame _, fun h => by cases h⟩

set_option maxRecDepth 100000 in
theorem lifted (os : Os) (started : os.Started) (H : Type) (enc : TypeId × Value → H) :
    ReturnsInHanded {} Tryz.checked os 3 .any (fun w args => (Rows.symbolsReferenceSpec.pre enc Tryz.prog Tryz.f3 [] false w args ∧ laidMetH Tryz.prog [("math/bits.deBruijn32tab", Rows.laid_math_bits_deBruijn32tab), ("math/bits.deBruijn64tab", Rows.laid_math_bits_deBruijn64tab), ("internal/strconv.uint64pow10", Rows.laid_internal_strconv_uint64pow10), ("strconv.ErrRange", Rows.laid_strconv_ErrRange), ("strconv.ErrSyntax", Rows.laid_strconv_ErrSyntax), ("unicode.White_Space", Rows.laid_unicode_White_Space), ("strings.asciiSpace", Rows.laid_strings_asciiSpace)] w) ∧ sizedMet enc Tryz.prog Tryz.f3 (OpenSpec.ofChange Rows.symbolsReferenceSpec) false w args)
      (Rows.symbolsReferenceSpec.post enc Tryz.prog Tryz.f3 false true false false) := by
  refine returnsInHanded_of_change_and (C := Tryz.checked) (X := fun w _ => laidMetH Tryz.prog [("math/bits.deBruijn32tab", Rows.laid_math_bits_deBruijn32tab), ("math/bits.deBruijn64tab", Rows.laid_math_bits_deBruijn64tab), ("internal/strconv.uint64pow10", Rows.laid_internal_strconv_uint64pow10), ("strconv.ErrRange", Rows.laid_strconv_ErrRange), ("strconv.ErrSyntax", Rows.laid_strconv_ErrSyntax), ("unicode.White_Space", Rows.laid_unicode_White_Space), ("strings.asciiSpace", Rows.laid_strings_asciiSpace)] w) (fun _ _ _ hh h => h.of_heap hh) own started (by kernel_rfl) Tryz.func3
    (ChangeSpec.witness_shaped (enc := enc) (C := Tryz.checked) (os := os) (X := fun w _ => laidMetH Tryz.prog [("math/bits.deBruijn32tab", Rows.laid_math_bits_deBruijn32tab), ("math/bits.deBruijn64tab", Rows.laid_math_bits_deBruijn64tab), ("internal/strconv.uint64pow10", Rows.laid_internal_strconv_uint64pow10), ("strconv.ErrRange", Rows.laid_strconv_ErrRange), ("strconv.ErrSyntax", Rows.laid_strconv_ErrSyntax), ("unicode.White_Space", Rows.laid_unicode_White_Space), ("strings.asciiSpace", Rows.laid_strings_asciiSpace)] w) false (World.laidAll Tryz.prog os [("math/bits.deBruijn32tab", Rows.laid_math_bits_deBruijn32tab), ("math/bits.deBruijn64tab", Rows.laid_math_bits_deBruijn64tab), ("internal/strconv.uint64pow10", Rows.laid_internal_strconv_uint64pow10), ("strconv.ErrRange", Rows.laid_strconv_ErrRange), ("strconv.ErrSyntax", Rows.laid_strconv_ErrSyntax), ("unicode.White_Space", Rows.laid_unicode_White_Space), ("strings.asciiSpace", Rows.laid_strings_asciiSpace)]) #[.slice none 0 0, .int .i64 0, .int .i64 0, .int .i64 0] 8 (World.laidAll_os _ _ _) (World.shaped_of_ZipB (by kernel_rfl) (by kernel_rfl)) (by kernel_rfl) (by kernel_rfl) (by kernel_rfl) (by rw [MakeChecks.laidMetH_plain _ _ _ (by kernel_rfl)]; exact laidMet_laidAll _ (by kernel_rfl) (by kernel_rfl))) ?_
  intro W base args ds gs before hval hW _ hz hL _
  exact contract H enc W base args ds gs before hval hW hz hL

theorem over : Rows.symbolsReferenceRow.holds Tryz.pinned (OpenSpec.ofChange Rows.symbolsReferenceSpec) :=
  OpenClaim.holds_of_wide 3 Tryz.f3 rfl rfl rfl rfl rfl rfl rfl ⟨rfl, rfl, rfl, rfl, rfl⟩ rfl rfl rfl rfl rfl headX3.fnm Tryz.func3 headY3.closed
    (of_decide_eq_true (by kernel_rfl)) (by unfold Func.isWrapper; first | (rw [if_pos (by decide +kernel)]; kernel_rfl) | (rw [if_neg (by decide +kernel)]; exact ⟨rfl, rfl⟩))
    (fun os started H enc _ => lifted os started H enc)

/-- The statement: the card. -/
theorem proved : Rows.SymbolsReferenceCardSaid :=
  Claim7.holds_tied_plain_at .later [] [.data, .data, .data, .sentinel, .sentinel, .listed, .data] true (true, "58586767e47499d8a53e929851c2053c11c2f114e1f9bc2d65d0f33ed6db54cd") true
    over (fun _ h => by cases h) (by kernel_rfl) (fun _ h => by cases h) symbolsReference_row_tie rfl ⟨rfl, rfl⟩ (by kernel_rfl) rfl
    (fun f fn hf hfn => by
      obtain rfl : f = 3 := Option.some.inj (headX3.fnm.symm.trans hf) |>.symm
      obtain rfl : fn = Tryz.f3 := (Option.some.inj (Tryz.func3.symm.trans hfn)).symm
      exact ⟨by kernel_rfl, fun j t ht => by
        rw [Tryz.params3] at ht
        have hm : t ∈ [22, 3, 3, 3] := by simpa using Array.mem_of_getElem? ht
        have hall : ([22, 3, 3, 3].all fun u => !Tryz.prog.wantsStandIn u) = true := by kernel_rfl
        exact (show Tryz.prog.wantsStandIn t = false by simpa using List.all_eq_true.1 hall t hm)⟩)
    headX3.goes
end Go.Proofs.YtfphoklhgapnpaaGreatDoor.symbolsReferenceDone
