/- Part 7 of a proof of the law NormalizeMatchesReference: Go data as trees, the walks of the functions that the law reaches, the plain laws. -/
import Derived.Test.YtmjoonaejldkhaaGFNormalizeMatchesReference
set_option linter.unusedVariables false
set_option linter.unusedSimpArgs false
set_option maxRecDepth 4000
namespace Go.Abs
open Go.Proofs

theorem containsIntR (xs : List Int) (n : Int) (hx : xs.length ≤ maxLen) : PC Try.prog 94 [.slice (xs.map vint) .none, vint n] (.bool (xs.any fun x => decide (x = n))) := by
  refine pc_of (N := 17) Try.func94 rfl rfl (by simp) (by simp [bel_ints0, Bel.int]) (.bool _) ?_
  repeat (refine awp_seq ?_)
  refine e_eval (by simp only [jA, jO, jN, seval, vint, TyS, TyF, BdS] <;> with_reducible rfl) (by decide) ?_
  repeat (refine awp_seq ?_)
  refine e_eval (by simp only [jA, jO, jN, seval, y3, y25, vint, TyS, TyF, BdS] <;> with_reducible rfl) (by decide) ?_
  repeat (refine awp_seq ?_)
  refine awp_forS (σ := Unit) (xs.length) (fun (s : Unit) => [(7, .slice (xs.map vint) .none), (1, vint n)]) [7, 1] ([]) (fun (s : Unit) => []) (fun (i : Nat) (s : Unit) => (xs.take i).any (fun x => decide (x = n)) = false) (()) ([]) rfl rfl rfl rfl rfl rfl rfl rfl rfl (by decide) (by decide) (by decide) (fun _ => rfl) (hx) ⟨(by first | rfl | (simp only [jN, seval, vint, TyS, TyF, BdS] <;> first | done | with_reducible rfl)), (by first | rfl | (simp only [jN, seval, vint, TyS, TyF, BdS] <;> first | done | with_reducible rfl)), (by first | rfl | (simp only [jN, seval, vint, TyS, TyF, BdS] <;> first | done | with_reducible rfl)), (by first | rfl | (simp only [jN, seval, vint, TyS, TyF, BdS] <;> first | done | with_reducible rfl)), trivial⟩ (by first | rfl | (simp only [jN, seval, vint, TyS, TyF, BdS] <;> first | done | with_reducible rfl)) (by simp) (fun _ _ _ => by first | exact Nat.zero_le _ | (simp only [List.length_append]; omega)) ?_ ?_ ?_
  · exact fun i s hg => ⟨by first | exact hbel_nil _ | (simp only [List.append_nil]; assumption) | (refine hbel_app' hb' (by simp) ?_; repeat (first | exact hbel_nil _ | exact trivial | exact obel_row_nil _ | (refine HBel.cons ?_ ?_) | (refine obel_row_cons (by first | exact bel_Bd _ _ | exact Bd.bel _ _ | exact bel_int_tok _ (by simp) | exact bel_ints0 _ _ | exact bel_slice_ty _ _ | exact Ty.bel _ _ | exact bel_ty_tok _ (by simp) | exact Bel.int _ _ | exact Bel.bool _ | exact Bel.str _ | exact Bel.nilp | exact Bel.nilfn | exact Bel.optr _ _ (by simp) | exact bel_nil0 _ | exact bel_nil1 _ | exact bel_fn0 _ _ | assumption) ?_))), by repeat (first | exact BelL.nil | refine BelL.cons (by first | exact bel_Bd _ _ | exact Bd.bel _ _ | exact bel_int_tok _ (by simp) | exact bel_ints0 _ _ | exact bel_slice_ty _ _ | exact Ty.bel _ _ | exact bel_ty_tok _ (by simp) | exact Bel.int _ _ | exact Bel.bool _ | exact Bel.str _ | exact Bel.nilp | exact Bel.nilfn | exact Bel.optr _ _ (by simp) | exact bel_nil0 _ | exact bel_nil1 _ | exact bel_fn0 _ _ | assumption) ?_)⟩
  · intro i s hi hg
    have g1 := ix_nat hi
    have g2 := get_enc vint hi
    repeat (refine awp_seq ?_)
    refine e_eval (by simp only [jA, jO, jN, seval, y3, y25, vint, TyS, TyF, BdS, g1, Int.toNat_natCast, g2] <;> with_reducible rfl) (by decide) ?_
    repeat (refine awp_seq ?_)
    refine e_eval (by simp only [jA, jO, jN, seval, y3, vint, TyS, TyF, BdS, g1, Int.toNat_natCast, g2] <;> with_reducible rfl) (by decide) ?_
    repeat (refine awp_seq ?_)
    refine awp_cond rfl (by simp only [jN, seval, vint, TyS, TyF, BdS, g1, Int.toNat_natCast, g2] <;> with_reducible rfl) (fun b0 => ?_) (fun b0 => ?_)
    ·
      repeat (refine awp_seq ?_)
      refine e_eval (by simp only [jA, jO, jN, seval, vint, TyS, TyF, BdS, g1, Int.toNat_natCast, g2] <;> with_reducible rfl) (by decide) ?_
      repeat (refine awp_seq ?_)
      refine awp_ret ⟨.inr rfl, _, rfl, ?_⟩
      have : (xs.any fun x => decide (x = n)) = true := List.any_eq_true.2 ⟨_, List.getElem_mem hi, b0⟩
      rw [this]; rfl
    ·
      repeat (refine awp_seq ?_)
      refine awp_skip ?_
      exact ⟨⟨rfl, rfl, trivial⟩, (), [], ⟨rfl, rfl, trivial⟩, rfl, any_take_succ hi hg b0⟩
  · intro s hg
    rw [List.take_length] at hg
    repeat (refine awp_seq ?_)
    refine e_eval (by simp only [jA, jO, jN, seval, vint, TyS, TyF, BdS] <;> with_reducible rfl) (by decide) ?_
    repeat (refine awp_seq ?_)
    refine awp_ret ⟨.inr rfl, _, rfl, ?_⟩
    rw [hg]; rfl

theorem inRange (n lo hi : Int) : PC Try.prog 98 [vint n, vint lo, vint hi] (.bool (decide (lo ≤ n) && decide (n ≤ hi))) := by
  refine pc_of (N := 15) Try.func98 rfl rfl (by simp) (by simp [Bel.int]) (.bool _) ?_
  repeat (refine awp_seq ?_)
  refine e_eval (by simp only [jA, jO, jN, seval, vint, TyS, TyF, BdS] <;> with_reducible rfl) (by decide) ?_
  repeat (refine awp_seq ?_)
  refine g_eval (by simp only [jG, jO, jN, seval, y3, vint, TyS, TyF, BdS] <;> with_reducible rfl) (by decide) (by repeat (first | exact Fin.base _ | with_reducible apply Fin.keep | apply Fin.drop)) ?_
  repeat (refine awp_seq ?_)
  refine awp_ret ⟨.inr rfl, _, rfl, ?_⟩
  simp only [jN, seval, vint, TyS, TyF, BdS]

theorem typeSize_k : ∀ (k : Nat) (t : Ty), t.size ≤ k → t.W → (t.size : Int) ≤ 4294967296 → PC Try.prog 36 [t.enc] (.tup [vint t.size, vint (dep t)])
  | 0, t, h, _, _ => by cases t; simp [Ty.size] at h
  | k + 1, t, h, hw, hb => by
    have hts : t.size = 1 + Ty.sizes t.args := by cases t; simp [Ty.size, Ty.args]
    refine pc_of (N := 30) Try.func36 rfl rfl (by simp) (by simp [Ty.bel]) (.tup _ (by simp [Bel.int])) ?_
    repeat (refine awp_seq ?_)
    refine e_eval (by simp only [jA, jO, jN, seval, y24, vint, TyS, TyF, BdS] <;> with_reducible rfl) (by decide) ?_
    repeat (refine awp_seq ?_)
    refine e_eval (by simp only [jA, jO, jN, seval, vint, TyS, TyF, BdS] <;> with_reducible rfl) (by decide) ?_
    repeat (refine awp_seq ?_)
    refine e_eval (by simp only [jA, jO, jN, seval, y22, y24, vint, TyS, TyF, BdS] <;> with_reducible rfl) (by decide) ?_
    repeat (refine awp_seq ?_)
    refine awp_forS (σ := Int × Int) (t.args.length) (fun (q : Int × Int) => [(2, vint q.1), (3, vint q.2), (9, .slice (t.args.map Ty.enc) .none)]) [2, 3, 9] ([]) (fun (q : Int × Int) => []) (fun (i : Nat) (q : Int × Int) => (1 ≤ q.1 ∧ 1 ≤ q.2 ∧ q.2 ≤ q.1) ∧ q.1 + (Ty.sizes (t.args.drop i) : Int) = t.size ∧ depL ((t.args.map dep).drop i) q.2 = dep t) ((1, 1)) (_) rfl rfl rfl rfl rfl rfl rfl rfl rfl (by decide) (by decide) (by decide) (fun _ => rfl) (hw.lenMax) ⟨(by first | rfl | (simp only [jN, seval, vint, TyS, TyF, BdS] <;> first | done | with_reducible rfl)), (by first | rfl | (simp only [jN, seval, vint, TyS, TyF, BdS] <;> first | done | with_reducible rfl)), (by first | rfl | (simp only [jN, seval, vint, TyS, TyF, BdS] <;> first | done | with_reducible rfl)), (by first | rfl | (simp only [jN, seval, vint, TyS, TyF, BdS] <;> first | done | with_reducible rfl)), (by first | rfl | (simp only [jN, seval, vint, TyS, TyF, BdS] <;> first | done | with_reducible rfl)), trivial⟩ (by first | rfl | (simp only [jN, seval, vint, TyS, TyF, BdS] <;> first | done | with_reducible rfl)) (⟨by decide, by simp only [List.drop_zero]; omega, by rw [dep_eq]; rfl⟩) (fun _ _ _ => by first | exact Nat.zero_le _ | (simp only [List.length_append]; omega)) ?_ ?_ ?_
    · exact fun i s hg => ⟨by first | exact hbel_nil _ | (simp only [List.append_nil]; assumption) | (refine hbel_app' hb' (by simp) ?_; repeat (first | exact hbel_nil _ | exact trivial | exact obel_row_nil _ | (refine HBel.cons ?_ ?_) | (refine obel_row_cons (by first | exact bel_Bd _ _ | exact Bd.bel _ _ | exact bel_int_tok _ (by simp) | exact bel_ints0 _ _ | exact bel_slice_ty _ _ | exact Ty.bel _ _ | exact bel_ty_tok _ (by simp) | exact Bel.int _ _ | exact Bel.bool _ | exact Bel.str _ | exact Bel.nilp | exact Bel.nilfn | exact Bel.optr _ _ (by simp) | exact bel_nil0 _ | exact bel_nil1 _ | exact bel_fn0 _ _ | assumption) ?_))), by repeat (first | exact BelL.nil | refine BelL.cons (by first | exact bel_Bd _ _ | exact Bd.bel _ _ | exact bel_int_tok _ (by simp) | exact bel_ints0 _ _ | exact bel_slice_ty _ _ | exact Ty.bel _ _ | exact bel_ty_tok _ (by simp) | exact Bel.int _ _ | exact Bel.bool _ | exact Bel.str _ | exact Bel.nilp | exact Bel.nilfn | exact Bel.optr _ _ (by simp) | exact bel_nil0 _ | exact bel_nil1 _ | exact bel_fn0 _ _ | assumption) ?_)⟩
    · intro i q hi hg
      obtain ⟨⟨q1, q2, q3⟩, hg1, hg2⟩ := hg
      have g1 := ix_nat hi
      have g2 := get_enc Ty.enc hi
      have hmem : t.args[i] ∈ t.args := List.getElem_mem hi
      have hsa := Ty.size_arg hmem
      rw [List.drop_eq_getElem_cons hi, Ty.sizes] at hg1
      rw [List.drop_eq_getElem_cons (by simpa using hi), List.getElem_map, depL_cons] at hg2
      have hdu := dep_bd t.args[i]
      have hwr1 : IntKind.i64.wrap (q.1 + (t.args[i].size : Int)) = q.1 + (t.args[i].size : Int) := wrap_id (by omega) (by omega)
      have hwr2 : IntKind.i64.wrap (dep t.args[i] + 1) = dep t.args[i] + 1 := wrap_id (by omega) (by omega)
      repeat (refine awp_seq ?_)
      refine e_eval (by simp only [jA, jO, jN, seval, y22, y24, vint, TyS, TyF, BdS, g1, g2, Int.toNat_natCast] <;> with_reducible rfl) (by decide) ?_
      repeat (refine awp_seq ?_)
      refine awp_region ?_
      refine e_take 1 (by simp only [jA, jO, jN, seval, y24, vint, TyS, TyF, BdS, g1, g2, Int.toNat_natCast] <;> with_reducible rfl) (by decide) ?_
      refine aops_pure (by simp only [jC, jN, seval, vint, TyS, TyF, BdS, g1, g2, Int.toNat_natCast] <;> with_reducible rfl) (by simp only [jC, jN, seval, vint, TyS, TyF, BdS, g1, g2, Int.toNat_natCast]) (by decide) Trygo36 (typeSize_k k t.args[i] (by omega) (hw.arg hmem) (by omega) _) ?_
      refine e_end (by simp only [jA, jO, jN, seval, vint, TyS, TyF, BdS, g1, g2, Int.toNat_natCast] <;> with_reducible rfl) (by decide) ?_
      repeat (refine awp_seq ?_)
      refine e_eval (by simp only [jA, jO, jN, seval, y3, vint, TyS, TyF, BdS, g1, g2, Int.toNat_natCast, hwr1] <;> with_reducible rfl) (by decide) ?_
      repeat (refine awp_seq ?_)
      refine e_eval (by simp only [jA, jO, jN, seval, y3, vint, TyS, TyF, BdS, g1, g2, Int.toNat_natCast, hwr2] <;> with_reducible rfl) (by decide) ?_
      exact ⟨⟨rfl, rfl, trivial⟩, (q.1 + (t.args[i].size : Int), max q.2 (dep t.args[i] + 1)), _, ⟨rfl, rfl, rfl, trivial⟩, rfl, ⟨by simp only; omega, by simp only; omega, by simp only; omega⟩, by simp only; omega, hg2⟩
    · intro q hg
      obtain ⟨_, hg1, hg2⟩ := hg
      rw [List.drop_eq_nil_of_le (by simp)] at hg1 hg2
      have e1 : q.1 = t.size := by simpa [Ty.sizes] using hg1
      have e2 : q.2 = dep t := hg2
      repeat (refine awp_seq ?_)
      refine e_eval (by simp only [jA, jO, jN, seval, vint, TyS, TyF, BdS] <;> with_reducible rfl) (by decide) ?_
      repeat (refine awp_seq ?_)
      refine awp_ret ⟨.inr rfl, _, (ares_two (.tmp 2) (.tmp 3) rfl (ares_tmp1 (by decide)) (ares_tmp1 (by decide))), ?_⟩
      rw [← e1, ← e2]; rfl

theorem typeWF_0 (t : Ty) (hk : t.kind = 0) (hw : t.W) (ih : ∀ u ∈ t.args, PC Try.prog 93 [u.enc] (.bool (wfT u))) : PC Try.prog 93 [t.enc] (.bool (wfT t)) := by
  have hlen0 : (0 : Int) ≤ (t.args.length : Int) := by omega
  have d0 : decide (t.kind = 0) = true := decide_eq_true hk
  have d1 : decide (t.kind = 1) = false := decide_eq_false (by omega)
  have d2 : decide (t.kind = 2) = false := decide_eq_false (by omega)
  have d3 : decide (t.kind = 3) = false := decide_eq_false (by omega)
  have d4 : decide (t.kind = 4) = false := decide_eq_false (by omega)
  have d5 : decide (t.kind = 5) = false := decide_eq_false (by omega)
  have d6 : decide (t.kind = 6) = false := decide_eq_false (by omega)
  have d7 : decide (t.kind = 7) = false := decide_eq_false (by omega)
  have d8 : decide (t.kind = 8) = false := decide_eq_false (by omega)
  have d9 : decide (t.kind = 9) = false := decide_eq_false (by omega)
  have d10 : decide (t.kind = 10) = false := decide_eq_false (by omega)
  refine pc_of (N := 66) Try.func93 rfl rfl (by simp) (by simp [Ty.bel]) (.bool _) ?_
  repeat (refine awp_seq ?_)
  refine e_eval (by simp only [jA, jO, jN, seval, y24, vint, TyS, TyF, BdS, Int.cast_ofNat_Int, d0, d1, d2, d3, d4, d5, d6, d7, d8, d9, d10] <;> with_reducible rfl) (by decide) ?_
  repeat (refine awp_seq ?_)
  refine e_eval (by simp only [jA, jO, jN, seval, vint, TyS, TyF, BdS, Int.cast_ofNat_Int, d0, d1, d2, d3, d4, d5, d6, d7, d8, d9, d10] <;> with_reducible rfl) (by decide) ?_
  repeat (refine awp_seq ?_)
  refine e_eval (by simp only [jA, jO, jN, seval, y3, y24, vint, TyS, TyF, BdS, Int.cast_ofNat_Int, d0, d1, d2, d3, d4, d5, d6, d7, d8, d9, d10] <;> with_reducible rfl) (by decide) ?_
  repeat (refine awp_seq ?_)
  refine awp_block ?_
  repeat (refine awp_seq ?_)
  refine e_eval (by simp only [jA, jO, jN, seval, y3, vint, TyS, TyF, BdS, Int.cast_ofNat_Int, d0, d1, d2, d3, d4, d5, d6, d7, d8, d9, d10] <;> with_reducible rfl) (by decide) ?_
  repeat (refine awp_seq ?_)
  refine awp_cond_true rfl (by simp only [jN, seval, vint, TyS, TyF, BdS, Int.cast_ofNat_Int, d0, d1, d2, d3, d4, d5, d6, d7, d8, d9, d10] <;> with_reducible rfl) ?_
  repeat (refine awp_seq ?_)
  refine awp_skip ?_
  repeat (refine awp_seq ?_)
  refine awp_cond_true rfl (by simp only [jN, seval, vint, TyS, TyF, BdS, Int.cast_ofNat_Int, d0, d1, d2, d3, d4, d5, d6, d7, d8, d9, d10] <;> with_reducible rfl) ?_
  repeat (refine awp_seq ?_)
  refine awp_skip ?_
  repeat (refine awp_seq ?_)
  refine awp_region ?_
  refine aops_gstart ?_
  refine g_take 5 (by simp only [jG, jO, jN, seval, y22, y24, vint, TyS, TyF, BdS, Int.cast_ofNat_Int, d0, d1, d2, d3, d4, d5, d6, d7, d8, d9, d10] <;> with_reducible rfl) (by decide) ?_
  refine aops_gpure (by simp only [jE, jN, seval, vint, TyS, TyF, BdS, Int.cast_ofNat_Int, d0, d1, d2, d3, d4, d5, d6, d7, d8, d9, d10] <;> with_reducible rfl) (by simp only [jE, jN, seval, vint, TyS, TyF, BdS, Int.cast_ofNat_Int, d0, d1, d2, d3, d4, d5, d6, d7, d8, d9, d10] <;> with_reducible rfl) (by simp only [jE, jN, seval, vint, TyS, TyF, BdS, Int.cast_ofNat_Int, d0, d1, d2, d3, d4, d5, d6, d7, d8, d9, d10]) (by decide) Trygo98 (fun hc => inRange _ _ _ _) ?_
  refine g_end (by simp only [jG, jO, jN, seval, y3, y24, vint, TyS, TyF, BdS, Int.cast_ofNat_Int, d0, d1, d2, d3, d4, d5, d6, d7, d8, d9, d10] <;> with_reducible rfl) (by decide) (by repeat (first | exact Fin.base _ | with_reducible apply Fin.keep | apply Fin.drop)) ?_
  repeat (refine awp_seq ?_)
  refine awp_cond rfl (by simp only [jN, seval, vint, TyS, TyF, BdS, Int.cast_ofNat_Int, d0, d1, d2, d3, d4, d5, d6, d7, d8, d9, d10] <;> with_reducible rfl) (fun bt54 => ?_) (fun bt54 => ?_)
  ·
    have hn : nwf t = false := by
      unfold nwf
      simp only [d0, d1, d2, d3, d4, d5, d6, d7, d8, d9, d10, Bool.or_false, Bool.or_true, Bool.false_or, Bool.true_or, if_true, if_false, Bool.false_eq_true]
      rw [Bool.eq_false_iff]
      intro hh
      simp only [Bool.or_eq_true, Bool.and_eq_true, Bool.not_eq_true', Bool.and_eq_false_iff, Bool.or_eq_false_iff, Bool.not_eq_false', decide_eq_true_eq, decide_eq_false_iff_not] at hh bt54
      omega
    have hwf : wfT t = false := by rw [wfT_eq, hn]; rfl
    refine awp_sel [] (by simp only [jN, seval, vint, TyS, TyF, BdS, Int.cast_ofNat_Int, d0, d1, d2, d3, d4, d5, d6, d7, d8, d9, d10] <;> with_reducible rfl) ?_
    repeat (refine awp_seq ?_)
    refine e_eval (by simp only [jA, jO, jN, seval, vint, TyS, TyF, BdS, Int.cast_ofNat_Int, d0, d1, d2, d3, d4, d5, d6, d7, d8, d9, d10] <;> with_reducible rfl) (by decide) ?_
    repeat (refine awp_seq ?_)
    refine awp_ret ⟨.inr rfl, _, rfl, ?_⟩
    rw [hwf]; rfl
  ·
    have hn : nwf t = true := by
      unfold nwf
      simp only [d0, d1, d2, d3, d4, d5, d6, d7, d8, d9, d10, Bool.or_false, Bool.or_true, Bool.false_or, Bool.true_or, if_true, if_false, Bool.false_eq_true]
      simp only [Bool.or_eq_true, Bool.and_eq_true, Bool.not_eq_true', Bool.and_eq_false_iff, Bool.or_eq_false_iff, Bool.not_eq_false', decide_eq_true_eq, decide_eq_false_iff_not] at bt54 ⊢
      omega
    repeat (refine awp_seq ?_)
    refine awp_skip ?_
    refine awp_sel [1] (by simp only [jN, seval, vint, TyS, TyF, BdS, Int.cast_ofNat_Int, d0, d1, d2, d3, d4, d5, d6, d7, d8, d9, d10] <;> with_reducible rfl) ?_
    repeat (refine awp_seq ?_)
    refine e_eval (by simp only [jA, jO, jN, seval, y22, y24, vint, TyS, TyF, BdS, Int.cast_ofNat_Int, d0, d1, d2, d3, d4, d5, d6, d7, d8, d9, d10] <;> with_reducible rfl) (by decide) ?_
    repeat (refine awp_seq ?_)
    refine awp_forS (σ := Unit) (t.args.length) (fun (s : Unit) => [(56, .slice (t.args.map Ty.enc) .none)]) [56] ([]) (fun (s : Unit) => []) (fun (i : Nat) (s : Unit) => (t.args.take i).any (fun u => !wfT u) = false) (()) (_) rfl rfl rfl rfl rfl rfl rfl rfl rfl (by decide) (by decide) (by decide) (fun _ => rfl) (hw.lenMax) ⟨(by first | rfl | (simp only [jN, seval, vint, TyS, TyF, BdS, Int.cast_ofNat_Int, d0, d1, d2, d3, d4, d5, d6, d7, d8, d9, d10] <;> first | done | with_reducible rfl)), (by first | rfl | (simp only [jN, seval, vint, TyS, TyF, BdS, Int.cast_ofNat_Int, d0, d1, d2, d3, d4, d5, d6, d7, d8, d9, d10] <;> first | done | with_reducible rfl)), (by first | rfl | (simp only [jN, seval, vint, TyS, TyF, BdS, Int.cast_ofNat_Int, d0, d1, d2, d3, d4, d5, d6, d7, d8, d9, d10] <;> first | done | with_reducible rfl)), trivial⟩ (by first | rfl | (simp only [jN, seval, vint, TyS, TyF, BdS, Int.cast_ofNat_Int, d0, d1, d2, d3, d4, d5, d6, d7, d8, d9, d10] <;> first | done | with_reducible rfl)) (by simp) (fun _ _ _ => by first | exact Nat.zero_le _ | (simp only [List.length_append]; omega)) ?_ ?_ ?_
    · exact fun i s hg => ⟨by first | exact hbel_nil _ | (simp only [List.append_nil]; assumption) | (refine hbel_app' hb' (by simp) ?_; repeat (first | exact hbel_nil _ | exact trivial | exact obel_row_nil _ | (refine HBel.cons ?_ ?_) | (refine obel_row_cons (by first | exact bel_Bd _ _ | exact Bd.bel _ _ | exact bel_int_tok _ (by simp) | exact bel_ints0 _ _ | exact bel_slice_ty _ _ | exact Ty.bel _ _ | exact bel_ty_tok _ (by simp) | exact Bel.int _ _ | exact Bel.bool _ | exact Bel.str _ | exact Bel.nilp | exact Bel.nilfn | exact Bel.optr _ _ (by simp) | exact bel_nil0 _ | exact bel_nil1 _ | exact bel_fn0 _ _ | assumption) ?_))), by repeat (first | exact BelL.nil | refine BelL.cons (by first | exact bel_Bd _ _ | exact Bd.bel _ _ | exact bel_int_tok _ (by simp) | exact bel_ints0 _ _ | exact bel_slice_ty _ _ | exact Ty.bel _ _ | exact bel_ty_tok _ (by simp) | exact Bel.int _ _ | exact Bel.bool _ | exact Bel.str _ | exact Bel.nilp | exact Bel.nilfn | exact Bel.optr _ _ (by simp) | exact bel_nil0 _ | exact bel_nil1 _ | exact bel_fn0 _ _ | assumption) ?_)⟩
    · intro i s hi hg
      have g1 := ix_nat hi
      have g2 := get_enc Ty.enc hi
      have hmem : t.args[i] ∈ t.args := List.getElem_mem hi
      repeat (refine awp_seq ?_)
      refine e_eval (by simp only [jA, jO, jN, seval, y22, y24, vint, TyS, TyF, BdS, Int.cast_ofNat_Int, d0, d1, d2, d3, d4, d5, d6, d7, d8, d9, d10, g1, g2, Int.toNat_natCast] <;> with_reducible rfl) (by decide) ?_
      repeat (refine awp_seq ?_)
      refine awp_region ?_
      refine e_take 1 (by simp only [jA, jO, jN, seval, y24, vint, TyS, TyF, BdS, Int.cast_ofNat_Int, d0, d1, d2, d3, d4, d5, d6, d7, d8, d9, d10, g1, g2, Int.toNat_natCast] <;> with_reducible rfl) (by decide) ?_
      refine aops_pure (by simp only [jC, jN, seval, vint, TyS, TyF, BdS, Int.cast_ofNat_Int, d0, d1, d2, d3, d4, d5, d6, d7, d8, d9, d10, g1, g2, Int.toNat_natCast] <;> with_reducible rfl) (by simp only [jC, jN, seval, vint, TyS, TyF, BdS, Int.cast_ofNat_Int, d0, d1, d2, d3, d4, d5, d6, d7, d8, d9, d10, g1, g2, Int.toNat_natCast]) (by decide) Trygo93 (ih t.args[i] hmem _) ?_
      refine e_end (by simp only [jA, jO, jN, seval, vint, TyS, TyF, BdS, Int.cast_ofNat_Int, d0, d1, d2, d3, d4, d5, d6, d7, d8, d9, d10, g1, g2, Int.toNat_natCast] <;> with_reducible rfl) (by decide) ?_
      repeat (refine awp_seq ?_)
      refine awp_cond rfl (by simp only [jN, seval, vint, TyS, TyF, BdS, Int.cast_ofNat_Int, d0, d1, d2, d3, d4, d5, d6, d7, d8, d9, d10, g1, g2, Int.toNat_natCast] <;> with_reducible rfl) (fun bt64 => ?_) (fun bt64 => ?_)
      ·
        have hbad : (t.args.any fun u => !wfT u) = true := List.any_eq_true.2 ⟨_, hmem, bt64⟩
        have hwf : wfT t = false := by rw [wfT_eq, hn, hbad]; rfl
        repeat (refine awp_seq ?_)
        refine e_eval (by simp only [jA, jO, jN, seval, vint, TyS, TyF, BdS, Int.cast_ofNat_Int, d0, d1, d2, d3, d4, d5, d6, d7, d8, d9, d10, g1, g2, Int.toNat_natCast] <;> with_reducible rfl) (by decide) ?_
        repeat (refine awp_seq ?_)
        refine awp_ret ⟨.inr rfl, _, rfl, ?_⟩
        rw [hwf]; rfl
      ·
        repeat (refine awp_seq ?_)
        refine awp_skip ?_
        exact ⟨⟨rfl, rfl, trivial⟩, (), _, ⟨rfl, trivial⟩, rfl, any_take_succ hi hg bt64⟩
    · intro s hg
      rw [List.take_length] at hg
      have hwf : wfT t = true := by rw [wfT_eq, hn, hg]; rfl
      repeat (refine awp_seq ?_)
      refine e_eval (by simp only [jA, jO, jN, seval, vint, TyS, TyF, BdS, Int.cast_ofNat_Int, d0, d1, d2, d3, d4, d5, d6, d7, d8, d9, d10] <;> with_reducible rfl) (by decide) ?_
      repeat (refine awp_seq ?_)
      refine awp_ret ⟨.inr rfl, _, rfl, ?_⟩
      rw [hwf]; rfl

theorem typeWF_1 (t : Ty) (hk : t.kind = 1) (hw : t.W) (ih : ∀ u ∈ t.args, PC Try.prog 93 [u.enc] (.bool (wfT u))) : PC Try.prog 93 [t.enc] (.bool (wfT t)) := by
  have hlen0 : (0 : Int) ≤ (t.args.length : Int) := by omega
  have d0 : decide (t.kind = 0) = false := decide_eq_false (by omega)
  have d1 : decide (t.kind = 1) = true := decide_eq_true hk
  have d2 : decide (t.kind = 2) = false := decide_eq_false (by omega)
  have d3 : decide (t.kind = 3) = false := decide_eq_false (by omega)
  have d4 : decide (t.kind = 4) = false := decide_eq_false (by omega)
  have d5 : decide (t.kind = 5) = false := decide_eq_false (by omega)
  have d6 : decide (t.kind = 6) = false := decide_eq_false (by omega)
  have d7 : decide (t.kind = 7) = false := decide_eq_false (by omega)
  have d8 : decide (t.kind = 8) = false := decide_eq_false (by omega)
  have d9 : decide (t.kind = 9) = false := decide_eq_false (by omega)
  have d10 : decide (t.kind = 10) = false := decide_eq_false (by omega)
  refine pc_of (N := 66) Try.func93 rfl rfl (by simp) (by simp [Ty.bel]) (.bool _) ?_
  repeat (refine awp_seq ?_)
  refine e_eval (by simp only [jA, jO, jN, seval, y24, vint, TyS, TyF, BdS, Int.cast_ofNat_Int, d0, d1, d2, d3, d4, d5, d6, d7, d8, d9, d10] <;> with_reducible rfl) (by decide) ?_
  repeat (refine awp_seq ?_)
  refine e_eval (by simp only [jA, jO, jN, seval, vint, TyS, TyF, BdS, Int.cast_ofNat_Int, d0, d1, d2, d3, d4, d5, d6, d7, d8, d9, d10] <;> with_reducible rfl) (by decide) ?_
  repeat (refine awp_seq ?_)
  refine e_eval (by simp only [jA, jO, jN, seval, y3, y24, vint, TyS, TyF, BdS, Int.cast_ofNat_Int, d0, d1, d2, d3, d4, d5, d6, d7, d8, d9, d10] <;> with_reducible rfl) (by decide) ?_
  repeat (refine awp_seq ?_)
  refine awp_block ?_
  repeat (refine awp_seq ?_)
  refine e_eval (by simp only [jA, jO, jN, seval, y3, vint, TyS, TyF, BdS, Int.cast_ofNat_Int, d0, d1, d2, d3, d4, d5, d6, d7, d8, d9, d10] <;> with_reducible rfl) (by decide) ?_
  repeat (refine awp_seq ?_)
  refine awp_cond_false rfl (by simp only [jN, seval, vint, TyS, TyF, BdS, Int.cast_ofNat_Int, d0, d1, d2, d3, d4, d5, d6, d7, d8, d9, d10] <;> with_reducible rfl) ?_
  repeat (refine awp_seq ?_)
  refine e_eval (by simp only [jA, jO, jN, seval, y3, vint, TyS, TyF, BdS, Int.cast_ofNat_Int, d0, d1, d2, d3, d4, d5, d6, d7, d8, d9, d10] <;> with_reducible rfl) (by decide) ?_
  repeat (refine awp_seq ?_)
  refine awp_cond_false rfl (by simp only [jN, seval, vint, TyS, TyF, BdS, Int.cast_ofNat_Int, d0, d1, d2, d3, d4, d5, d6, d7, d8, d9, d10] <;> with_reducible rfl) ?_
  repeat (refine awp_seq ?_)
  refine e_eval (by simp only [jA, jO, jN, seval, y3, vint, TyS, TyF, BdS, Int.cast_ofNat_Int, d0, d1, d2, d3, d4, d5, d6, d7, d8, d9, d10] <;> with_reducible rfl) (by decide) ?_
  repeat (refine awp_seq ?_)
  refine awp_cond_false rfl (by simp only [jN, seval, vint, TyS, TyF, BdS, Int.cast_ofNat_Int, d0, d1, d2, d3, d4, d5, d6, d7, d8, d9, d10] <;> with_reducible rfl) ?_
  repeat (refine awp_seq ?_)
  refine e_eval (by simp only [jA, jO, jN, seval, y3, vint, TyS, TyF, BdS, Int.cast_ofNat_Int, d0, d1, d2, d3, d4, d5, d6, d7, d8, d9, d10] <;> with_reducible rfl) (by decide) ?_
  repeat (refine awp_seq ?_)
  refine awp_cond_false rfl (by simp only [jN, seval, vint, TyS, TyF, BdS, Int.cast_ofNat_Int, d0, d1, d2, d3, d4, d5, d6, d7, d8, d9, d10] <;> with_reducible rfl) ?_
  refine awp_sel [1, 3, 4, 5, 9] (by simp only [jN, seval, vint, TyS, TyF, BdS, Int.cast_ofNat_Int, d0, d1, d2, d3, d4, d5, d6, d7, d8, d9, d10] <;> with_reducible rfl) ?_
  repeat (refine awp_seq ?_)
  refine e_eval (by simp only [jA, jO, jN, seval, y3, vint, TyS, TyF, BdS, Int.cast_ofNat_Int, d0, d1, d2, d3, d4, d5, d6, d7, d8, d9, d10] <;> with_reducible rfl) (by decide) ?_
  repeat (refine awp_seq ?_)
  refine awp_cond_false rfl (by simp only [jN, seval, vint, TyS, TyF, BdS, Int.cast_ofNat_Int, d0, d1, d2, d3, d4, d5, d6, d7, d8, d9, d10] <;> with_reducible rfl) ?_
  repeat (refine awp_seq ?_)
  refine e_eval (by simp only [jA, jO, jN, seval, y3, vint, TyS, TyF, BdS, Int.cast_ofNat_Int, d0, d1, d2, d3, d4, d5, d6, d7, d8, d9, d10] <;> with_reducible rfl) (by decide) ?_
  repeat (refine awp_seq ?_)
  refine awp_cond_true rfl (by simp only [jN, seval, vint, TyS, TyF, BdS, Int.cast_ofNat_Int, d0, d1, d2, d3, d4, d5, d6, d7, d8, d9, d10] <;> with_reducible rfl) ?_
  repeat (refine awp_seq ?_)
  refine awp_skip ?_
  repeat (refine awp_seq ?_)
  refine awp_cond_true rfl (by simp only [jN, seval, vint, TyS, TyF, BdS, Int.cast_ofNat_Int, d0, d1, d2, d3, d4, d5, d6, d7, d8, d9, d10] <;> with_reducible rfl) ?_
  repeat (refine awp_seq ?_)
  refine e_eval (by simp only [jA, jO, jN, seval, vint, TyS, TyF, BdS, Int.cast_ofNat_Int, d0, d1, d2, d3, d4, d5, d6, d7, d8, d9, d10] <;> with_reducible rfl) (by decide) ?_
  repeat (refine awp_seq ?_)
  refine awp_region ?_
  refine aops_gstart ?_
  refine g_take 5 (by simp only [jG, jO, jN, seval, y22, y24, vint, TyS, TyF, BdS, Int.cast_ofNat_Int, d0, d1, d2, d3, d4, d5, d6, d7, d8, d9, d10] <;> with_reducible rfl) (by decide) ?_
  refine aops_gpure (by simp only [jE, jN, seval, vint, TyS, TyF, BdS, Int.cast_ofNat_Int, d0, d1, d2, d3, d4, d5, d6, d7, d8, d9, d10] <;> with_reducible rfl) (by simp only [jE, jN, seval, vint, TyS, TyF, BdS, Int.cast_ofNat_Int, d0, d1, d2, d3, d4, d5, d6, d7, d8, d9, d10] <;> with_reducible rfl) (by simp only [jE, jN, seval, vint, TyS, TyF, BdS, Int.cast_ofNat_Int, d0, d1, d2, d3, d4, d5, d6, d7, d8, d9, d10]) (by decide) Trygo98 (fun hc => inRange _ _ _ _) ?_
  refine g_end (by simp only [jG, jO, jN, seval, y3, y24, vint, TyS, TyF, BdS, Int.cast_ofNat_Int, d0, d1, d2, d3, d4, d5, d6, d7, d8, d9, d10] <;> with_reducible rfl) (by decide) (by repeat (first | exact Fin.base _ | with_reducible apply Fin.keep | apply Fin.drop)) ?_
  repeat (refine awp_seq ?_)
  refine awp_cond rfl (by simp only [jN, seval, vint, TyS, TyF, BdS, Int.cast_ofNat_Int, d0, d1, d2, d3, d4, d5, d6, d7, d8, d9, d10] <;> with_reducible rfl) (fun bt54 => ?_) (fun bt54 => ?_)
  ·
    have hn : nwf t = false := by
      unfold nwf
      simp only [d0, d1, d2, d3, d4, d5, d6, d7, d8, d9, d10, Bool.or_false, Bool.or_true, Bool.false_or, Bool.true_or, if_true, if_false, Bool.false_eq_true]
      rw [Bool.eq_false_iff]
      intro hh
      simp only [Bool.or_eq_true, Bool.and_eq_true, Bool.not_eq_true', Bool.and_eq_false_iff, Bool.or_eq_false_iff, Bool.not_eq_false', decide_eq_true_eq, decide_eq_false_iff_not] at hh bt54
      omega
    have hwf : wfT t = false := by rw [wfT_eq, hn]; rfl
    refine awp_sel [] (by simp only [jN, seval, vint, TyS, TyF, BdS, Int.cast_ofNat_Int, d0, d1, d2, d3, d4, d5, d6, d7, d8, d9, d10] <;> with_reducible rfl) ?_
    repeat (refine awp_seq ?_)
    refine e_eval (by simp only [jA, jO, jN, seval, vint, TyS, TyF, BdS, Int.cast_ofNat_Int, d0, d1, d2, d3, d4, d5, d6, d7, d8, d9, d10] <;> with_reducible rfl) (by decide) ?_
    repeat (refine awp_seq ?_)
    refine awp_ret ⟨.inr rfl, _, rfl, ?_⟩
    rw [hwf]; rfl
  ·
    have hn : nwf t = true := by
      unfold nwf
      simp only [d0, d1, d2, d3, d4, d5, d6, d7, d8, d9, d10, Bool.or_false, Bool.or_true, Bool.false_or, Bool.true_or, if_true, if_false, Bool.false_eq_true]
      simp only [Bool.or_eq_true, Bool.and_eq_true, Bool.not_eq_true', Bool.and_eq_false_iff, Bool.or_eq_false_iff, Bool.not_eq_false', decide_eq_true_eq, decide_eq_false_iff_not] at bt54 ⊢
      omega
    repeat (refine awp_seq ?_)
    refine awp_skip ?_
    refine awp_sel [1] (by simp only [jN, seval, vint, TyS, TyF, BdS, Int.cast_ofNat_Int, d0, d1, d2, d3, d4, d5, d6, d7, d8, d9, d10] <;> with_reducible rfl) ?_
    repeat (refine awp_seq ?_)
    refine e_eval (by simp only [jA, jO, jN, seval, y22, y24, vint, TyS, TyF, BdS, Int.cast_ofNat_Int, d0, d1, d2, d3, d4, d5, d6, d7, d8, d9, d10] <;> with_reducible rfl) (by decide) ?_
    repeat (refine awp_seq ?_)
    refine awp_forS (σ := Unit) (t.args.length) (fun (s : Unit) => [(56, .slice (t.args.map Ty.enc) .none)]) [56] ([]) (fun (s : Unit) => []) (fun (i : Nat) (s : Unit) => (t.args.take i).any (fun u => !wfT u) = false) (()) (_) rfl rfl rfl rfl rfl rfl rfl rfl rfl (by decide) (by decide) (by decide) (fun _ => rfl) (hw.lenMax) ⟨(by first | rfl | (simp only [jN, seval, vint, TyS, TyF, BdS, Int.cast_ofNat_Int, d0, d1, d2, d3, d4, d5, d6, d7, d8, d9, d10] <;> first | done | with_reducible rfl)), (by first | rfl | (simp only [jN, seval, vint, TyS, TyF, BdS, Int.cast_ofNat_Int, d0, d1, d2, d3, d4, d5, d6, d7, d8, d9, d10] <;> first | done | with_reducible rfl)), (by first | rfl | (simp only [jN, seval, vint, TyS, TyF, BdS, Int.cast_ofNat_Int, d0, d1, d2, d3, d4, d5, d6, d7, d8, d9, d10] <;> first | done | with_reducible rfl)), trivial⟩ (by first | rfl | (simp only [jN, seval, vint, TyS, TyF, BdS, Int.cast_ofNat_Int, d0, d1, d2, d3, d4, d5, d6, d7, d8, d9, d10] <;> first | done | with_reducible rfl)) (by simp) (fun _ _ _ => by first | exact Nat.zero_le _ | (simp only [List.length_append]; omega)) ?_ ?_ ?_
    · exact fun i s hg => ⟨by first | exact hbel_nil _ | (simp only [List.append_nil]; assumption) | (refine hbel_app' hb' (by simp) ?_; repeat (first | exact hbel_nil _ | exact trivial | exact obel_row_nil _ | (refine HBel.cons ?_ ?_) | (refine obel_row_cons (by first | exact bel_Bd _ _ | exact Bd.bel _ _ | exact bel_int_tok _ (by simp) | exact bel_ints0 _ _ | exact bel_slice_ty _ _ | exact Ty.bel _ _ | exact bel_ty_tok _ (by simp) | exact Bel.int _ _ | exact Bel.bool _ | exact Bel.str _ | exact Bel.nilp | exact Bel.nilfn | exact Bel.optr _ _ (by simp) | exact bel_nil0 _ | exact bel_nil1 _ | exact bel_fn0 _ _ | assumption) ?_))), by repeat (first | exact BelL.nil | refine BelL.cons (by first | exact bel_Bd _ _ | exact Bd.bel _ _ | exact bel_int_tok _ (by simp) | exact bel_ints0 _ _ | exact bel_slice_ty _ _ | exact Ty.bel _ _ | exact bel_ty_tok _ (by simp) | exact Bel.int _ _ | exact Bel.bool _ | exact Bel.str _ | exact Bel.nilp | exact Bel.nilfn | exact Bel.optr _ _ (by simp) | exact bel_nil0 _ | exact bel_nil1 _ | exact bel_fn0 _ _ | assumption) ?_)⟩
    · intro i s hi hg
      have g1 := ix_nat hi
      have g2 := get_enc Ty.enc hi
      have hmem : t.args[i] ∈ t.args := List.getElem_mem hi
      repeat (refine awp_seq ?_)
      refine e_eval (by simp only [jA, jO, jN, seval, y22, y24, vint, TyS, TyF, BdS, Int.cast_ofNat_Int, d0, d1, d2, d3, d4, d5, d6, d7, d8, d9, d10, g1, g2, Int.toNat_natCast] <;> with_reducible rfl) (by decide) ?_
      repeat (refine awp_seq ?_)
      refine awp_region ?_
      refine e_take 1 (by simp only [jA, jO, jN, seval, y24, vint, TyS, TyF, BdS, Int.cast_ofNat_Int, d0, d1, d2, d3, d4, d5, d6, d7, d8, d9, d10, g1, g2, Int.toNat_natCast] <;> with_reducible rfl) (by decide) ?_
      refine aops_pure (by simp only [jC, jN, seval, vint, TyS, TyF, BdS, Int.cast_ofNat_Int, d0, d1, d2, d3, d4, d5, d6, d7, d8, d9, d10, g1, g2, Int.toNat_natCast] <;> with_reducible rfl) (by simp only [jC, jN, seval, vint, TyS, TyF, BdS, Int.cast_ofNat_Int, d0, d1, d2, d3, d4, d5, d6, d7, d8, d9, d10, g1, g2, Int.toNat_natCast]) (by decide) Trygo93 (ih t.args[i] hmem _) ?_
      refine e_end (by simp only [jA, jO, jN, seval, vint, TyS, TyF, BdS, Int.cast_ofNat_Int, d0, d1, d2, d3, d4, d5, d6, d7, d8, d9, d10, g1, g2, Int.toNat_natCast] <;> with_reducible rfl) (by decide) ?_
      repeat (refine awp_seq ?_)
      refine awp_cond rfl (by simp only [jN, seval, vint, TyS, TyF, BdS, Int.cast_ofNat_Int, d0, d1, d2, d3, d4, d5, d6, d7, d8, d9, d10, g1, g2, Int.toNat_natCast] <;> with_reducible rfl) (fun bt64 => ?_) (fun bt64 => ?_)
      ·
        have hbad : (t.args.any fun u => !wfT u) = true := List.any_eq_true.2 ⟨_, hmem, bt64⟩
        have hwf : wfT t = false := by rw [wfT_eq, hn, hbad]; rfl
        repeat (refine awp_seq ?_)
        refine e_eval (by simp only [jA, jO, jN, seval, vint, TyS, TyF, BdS, Int.cast_ofNat_Int, d0, d1, d2, d3, d4, d5, d6, d7, d8, d9, d10, g1, g2, Int.toNat_natCast] <;> with_reducible rfl) (by decide) ?_
        repeat (refine awp_seq ?_)
        refine awp_ret ⟨.inr rfl, _, rfl, ?_⟩
        rw [hwf]; rfl
      ·
        repeat (refine awp_seq ?_)
        refine awp_skip ?_
        exact ⟨⟨rfl, rfl, trivial⟩, (), _, ⟨rfl, trivial⟩, rfl, any_take_succ hi hg bt64⟩
    · intro s hg
      rw [List.take_length] at hg
      have hwf : wfT t = true := by rw [wfT_eq, hn, hg]; rfl
      repeat (refine awp_seq ?_)
      refine e_eval (by simp only [jA, jO, jN, seval, vint, TyS, TyF, BdS, Int.cast_ofNat_Int, d0, d1, d2, d3, d4, d5, d6, d7, d8, d9, d10] <;> with_reducible rfl) (by decide) ?_
      repeat (refine awp_seq ?_)
      refine awp_ret ⟨.inr rfl, _, rfl, ?_⟩
      rw [hwf]; rfl

theorem typeWF_2 (t : Ty) (hk : t.kind = 2) (hw : t.W) (ih : ∀ u ∈ t.args, PC Try.prog 93 [u.enc] (.bool (wfT u))) : PC Try.prog 93 [t.enc] (.bool (wfT t)) := by
  have hlen0 : (0 : Int) ≤ (t.args.length : Int) := by omega
  have d0 : decide (t.kind = 0) = false := decide_eq_false (by omega)
  have d1 : decide (t.kind = 1) = false := decide_eq_false (by omega)
  have d2 : decide (t.kind = 2) = true := decide_eq_true hk
  have d3 : decide (t.kind = 3) = false := decide_eq_false (by omega)
  have d4 : decide (t.kind = 4) = false := decide_eq_false (by omega)
  have d5 : decide (t.kind = 5) = false := decide_eq_false (by omega)
  have d6 : decide (t.kind = 6) = false := decide_eq_false (by omega)
  have d7 : decide (t.kind = 7) = false := decide_eq_false (by omega)
  have d8 : decide (t.kind = 8) = false := decide_eq_false (by omega)
  have d9 : decide (t.kind = 9) = false := decide_eq_false (by omega)
  have d10 : decide (t.kind = 10) = false := decide_eq_false (by omega)
  refine pc_of (N := 66) Try.func93 rfl rfl (by simp) (by simp [Ty.bel]) (.bool _) ?_
  repeat (refine awp_seq ?_)
  refine e_eval (by simp only [jA, jO, jN, seval, y24, vint, TyS, TyF, BdS, Int.cast_ofNat_Int, d0, d1, d2, d3, d4, d5, d6, d7, d8, d9, d10] <;> with_reducible rfl) (by decide) ?_
  repeat (refine awp_seq ?_)
  refine e_eval (by simp only [jA, jO, jN, seval, vint, TyS, TyF, BdS, Int.cast_ofNat_Int, d0, d1, d2, d3, d4, d5, d6, d7, d8, d9, d10] <;> with_reducible rfl) (by decide) ?_
  repeat (refine awp_seq ?_)
  refine e_eval (by simp only [jA, jO, jN, seval, y3, y24, vint, TyS, TyF, BdS, Int.cast_ofNat_Int, d0, d1, d2, d3, d4, d5, d6, d7, d8, d9, d10] <;> with_reducible rfl) (by decide) ?_
  repeat (refine awp_seq ?_)
  refine awp_block ?_
  repeat (refine awp_seq ?_)
  refine e_eval (by simp only [jA, jO, jN, seval, y3, vint, TyS, TyF, BdS, Int.cast_ofNat_Int, d0, d1, d2, d3, d4, d5, d6, d7, d8, d9, d10] <;> with_reducible rfl) (by decide) ?_
  repeat (refine awp_seq ?_)
  refine awp_cond_false rfl (by simp only [jN, seval, vint, TyS, TyF, BdS, Int.cast_ofNat_Int, d0, d1, d2, d3, d4, d5, d6, d7, d8, d9, d10] <;> with_reducible rfl) ?_
  repeat (refine awp_seq ?_)
  refine e_eval (by simp only [jA, jO, jN, seval, y3, vint, TyS, TyF, BdS, Int.cast_ofNat_Int, d0, d1, d2, d3, d4, d5, d6, d7, d8, d9, d10] <;> with_reducible rfl) (by decide) ?_
  repeat (refine awp_seq ?_)
  refine awp_cond_false rfl (by simp only [jN, seval, vint, TyS, TyF, BdS, Int.cast_ofNat_Int, d0, d1, d2, d3, d4, d5, d6, d7, d8, d9, d10] <;> with_reducible rfl) ?_
  repeat (refine awp_seq ?_)
  refine e_eval (by simp only [jA, jO, jN, seval, y3, vint, TyS, TyF, BdS, Int.cast_ofNat_Int, d0, d1, d2, d3, d4, d5, d6, d7, d8, d9, d10] <;> with_reducible rfl) (by decide) ?_
  repeat (refine awp_seq ?_)
  refine awp_cond_false rfl (by simp only [jN, seval, vint, TyS, TyF, BdS, Int.cast_ofNat_Int, d0, d1, d2, d3, d4, d5, d6, d7, d8, d9, d10] <;> with_reducible rfl) ?_
  repeat (refine awp_seq ?_)
  refine e_eval (by simp only [jA, jO, jN, seval, y3, vint, TyS, TyF, BdS, Int.cast_ofNat_Int, d0, d1, d2, d3, d4, d5, d6, d7, d8, d9, d10] <;> with_reducible rfl) (by decide) ?_
  repeat (refine awp_seq ?_)
  refine awp_cond_false rfl (by simp only [jN, seval, vint, TyS, TyF, BdS, Int.cast_ofNat_Int, d0, d1, d2, d3, d4, d5, d6, d7, d8, d9, d10] <;> with_reducible rfl) ?_
  refine awp_sel [1, 3, 4, 5, 9] (by simp only [jN, seval, vint, TyS, TyF, BdS, Int.cast_ofNat_Int, d0, d1, d2, d3, d4, d5, d6, d7, d8, d9, d10] <;> with_reducible rfl) ?_
  repeat (refine awp_seq ?_)
  refine e_eval (by simp only [jA, jO, jN, seval, y3, vint, TyS, TyF, BdS, Int.cast_ofNat_Int, d0, d1, d2, d3, d4, d5, d6, d7, d8, d9, d10] <;> with_reducible rfl) (by decide) ?_
  repeat (refine awp_seq ?_)
  refine awp_cond_false rfl (by simp only [jN, seval, vint, TyS, TyF, BdS, Int.cast_ofNat_Int, d0, d1, d2, d3, d4, d5, d6, d7, d8, d9, d10] <;> with_reducible rfl) ?_
  repeat (refine awp_seq ?_)
  refine e_eval (by simp only [jA, jO, jN, seval, y3, vint, TyS, TyF, BdS, Int.cast_ofNat_Int, d0, d1, d2, d3, d4, d5, d6, d7, d8, d9, d10] <;> with_reducible rfl) (by decide) ?_
  repeat (refine awp_seq ?_)
  refine awp_cond_false rfl (by simp only [jN, seval, vint, TyS, TyF, BdS, Int.cast_ofNat_Int, d0, d1, d2, d3, d4, d5, d6, d7, d8, d9, d10] <;> with_reducible rfl) ?_
  repeat (refine awp_seq ?_)
  refine e_eval (by simp only [jA, jO, jN, seval, y3, vint, TyS, TyF, BdS, Int.cast_ofNat_Int, d0, d1, d2, d3, d4, d5, d6, d7, d8, d9, d10] <;> with_reducible rfl) (by decide) ?_
  repeat (refine awp_seq ?_)
  refine awp_cond_true rfl (by simp only [jN, seval, vint, TyS, TyF, BdS, Int.cast_ofNat_Int, d0, d1, d2, d3, d4, d5, d6, d7, d8, d9, d10] <;> with_reducible rfl) ?_
  repeat (refine awp_seq ?_)
  refine e_eval (by simp only [jA, jO, jN, seval, vint, TyS, TyF, BdS, Int.cast_ofNat_Int, d0, d1, d2, d3, d4, d5, d6, d7, d8, d9, d10] <;> with_reducible rfl) (by decide) ?_
  repeat (refine awp_seq ?_)
  refine awp_region ?_
  refine aops_gstart ?_
  refine g_take 5 (by simp only [jG, jO, jN, seval, y22, y24, vint, TyS, TyF, BdS, Int.cast_ofNat_Int, d0, d1, d2, d3, d4, d5, d6, d7, d8, d9, d10] <;> with_reducible rfl) (by decide) ?_
  refine aops_gpure (by simp only [jE, jN, seval, vint, TyS, TyF, BdS, Int.cast_ofNat_Int, d0, d1, d2, d3, d4, d5, d6, d7, d8, d9, d10] <;> with_reducible rfl) (by simp only [jE, jN, seval, vint, TyS, TyF, BdS, Int.cast_ofNat_Int, d0, d1, d2, d3, d4, d5, d6, d7, d8, d9, d10] <;> with_reducible rfl) (by simp only [jE, jN, seval, vint, TyS, TyF, BdS, Int.cast_ofNat_Int, d0, d1, d2, d3, d4, d5, d6, d7, d8, d9, d10]) (by decide) Trygo98 (fun hc => inRange _ _ _ _) ?_
  refine g_end (by simp only [jG, jO, jN, seval, y3, y24, vint, TyS, TyF, BdS, Int.cast_ofNat_Int, d0, d1, d2, d3, d4, d5, d6, d7, d8, d9, d10] <;> with_reducible rfl) (by decide) (by repeat (first | exact Fin.base _ | with_reducible apply Fin.keep | apply Fin.drop)) ?_
  repeat (refine awp_seq ?_)
  refine awp_cond rfl (by simp only [jN, seval, vint, TyS, TyF, BdS, Int.cast_ofNat_Int, d0, d1, d2, d3, d4, d5, d6, d7, d8, d9, d10] <;> with_reducible rfl) (fun bt54 => ?_) (fun bt54 => ?_)
  ·
    have hn : nwf t = false := by
      unfold nwf
      simp only [d0, d1, d2, d3, d4, d5, d6, d7, d8, d9, d10, Bool.or_false, Bool.or_true, Bool.false_or, Bool.true_or, if_true, if_false, Bool.false_eq_true]
      rw [Bool.eq_false_iff]
      intro hh
      simp only [Bool.or_eq_true, Bool.and_eq_true, Bool.not_eq_true', Bool.and_eq_false_iff, Bool.or_eq_false_iff, Bool.not_eq_false', decide_eq_true_eq, decide_eq_false_iff_not] at hh bt54
      omega
    have hwf : wfT t = false := by rw [wfT_eq, hn]; rfl
    refine awp_sel [] (by simp only [jN, seval, vint, TyS, TyF, BdS, Int.cast_ofNat_Int, d0, d1, d2, d3, d4, d5, d6, d7, d8, d9, d10] <;> with_reducible rfl) ?_
    repeat (refine awp_seq ?_)
    refine e_eval (by simp only [jA, jO, jN, seval, vint, TyS, TyF, BdS, Int.cast_ofNat_Int, d0, d1, d2, d3, d4, d5, d6, d7, d8, d9, d10] <;> with_reducible rfl) (by decide) ?_
    repeat (refine awp_seq ?_)
    refine awp_ret ⟨.inr rfl, _, rfl, ?_⟩
    rw [hwf]; rfl
  ·
    have hn : nwf t = true := by
      unfold nwf
      simp only [d0, d1, d2, d3, d4, d5, d6, d7, d8, d9, d10, Bool.or_false, Bool.or_true, Bool.false_or, Bool.true_or, if_true, if_false, Bool.false_eq_true]
      simp only [Bool.or_eq_true, Bool.and_eq_true, Bool.not_eq_true', Bool.and_eq_false_iff, Bool.or_eq_false_iff, Bool.not_eq_false', decide_eq_true_eq, decide_eq_false_iff_not] at bt54 ⊢
      omega
    repeat (refine awp_seq ?_)
    refine awp_skip ?_
    refine awp_sel [1] (by simp only [jN, seval, vint, TyS, TyF, BdS, Int.cast_ofNat_Int, d0, d1, d2, d3, d4, d5, d6, d7, d8, d9, d10] <;> with_reducible rfl) ?_
    repeat (refine awp_seq ?_)
    refine e_eval (by simp only [jA, jO, jN, seval, y22, y24, vint, TyS, TyF, BdS, Int.cast_ofNat_Int, d0, d1, d2, d3, d4, d5, d6, d7, d8, d9, d10] <;> with_reducible rfl) (by decide) ?_
    repeat (refine awp_seq ?_)
    refine awp_forS (σ := Unit) (t.args.length) (fun (s : Unit) => [(56, .slice (t.args.map Ty.enc) .none)]) [56] ([]) (fun (s : Unit) => []) (fun (i : Nat) (s : Unit) => (t.args.take i).any (fun u => !wfT u) = false) (()) (_) rfl rfl rfl rfl rfl rfl rfl rfl rfl (by decide) (by decide) (by decide) (fun _ => rfl) (hw.lenMax) ⟨(by first | rfl | (simp only [jN, seval, vint, TyS, TyF, BdS, Int.cast_ofNat_Int, d0, d1, d2, d3, d4, d5, d6, d7, d8, d9, d10] <;> first | done | with_reducible rfl)), (by first | rfl | (simp only [jN, seval, vint, TyS, TyF, BdS, Int.cast_ofNat_Int, d0, d1, d2, d3, d4, d5, d6, d7, d8, d9, d10] <;> first | done | with_reducible rfl)), (by first | rfl | (simp only [jN, seval, vint, TyS, TyF, BdS, Int.cast_ofNat_Int, d0, d1, d2, d3, d4, d5, d6, d7, d8, d9, d10] <;> first | done | with_reducible rfl)), trivial⟩ (by first | rfl | (simp only [jN, seval, vint, TyS, TyF, BdS, Int.cast_ofNat_Int, d0, d1, d2, d3, d4, d5, d6, d7, d8, d9, d10] <;> first | done | with_reducible rfl)) (by simp) (fun _ _ _ => by first | exact Nat.zero_le _ | (simp only [List.length_append]; omega)) ?_ ?_ ?_
    · exact fun i s hg => ⟨by first | exact hbel_nil _ | (simp only [List.append_nil]; assumption) | (refine hbel_app' hb' (by simp) ?_; repeat (first | exact hbel_nil _ | exact trivial | exact obel_row_nil _ | (refine HBel.cons ?_ ?_) | (refine obel_row_cons (by first | exact bel_Bd _ _ | exact Bd.bel _ _ | exact bel_int_tok _ (by simp) | exact bel_ints0 _ _ | exact bel_slice_ty _ _ | exact Ty.bel _ _ | exact bel_ty_tok _ (by simp) | exact Bel.int _ _ | exact Bel.bool _ | exact Bel.str _ | exact Bel.nilp | exact Bel.nilfn | exact Bel.optr _ _ (by simp) | exact bel_nil0 _ | exact bel_nil1 _ | exact bel_fn0 _ _ | assumption) ?_))), by repeat (first | exact BelL.nil | refine BelL.cons (by first | exact bel_Bd _ _ | exact Bd.bel _ _ | exact bel_int_tok _ (by simp) | exact bel_ints0 _ _ | exact bel_slice_ty _ _ | exact Ty.bel _ _ | exact bel_ty_tok _ (by simp) | exact Bel.int _ _ | exact Bel.bool _ | exact Bel.str _ | exact Bel.nilp | exact Bel.nilfn | exact Bel.optr _ _ (by simp) | exact bel_nil0 _ | exact bel_nil1 _ | exact bel_fn0 _ _ | assumption) ?_)⟩
    · intro i s hi hg
      have g1 := ix_nat hi
      have g2 := get_enc Ty.enc hi
      have hmem : t.args[i] ∈ t.args := List.getElem_mem hi
      repeat (refine awp_seq ?_)
      refine e_eval (by simp only [jA, jO, jN, seval, y22, y24, vint, TyS, TyF, BdS, Int.cast_ofNat_Int, d0, d1, d2, d3, d4, d5, d6, d7, d8, d9, d10, g1, g2, Int.toNat_natCast] <;> with_reducible rfl) (by decide) ?_
      repeat (refine awp_seq ?_)
      refine awp_region ?_
      refine e_take 1 (by simp only [jA, jO, jN, seval, y24, vint, TyS, TyF, BdS, Int.cast_ofNat_Int, d0, d1, d2, d3, d4, d5, d6, d7, d8, d9, d10, g1, g2, Int.toNat_natCast] <;> with_reducible rfl) (by decide) ?_
      refine aops_pure (by simp only [jC, jN, seval, vint, TyS, TyF, BdS, Int.cast_ofNat_Int, d0, d1, d2, d3, d4, d5, d6, d7, d8, d9, d10, g1, g2, Int.toNat_natCast] <;> with_reducible rfl) (by simp only [jC, jN, seval, vint, TyS, TyF, BdS, Int.cast_ofNat_Int, d0, d1, d2, d3, d4, d5, d6, d7, d8, d9, d10, g1, g2, Int.toNat_natCast]) (by decide) Trygo93 (ih t.args[i] hmem _) ?_
      refine e_end (by simp only [jA, jO, jN, seval, vint, TyS, TyF, BdS, Int.cast_ofNat_Int, d0, d1, d2, d3, d4, d5, d6, d7, d8, d9, d10, g1, g2, Int.toNat_natCast] <;> with_reducible rfl) (by decide) ?_
      repeat (refine awp_seq ?_)
      refine awp_cond rfl (by simp only [jN, seval, vint, TyS, TyF, BdS, Int.cast_ofNat_Int, d0, d1, d2, d3, d4, d5, d6, d7, d8, d9, d10, g1, g2, Int.toNat_natCast] <;> with_reducible rfl) (fun bt64 => ?_) (fun bt64 => ?_)
      ·
        have hbad : (t.args.any fun u => !wfT u) = true := List.any_eq_true.2 ⟨_, hmem, bt64⟩
        have hwf : wfT t = false := by rw [wfT_eq, hn, hbad]; rfl
        repeat (refine awp_seq ?_)
        refine e_eval (by simp only [jA, jO, jN, seval, vint, TyS, TyF, BdS, Int.cast_ofNat_Int, d0, d1, d2, d3, d4, d5, d6, d7, d8, d9, d10, g1, g2, Int.toNat_natCast] <;> with_reducible rfl) (by decide) ?_
        repeat (refine awp_seq ?_)
        refine awp_ret ⟨.inr rfl, _, rfl, ?_⟩
        rw [hwf]; rfl
      ·
        repeat (refine awp_seq ?_)
        refine awp_skip ?_
        exact ⟨⟨rfl, rfl, trivial⟩, (), _, ⟨rfl, trivial⟩, rfl, any_take_succ hi hg bt64⟩
    · intro s hg
      rw [List.take_length] at hg
      have hwf : wfT t = true := by rw [wfT_eq, hn, hg]; rfl
      repeat (refine awp_seq ?_)
      refine e_eval (by simp only [jA, jO, jN, seval, vint, TyS, TyF, BdS, Int.cast_ofNat_Int, d0, d1, d2, d3, d4, d5, d6, d7, d8, d9, d10] <;> with_reducible rfl) (by decide) ?_
      repeat (refine awp_seq ?_)
      refine awp_ret ⟨.inr rfl, _, rfl, ?_⟩
      rw [hwf]; rfl

theorem typeWF_3 (t : Ty) (hk : t.kind = 3) (hw : t.W) (ih : ∀ u ∈ t.args, PC Try.prog 93 [u.enc] (.bool (wfT u))) : PC Try.prog 93 [t.enc] (.bool (wfT t)) := by
  have hlen0 : (0 : Int) ≤ (t.args.length : Int) := by omega
  have d0 : decide (t.kind = 0) = false := decide_eq_false (by omega)
  have d1 : decide (t.kind = 1) = false := decide_eq_false (by omega)
  have d2 : decide (t.kind = 2) = false := decide_eq_false (by omega)
  have d3 : decide (t.kind = 3) = true := decide_eq_true hk
  have d4 : decide (t.kind = 4) = false := decide_eq_false (by omega)
  have d5 : decide (t.kind = 5) = false := decide_eq_false (by omega)
  have d6 : decide (t.kind = 6) = false := decide_eq_false (by omega)
  have d7 : decide (t.kind = 7) = false := decide_eq_false (by omega)
  have d8 : decide (t.kind = 8) = false := decide_eq_false (by omega)
  have d9 : decide (t.kind = 9) = false := decide_eq_false (by omega)
  have d10 : decide (t.kind = 10) = false := decide_eq_false (by omega)
  refine pc_of (N := 66) Try.func93 rfl rfl (by simp) (by simp [Ty.bel]) (.bool _) ?_
  repeat (refine awp_seq ?_)
  refine e_eval (by simp only [jA, jO, jN, seval, y24, vint, TyS, TyF, BdS, Int.cast_ofNat_Int, d0, d1, d2, d3, d4, d5, d6, d7, d8, d9, d10] <;> with_reducible rfl) (by decide) ?_
  repeat (refine awp_seq ?_)
  refine e_eval (by simp only [jA, jO, jN, seval, vint, TyS, TyF, BdS, Int.cast_ofNat_Int, d0, d1, d2, d3, d4, d5, d6, d7, d8, d9, d10] <;> with_reducible rfl) (by decide) ?_
  repeat (refine awp_seq ?_)
  refine e_eval (by simp only [jA, jO, jN, seval, y3, y24, vint, TyS, TyF, BdS, Int.cast_ofNat_Int, d0, d1, d2, d3, d4, d5, d6, d7, d8, d9, d10] <;> with_reducible rfl) (by decide) ?_
  repeat (refine awp_seq ?_)
  refine awp_block ?_
  repeat (refine awp_seq ?_)
  refine e_eval (by simp only [jA, jO, jN, seval, y3, vint, TyS, TyF, BdS, Int.cast_ofNat_Int, d0, d1, d2, d3, d4, d5, d6, d7, d8, d9, d10] <;> with_reducible rfl) (by decide) ?_
  repeat (refine awp_seq ?_)
  refine awp_cond_false rfl (by simp only [jN, seval, vint, TyS, TyF, BdS, Int.cast_ofNat_Int, d0, d1, d2, d3, d4, d5, d6, d7, d8, d9, d10] <;> with_reducible rfl) ?_
  repeat (refine awp_seq ?_)
  refine e_eval (by simp only [jA, jO, jN, seval, y3, vint, TyS, TyF, BdS, Int.cast_ofNat_Int, d0, d1, d2, d3, d4, d5, d6, d7, d8, d9, d10] <;> with_reducible rfl) (by decide) ?_
  repeat (refine awp_seq ?_)
  refine awp_cond_true rfl (by simp only [jN, seval, vint, TyS, TyF, BdS, Int.cast_ofNat_Int, d0, d1, d2, d3, d4, d5, d6, d7, d8, d9, d10] <;> with_reducible rfl) ?_
  repeat (refine awp_seq ?_)
  refine awp_skip ?_
  repeat (refine awp_seq ?_)
  refine awp_cond_true rfl (by simp only [jN, seval, vint, TyS, TyF, BdS, Int.cast_ofNat_Int, d0, d1, d2, d3, d4, d5, d6, d7, d8, d9, d10] <;> with_reducible rfl) ?_
  repeat (refine awp_seq ?_)
  refine awp_skip ?_
  repeat (refine awp_seq ?_)
  refine awp_region ?_
  refine aops_gstart ?_
  refine g_take 5 (by simp only [jG, jO, jN, seval, y22, y24, vint, TyS, TyF, BdS, Int.cast_ofNat_Int, d0, d1, d2, d3, d4, d5, d6, d7, d8, d9, d10] <;> with_reducible rfl) (by decide) ?_
  refine aops_gpure (by simp only [jE, jN, seval, vint, TyS, TyF, BdS, Int.cast_ofNat_Int, d0, d1, d2, d3, d4, d5, d6, d7, d8, d9, d10] <;> with_reducible rfl) (by simp only [jE, jN, seval, vint, TyS, TyF, BdS, Int.cast_ofNat_Int, d0, d1, d2, d3, d4, d5, d6, d7, d8, d9, d10] <;> with_reducible rfl) (by simp only [jE, jN, seval, vint, TyS, TyF, BdS, Int.cast_ofNat_Int, d0, d1, d2, d3, d4, d5, d6, d7, d8, d9, d10]) (by decide) Trygo98 (fun hc => inRange _ _ _ _) ?_
  refine g_end (by simp only [jG, jO, jN, seval, y3, y24, vint, TyS, TyF, BdS, Int.cast_ofNat_Int, d0, d1, d2, d3, d4, d5, d6, d7, d8, d9, d10] <;> with_reducible rfl) (by decide) (by repeat (first | exact Fin.base _ | with_reducible apply Fin.keep | apply Fin.drop)) ?_
  repeat (refine awp_seq ?_)
  refine awp_cond rfl (by simp only [jN, seval, vint, TyS, TyF, BdS, Int.cast_ofNat_Int, d0, d1, d2, d3, d4, d5, d6, d7, d8, d9, d10] <;> with_reducible rfl) (fun bt54 => ?_) (fun bt54 => ?_)
  ·
    have hn : nwf t = false := by
      unfold nwf
      simp only [d0, d1, d2, d3, d4, d5, d6, d7, d8, d9, d10, Bool.or_false, Bool.or_true, Bool.false_or, Bool.true_or, if_true, if_false, Bool.false_eq_true]
      rw [Bool.eq_false_iff]
      intro hh
      simp only [Bool.or_eq_true, Bool.and_eq_true, Bool.not_eq_true', Bool.and_eq_false_iff, Bool.or_eq_false_iff, Bool.not_eq_false', decide_eq_true_eq, decide_eq_false_iff_not] at hh bt54
      omega
    have hwf : wfT t = false := by rw [wfT_eq, hn]; rfl
    refine awp_sel [] (by simp only [jN, seval, vint, TyS, TyF, BdS, Int.cast_ofNat_Int, d0, d1, d2, d3, d4, d5, d6, d7, d8, d9, d10] <;> with_reducible rfl) ?_
    repeat (refine awp_seq ?_)
    refine e_eval (by simp only [jA, jO, jN, seval, vint, TyS, TyF, BdS, Int.cast_ofNat_Int, d0, d1, d2, d3, d4, d5, d6, d7, d8, d9, d10] <;> with_reducible rfl) (by decide) ?_
    repeat (refine awp_seq ?_)
    refine awp_ret ⟨.inr rfl, _, rfl, ?_⟩
    rw [hwf]; rfl
  ·
    have hn : nwf t = true := by
      unfold nwf
      simp only [d0, d1, d2, d3, d4, d5, d6, d7, d8, d9, d10, Bool.or_false, Bool.or_true, Bool.false_or, Bool.true_or, if_true, if_false, Bool.false_eq_true]
      simp only [Bool.or_eq_true, Bool.and_eq_true, Bool.not_eq_true', Bool.and_eq_false_iff, Bool.or_eq_false_iff, Bool.not_eq_false', decide_eq_true_eq, decide_eq_false_iff_not] at bt54 ⊢
      omega
    repeat (refine awp_seq ?_)
    refine awp_skip ?_
    refine awp_sel [1] (by simp only [jN, seval, vint, TyS, TyF, BdS, Int.cast_ofNat_Int, d0, d1, d2, d3, d4, d5, d6, d7, d8, d9, d10] <;> with_reducible rfl) ?_
    repeat (refine awp_seq ?_)
    refine e_eval (by simp only [jA, jO, jN, seval, y22, y24, vint, TyS, TyF, BdS, Int.cast_ofNat_Int, d0, d1, d2, d3, d4, d5, d6, d7, d8, d9, d10] <;> with_reducible rfl) (by decide) ?_
    repeat (refine awp_seq ?_)
    refine awp_forS (σ := Unit) (t.args.length) (fun (s : Unit) => [(56, .slice (t.args.map Ty.enc) .none)]) [56] ([]) (fun (s : Unit) => []) (fun (i : Nat) (s : Unit) => (t.args.take i).any (fun u => !wfT u) = false) (()) (_) rfl rfl rfl rfl rfl rfl rfl rfl rfl (by decide) (by decide) (by decide) (fun _ => rfl) (hw.lenMax) ⟨(by first | rfl | (simp only [jN, seval, vint, TyS, TyF, BdS, Int.cast_ofNat_Int, d0, d1, d2, d3, d4, d5, d6, d7, d8, d9, d10] <;> first | done | with_reducible rfl)), (by first | rfl | (simp only [jN, seval, vint, TyS, TyF, BdS, Int.cast_ofNat_Int, d0, d1, d2, d3, d4, d5, d6, d7, d8, d9, d10] <;> first | done | with_reducible rfl)), (by first | rfl | (simp only [jN, seval, vint, TyS, TyF, BdS, Int.cast_ofNat_Int, d0, d1, d2, d3, d4, d5, d6, d7, d8, d9, d10] <;> first | done | with_reducible rfl)), trivial⟩ (by first | rfl | (simp only [jN, seval, vint, TyS, TyF, BdS, Int.cast_ofNat_Int, d0, d1, d2, d3, d4, d5, d6, d7, d8, d9, d10] <;> first | done | with_reducible rfl)) (by simp) (fun _ _ _ => by first | exact Nat.zero_le _ | (simp only [List.length_append]; omega)) ?_ ?_ ?_
    · exact fun i s hg => ⟨by first | exact hbel_nil _ | (simp only [List.append_nil]; assumption) | (refine hbel_app' hb' (by simp) ?_; repeat (first | exact hbel_nil _ | exact trivial | exact obel_row_nil _ | (refine HBel.cons ?_ ?_) | (refine obel_row_cons (by first | exact bel_Bd _ _ | exact Bd.bel _ _ | exact bel_int_tok _ (by simp) | exact bel_ints0 _ _ | exact bel_slice_ty _ _ | exact Ty.bel _ _ | exact bel_ty_tok _ (by simp) | exact Bel.int _ _ | exact Bel.bool _ | exact Bel.str _ | exact Bel.nilp | exact Bel.nilfn | exact Bel.optr _ _ (by simp) | exact bel_nil0 _ | exact bel_nil1 _ | exact bel_fn0 _ _ | assumption) ?_))), by repeat (first | exact BelL.nil | refine BelL.cons (by first | exact bel_Bd _ _ | exact Bd.bel _ _ | exact bel_int_tok _ (by simp) | exact bel_ints0 _ _ | exact bel_slice_ty _ _ | exact Ty.bel _ _ | exact bel_ty_tok _ (by simp) | exact Bel.int _ _ | exact Bel.bool _ | exact Bel.str _ | exact Bel.nilp | exact Bel.nilfn | exact Bel.optr _ _ (by simp) | exact bel_nil0 _ | exact bel_nil1 _ | exact bel_fn0 _ _ | assumption) ?_)⟩
    · intro i s hi hg
      have g1 := ix_nat hi
      have g2 := get_enc Ty.enc hi
      have hmem : t.args[i] ∈ t.args := List.getElem_mem hi
      repeat (refine awp_seq ?_)
      refine e_eval (by simp only [jA, jO, jN, seval, y22, y24, vint, TyS, TyF, BdS, Int.cast_ofNat_Int, d0, d1, d2, d3, d4, d5, d6, d7, d8, d9, d10, g1, g2, Int.toNat_natCast] <;> with_reducible rfl) (by decide) ?_
      repeat (refine awp_seq ?_)
      refine awp_region ?_
      refine e_take 1 (by simp only [jA, jO, jN, seval, y24, vint, TyS, TyF, BdS, Int.cast_ofNat_Int, d0, d1, d2, d3, d4, d5, d6, d7, d8, d9, d10, g1, g2, Int.toNat_natCast] <;> with_reducible rfl) (by decide) ?_
      refine aops_pure (by simp only [jC, jN, seval, vint, TyS, TyF, BdS, Int.cast_ofNat_Int, d0, d1, d2, d3, d4, d5, d6, d7, d8, d9, d10, g1, g2, Int.toNat_natCast] <;> with_reducible rfl) (by simp only [jC, jN, seval, vint, TyS, TyF, BdS, Int.cast_ofNat_Int, d0, d1, d2, d3, d4, d5, d6, d7, d8, d9, d10, g1, g2, Int.toNat_natCast]) (by decide) Trygo93 (ih t.args[i] hmem _) ?_
      refine e_end (by simp only [jA, jO, jN, seval, vint, TyS, TyF, BdS, Int.cast_ofNat_Int, d0, d1, d2, d3, d4, d5, d6, d7, d8, d9, d10, g1, g2, Int.toNat_natCast] <;> with_reducible rfl) (by decide) ?_
      repeat (refine awp_seq ?_)
      refine awp_cond rfl (by simp only [jN, seval, vint, TyS, TyF, BdS, Int.cast_ofNat_Int, d0, d1, d2, d3, d4, d5, d6, d7, d8, d9, d10, g1, g2, Int.toNat_natCast] <;> with_reducible rfl) (fun bt64 => ?_) (fun bt64 => ?_)
      ·
        have hbad : (t.args.any fun u => !wfT u) = true := List.any_eq_true.2 ⟨_, hmem, bt64⟩
        have hwf : wfT t = false := by rw [wfT_eq, hn, hbad]; rfl
        repeat (refine awp_seq ?_)
        refine e_eval (by simp only [jA, jO, jN, seval, vint, TyS, TyF, BdS, Int.cast_ofNat_Int, d0, d1, d2, d3, d4, d5, d6, d7, d8, d9, d10, g1, g2, Int.toNat_natCast] <;> with_reducible rfl) (by decide) ?_
        repeat (refine awp_seq ?_)
        refine awp_ret ⟨.inr rfl, _, rfl, ?_⟩
        rw [hwf]; rfl
      ·
        repeat (refine awp_seq ?_)
        refine awp_skip ?_
        exact ⟨⟨rfl, rfl, trivial⟩, (), _, ⟨rfl, trivial⟩, rfl, any_take_succ hi hg bt64⟩
    · intro s hg
      rw [List.take_length] at hg
      have hwf : wfT t = true := by rw [wfT_eq, hn, hg]; rfl
      repeat (refine awp_seq ?_)
      refine e_eval (by simp only [jA, jO, jN, seval, vint, TyS, TyF, BdS, Int.cast_ofNat_Int, d0, d1, d2, d3, d4, d5, d6, d7, d8, d9, d10] <;> with_reducible rfl) (by decide) ?_
      repeat (refine awp_seq ?_)
      refine awp_ret ⟨.inr rfl, _, rfl, ?_⟩
      rw [hwf]; rfl

theorem typeWF_4 (t : Ty) (hk : t.kind = 4) (hw : t.W) (ih : ∀ u ∈ t.args, PC Try.prog 93 [u.enc] (.bool (wfT u))) : PC Try.prog 93 [t.enc] (.bool (wfT t)) := by
  have hlen0 : (0 : Int) ≤ (t.args.length : Int) := by omega
  have d0 : decide (t.kind = 0) = false := decide_eq_false (by omega)
  have d1 : decide (t.kind = 1) = false := decide_eq_false (by omega)
  have d2 : decide (t.kind = 2) = false := decide_eq_false (by omega)
  have d3 : decide (t.kind = 3) = false := decide_eq_false (by omega)
  have d4 : decide (t.kind = 4) = true := decide_eq_true hk
  have d5 : decide (t.kind = 5) = false := decide_eq_false (by omega)
  have d6 : decide (t.kind = 6) = false := decide_eq_false (by omega)
  have d7 : decide (t.kind = 7) = false := decide_eq_false (by omega)
  have d8 : decide (t.kind = 8) = false := decide_eq_false (by omega)
  have d9 : decide (t.kind = 9) = false := decide_eq_false (by omega)
  have d10 : decide (t.kind = 10) = false := decide_eq_false (by omega)
  refine pc_of (N := 66) Try.func93 rfl rfl (by simp) (by simp [Ty.bel]) (.bool _) ?_
  repeat (refine awp_seq ?_)
  refine e_eval (by simp only [jA, jO, jN, seval, y24, vint, TyS, TyF, BdS, Int.cast_ofNat_Int, d0, d1, d2, d3, d4, d5, d6, d7, d8, d9, d10] <;> with_reducible rfl) (by decide) ?_
  repeat (refine awp_seq ?_)
  refine e_eval (by simp only [jA, jO, jN, seval, vint, TyS, TyF, BdS, Int.cast_ofNat_Int, d0, d1, d2, d3, d4, d5, d6, d7, d8, d9, d10] <;> with_reducible rfl) (by decide) ?_
  repeat (refine awp_seq ?_)
  refine e_eval (by simp only [jA, jO, jN, seval, y3, y24, vint, TyS, TyF, BdS, Int.cast_ofNat_Int, d0, d1, d2, d3, d4, d5, d6, d7, d8, d9, d10] <;> with_reducible rfl) (by decide) ?_
  repeat (refine awp_seq ?_)
  refine awp_block ?_
  repeat (refine awp_seq ?_)
  refine e_eval (by simp only [jA, jO, jN, seval, y3, vint, TyS, TyF, BdS, Int.cast_ofNat_Int, d0, d1, d2, d3, d4, d5, d6, d7, d8, d9, d10] <;> with_reducible rfl) (by decide) ?_
  repeat (refine awp_seq ?_)
  refine awp_cond_false rfl (by simp only [jN, seval, vint, TyS, TyF, BdS, Int.cast_ofNat_Int, d0, d1, d2, d3, d4, d5, d6, d7, d8, d9, d10] <;> with_reducible rfl) ?_
  repeat (refine awp_seq ?_)
  refine e_eval (by simp only [jA, jO, jN, seval, y3, vint, TyS, TyF, BdS, Int.cast_ofNat_Int, d0, d1, d2, d3, d4, d5, d6, d7, d8, d9, d10] <;> with_reducible rfl) (by decide) ?_
  repeat (refine awp_seq ?_)
  refine awp_cond_false rfl (by simp only [jN, seval, vint, TyS, TyF, BdS, Int.cast_ofNat_Int, d0, d1, d2, d3, d4, d5, d6, d7, d8, d9, d10] <;> with_reducible rfl) ?_
  repeat (refine awp_seq ?_)
  refine e_eval (by simp only [jA, jO, jN, seval, y3, vint, TyS, TyF, BdS, Int.cast_ofNat_Int, d0, d1, d2, d3, d4, d5, d6, d7, d8, d9, d10] <;> with_reducible rfl) (by decide) ?_
  repeat (refine awp_seq ?_)
  refine awp_cond_true rfl (by simp only [jN, seval, vint, TyS, TyF, BdS, Int.cast_ofNat_Int, d0, d1, d2, d3, d4, d5, d6, d7, d8, d9, d10] <;> with_reducible rfl) ?_
  repeat (refine awp_seq ?_)
  refine awp_skip ?_
  repeat (refine awp_seq ?_)
  refine awp_cond_true rfl (by simp only [jN, seval, vint, TyS, TyF, BdS, Int.cast_ofNat_Int, d0, d1, d2, d3, d4, d5, d6, d7, d8, d9, d10] <;> with_reducible rfl) ?_
  repeat (refine awp_seq ?_)
  refine awp_skip ?_
  repeat (refine awp_seq ?_)
  refine awp_region ?_
  refine aops_gstart ?_
  refine g_take 5 (by simp only [jG, jO, jN, seval, y22, y24, vint, TyS, TyF, BdS, Int.cast_ofNat_Int, d0, d1, d2, d3, d4, d5, d6, d7, d8, d9, d10] <;> with_reducible rfl) (by decide) ?_
  refine aops_gpure (by simp only [jE, jN, seval, vint, TyS, TyF, BdS, Int.cast_ofNat_Int, d0, d1, d2, d3, d4, d5, d6, d7, d8, d9, d10] <;> with_reducible rfl) (by simp only [jE, jN, seval, vint, TyS, TyF, BdS, Int.cast_ofNat_Int, d0, d1, d2, d3, d4, d5, d6, d7, d8, d9, d10] <;> with_reducible rfl) (by simp only [jE, jN, seval, vint, TyS, TyF, BdS, Int.cast_ofNat_Int, d0, d1, d2, d3, d4, d5, d6, d7, d8, d9, d10]) (by decide) Trygo98 (fun hc => inRange _ _ _ _) ?_
  refine g_end (by simp only [jG, jO, jN, seval, y3, y24, vint, TyS, TyF, BdS, Int.cast_ofNat_Int, d0, d1, d2, d3, d4, d5, d6, d7, d8, d9, d10] <;> with_reducible rfl) (by decide) (by repeat (first | exact Fin.base _ | with_reducible apply Fin.keep | apply Fin.drop)) ?_
  repeat (refine awp_seq ?_)
  refine awp_cond rfl (by simp only [jN, seval, vint, TyS, TyF, BdS, Int.cast_ofNat_Int, d0, d1, d2, d3, d4, d5, d6, d7, d8, d9, d10] <;> with_reducible rfl) (fun bt54 => ?_) (fun bt54 => ?_)
  ·
    have hn : nwf t = false := by
      unfold nwf
      simp only [d0, d1, d2, d3, d4, d5, d6, d7, d8, d9, d10, Bool.or_false, Bool.or_true, Bool.false_or, Bool.true_or, if_true, if_false, Bool.false_eq_true]
      rw [Bool.eq_false_iff]
      intro hh
      simp only [Bool.or_eq_true, Bool.and_eq_true, Bool.not_eq_true', Bool.and_eq_false_iff, Bool.or_eq_false_iff, Bool.not_eq_false', decide_eq_true_eq, decide_eq_false_iff_not] at hh bt54
      omega
    have hwf : wfT t = false := by rw [wfT_eq, hn]; rfl
    refine awp_sel [] (by simp only [jN, seval, vint, TyS, TyF, BdS, Int.cast_ofNat_Int, d0, d1, d2, d3, d4, d5, d6, d7, d8, d9, d10] <;> with_reducible rfl) ?_
    repeat (refine awp_seq ?_)
    refine e_eval (by simp only [jA, jO, jN, seval, vint, TyS, TyF, BdS, Int.cast_ofNat_Int, d0, d1, d2, d3, d4, d5, d6, d7, d8, d9, d10] <;> with_reducible rfl) (by decide) ?_
    repeat (refine awp_seq ?_)
    refine awp_ret ⟨.inr rfl, _, rfl, ?_⟩
    rw [hwf]; rfl
  ·
    have hn : nwf t = true := by
      unfold nwf
      simp only [d0, d1, d2, d3, d4, d5, d6, d7, d8, d9, d10, Bool.or_false, Bool.or_true, Bool.false_or, Bool.true_or, if_true, if_false, Bool.false_eq_true]
      simp only [Bool.or_eq_true, Bool.and_eq_true, Bool.not_eq_true', Bool.and_eq_false_iff, Bool.or_eq_false_iff, Bool.not_eq_false', decide_eq_true_eq, decide_eq_false_iff_not] at bt54 ⊢
      omega
    repeat (refine awp_seq ?_)
    refine awp_skip ?_
    refine awp_sel [1] (by simp only [jN, seval, vint, TyS, TyF, BdS, Int.cast_ofNat_Int, d0, d1, d2, d3, d4, d5, d6, d7, d8, d9, d10] <;> with_reducible rfl) ?_
    repeat (refine awp_seq ?_)
    refine e_eval (by simp only [jA, jO, jN, seval, y22, y24, vint, TyS, TyF, BdS, Int.cast_ofNat_Int, d0, d1, d2, d3, d4, d5, d6, d7, d8, d9, d10] <;> with_reducible rfl) (by decide) ?_
    repeat (refine awp_seq ?_)
    refine awp_forS (σ := Unit) (t.args.length) (fun (s : Unit) => [(56, .slice (t.args.map Ty.enc) .none)]) [56] ([]) (fun (s : Unit) => []) (fun (i : Nat) (s : Unit) => (t.args.take i).any (fun u => !wfT u) = false) (()) (_) rfl rfl rfl rfl rfl rfl rfl rfl rfl (by decide) (by decide) (by decide) (fun _ => rfl) (hw.lenMax) ⟨(by first | rfl | (simp only [jN, seval, vint, TyS, TyF, BdS, Int.cast_ofNat_Int, d0, d1, d2, d3, d4, d5, d6, d7, d8, d9, d10] <;> first | done | with_reducible rfl)), (by first | rfl | (simp only [jN, seval, vint, TyS, TyF, BdS, Int.cast_ofNat_Int, d0, d1, d2, d3, d4, d5, d6, d7, d8, d9, d10] <;> first | done | with_reducible rfl)), (by first | rfl | (simp only [jN, seval, vint, TyS, TyF, BdS, Int.cast_ofNat_Int, d0, d1, d2, d3, d4, d5, d6, d7, d8, d9, d10] <;> first | done | with_reducible rfl)), trivial⟩ (by first | rfl | (simp only [jN, seval, vint, TyS, TyF, BdS, Int.cast_ofNat_Int, d0, d1, d2, d3, d4, d5, d6, d7, d8, d9, d10] <;> first | done | with_reducible rfl)) (by simp) (fun _ _ _ => by first | exact Nat.zero_le _ | (simp only [List.length_append]; omega)) ?_ ?_ ?_
    · exact fun i s hg => ⟨by first | exact hbel_nil _ | (simp only [List.append_nil]; assumption) | (refine hbel_app' hb' (by simp) ?_; repeat (first | exact hbel_nil _ | exact trivial | exact obel_row_nil _ | (refine HBel.cons ?_ ?_) | (refine obel_row_cons (by first | exact bel_Bd _ _ | exact Bd.bel _ _ | exact bel_int_tok _ (by simp) | exact bel_ints0 _ _ | exact bel_slice_ty _ _ | exact Ty.bel _ _ | exact bel_ty_tok _ (by simp) | exact Bel.int _ _ | exact Bel.bool _ | exact Bel.str _ | exact Bel.nilp | exact Bel.nilfn | exact Bel.optr _ _ (by simp) | exact bel_nil0 _ | exact bel_nil1 _ | exact bel_fn0 _ _ | assumption) ?_))), by repeat (first | exact BelL.nil | refine BelL.cons (by first | exact bel_Bd _ _ | exact Bd.bel _ _ | exact bel_int_tok _ (by simp) | exact bel_ints0 _ _ | exact bel_slice_ty _ _ | exact Ty.bel _ _ | exact bel_ty_tok _ (by simp) | exact Bel.int _ _ | exact Bel.bool _ | exact Bel.str _ | exact Bel.nilp | exact Bel.nilfn | exact Bel.optr _ _ (by simp) | exact bel_nil0 _ | exact bel_nil1 _ | exact bel_fn0 _ _ | assumption) ?_)⟩
    · intro i s hi hg
      have g1 := ix_nat hi
      have g2 := get_enc Ty.enc hi
      have hmem : t.args[i] ∈ t.args := List.getElem_mem hi
      repeat (refine awp_seq ?_)
      refine e_eval (by simp only [jA, jO, jN, seval, y22, y24, vint, TyS, TyF, BdS, Int.cast_ofNat_Int, d0, d1, d2, d3, d4, d5, d6, d7, d8, d9, d10, g1, g2, Int.toNat_natCast] <;> with_reducible rfl) (by decide) ?_
      repeat (refine awp_seq ?_)
      refine awp_region ?_
      refine e_take 1 (by simp only [jA, jO, jN, seval, y24, vint, TyS, TyF, BdS, Int.cast_ofNat_Int, d0, d1, d2, d3, d4, d5, d6, d7, d8, d9, d10, g1, g2, Int.toNat_natCast] <;> with_reducible rfl) (by decide) ?_
      refine aops_pure (by simp only [jC, jN, seval, vint, TyS, TyF, BdS, Int.cast_ofNat_Int, d0, d1, d2, d3, d4, d5, d6, d7, d8, d9, d10, g1, g2, Int.toNat_natCast] <;> with_reducible rfl) (by simp only [jC, jN, seval, vint, TyS, TyF, BdS, Int.cast_ofNat_Int, d0, d1, d2, d3, d4, d5, d6, d7, d8, d9, d10, g1, g2, Int.toNat_natCast]) (by decide) Trygo93 (ih t.args[i] hmem _) ?_
      refine e_end (by simp only [jA, jO, jN, seval, vint, TyS, TyF, BdS, Int.cast_ofNat_Int, d0, d1, d2, d3, d4, d5, d6, d7, d8, d9, d10, g1, g2, Int.toNat_natCast] <;> with_reducible rfl) (by decide) ?_
      repeat (refine awp_seq ?_)
      refine awp_cond rfl (by simp only [jN, seval, vint, TyS, TyF, BdS, Int.cast_ofNat_Int, d0, d1, d2, d3, d4, d5, d6, d7, d8, d9, d10, g1, g2, Int.toNat_natCast] <;> with_reducible rfl) (fun bt64 => ?_) (fun bt64 => ?_)
      ·
        have hbad : (t.args.any fun u => !wfT u) = true := List.any_eq_true.2 ⟨_, hmem, bt64⟩
        have hwf : wfT t = false := by rw [wfT_eq, hn, hbad]; rfl
        repeat (refine awp_seq ?_)
        refine e_eval (by simp only [jA, jO, jN, seval, vint, TyS, TyF, BdS, Int.cast_ofNat_Int, d0, d1, d2, d3, d4, d5, d6, d7, d8, d9, d10, g1, g2, Int.toNat_natCast] <;> with_reducible rfl) (by decide) ?_
        repeat (refine awp_seq ?_)
        refine awp_ret ⟨.inr rfl, _, rfl, ?_⟩
        rw [hwf]; rfl
      ·
        repeat (refine awp_seq ?_)
        refine awp_skip ?_
        exact ⟨⟨rfl, rfl, trivial⟩, (), _, ⟨rfl, trivial⟩, rfl, any_take_succ hi hg bt64⟩
    · intro s hg
      rw [List.take_length] at hg
      have hwf : wfT t = true := by rw [wfT_eq, hn, hg]; rfl
      repeat (refine awp_seq ?_)
      refine e_eval (by simp only [jA, jO, jN, seval, vint, TyS, TyF, BdS, Int.cast_ofNat_Int, d0, d1, d2, d3, d4, d5, d6, d7, d8, d9, d10] <;> with_reducible rfl) (by decide) ?_
      repeat (refine awp_seq ?_)
      refine awp_ret ⟨.inr rfl, _, rfl, ?_⟩
      rw [hwf]; rfl

theorem typeWF_5 (t : Ty) (hk : t.kind = 5) (hw : t.W) (ih : ∀ u ∈ t.args, PC Try.prog 93 [u.enc] (.bool (wfT u))) : PC Try.prog 93 [t.enc] (.bool (wfT t)) := by
  have hlen0 : (0 : Int) ≤ (t.args.length : Int) := by omega
  have d0 : decide (t.kind = 0) = false := decide_eq_false (by omega)
  have d1 : decide (t.kind = 1) = false := decide_eq_false (by omega)
  have d2 : decide (t.kind = 2) = false := decide_eq_false (by omega)
  have d3 : decide (t.kind = 3) = false := decide_eq_false (by omega)
  have d4 : decide (t.kind = 4) = false := decide_eq_false (by omega)
  have d5 : decide (t.kind = 5) = true := decide_eq_true hk
  have d6 : decide (t.kind = 6) = false := decide_eq_false (by omega)
  have d7 : decide (t.kind = 7) = false := decide_eq_false (by omega)
  have d8 : decide (t.kind = 8) = false := decide_eq_false (by omega)
  have d9 : decide (t.kind = 9) = false := decide_eq_false (by omega)
  have d10 : decide (t.kind = 10) = false := decide_eq_false (by omega)
  refine pc_of (N := 66) Try.func93 rfl rfl (by simp) (by simp [Ty.bel]) (.bool _) ?_
  repeat (refine awp_seq ?_)
  refine e_eval (by simp only [jA, jO, jN, seval, y24, vint, TyS, TyF, BdS, Int.cast_ofNat_Int, d0, d1, d2, d3, d4, d5, d6, d7, d8, d9, d10] <;> with_reducible rfl) (by decide) ?_
  repeat (refine awp_seq ?_)
  refine e_eval (by simp only [jA, jO, jN, seval, vint, TyS, TyF, BdS, Int.cast_ofNat_Int, d0, d1, d2, d3, d4, d5, d6, d7, d8, d9, d10] <;> with_reducible rfl) (by decide) ?_
  repeat (refine awp_seq ?_)
  refine e_eval (by simp only [jA, jO, jN, seval, y3, y24, vint, TyS, TyF, BdS, Int.cast_ofNat_Int, d0, d1, d2, d3, d4, d5, d6, d7, d8, d9, d10] <;> with_reducible rfl) (by decide) ?_
  repeat (refine awp_seq ?_)
  refine awp_block ?_
  repeat (refine awp_seq ?_)
  refine e_eval (by simp only [jA, jO, jN, seval, y3, vint, TyS, TyF, BdS, Int.cast_ofNat_Int, d0, d1, d2, d3, d4, d5, d6, d7, d8, d9, d10] <;> with_reducible rfl) (by decide) ?_
  repeat (refine awp_seq ?_)
  refine awp_cond_false rfl (by simp only [jN, seval, vint, TyS, TyF, BdS, Int.cast_ofNat_Int, d0, d1, d2, d3, d4, d5, d6, d7, d8, d9, d10] <;> with_reducible rfl) ?_
  repeat (refine awp_seq ?_)
  refine e_eval (by simp only [jA, jO, jN, seval, y3, vint, TyS, TyF, BdS, Int.cast_ofNat_Int, d0, d1, d2, d3, d4, d5, d6, d7, d8, d9, d10] <;> with_reducible rfl) (by decide) ?_
  repeat (refine awp_seq ?_)
  refine awp_cond_false rfl (by simp only [jN, seval, vint, TyS, TyF, BdS, Int.cast_ofNat_Int, d0, d1, d2, d3, d4, d5, d6, d7, d8, d9, d10] <;> with_reducible rfl) ?_
  repeat (refine awp_seq ?_)
  refine e_eval (by simp only [jA, jO, jN, seval, y3, vint, TyS, TyF, BdS, Int.cast_ofNat_Int, d0, d1, d2, d3, d4, d5, d6, d7, d8, d9, d10] <;> with_reducible rfl) (by decide) ?_
  repeat (refine awp_seq ?_)
  refine awp_cond_false rfl (by simp only [jN, seval, vint, TyS, TyF, BdS, Int.cast_ofNat_Int, d0, d1, d2, d3, d4, d5, d6, d7, d8, d9, d10] <;> with_reducible rfl) ?_
  repeat (refine awp_seq ?_)
  refine e_eval (by simp only [jA, jO, jN, seval, y3, vint, TyS, TyF, BdS, Int.cast_ofNat_Int, d0, d1, d2, d3, d4, d5, d6, d7, d8, d9, d10] <;> with_reducible rfl) (by decide) ?_
  repeat (refine awp_seq ?_)
  refine awp_cond_true rfl (by simp only [jN, seval, vint, TyS, TyF, BdS, Int.cast_ofNat_Int, d0, d1, d2, d3, d4, d5, d6, d7, d8, d9, d10] <;> with_reducible rfl) ?_
  repeat (refine awp_seq ?_)
  refine awp_skip ?_
  repeat (refine awp_seq ?_)
  refine awp_cond_true rfl (by simp only [jN, seval, vint, TyS, TyF, BdS, Int.cast_ofNat_Int, d0, d1, d2, d3, d4, d5, d6, d7, d8, d9, d10] <;> with_reducible rfl) ?_
  repeat (refine awp_seq ?_)
  refine awp_skip ?_
  refine awp_sel [1, 3, 4, 5] (by simp only [jN, seval, vint, TyS, TyF, BdS, Int.cast_ofNat_Int, d0, d1, d2, d3, d4, d5, d6, d7, d8, d9, d10] <;> with_reducible rfl) ?_
  repeat (refine awp_seq ?_)
  refine awp_region ?_
  refine aops_gstart ?_
  refine g_take 5 (by simp only [jG, jO, jN, seval, y22, y24, vint, TyS, TyF, BdS, Int.cast_ofNat_Int, d0, d1, d2, d3, d4, d5, d6, d7, d8, d9, d10] <;> with_reducible rfl) (by decide) ?_
  refine aops_gpure (by simp only [jE, jN, seval, vint, TyS, TyF, BdS, Int.cast_ofNat_Int, d0, d1, d2, d3, d4, d5, d6, d7, d8, d9, d10] <;> with_reducible rfl) (by simp only [jE, jN, seval, vint, TyS, TyF, BdS, Int.cast_ofNat_Int, d0, d1, d2, d3, d4, d5, d6, d7, d8, d9, d10] <;> with_reducible rfl) (by simp only [jE, jN, seval, vint, TyS, TyF, BdS, Int.cast_ofNat_Int, d0, d1, d2, d3, d4, d5, d6, d7, d8, d9, d10]) (by decide) Trygo98 (fun hc => inRange _ _ _ _) ?_
  refine g_end (by simp only [jG, jO, jN, seval, y3, y24, vint, TyS, TyF, BdS, Int.cast_ofNat_Int, d0, d1, d2, d3, d4, d5, d6, d7, d8, d9, d10] <;> with_reducible rfl) (by decide) (by repeat (first | exact Fin.base _ | with_reducible apply Fin.keep | apply Fin.drop)) ?_
  repeat (refine awp_seq ?_)
  refine awp_cond rfl (by simp only [jN, seval, vint, TyS, TyF, BdS, Int.cast_ofNat_Int, d0, d1, d2, d3, d4, d5, d6, d7, d8, d9, d10] <;> with_reducible rfl) (fun bt54 => ?_) (fun bt54 => ?_)
  ·
    have hn : nwf t = false := by
      unfold nwf
      simp only [d0, d1, d2, d3, d4, d5, d6, d7, d8, d9, d10, Bool.or_false, Bool.or_true, Bool.false_or, Bool.true_or, if_true, if_false, Bool.false_eq_true]
      rw [Bool.eq_false_iff]
      intro hh
      simp only [Bool.or_eq_true, Bool.and_eq_true, Bool.not_eq_true', Bool.and_eq_false_iff, Bool.or_eq_false_iff, Bool.not_eq_false', decide_eq_true_eq, decide_eq_false_iff_not] at hh bt54
      omega
    have hwf : wfT t = false := by rw [wfT_eq, hn]; rfl
    refine awp_sel [] (by simp only [jN, seval, vint, TyS, TyF, BdS, Int.cast_ofNat_Int, d0, d1, d2, d3, d4, d5, d6, d7, d8, d9, d10] <;> with_reducible rfl) ?_
    repeat (refine awp_seq ?_)
    refine e_eval (by simp only [jA, jO, jN, seval, vint, TyS, TyF, BdS, Int.cast_ofNat_Int, d0, d1, d2, d3, d4, d5, d6, d7, d8, d9, d10] <;> with_reducible rfl) (by decide) ?_
    repeat (refine awp_seq ?_)
    refine awp_ret ⟨.inr rfl, _, rfl, ?_⟩
    rw [hwf]; rfl
  ·
    have hn : nwf t = true := by
      unfold nwf
      simp only [d0, d1, d2, d3, d4, d5, d6, d7, d8, d9, d10, Bool.or_false, Bool.or_true, Bool.false_or, Bool.true_or, if_true, if_false, Bool.false_eq_true]
      simp only [Bool.or_eq_true, Bool.and_eq_true, Bool.not_eq_true', Bool.and_eq_false_iff, Bool.or_eq_false_iff, Bool.not_eq_false', decide_eq_true_eq, decide_eq_false_iff_not] at bt54 ⊢
      omega
    repeat (refine awp_seq ?_)
    refine awp_skip ?_
    refine awp_sel [1] (by simp only [jN, seval, vint, TyS, TyF, BdS, Int.cast_ofNat_Int, d0, d1, d2, d3, d4, d5, d6, d7, d8, d9, d10] <;> with_reducible rfl) ?_
    repeat (refine awp_seq ?_)
    refine e_eval (by simp only [jA, jO, jN, seval, y22, y24, vint, TyS, TyF, BdS, Int.cast_ofNat_Int, d0, d1, d2, d3, d4, d5, d6, d7, d8, d9, d10] <;> with_reducible rfl) (by decide) ?_
    repeat (refine awp_seq ?_)
    refine awp_forS (σ := Unit) (t.args.length) (fun (s : Unit) => [(56, .slice (t.args.map Ty.enc) .none)]) [56] ([]) (fun (s : Unit) => []) (fun (i : Nat) (s : Unit) => (t.args.take i).any (fun u => !wfT u) = false) (()) (_) rfl rfl rfl rfl rfl rfl rfl rfl rfl (by decide) (by decide) (by decide) (fun _ => rfl) (hw.lenMax) ⟨(by first | rfl | (simp only [jN, seval, vint, TyS, TyF, BdS, Int.cast_ofNat_Int, d0, d1, d2, d3, d4, d5, d6, d7, d8, d9, d10] <;> first | done | with_reducible rfl)), (by first | rfl | (simp only [jN, seval, vint, TyS, TyF, BdS, Int.cast_ofNat_Int, d0, d1, d2, d3, d4, d5, d6, d7, d8, d9, d10] <;> first | done | with_reducible rfl)), (by first | rfl | (simp only [jN, seval, vint, TyS, TyF, BdS, Int.cast_ofNat_Int, d0, d1, d2, d3, d4, d5, d6, d7, d8, d9, d10] <;> first | done | with_reducible rfl)), trivial⟩ (by first | rfl | (simp only [jN, seval, vint, TyS, TyF, BdS, Int.cast_ofNat_Int, d0, d1, d2, d3, d4, d5, d6, d7, d8, d9, d10] <;> first | done | with_reducible rfl)) (by simp) (fun _ _ _ => by first | exact Nat.zero_le _ | (simp only [List.length_append]; omega)) ?_ ?_ ?_
    · exact fun i s hg => ⟨by first | exact hbel_nil _ | (simp only [List.append_nil]; assumption) | (refine hbel_app' hb' (by simp) ?_; repeat (first | exact hbel_nil _ | exact trivial | exact obel_row_nil _ | (refine HBel.cons ?_ ?_) | (refine obel_row_cons (by first | exact bel_Bd _ _ | exact Bd.bel _ _ | exact bel_int_tok _ (by simp) | exact bel_ints0 _ _ | exact bel_slice_ty _ _ | exact Ty.bel _ _ | exact bel_ty_tok _ (by simp) | exact Bel.int _ _ | exact Bel.bool _ | exact Bel.str _ | exact Bel.nilp | exact Bel.nilfn | exact Bel.optr _ _ (by simp) | exact bel_nil0 _ | exact bel_nil1 _ | exact bel_fn0 _ _ | assumption) ?_))), by repeat (first | exact BelL.nil | refine BelL.cons (by first | exact bel_Bd _ _ | exact Bd.bel _ _ | exact bel_int_tok _ (by simp) | exact bel_ints0 _ _ | exact bel_slice_ty _ _ | exact Ty.bel _ _ | exact bel_ty_tok _ (by simp) | exact Bel.int _ _ | exact Bel.bool _ | exact Bel.str _ | exact Bel.nilp | exact Bel.nilfn | exact Bel.optr _ _ (by simp) | exact bel_nil0 _ | exact bel_nil1 _ | exact bel_fn0 _ _ | assumption) ?_)⟩
    · intro i s hi hg
      have g1 := ix_nat hi
      have g2 := get_enc Ty.enc hi
      have hmem : t.args[i] ∈ t.args := List.getElem_mem hi
      repeat (refine awp_seq ?_)
      refine e_eval (by simp only [jA, jO, jN, seval, y22, y24, vint, TyS, TyF, BdS, Int.cast_ofNat_Int, d0, d1, d2, d3, d4, d5, d6, d7, d8, d9, d10, g1, g2, Int.toNat_natCast] <;> with_reducible rfl) (by decide) ?_
      repeat (refine awp_seq ?_)
      refine awp_region ?_
      refine e_take 1 (by simp only [jA, jO, jN, seval, y24, vint, TyS, TyF, BdS, Int.cast_ofNat_Int, d0, d1, d2, d3, d4, d5, d6, d7, d8, d9, d10, g1, g2, Int.toNat_natCast] <;> with_reducible rfl) (by decide) ?_
      refine aops_pure (by simp only [jC, jN, seval, vint, TyS, TyF, BdS, Int.cast_ofNat_Int, d0, d1, d2, d3, d4, d5, d6, d7, d8, d9, d10, g1, g2, Int.toNat_natCast] <;> with_reducible rfl) (by simp only [jC, jN, seval, vint, TyS, TyF, BdS, Int.cast_ofNat_Int, d0, d1, d2, d3, d4, d5, d6, d7, d8, d9, d10, g1, g2, Int.toNat_natCast]) (by decide) Trygo93 (ih t.args[i] hmem _) ?_
      refine e_end (by simp only [jA, jO, jN, seval, vint, TyS, TyF, BdS, Int.cast_ofNat_Int, d0, d1, d2, d3, d4, d5, d6, d7, d8, d9, d10, g1, g2, Int.toNat_natCast] <;> with_reducible rfl) (by decide) ?_
      repeat (refine awp_seq ?_)
      refine awp_cond rfl (by simp only [jN, seval, vint, TyS, TyF, BdS, Int.cast_ofNat_Int, d0, d1, d2, d3, d4, d5, d6, d7, d8, d9, d10, g1, g2, Int.toNat_natCast] <;> with_reducible rfl) (fun bt64 => ?_) (fun bt64 => ?_)
      ·
        have hbad : (t.args.any fun u => !wfT u) = true := List.any_eq_true.2 ⟨_, hmem, bt64⟩
        have hwf : wfT t = false := by rw [wfT_eq, hn, hbad]; rfl
        repeat (refine awp_seq ?_)
        refine e_eval (by simp only [jA, jO, jN, seval, vint, TyS, TyF, BdS, Int.cast_ofNat_Int, d0, d1, d2, d3, d4, d5, d6, d7, d8, d9, d10, g1, g2, Int.toNat_natCast] <;> with_reducible rfl) (by decide) ?_
        repeat (refine awp_seq ?_)
        refine awp_ret ⟨.inr rfl, _, rfl, ?_⟩
        rw [hwf]; rfl
      ·
        repeat (refine awp_seq ?_)
        refine awp_skip ?_
        exact ⟨⟨rfl, rfl, trivial⟩, (), _, ⟨rfl, trivial⟩, rfl, any_take_succ hi hg bt64⟩
    · intro s hg
      rw [List.take_length] at hg
      have hwf : wfT t = true := by rw [wfT_eq, hn, hg]; rfl
      repeat (refine awp_seq ?_)
      refine e_eval (by simp only [jA, jO, jN, seval, vint, TyS, TyF, BdS, Int.cast_ofNat_Int, d0, d1, d2, d3, d4, d5, d6, d7, d8, d9, d10] <;> with_reducible rfl) (by decide) ?_
      repeat (refine awp_seq ?_)
      refine awp_ret ⟨.inr rfl, _, rfl, ?_⟩
      rw [hwf]; rfl

theorem typeWF_6 (t : Ty) (hk : t.kind = 6) (hw : t.W) (ih : ∀ u ∈ t.args, PC Try.prog 93 [u.enc] (.bool (wfT u))) : PC Try.prog 93 [t.enc] (.bool (wfT t)) := by
  have hlen0 : (0 : Int) ≤ (t.args.length : Int) := by omega
  have d0 : decide (t.kind = 0) = false := decide_eq_false (by omega)
  have d1 : decide (t.kind = 1) = false := decide_eq_false (by omega)
  have d2 : decide (t.kind = 2) = false := decide_eq_false (by omega)
  have d3 : decide (t.kind = 3) = false := decide_eq_false (by omega)
  have d4 : decide (t.kind = 4) = false := decide_eq_false (by omega)
  have d5 : decide (t.kind = 5) = false := decide_eq_false (by omega)
  have d6 : decide (t.kind = 6) = true := decide_eq_true hk
  have d7 : decide (t.kind = 7) = false := decide_eq_false (by omega)
  have d8 : decide (t.kind = 8) = false := decide_eq_false (by omega)
  have d9 : decide (t.kind = 9) = false := decide_eq_false (by omega)
  have d10 : decide (t.kind = 10) = false := decide_eq_false (by omega)
  refine pc_of (N := 66) Try.func93 rfl rfl (by simp) (by simp [Ty.bel]) (.bool _) ?_
  repeat (refine awp_seq ?_)
  refine e_eval (by simp only [jA, jO, jN, seval, y24, vint, TyS, TyF, BdS, Int.cast_ofNat_Int, d0, d1, d2, d3, d4, d5, d6, d7, d8, d9, d10] <;> with_reducible rfl) (by decide) ?_
  repeat (refine awp_seq ?_)
  refine e_eval (by simp only [jA, jO, jN, seval, vint, TyS, TyF, BdS, Int.cast_ofNat_Int, d0, d1, d2, d3, d4, d5, d6, d7, d8, d9, d10] <;> with_reducible rfl) (by decide) ?_
  repeat (refine awp_seq ?_)
  refine e_eval (by simp only [jA, jO, jN, seval, y3, y24, vint, TyS, TyF, BdS, Int.cast_ofNat_Int, d0, d1, d2, d3, d4, d5, d6, d7, d8, d9, d10] <;> with_reducible rfl) (by decide) ?_
  repeat (refine awp_seq ?_)
  refine awp_block ?_
  repeat (refine awp_seq ?_)
  refine e_eval (by simp only [jA, jO, jN, seval, y3, vint, TyS, TyF, BdS, Int.cast_ofNat_Int, d0, d1, d2, d3, d4, d5, d6, d7, d8, d9, d10] <;> with_reducible rfl) (by decide) ?_
  repeat (refine awp_seq ?_)
  refine awp_cond_false rfl (by simp only [jN, seval, vint, TyS, TyF, BdS, Int.cast_ofNat_Int, d0, d1, d2, d3, d4, d5, d6, d7, d8, d9, d10] <;> with_reducible rfl) ?_
  repeat (refine awp_seq ?_)
  refine e_eval (by simp only [jA, jO, jN, seval, y3, vint, TyS, TyF, BdS, Int.cast_ofNat_Int, d0, d1, d2, d3, d4, d5, d6, d7, d8, d9, d10] <;> with_reducible rfl) (by decide) ?_
  repeat (refine awp_seq ?_)
  refine awp_cond_false rfl (by simp only [jN, seval, vint, TyS, TyF, BdS, Int.cast_ofNat_Int, d0, d1, d2, d3, d4, d5, d6, d7, d8, d9, d10] <;> with_reducible rfl) ?_
  repeat (refine awp_seq ?_)
  refine e_eval (by simp only [jA, jO, jN, seval, y3, vint, TyS, TyF, BdS, Int.cast_ofNat_Int, d0, d1, d2, d3, d4, d5, d6, d7, d8, d9, d10] <;> with_reducible rfl) (by decide) ?_
  repeat (refine awp_seq ?_)
  refine awp_cond_false rfl (by simp only [jN, seval, vint, TyS, TyF, BdS, Int.cast_ofNat_Int, d0, d1, d2, d3, d4, d5, d6, d7, d8, d9, d10] <;> with_reducible rfl) ?_
  repeat (refine awp_seq ?_)
  refine e_eval (by simp only [jA, jO, jN, seval, y3, vint, TyS, TyF, BdS, Int.cast_ofNat_Int, d0, d1, d2, d3, d4, d5, d6, d7, d8, d9, d10] <;> with_reducible rfl) (by decide) ?_
  repeat (refine awp_seq ?_)
  refine awp_cond_false rfl (by simp only [jN, seval, vint, TyS, TyF, BdS, Int.cast_ofNat_Int, d0, d1, d2, d3, d4, d5, d6, d7, d8, d9, d10] <;> with_reducible rfl) ?_
  refine awp_sel [1, 3, 4, 5, 9] (by simp only [jN, seval, vint, TyS, TyF, BdS, Int.cast_ofNat_Int, d0, d1, d2, d3, d4, d5, d6, d7, d8, d9, d10] <;> with_reducible rfl) ?_
  repeat (refine awp_seq ?_)
  refine e_eval (by simp only [jA, jO, jN, seval, y3, vint, TyS, TyF, BdS, Int.cast_ofNat_Int, d0, d1, d2, d3, d4, d5, d6, d7, d8, d9, d10] <;> with_reducible rfl) (by decide) ?_
  repeat (refine awp_seq ?_)
  refine awp_cond_true rfl (by simp only [jN, seval, vint, TyS, TyF, BdS, Int.cast_ofNat_Int, d0, d1, d2, d3, d4, d5, d6, d7, d8, d9, d10] <;> with_reducible rfl) ?_
  repeat (refine awp_seq ?_)
  refine awp_skip ?_
  repeat (refine awp_seq ?_)
  refine awp_region ?_
  refine aops_gstart ?_
  refine g_take 5 (by simp only [jG, jO, jN, seval, y22, y24, vint, TyS, TyF, BdS, Int.cast_ofNat_Int, d0, d1, d2, d3, d4, d5, d6, d7, d8, d9, d10] <;> with_reducible rfl) (by decide) ?_
  refine aops_gpure (by simp only [jE, jN, seval, vint, TyS, TyF, BdS, Int.cast_ofNat_Int, d0, d1, d2, d3, d4, d5, d6, d7, d8, d9, d10] <;> with_reducible rfl) (by simp only [jE, jN, seval, vint, TyS, TyF, BdS, Int.cast_ofNat_Int, d0, d1, d2, d3, d4, d5, d6, d7, d8, d9, d10] <;> with_reducible rfl) (by simp only [jE, jN, seval, vint, TyS, TyF, BdS, Int.cast_ofNat_Int, d0, d1, d2, d3, d4, d5, d6, d7, d8, d9, d10]) (by decide) Trygo98 (fun hc => inRange _ _ _ _) ?_
  refine g_end (by simp only [jG, jO, jN, seval, y3, y24, vint, TyS, TyF, BdS, Int.cast_ofNat_Int, d0, d1, d2, d3, d4, d5, d6, d7, d8, d9, d10] <;> with_reducible rfl) (by decide) (by repeat (first | exact Fin.base _ | with_reducible apply Fin.keep | apply Fin.drop)) ?_
  repeat (refine awp_seq ?_)
  refine awp_cond rfl (by simp only [jN, seval, vint, TyS, TyF, BdS, Int.cast_ofNat_Int, d0, d1, d2, d3, d4, d5, d6, d7, d8, d9, d10] <;> with_reducible rfl) (fun bt54 => ?_) (fun bt54 => ?_)
  ·
    have hn : nwf t = false := by
      unfold nwf
      simp only [d0, d1, d2, d3, d4, d5, d6, d7, d8, d9, d10, Bool.or_false, Bool.or_true, Bool.false_or, Bool.true_or, if_true, if_false, Bool.false_eq_true]
      rw [Bool.eq_false_iff]
      intro hh
      simp only [Bool.or_eq_true, Bool.and_eq_true, Bool.not_eq_true', Bool.and_eq_false_iff, Bool.or_eq_false_iff, Bool.not_eq_false', decide_eq_true_eq, decide_eq_false_iff_not] at hh bt54
      omega
    have hwf : wfT t = false := by rw [wfT_eq, hn]; rfl
    refine awp_sel [] (by simp only [jN, seval, vint, TyS, TyF, BdS, Int.cast_ofNat_Int, d0, d1, d2, d3, d4, d5, d6, d7, d8, d9, d10] <;> with_reducible rfl) ?_
    repeat (refine awp_seq ?_)
    refine e_eval (by simp only [jA, jO, jN, seval, vint, TyS, TyF, BdS, Int.cast_ofNat_Int, d0, d1, d2, d3, d4, d5, d6, d7, d8, d9, d10] <;> with_reducible rfl) (by decide) ?_
    repeat (refine awp_seq ?_)
    refine awp_ret ⟨.inr rfl, _, rfl, ?_⟩
    rw [hwf]; rfl
  ·
    have hn : nwf t = true := by
      unfold nwf
      simp only [d0, d1, d2, d3, d4, d5, d6, d7, d8, d9, d10, Bool.or_false, Bool.or_true, Bool.false_or, Bool.true_or, if_true, if_false, Bool.false_eq_true]
      simp only [Bool.or_eq_true, Bool.and_eq_true, Bool.not_eq_true', Bool.and_eq_false_iff, Bool.or_eq_false_iff, Bool.not_eq_false', decide_eq_true_eq, decide_eq_false_iff_not] at bt54 ⊢
      omega
    repeat (refine awp_seq ?_)
    refine awp_skip ?_
    refine awp_sel [1] (by simp only [jN, seval, vint, TyS, TyF, BdS, Int.cast_ofNat_Int, d0, d1, d2, d3, d4, d5, d6, d7, d8, d9, d10] <;> with_reducible rfl) ?_
    repeat (refine awp_seq ?_)
    refine e_eval (by simp only [jA, jO, jN, seval, y22, y24, vint, TyS, TyF, BdS, Int.cast_ofNat_Int, d0, d1, d2, d3, d4, d5, d6, d7, d8, d9, d10] <;> with_reducible rfl) (by decide) ?_
    repeat (refine awp_seq ?_)
    refine awp_forS (σ := Unit) (t.args.length) (fun (s : Unit) => [(56, .slice (t.args.map Ty.enc) .none)]) [56] ([]) (fun (s : Unit) => []) (fun (i : Nat) (s : Unit) => (t.args.take i).any (fun u => !wfT u) = false) (()) (_) rfl rfl rfl rfl rfl rfl rfl rfl rfl (by decide) (by decide) (by decide) (fun _ => rfl) (hw.lenMax) ⟨(by first | rfl | (simp only [jN, seval, vint, TyS, TyF, BdS, Int.cast_ofNat_Int, d0, d1, d2, d3, d4, d5, d6, d7, d8, d9, d10] <;> first | done | with_reducible rfl)), (by first | rfl | (simp only [jN, seval, vint, TyS, TyF, BdS, Int.cast_ofNat_Int, d0, d1, d2, d3, d4, d5, d6, d7, d8, d9, d10] <;> first | done | with_reducible rfl)), (by first | rfl | (simp only [jN, seval, vint, TyS, TyF, BdS, Int.cast_ofNat_Int, d0, d1, d2, d3, d4, d5, d6, d7, d8, d9, d10] <;> first | done | with_reducible rfl)), trivial⟩ (by first | rfl | (simp only [jN, seval, vint, TyS, TyF, BdS, Int.cast_ofNat_Int, d0, d1, d2, d3, d4, d5, d6, d7, d8, d9, d10] <;> first | done | with_reducible rfl)) (by simp) (fun _ _ _ => by first | exact Nat.zero_le _ | (simp only [List.length_append]; omega)) ?_ ?_ ?_
    · exact fun i s hg => ⟨by first | exact hbel_nil _ | (simp only [List.append_nil]; assumption) | (refine hbel_app' hb' (by simp) ?_; repeat (first | exact hbel_nil _ | exact trivial | exact obel_row_nil _ | (refine HBel.cons ?_ ?_) | (refine obel_row_cons (by first | exact bel_Bd _ _ | exact Bd.bel _ _ | exact bel_int_tok _ (by simp) | exact bel_ints0 _ _ | exact bel_slice_ty _ _ | exact Ty.bel _ _ | exact bel_ty_tok _ (by simp) | exact Bel.int _ _ | exact Bel.bool _ | exact Bel.str _ | exact Bel.nilp | exact Bel.nilfn | exact Bel.optr _ _ (by simp) | exact bel_nil0 _ | exact bel_nil1 _ | exact bel_fn0 _ _ | assumption) ?_))), by repeat (first | exact BelL.nil | refine BelL.cons (by first | exact bel_Bd _ _ | exact Bd.bel _ _ | exact bel_int_tok _ (by simp) | exact bel_ints0 _ _ | exact bel_slice_ty _ _ | exact Ty.bel _ _ | exact bel_ty_tok _ (by simp) | exact Bel.int _ _ | exact Bel.bool _ | exact Bel.str _ | exact Bel.nilp | exact Bel.nilfn | exact Bel.optr _ _ (by simp) | exact bel_nil0 _ | exact bel_nil1 _ | exact bel_fn0 _ _ | assumption) ?_)⟩
    · intro i s hi hg
      have g1 := ix_nat hi
      have g2 := get_enc Ty.enc hi
      have hmem : t.args[i] ∈ t.args := List.getElem_mem hi
      repeat (refine awp_seq ?_)
      refine e_eval (by simp only [jA, jO, jN, seval, y22, y24, vint, TyS, TyF, BdS, Int.cast_ofNat_Int, d0, d1, d2, d3, d4, d5, d6, d7, d8, d9, d10, g1, g2, Int.toNat_natCast] <;> with_reducible rfl) (by decide) ?_
      repeat (refine awp_seq ?_)
      refine awp_region ?_
      refine e_take 1 (by simp only [jA, jO, jN, seval, y24, vint, TyS, TyF, BdS, Int.cast_ofNat_Int, d0, d1, d2, d3, d4, d5, d6, d7, d8, d9, d10, g1, g2, Int.toNat_natCast] <;> with_reducible rfl) (by decide) ?_
      refine aops_pure (by simp only [jC, jN, seval, vint, TyS, TyF, BdS, Int.cast_ofNat_Int, d0, d1, d2, d3, d4, d5, d6, d7, d8, d9, d10, g1, g2, Int.toNat_natCast] <;> with_reducible rfl) (by simp only [jC, jN, seval, vint, TyS, TyF, BdS, Int.cast_ofNat_Int, d0, d1, d2, d3, d4, d5, d6, d7, d8, d9, d10, g1, g2, Int.toNat_natCast]) (by decide) Trygo93 (ih t.args[i] hmem _) ?_
      refine e_end (by simp only [jA, jO, jN, seval, vint, TyS, TyF, BdS, Int.cast_ofNat_Int, d0, d1, d2, d3, d4, d5, d6, d7, d8, d9, d10, g1, g2, Int.toNat_natCast] <;> with_reducible rfl) (by decide) ?_
      repeat (refine awp_seq ?_)
      refine awp_cond rfl (by simp only [jN, seval, vint, TyS, TyF, BdS, Int.cast_ofNat_Int, d0, d1, d2, d3, d4, d5, d6, d7, d8, d9, d10, g1, g2, Int.toNat_natCast] <;> with_reducible rfl) (fun bt64 => ?_) (fun bt64 => ?_)
      ·
        have hbad : (t.args.any fun u => !wfT u) = true := List.any_eq_true.2 ⟨_, hmem, bt64⟩
        have hwf : wfT t = false := by rw [wfT_eq, hn, hbad]; rfl
        repeat (refine awp_seq ?_)
        refine e_eval (by simp only [jA, jO, jN, seval, vint, TyS, TyF, BdS, Int.cast_ofNat_Int, d0, d1, d2, d3, d4, d5, d6, d7, d8, d9, d10, g1, g2, Int.toNat_natCast] <;> with_reducible rfl) (by decide) ?_
        repeat (refine awp_seq ?_)
        refine awp_ret ⟨.inr rfl, _, rfl, ?_⟩
        rw [hwf]; rfl
      ·
        repeat (refine awp_seq ?_)
        refine awp_skip ?_
        exact ⟨⟨rfl, rfl, trivial⟩, (), _, ⟨rfl, trivial⟩, rfl, any_take_succ hi hg bt64⟩
    · intro s hg
      rw [List.take_length] at hg
      have hwf : wfT t = true := by rw [wfT_eq, hn, hg]; rfl
      repeat (refine awp_seq ?_)
      refine e_eval (by simp only [jA, jO, jN, seval, vint, TyS, TyF, BdS, Int.cast_ofNat_Int, d0, d1, d2, d3, d4, d5, d6, d7, d8, d9, d10] <;> with_reducible rfl) (by decide) ?_
      repeat (refine awp_seq ?_)
      refine awp_ret ⟨.inr rfl, _, rfl, ?_⟩
      rw [hwf]; rfl

theorem typeWF_7 (t : Ty) (hk : t.kind = 7) (hw : t.W) (ih : ∀ u ∈ t.args, PC Try.prog 93 [u.enc] (.bool (wfT u))) : PC Try.prog 93 [t.enc] (.bool (wfT t)) := by
  have hlen0 : (0 : Int) ≤ (t.args.length : Int) := by omega
  have d0 : decide (t.kind = 0) = false := decide_eq_false (by omega)
  have d1 : decide (t.kind = 1) = false := decide_eq_false (by omega)
  have d2 : decide (t.kind = 2) = false := decide_eq_false (by omega)
  have d3 : decide (t.kind = 3) = false := decide_eq_false (by omega)
  have d4 : decide (t.kind = 4) = false := decide_eq_false (by omega)
  have d5 : decide (t.kind = 5) = false := decide_eq_false (by omega)
  have d6 : decide (t.kind = 6) = false := decide_eq_false (by omega)
  have d7 : decide (t.kind = 7) = true := decide_eq_true hk
  have d8 : decide (t.kind = 8) = false := decide_eq_false (by omega)
  have d9 : decide (t.kind = 9) = false := decide_eq_false (by omega)
  have d10 : decide (t.kind = 10) = false := decide_eq_false (by omega)
  refine pc_of (N := 66) Try.func93 rfl rfl (by simp) (by simp [Ty.bel]) (.bool _) ?_
  repeat (refine awp_seq ?_)
  refine e_eval (by simp only [jA, jO, jN, seval, y24, vint, TyS, TyF, BdS, Int.cast_ofNat_Int, d0, d1, d2, d3, d4, d5, d6, d7, d8, d9, d10] <;> with_reducible rfl) (by decide) ?_
  repeat (refine awp_seq ?_)
  refine e_eval (by simp only [jA, jO, jN, seval, vint, TyS, TyF, BdS, Int.cast_ofNat_Int, d0, d1, d2, d3, d4, d5, d6, d7, d8, d9, d10] <;> with_reducible rfl) (by decide) ?_
  repeat (refine awp_seq ?_)
  refine e_eval (by simp only [jA, jO, jN, seval, y3, y24, vint, TyS, TyF, BdS, Int.cast_ofNat_Int, d0, d1, d2, d3, d4, d5, d6, d7, d8, d9, d10] <;> with_reducible rfl) (by decide) ?_
  repeat (refine awp_seq ?_)
  refine awp_block ?_
  repeat (refine awp_seq ?_)
  refine e_eval (by simp only [jA, jO, jN, seval, y3, vint, TyS, TyF, BdS, Int.cast_ofNat_Int, d0, d1, d2, d3, d4, d5, d6, d7, d8, d9, d10] <;> with_reducible rfl) (by decide) ?_
  repeat (refine awp_seq ?_)
  refine awp_cond_false rfl (by simp only [jN, seval, vint, TyS, TyF, BdS, Int.cast_ofNat_Int, d0, d1, d2, d3, d4, d5, d6, d7, d8, d9, d10] <;> with_reducible rfl) ?_
  repeat (refine awp_seq ?_)
  refine e_eval (by simp only [jA, jO, jN, seval, y3, vint, TyS, TyF, BdS, Int.cast_ofNat_Int, d0, d1, d2, d3, d4, d5, d6, d7, d8, d9, d10] <;> with_reducible rfl) (by decide) ?_
  repeat (refine awp_seq ?_)
  refine awp_cond_false rfl (by simp only [jN, seval, vint, TyS, TyF, BdS, Int.cast_ofNat_Int, d0, d1, d2, d3, d4, d5, d6, d7, d8, d9, d10] <;> with_reducible rfl) ?_
  repeat (refine awp_seq ?_)
  refine e_eval (by simp only [jA, jO, jN, seval, y3, vint, TyS, TyF, BdS, Int.cast_ofNat_Int, d0, d1, d2, d3, d4, d5, d6, d7, d8, d9, d10] <;> with_reducible rfl) (by decide) ?_
  repeat (refine awp_seq ?_)
  refine awp_cond_false rfl (by simp only [jN, seval, vint, TyS, TyF, BdS, Int.cast_ofNat_Int, d0, d1, d2, d3, d4, d5, d6, d7, d8, d9, d10] <;> with_reducible rfl) ?_
  repeat (refine awp_seq ?_)
  refine e_eval (by simp only [jA, jO, jN, seval, y3, vint, TyS, TyF, BdS, Int.cast_ofNat_Int, d0, d1, d2, d3, d4, d5, d6, d7, d8, d9, d10] <;> with_reducible rfl) (by decide) ?_
  repeat (refine awp_seq ?_)
  refine awp_cond_false rfl (by simp only [jN, seval, vint, TyS, TyF, BdS, Int.cast_ofNat_Int, d0, d1, d2, d3, d4, d5, d6, d7, d8, d9, d10] <;> with_reducible rfl) ?_
  refine awp_sel [1, 3, 4, 5, 9] (by simp only [jN, seval, vint, TyS, TyF, BdS, Int.cast_ofNat_Int, d0, d1, d2, d3, d4, d5, d6, d7, d8, d9, d10] <;> with_reducible rfl) ?_
  repeat (refine awp_seq ?_)
  refine e_eval (by simp only [jA, jO, jN, seval, y3, vint, TyS, TyF, BdS, Int.cast_ofNat_Int, d0, d1, d2, d3, d4, d5, d6, d7, d8, d9, d10] <;> with_reducible rfl) (by decide) ?_
  repeat (refine awp_seq ?_)
  refine awp_cond_false rfl (by simp only [jN, seval, vint, TyS, TyF, BdS, Int.cast_ofNat_Int, d0, d1, d2, d3, d4, d5, d6, d7, d8, d9, d10] <;> with_reducible rfl) ?_
  repeat (refine awp_seq ?_)
  refine e_eval (by simp only [jA, jO, jN, seval, y3, vint, TyS, TyF, BdS, Int.cast_ofNat_Int, d0, d1, d2, d3, d4, d5, d6, d7, d8, d9, d10] <;> with_reducible rfl) (by decide) ?_
  repeat (refine awp_seq ?_)
  refine awp_cond_false rfl (by simp only [jN, seval, vint, TyS, TyF, BdS, Int.cast_ofNat_Int, d0, d1, d2, d3, d4, d5, d6, d7, d8, d9, d10] <;> with_reducible rfl) ?_
  repeat (refine awp_seq ?_)
  refine e_eval (by simp only [jA, jO, jN, seval, y3, vint, TyS, TyF, BdS, Int.cast_ofNat_Int, d0, d1, d2, d3, d4, d5, d6, d7, d8, d9, d10] <;> with_reducible rfl) (by decide) ?_
  repeat (refine awp_seq ?_)
  refine awp_cond_false rfl (by simp only [jN, seval, vint, TyS, TyF, BdS, Int.cast_ofNat_Int, d0, d1, d2, d3, d4, d5, d6, d7, d8, d9, d10] <;> with_reducible rfl) ?_
  repeat (refine awp_seq ?_)
  refine e_eval (by simp only [jA, jO, jN, seval, y3, vint, TyS, TyF, BdS, Int.cast_ofNat_Int, d0, d1, d2, d3, d4, d5, d6, d7, d8, d9, d10] <;> with_reducible rfl) (by decide) ?_
  repeat (refine awp_seq ?_)
  refine awp_cond_true rfl (by simp only [jN, seval, vint, TyS, TyF, BdS, Int.cast_ofNat_Int, d0, d1, d2, d3, d4, d5, d6, d7, d8, d9, d10] <;> with_reducible rfl) ?_
  repeat (refine awp_seq ?_)
  refine awp_draw 0 (by kernel_rfl) ?_
  refine d_end (bm := [0, 1, 3, 0, 15]) (fresh := 0) (by kernel_rfl) (by simp only [jD, jO, jN, seval, y22, y24, vint, TyS, TyF, BdS, Int.cast_ofNat_Int, d0, d1, d2, d3, d4, d5, d6, d7, d8, d9, d10] <;> with_reducible rfl) (by decide) ?_
  repeat (refine awp_seq ?_)
  refine awp_region ?_
  refine aops_gstart ?_
  refine g_take 5 (by simp only [jG, jO, jN, seval, y22, y24, vint, TyS, TyF, BdS, Int.cast_ofNat_Int, d0, d1, d2, d3, d4, d5, d6, d7, d8, d9, d10] <;> with_reducible rfl) (by decide) ?_
  refine aops_gpure (by simp only [jE, jN, seval, vint, TyS, TyF, BdS, Int.cast_ofNat_Int, d0, d1, d2, d3, d4, d5, d6, d7, d8, d9, d10] <;> with_reducible rfl) (by simp only [jE, jN, seval, vint, TyS, TyF, BdS, Int.cast_ofNat_Int, d0, d1, d2, d3, d4, d5, d6, d7, d8, d9, d10] <;> with_reducible rfl) (by simp only [jE, jN, seval, vint, TyS, TyF, BdS, Int.cast_ofNat_Int, d0, d1, d2, d3, d4, d5, d6, d7, d8, d9, d10]) (by decide) Trygo98 (fun hc => inRange _ _ _ _) ?_
  refine g_end (by simp only [jG, jO, jN, seval, y3, y24, vint, TyS, TyF, BdS, Int.cast_ofNat_Int, d0, d1, d2, d3, d4, d5, d6, d7, d8, d9, d10] <;> with_reducible rfl) (by decide) (by repeat (first | exact Fin.base _ | with_reducible apply Fin.keep | apply Fin.drop)) ?_
  repeat (refine awp_seq ?_)
  refine awp_cond rfl (by simp only [jN, seval, vint, TyS, TyF, BdS, Int.cast_ofNat_Int, d0, d1, d2, d3, d4, d5, d6, d7, d8, d9, d10] <;> with_reducible rfl) (fun bt54 => ?_) (fun bt54 => ?_)
  ·
    have hn : nwf t = false := by
      unfold nwf
      simp only [d0, d1, d2, d3, d4, d5, d6, d7, d8, d9, d10, Bool.or_false, Bool.or_true, Bool.false_or, Bool.true_or, if_true, if_false, Bool.false_eq_true]
      rw [Bool.eq_false_iff]
      intro hh
      simp only [Bool.or_eq_true, Bool.and_eq_true, Bool.not_eq_true', Bool.and_eq_false_iff, Bool.or_eq_false_iff, Bool.not_eq_false', decide_eq_true_eq, decide_eq_false_iff_not] at hh bt54
      omega
    have hwf : wfT t = false := by rw [wfT_eq, hn]; rfl
    refine awp_sel [] (by simp only [jN, seval, vint, TyS, TyF, BdS, Int.cast_ofNat_Int, d0, d1, d2, d3, d4, d5, d6, d7, d8, d9, d10] <;> with_reducible rfl) ?_
    repeat (refine awp_seq ?_)
    refine e_eval (by simp only [jA, jO, jN, seval, vint, TyS, TyF, BdS, Int.cast_ofNat_Int, d0, d1, d2, d3, d4, d5, d6, d7, d8, d9, d10] <;> with_reducible rfl) (by decide) ?_
    repeat (refine awp_seq ?_)
    refine awp_ret ⟨.inr rfl, _, rfl, ?_⟩
    rw [hwf]; rfl
  ·
    have hn : nwf t = true := by
      unfold nwf
      simp only [d0, d1, d2, d3, d4, d5, d6, d7, d8, d9, d10, Bool.or_false, Bool.or_true, Bool.false_or, Bool.true_or, if_true, if_false, Bool.false_eq_true]
      simp only [Bool.or_eq_true, Bool.and_eq_true, Bool.not_eq_true', Bool.and_eq_false_iff, Bool.or_eq_false_iff, Bool.not_eq_false', decide_eq_true_eq, decide_eq_false_iff_not] at bt54 ⊢
      omega
    repeat (refine awp_seq ?_)
    refine awp_skip ?_
    refine awp_sel [1] (by simp only [jN, seval, vint, TyS, TyF, BdS, Int.cast_ofNat_Int, d0, d1, d2, d3, d4, d5, d6, d7, d8, d9, d10] <;> with_reducible rfl) ?_
    repeat (refine awp_seq ?_)
    refine e_eval (by simp only [jA, jO, jN, seval, y22, y24, vint, TyS, TyF, BdS, Int.cast_ofNat_Int, d0, d1, d2, d3, d4, d5, d6, d7, d8, d9, d10] <;> with_reducible rfl) (by decide) ?_
    repeat (refine awp_seq ?_)
    refine awp_forS (σ := Unit) (t.args.length) (fun (s : Unit) => [(56, .slice (t.args.map Ty.enc) .none)]) [56] ([]) (fun (s : Unit) => []) (fun (i : Nat) (s : Unit) => (t.args.take i).any (fun u => !wfT u) = false) (()) (_) rfl rfl rfl rfl rfl rfl rfl rfl rfl (by decide) (by decide) (by decide) (fun _ => rfl) (hw.lenMax) ⟨(by first | rfl | (simp only [jN, seval, vint, TyS, TyF, BdS, Int.cast_ofNat_Int, d0, d1, d2, d3, d4, d5, d6, d7, d8, d9, d10] <;> first | done | with_reducible rfl)), (by first | rfl | (simp only [jN, seval, vint, TyS, TyF, BdS, Int.cast_ofNat_Int, d0, d1, d2, d3, d4, d5, d6, d7, d8, d9, d10] <;> first | done | with_reducible rfl)), (by first | rfl | (simp only [jN, seval, vint, TyS, TyF, BdS, Int.cast_ofNat_Int, d0, d1, d2, d3, d4, d5, d6, d7, d8, d9, d10] <;> first | done | with_reducible rfl)), trivial⟩ (by first | rfl | (simp only [jN, seval, vint, TyS, TyF, BdS, Int.cast_ofNat_Int, d0, d1, d2, d3, d4, d5, d6, d7, d8, d9, d10] <;> first | done | with_reducible rfl)) (by simp) (fun _ _ _ => by first | exact Nat.zero_le _ | (simp only [List.length_append]; omega)) ?_ ?_ ?_
    · exact fun i s hg => ⟨by first | exact hbel_nil _ | (simp only [List.append_nil]; assumption) | (refine hbel_app' hb' (by simp) ?_; repeat (first | exact hbel_nil _ | exact trivial | exact obel_row_nil _ | (refine HBel.cons ?_ ?_) | (refine obel_row_cons (by first | exact bel_Bd _ _ | exact Bd.bel _ _ | exact bel_int_tok _ (by simp) | exact bel_ints0 _ _ | exact bel_slice_ty _ _ | exact Ty.bel _ _ | exact bel_ty_tok _ (by simp) | exact Bel.int _ _ | exact Bel.bool _ | exact Bel.str _ | exact Bel.nilp | exact Bel.nilfn | exact Bel.optr _ _ (by simp) | exact bel_nil0 _ | exact bel_nil1 _ | exact bel_fn0 _ _ | assumption) ?_))), by repeat (first | exact BelL.nil | refine BelL.cons (by first | exact bel_Bd _ _ | exact Bd.bel _ _ | exact bel_int_tok _ (by simp) | exact bel_ints0 _ _ | exact bel_slice_ty _ _ | exact Ty.bel _ _ | exact bel_ty_tok _ (by simp) | exact Bel.int _ _ | exact Bel.bool _ | exact Bel.str _ | exact Bel.nilp | exact Bel.nilfn | exact Bel.optr _ _ (by simp) | exact bel_nil0 _ | exact bel_nil1 _ | exact bel_fn0 _ _ | assumption) ?_)⟩
    · intro i s hi hg
      have g1 := ix_nat hi
      have g2 := get_enc Ty.enc hi
      have hmem : t.args[i] ∈ t.args := List.getElem_mem hi
      repeat (refine awp_seq ?_)
      refine e_eval (by simp only [jA, jO, jN, seval, y22, y24, vint, TyS, TyF, BdS, Int.cast_ofNat_Int, d0, d1, d2, d3, d4, d5, d6, d7, d8, d9, d10, g1, g2, Int.toNat_natCast] <;> with_reducible rfl) (by decide) ?_
      repeat (refine awp_seq ?_)
      refine awp_region ?_
      refine e_take 1 (by simp only [jA, jO, jN, seval, y24, vint, TyS, TyF, BdS, Int.cast_ofNat_Int, d0, d1, d2, d3, d4, d5, d6, d7, d8, d9, d10, g1, g2, Int.toNat_natCast] <;> with_reducible rfl) (by decide) ?_
      refine aops_pure (by simp only [jC, jN, seval, vint, TyS, TyF, BdS, Int.cast_ofNat_Int, d0, d1, d2, d3, d4, d5, d6, d7, d8, d9, d10, g1, g2, Int.toNat_natCast] <;> with_reducible rfl) (by simp only [jC, jN, seval, vint, TyS, TyF, BdS, Int.cast_ofNat_Int, d0, d1, d2, d3, d4, d5, d6, d7, d8, d9, d10, g1, g2, Int.toNat_natCast]) (by decide) Trygo93 (ih t.args[i] hmem _) ?_
      refine e_end (by simp only [jA, jO, jN, seval, vint, TyS, TyF, BdS, Int.cast_ofNat_Int, d0, d1, d2, d3, d4, d5, d6, d7, d8, d9, d10, g1, g2, Int.toNat_natCast] <;> with_reducible rfl) (by decide) ?_
      repeat (refine awp_seq ?_)
      refine awp_cond rfl (by simp only [jN, seval, vint, TyS, TyF, BdS, Int.cast_ofNat_Int, d0, d1, d2, d3, d4, d5, d6, d7, d8, d9, d10, g1, g2, Int.toNat_natCast] <;> with_reducible rfl) (fun bt64 => ?_) (fun bt64 => ?_)
      ·
        have hbad : (t.args.any fun u => !wfT u) = true := List.any_eq_true.2 ⟨_, hmem, bt64⟩
        have hwf : wfT t = false := by rw [wfT_eq, hn, hbad]; rfl
        repeat (refine awp_seq ?_)
        refine e_eval (by simp only [jA, jO, jN, seval, vint, TyS, TyF, BdS, Int.cast_ofNat_Int, d0, d1, d2, d3, d4, d5, d6, d7, d8, d9, d10, g1, g2, Int.toNat_natCast] <;> with_reducible rfl) (by decide) ?_
        repeat (refine awp_seq ?_)
        refine awp_ret ⟨.inr rfl, _, rfl, ?_⟩
        rw [hwf]; rfl
      ·
        repeat (refine awp_seq ?_)
        refine awp_skip ?_
        exact ⟨⟨rfl, rfl, trivial⟩, (), _, ⟨rfl, trivial⟩, rfl, any_take_succ hi hg bt64⟩
    · intro s hg
      rw [List.take_length] at hg
      have hwf : wfT t = true := by rw [wfT_eq, hn, hg]; rfl
      repeat (refine awp_seq ?_)
      refine e_eval (by simp only [jA, jO, jN, seval, vint, TyS, TyF, BdS, Int.cast_ofNat_Int, d0, d1, d2, d3, d4, d5, d6, d7, d8, d9, d10] <;> with_reducible rfl) (by decide) ?_
      repeat (refine awp_seq ?_)
      refine awp_ret ⟨.inr rfl, _, rfl, ?_⟩
      rw [hwf]; rfl

theorem typeWF_8 (t : Ty) (hk : t.kind = 8) (hw : t.W) (ih : ∀ u ∈ t.args, PC Try.prog 93 [u.enc] (.bool (wfT u))) : PC Try.prog 93 [t.enc] (.bool (wfT t)) := by
  have hlen0 : (0 : Int) ≤ (t.args.length : Int) := by omega
  have d0 : decide (t.kind = 0) = false := decide_eq_false (by omega)
  have d1 : decide (t.kind = 1) = false := decide_eq_false (by omega)
  have d2 : decide (t.kind = 2) = false := decide_eq_false (by omega)
  have d3 : decide (t.kind = 3) = false := decide_eq_false (by omega)
  have d4 : decide (t.kind = 4) = false := decide_eq_false (by omega)
  have d5 : decide (t.kind = 5) = false := decide_eq_false (by omega)
  have d6 : decide (t.kind = 6) = false := decide_eq_false (by omega)
  have d7 : decide (t.kind = 7) = false := decide_eq_false (by omega)
  have d8 : decide (t.kind = 8) = true := decide_eq_true hk
  have d9 : decide (t.kind = 9) = false := decide_eq_false (by omega)
  have d10 : decide (t.kind = 10) = false := decide_eq_false (by omega)
  refine pc_of (N := 66) Try.func93 rfl rfl (by simp) (by simp [Ty.bel]) (.bool _) ?_
  repeat (refine awp_seq ?_)
  refine e_eval (by simp only [jA, jO, jN, seval, y24, vint, TyS, TyF, BdS, Int.cast_ofNat_Int, d0, d1, d2, d3, d4, d5, d6, d7, d8, d9, d10] <;> with_reducible rfl) (by decide) ?_
  repeat (refine awp_seq ?_)
  refine e_eval (by simp only [jA, jO, jN, seval, vint, TyS, TyF, BdS, Int.cast_ofNat_Int, d0, d1, d2, d3, d4, d5, d6, d7, d8, d9, d10] <;> with_reducible rfl) (by decide) ?_
  repeat (refine awp_seq ?_)
  refine e_eval (by simp only [jA, jO, jN, seval, y3, y24, vint, TyS, TyF, BdS, Int.cast_ofNat_Int, d0, d1, d2, d3, d4, d5, d6, d7, d8, d9, d10] <;> with_reducible rfl) (by decide) ?_
  repeat (refine awp_seq ?_)
  refine awp_block ?_
  repeat (refine awp_seq ?_)
  refine e_eval (by simp only [jA, jO, jN, seval, y3, vint, TyS, TyF, BdS, Int.cast_ofNat_Int, d0, d1, d2, d3, d4, d5, d6, d7, d8, d9, d10] <;> with_reducible rfl) (by decide) ?_
  repeat (refine awp_seq ?_)
  refine awp_cond_false rfl (by simp only [jN, seval, vint, TyS, TyF, BdS, Int.cast_ofNat_Int, d0, d1, d2, d3, d4, d5, d6, d7, d8, d9, d10] <;> with_reducible rfl) ?_
  repeat (refine awp_seq ?_)
  refine e_eval (by simp only [jA, jO, jN, seval, y3, vint, TyS, TyF, BdS, Int.cast_ofNat_Int, d0, d1, d2, d3, d4, d5, d6, d7, d8, d9, d10] <;> with_reducible rfl) (by decide) ?_
  repeat (refine awp_seq ?_)
  refine awp_cond_false rfl (by simp only [jN, seval, vint, TyS, TyF, BdS, Int.cast_ofNat_Int, d0, d1, d2, d3, d4, d5, d6, d7, d8, d9, d10] <;> with_reducible rfl) ?_
  repeat (refine awp_seq ?_)
  refine e_eval (by simp only [jA, jO, jN, seval, y3, vint, TyS, TyF, BdS, Int.cast_ofNat_Int, d0, d1, d2, d3, d4, d5, d6, d7, d8, d9, d10] <;> with_reducible rfl) (by decide) ?_
  repeat (refine awp_seq ?_)
  refine awp_cond_false rfl (by simp only [jN, seval, vint, TyS, TyF, BdS, Int.cast_ofNat_Int, d0, d1, d2, d3, d4, d5, d6, d7, d8, d9, d10] <;> with_reducible rfl) ?_
  repeat (refine awp_seq ?_)
  refine e_eval (by simp only [jA, jO, jN, seval, y3, vint, TyS, TyF, BdS, Int.cast_ofNat_Int, d0, d1, d2, d3, d4, d5, d6, d7, d8, d9, d10] <;> with_reducible rfl) (by decide) ?_
  repeat (refine awp_seq ?_)
  refine awp_cond_false rfl (by simp only [jN, seval, vint, TyS, TyF, BdS, Int.cast_ofNat_Int, d0, d1, d2, d3, d4, d5, d6, d7, d8, d9, d10] <;> with_reducible rfl) ?_
  refine awp_sel [1, 3, 4, 5, 9] (by simp only [jN, seval, vint, TyS, TyF, BdS, Int.cast_ofNat_Int, d0, d1, d2, d3, d4, d5, d6, d7, d8, d9, d10] <;> with_reducible rfl) ?_
  repeat (refine awp_seq ?_)
  refine e_eval (by simp only [jA, jO, jN, seval, y3, vint, TyS, TyF, BdS, Int.cast_ofNat_Int, d0, d1, d2, d3, d4, d5, d6, d7, d8, d9, d10] <;> with_reducible rfl) (by decide) ?_
  repeat (refine awp_seq ?_)
  refine awp_cond_false rfl (by simp only [jN, seval, vint, TyS, TyF, BdS, Int.cast_ofNat_Int, d0, d1, d2, d3, d4, d5, d6, d7, d8, d9, d10] <;> with_reducible rfl) ?_
  repeat (refine awp_seq ?_)
  refine e_eval (by simp only [jA, jO, jN, seval, y3, vint, TyS, TyF, BdS, Int.cast_ofNat_Int, d0, d1, d2, d3, d4, d5, d6, d7, d8, d9, d10] <;> with_reducible rfl) (by decide) ?_
  repeat (refine awp_seq ?_)
  refine awp_cond_false rfl (by simp only [jN, seval, vint, TyS, TyF, BdS, Int.cast_ofNat_Int, d0, d1, d2, d3, d4, d5, d6, d7, d8, d9, d10] <;> with_reducible rfl) ?_
  repeat (refine awp_seq ?_)
  refine e_eval (by simp only [jA, jO, jN, seval, y3, vint, TyS, TyF, BdS, Int.cast_ofNat_Int, d0, d1, d2, d3, d4, d5, d6, d7, d8, d9, d10] <;> with_reducible rfl) (by decide) ?_
  repeat (refine awp_seq ?_)
  refine awp_cond_false rfl (by simp only [jN, seval, vint, TyS, TyF, BdS, Int.cast_ofNat_Int, d0, d1, d2, d3, d4, d5, d6, d7, d8, d9, d10] <;> with_reducible rfl) ?_
  repeat (refine awp_seq ?_)
  refine e_eval (by simp only [jA, jO, jN, seval, y3, vint, TyS, TyF, BdS, Int.cast_ofNat_Int, d0, d1, d2, d3, d4, d5, d6, d7, d8, d9, d10] <;> with_reducible rfl) (by decide) ?_
  repeat (refine awp_seq ?_)
  refine awp_cond_false rfl (by simp only [jN, seval, vint, TyS, TyF, BdS, Int.cast_ofNat_Int, d0, d1, d2, d3, d4, d5, d6, d7, d8, d9, d10] <;> with_reducible rfl) ?_
  repeat (refine awp_seq ?_)
  refine e_eval (by simp only [jA, jO, jN, seval, y3, vint, TyS, TyF, BdS, Int.cast_ofNat_Int, d0, d1, d2, d3, d4, d5, d6, d7, d8, d9, d10] <;> with_reducible rfl) (by decide) ?_
  repeat (refine awp_seq ?_)
  refine awp_cond_true rfl (by simp only [jN, seval, vint, TyS, TyF, BdS, Int.cast_ofNat_Int, d0, d1, d2, d3, d4, d5, d6, d7, d8, d9, d10] <;> with_reducible rfl) ?_
  repeat (refine awp_seq ?_)
  refine e_eval (by simp only [jA, jO, jN, seval, vint, TyS, TyF, BdS, Int.cast_ofNat_Int, d0, d1, d2, d3, d4, d5, d6, d7, d8, d9, d10] <;> with_reducible rfl) (by decide) ?_
  repeat (refine awp_seq ?_)
  refine awp_region ?_
  refine aops_gstart ?_
  refine g_take 5 (by simp only [jG, jO, jN, seval, y22, y24, vint, TyS, TyF, BdS, Int.cast_ofNat_Int, d0, d1, d2, d3, d4, d5, d6, d7, d8, d9, d10] <;> with_reducible rfl) (by decide) ?_
  refine aops_gpure (by simp only [jE, jN, seval, vint, TyS, TyF, BdS, Int.cast_ofNat_Int, d0, d1, d2, d3, d4, d5, d6, d7, d8, d9, d10] <;> with_reducible rfl) (by simp only [jE, jN, seval, vint, TyS, TyF, BdS, Int.cast_ofNat_Int, d0, d1, d2, d3, d4, d5, d6, d7, d8, d9, d10] <;> with_reducible rfl) (by simp only [jE, jN, seval, vint, TyS, TyF, BdS, Int.cast_ofNat_Int, d0, d1, d2, d3, d4, d5, d6, d7, d8, d9, d10]) (by decide) Trygo98 (fun hc => inRange _ _ _ _) ?_
  refine g_end (by simp only [jG, jO, jN, seval, y3, y24, vint, TyS, TyF, BdS, Int.cast_ofNat_Int, d0, d1, d2, d3, d4, d5, d6, d7, d8, d9, d10] <;> with_reducible rfl) (by decide) (by repeat (first | exact Fin.base _ | with_reducible apply Fin.keep | apply Fin.drop)) ?_
  repeat (refine awp_seq ?_)
  refine awp_cond rfl (by simp only [jN, seval, vint, TyS, TyF, BdS, Int.cast_ofNat_Int, d0, d1, d2, d3, d4, d5, d6, d7, d8, d9, d10] <;> with_reducible rfl) (fun bt54 => ?_) (fun bt54 => ?_)
  ·
    have hn : nwf t = false := by
      unfold nwf
      simp only [d0, d1, d2, d3, d4, d5, d6, d7, d8, d9, d10, Bool.or_false, Bool.or_true, Bool.false_or, Bool.true_or, if_true, if_false, Bool.false_eq_true]
      rw [Bool.eq_false_iff]
      intro hh
      simp only [Bool.or_eq_true, Bool.and_eq_true, Bool.not_eq_true', Bool.and_eq_false_iff, Bool.or_eq_false_iff, Bool.not_eq_false', decide_eq_true_eq, decide_eq_false_iff_not] at hh bt54
      omega
    have hwf : wfT t = false := by rw [wfT_eq, hn]; rfl
    refine awp_sel [] (by simp only [jN, seval, vint, TyS, TyF, BdS, Int.cast_ofNat_Int, d0, d1, d2, d3, d4, d5, d6, d7, d8, d9, d10] <;> with_reducible rfl) ?_
    repeat (refine awp_seq ?_)
    refine e_eval (by simp only [jA, jO, jN, seval, vint, TyS, TyF, BdS, Int.cast_ofNat_Int, d0, d1, d2, d3, d4, d5, d6, d7, d8, d9, d10] <;> with_reducible rfl) (by decide) ?_
    repeat (refine awp_seq ?_)
    refine awp_ret ⟨.inr rfl, _, rfl, ?_⟩
    rw [hwf]; rfl
  ·
    have hn : nwf t = true := by
      unfold nwf
      simp only [d0, d1, d2, d3, d4, d5, d6, d7, d8, d9, d10, Bool.or_false, Bool.or_true, Bool.false_or, Bool.true_or, if_true, if_false, Bool.false_eq_true]
      simp only [Bool.or_eq_true, Bool.and_eq_true, Bool.not_eq_true', Bool.and_eq_false_iff, Bool.or_eq_false_iff, Bool.not_eq_false', decide_eq_true_eq, decide_eq_false_iff_not] at bt54 ⊢
      omega
    repeat (refine awp_seq ?_)
    refine awp_skip ?_
    refine awp_sel [1] (by simp only [jN, seval, vint, TyS, TyF, BdS, Int.cast_ofNat_Int, d0, d1, d2, d3, d4, d5, d6, d7, d8, d9, d10] <;> with_reducible rfl) ?_
    repeat (refine awp_seq ?_)
    refine e_eval (by simp only [jA, jO, jN, seval, y22, y24, vint, TyS, TyF, BdS, Int.cast_ofNat_Int, d0, d1, d2, d3, d4, d5, d6, d7, d8, d9, d10] <;> with_reducible rfl) (by decide) ?_
    repeat (refine awp_seq ?_)
    refine awp_forS (σ := Unit) (t.args.length) (fun (s : Unit) => [(56, .slice (t.args.map Ty.enc) .none)]) [56] ([]) (fun (s : Unit) => []) (fun (i : Nat) (s : Unit) => (t.args.take i).any (fun u => !wfT u) = false) (()) (_) rfl rfl rfl rfl rfl rfl rfl rfl rfl (by decide) (by decide) (by decide) (fun _ => rfl) (hw.lenMax) ⟨(by first | rfl | (simp only [jN, seval, vint, TyS, TyF, BdS, Int.cast_ofNat_Int, d0, d1, d2, d3, d4, d5, d6, d7, d8, d9, d10] <;> first | done | with_reducible rfl)), (by first | rfl | (simp only [jN, seval, vint, TyS, TyF, BdS, Int.cast_ofNat_Int, d0, d1, d2, d3, d4, d5, d6, d7, d8, d9, d10] <;> first | done | with_reducible rfl)), (by first | rfl | (simp only [jN, seval, vint, TyS, TyF, BdS, Int.cast_ofNat_Int, d0, d1, d2, d3, d4, d5, d6, d7, d8, d9, d10] <;> first | done | with_reducible rfl)), trivial⟩ (by first | rfl | (simp only [jN, seval, vint, TyS, TyF, BdS, Int.cast_ofNat_Int, d0, d1, d2, d3, d4, d5, d6, d7, d8, d9, d10] <;> first | done | with_reducible rfl)) (by simp) (fun _ _ _ => by first | exact Nat.zero_le _ | (simp only [List.length_append]; omega)) ?_ ?_ ?_
    · exact fun i s hg => ⟨by first | exact hbel_nil _ | (simp only [List.append_nil]; assumption) | (refine hbel_app' hb' (by simp) ?_; repeat (first | exact hbel_nil _ | exact trivial | exact obel_row_nil _ | (refine HBel.cons ?_ ?_) | (refine obel_row_cons (by first | exact bel_Bd _ _ | exact Bd.bel _ _ | exact bel_int_tok _ (by simp) | exact bel_ints0 _ _ | exact bel_slice_ty _ _ | exact Ty.bel _ _ | exact bel_ty_tok _ (by simp) | exact Bel.int _ _ | exact Bel.bool _ | exact Bel.str _ | exact Bel.nilp | exact Bel.nilfn | exact Bel.optr _ _ (by simp) | exact bel_nil0 _ | exact bel_nil1 _ | exact bel_fn0 _ _ | assumption) ?_))), by repeat (first | exact BelL.nil | refine BelL.cons (by first | exact bel_Bd _ _ | exact Bd.bel _ _ | exact bel_int_tok _ (by simp) | exact bel_ints0 _ _ | exact bel_slice_ty _ _ | exact Ty.bel _ _ | exact bel_ty_tok _ (by simp) | exact Bel.int _ _ | exact Bel.bool _ | exact Bel.str _ | exact Bel.nilp | exact Bel.nilfn | exact Bel.optr _ _ (by simp) | exact bel_nil0 _ | exact bel_nil1 _ | exact bel_fn0 _ _ | assumption) ?_)⟩
    · intro i s hi hg
      have g1 := ix_nat hi
      have g2 := get_enc Ty.enc hi
      have hmem : t.args[i] ∈ t.args := List.getElem_mem hi
      repeat (refine awp_seq ?_)
      refine e_eval (by simp only [jA, jO, jN, seval, y22, y24, vint, TyS, TyF, BdS, Int.cast_ofNat_Int, d0, d1, d2, d3, d4, d5, d6, d7, d8, d9, d10, g1, g2, Int.toNat_natCast] <;> with_reducible rfl) (by decide) ?_
      repeat (refine awp_seq ?_)
      refine awp_region ?_
      refine e_take 1 (by simp only [jA, jO, jN, seval, y24, vint, TyS, TyF, BdS, Int.cast_ofNat_Int, d0, d1, d2, d3, d4, d5, d6, d7, d8, d9, d10, g1, g2, Int.toNat_natCast] <;> with_reducible rfl) (by decide) ?_
      refine aops_pure (by simp only [jC, jN, seval, vint, TyS, TyF, BdS, Int.cast_ofNat_Int, d0, d1, d2, d3, d4, d5, d6, d7, d8, d9, d10, g1, g2, Int.toNat_natCast] <;> with_reducible rfl) (by simp only [jC, jN, seval, vint, TyS, TyF, BdS, Int.cast_ofNat_Int, d0, d1, d2, d3, d4, d5, d6, d7, d8, d9, d10, g1, g2, Int.toNat_natCast]) (by decide) Trygo93 (ih t.args[i] hmem _) ?_
      refine e_end (by simp only [jA, jO, jN, seval, vint, TyS, TyF, BdS, Int.cast_ofNat_Int, d0, d1, d2, d3, d4, d5, d6, d7, d8, d9, d10, g1, g2, Int.toNat_natCast] <;> with_reducible rfl) (by decide) ?_
      repeat (refine awp_seq ?_)
      refine awp_cond rfl (by simp only [jN, seval, vint, TyS, TyF, BdS, Int.cast_ofNat_Int, d0, d1, d2, d3, d4, d5, d6, d7, d8, d9, d10, g1, g2, Int.toNat_natCast] <;> with_reducible rfl) (fun bt64 => ?_) (fun bt64 => ?_)
      ·
        have hbad : (t.args.any fun u => !wfT u) = true := List.any_eq_true.2 ⟨_, hmem, bt64⟩
        have hwf : wfT t = false := by rw [wfT_eq, hn, hbad]; rfl
        repeat (refine awp_seq ?_)
        refine e_eval (by simp only [jA, jO, jN, seval, vint, TyS, TyF, BdS, Int.cast_ofNat_Int, d0, d1, d2, d3, d4, d5, d6, d7, d8, d9, d10, g1, g2, Int.toNat_natCast] <;> with_reducible rfl) (by decide) ?_
        repeat (refine awp_seq ?_)
        refine awp_ret ⟨.inr rfl, _, rfl, ?_⟩
        rw [hwf]; rfl
      ·
        repeat (refine awp_seq ?_)
        refine awp_skip ?_
        exact ⟨⟨rfl, rfl, trivial⟩, (), _, ⟨rfl, trivial⟩, rfl, any_take_succ hi hg bt64⟩
    · intro s hg
      rw [List.take_length] at hg
      have hwf : wfT t = true := by rw [wfT_eq, hn, hg]; rfl
      repeat (refine awp_seq ?_)
      refine e_eval (by simp only [jA, jO, jN, seval, vint, TyS, TyF, BdS, Int.cast_ofNat_Int, d0, d1, d2, d3, d4, d5, d6, d7, d8, d9, d10] <;> with_reducible rfl) (by decide) ?_
      repeat (refine awp_seq ?_)
      refine awp_ret ⟨.inr rfl, _, rfl, ?_⟩
      rw [hwf]; rfl

theorem typeWF_9 (t : Ty) (hk : t.kind = 9) (hw : t.W) (ih : ∀ u ∈ t.args, PC Try.prog 93 [u.enc] (.bool (wfT u))) : PC Try.prog 93 [t.enc] (.bool (wfT t)) := by
  have hlen0 : (0 : Int) ≤ (t.args.length : Int) := by omega
  have d0 : decide (t.kind = 0) = false := decide_eq_false (by omega)
  have d1 : decide (t.kind = 1) = false := decide_eq_false (by omega)
  have d2 : decide (t.kind = 2) = false := decide_eq_false (by omega)
  have d3 : decide (t.kind = 3) = false := decide_eq_false (by omega)
  have d4 : decide (t.kind = 4) = false := decide_eq_false (by omega)
  have d5 : decide (t.kind = 5) = false := decide_eq_false (by omega)
  have d6 : decide (t.kind = 6) = false := decide_eq_false (by omega)
  have d7 : decide (t.kind = 7) = false := decide_eq_false (by omega)
  have d8 : decide (t.kind = 8) = false := decide_eq_false (by omega)
  have d9 : decide (t.kind = 9) = true := decide_eq_true hk
  have d10 : decide (t.kind = 10) = false := decide_eq_false (by omega)
  refine pc_of (N := 66) Try.func93 rfl rfl (by simp) (by simp [Ty.bel]) (.bool _) ?_
  repeat (refine awp_seq ?_)
  refine e_eval (by simp only [jA, jO, jN, seval, y24, vint, TyS, TyF, BdS, Int.cast_ofNat_Int, d0, d1, d2, d3, d4, d5, d6, d7, d8, d9, d10] <;> with_reducible rfl) (by decide) ?_
  repeat (refine awp_seq ?_)
  refine e_eval (by simp only [jA, jO, jN, seval, vint, TyS, TyF, BdS, Int.cast_ofNat_Int, d0, d1, d2, d3, d4, d5, d6, d7, d8, d9, d10] <;> with_reducible rfl) (by decide) ?_
  repeat (refine awp_seq ?_)
  refine e_eval (by simp only [jA, jO, jN, seval, y3, y24, vint, TyS, TyF, BdS, Int.cast_ofNat_Int, d0, d1, d2, d3, d4, d5, d6, d7, d8, d9, d10] <;> with_reducible rfl) (by decide) ?_
  repeat (refine awp_seq ?_)
  refine awp_block ?_
  repeat (refine awp_seq ?_)
  refine e_eval (by simp only [jA, jO, jN, seval, y3, vint, TyS, TyF, BdS, Int.cast_ofNat_Int, d0, d1, d2, d3, d4, d5, d6, d7, d8, d9, d10] <;> with_reducible rfl) (by decide) ?_
  repeat (refine awp_seq ?_)
  refine awp_cond_false rfl (by simp only [jN, seval, vint, TyS, TyF, BdS, Int.cast_ofNat_Int, d0, d1, d2, d3, d4, d5, d6, d7, d8, d9, d10] <;> with_reducible rfl) ?_
  repeat (refine awp_seq ?_)
  refine e_eval (by simp only [jA, jO, jN, seval, y3, vint, TyS, TyF, BdS, Int.cast_ofNat_Int, d0, d1, d2, d3, d4, d5, d6, d7, d8, d9, d10] <;> with_reducible rfl) (by decide) ?_
  repeat (refine awp_seq ?_)
  refine awp_cond_false rfl (by simp only [jN, seval, vint, TyS, TyF, BdS, Int.cast_ofNat_Int, d0, d1, d2, d3, d4, d5, d6, d7, d8, d9, d10] <;> with_reducible rfl) ?_
  repeat (refine awp_seq ?_)
  refine e_eval (by simp only [jA, jO, jN, seval, y3, vint, TyS, TyF, BdS, Int.cast_ofNat_Int, d0, d1, d2, d3, d4, d5, d6, d7, d8, d9, d10] <;> with_reducible rfl) (by decide) ?_
  repeat (refine awp_seq ?_)
  refine awp_cond_false rfl (by simp only [jN, seval, vint, TyS, TyF, BdS, Int.cast_ofNat_Int, d0, d1, d2, d3, d4, d5, d6, d7, d8, d9, d10] <;> with_reducible rfl) ?_
  repeat (refine awp_seq ?_)
  refine e_eval (by simp only [jA, jO, jN, seval, y3, vint, TyS, TyF, BdS, Int.cast_ofNat_Int, d0, d1, d2, d3, d4, d5, d6, d7, d8, d9, d10] <;> with_reducible rfl) (by decide) ?_
  repeat (refine awp_seq ?_)
  refine awp_cond_false rfl (by simp only [jN, seval, vint, TyS, TyF, BdS, Int.cast_ofNat_Int, d0, d1, d2, d3, d4, d5, d6, d7, d8, d9, d10] <;> with_reducible rfl) ?_
  refine awp_sel [1, 3, 4, 5, 9] (by simp only [jN, seval, vint, TyS, TyF, BdS, Int.cast_ofNat_Int, d0, d1, d2, d3, d4, d5, d6, d7, d8, d9, d10] <;> with_reducible rfl) ?_
  repeat (refine awp_seq ?_)
  refine e_eval (by simp only [jA, jO, jN, seval, y3, vint, TyS, TyF, BdS, Int.cast_ofNat_Int, d0, d1, d2, d3, d4, d5, d6, d7, d8, d9, d10] <;> with_reducible rfl) (by decide) ?_
  repeat (refine awp_seq ?_)
  refine awp_cond_false rfl (by simp only [jN, seval, vint, TyS, TyF, BdS, Int.cast_ofNat_Int, d0, d1, d2, d3, d4, d5, d6, d7, d8, d9, d10] <;> with_reducible rfl) ?_
  repeat (refine awp_seq ?_)
  refine e_eval (by simp only [jA, jO, jN, seval, y3, vint, TyS, TyF, BdS, Int.cast_ofNat_Int, d0, d1, d2, d3, d4, d5, d6, d7, d8, d9, d10] <;> with_reducible rfl) (by decide) ?_
  repeat (refine awp_seq ?_)
  refine awp_cond_false rfl (by simp only [jN, seval, vint, TyS, TyF, BdS, Int.cast_ofNat_Int, d0, d1, d2, d3, d4, d5, d6, d7, d8, d9, d10] <;> with_reducible rfl) ?_
  repeat (refine awp_seq ?_)
  refine e_eval (by simp only [jA, jO, jN, seval, y3, vint, TyS, TyF, BdS, Int.cast_ofNat_Int, d0, d1, d2, d3, d4, d5, d6, d7, d8, d9, d10] <;> with_reducible rfl) (by decide) ?_
  repeat (refine awp_seq ?_)
  refine awp_cond_false rfl (by simp only [jN, seval, vint, TyS, TyF, BdS, Int.cast_ofNat_Int, d0, d1, d2, d3, d4, d5, d6, d7, d8, d9, d10] <;> with_reducible rfl) ?_
  repeat (refine awp_seq ?_)
  refine e_eval (by simp only [jA, jO, jN, seval, y3, vint, TyS, TyF, BdS, Int.cast_ofNat_Int, d0, d1, d2, d3, d4, d5, d6, d7, d8, d9, d10] <;> with_reducible rfl) (by decide) ?_
  repeat (refine awp_seq ?_)
  refine awp_cond_false rfl (by simp only [jN, seval, vint, TyS, TyF, BdS, Int.cast_ofNat_Int, d0, d1, d2, d3, d4, d5, d6, d7, d8, d9, d10] <;> with_reducible rfl) ?_
  repeat (refine awp_seq ?_)
  refine e_eval (by simp only [jA, jO, jN, seval, y3, vint, TyS, TyF, BdS, Int.cast_ofNat_Int, d0, d1, d2, d3, d4, d5, d6, d7, d8, d9, d10] <;> with_reducible rfl) (by decide) ?_
  repeat (refine awp_seq ?_)
  refine awp_cond_false rfl (by simp only [jN, seval, vint, TyS, TyF, BdS, Int.cast_ofNat_Int, d0, d1, d2, d3, d4, d5, d6, d7, d8, d9, d10] <;> with_reducible rfl) ?_
  repeat (refine awp_seq ?_)
  refine e_eval (by simp only [jA, jO, jN, seval, y3, vint, TyS, TyF, BdS, Int.cast_ofNat_Int, d0, d1, d2, d3, d4, d5, d6, d7, d8, d9, d10] <;> with_reducible rfl) (by decide) ?_
  repeat (refine awp_seq ?_)
  refine awp_cond_true rfl (by simp only [jN, seval, vint, TyS, TyF, BdS, Int.cast_ofNat_Int, d0, d1, d2, d3, d4, d5, d6, d7, d8, d9, d10] <;> with_reducible rfl) ?_
  repeat (refine awp_seq ?_)
  refine awp_draw 0 (by kernel_rfl) ?_
  refine d_end (bm := [0, 1, 3, 0, 15]) (fresh := 0) (by kernel_rfl) (by simp only [jD, jO, jN, seval, y22, y24, vint, TyS, TyF, BdS, Int.cast_ofNat_Int, d0, d1, d2, d3, d4, d5, d6, d7, d8, d9, d10] <;> with_reducible rfl) (by decide) ?_
  refine awp_sel [1, 3, 4, 5] (by simp only [jN, seval, vint, TyS, TyF, BdS, Int.cast_ofNat_Int, d0, d1, d2, d3, d4, d5, d6, d7, d8, d9, d10] <;> with_reducible rfl) ?_
  repeat (refine awp_seq ?_)
  refine awp_region ?_
  refine aops_gstart ?_
  refine g_take 5 (by simp only [jG, jO, jN, seval, y22, y24, vint, TyS, TyF, BdS, Int.cast_ofNat_Int, d0, d1, d2, d3, d4, d5, d6, d7, d8, d9, d10] <;> with_reducible rfl) (by decide) ?_
  refine aops_gpure (by simp only [jE, jN, seval, vint, TyS, TyF, BdS, Int.cast_ofNat_Int, d0, d1, d2, d3, d4, d5, d6, d7, d8, d9, d10] <;> with_reducible rfl) (by simp only [jE, jN, seval, vint, TyS, TyF, BdS, Int.cast_ofNat_Int, d0, d1, d2, d3, d4, d5, d6, d7, d8, d9, d10] <;> with_reducible rfl) (by simp only [jE, jN, seval, vint, TyS, TyF, BdS, Int.cast_ofNat_Int, d0, d1, d2, d3, d4, d5, d6, d7, d8, d9, d10]) (by decide) Trygo98 (fun hc => inRange _ _ _ _) ?_
  refine g_end (by simp only [jG, jO, jN, seval, y3, y24, vint, TyS, TyF, BdS, Int.cast_ofNat_Int, d0, d1, d2, d3, d4, d5, d6, d7, d8, d9, d10] <;> with_reducible rfl) (by decide) (by repeat (first | exact Fin.base _ | with_reducible apply Fin.keep | apply Fin.drop)) ?_
  repeat (refine awp_seq ?_)
  refine awp_cond rfl (by simp only [jN, seval, vint, TyS, TyF, BdS, Int.cast_ofNat_Int, d0, d1, d2, d3, d4, d5, d6, d7, d8, d9, d10] <;> with_reducible rfl) (fun bt54 => ?_) (fun bt54 => ?_)
  ·
    have hn : nwf t = false := by
      unfold nwf
      simp only [d0, d1, d2, d3, d4, d5, d6, d7, d8, d9, d10, Bool.or_false, Bool.or_true, Bool.false_or, Bool.true_or, if_true, if_false, Bool.false_eq_true]
      rw [Bool.eq_false_iff]
      intro hh
      simp only [Bool.or_eq_true, Bool.and_eq_true, Bool.not_eq_true', Bool.and_eq_false_iff, Bool.or_eq_false_iff, Bool.not_eq_false', decide_eq_true_eq, decide_eq_false_iff_not] at hh bt54
      omega
    have hwf : wfT t = false := by rw [wfT_eq, hn]; rfl
    refine awp_sel [] (by simp only [jN, seval, vint, TyS, TyF, BdS, Int.cast_ofNat_Int, d0, d1, d2, d3, d4, d5, d6, d7, d8, d9, d10] <;> with_reducible rfl) ?_
    repeat (refine awp_seq ?_)
    refine e_eval (by simp only [jA, jO, jN, seval, vint, TyS, TyF, BdS, Int.cast_ofNat_Int, d0, d1, d2, d3, d4, d5, d6, d7, d8, d9, d10] <;> with_reducible rfl) (by decide) ?_
    repeat (refine awp_seq ?_)
    refine awp_ret ⟨.inr rfl, _, rfl, ?_⟩
    rw [hwf]; rfl
  ·
    have hn : nwf t = true := by
      unfold nwf
      simp only [d0, d1, d2, d3, d4, d5, d6, d7, d8, d9, d10, Bool.or_false, Bool.or_true, Bool.false_or, Bool.true_or, if_true, if_false, Bool.false_eq_true]
      simp only [Bool.or_eq_true, Bool.and_eq_true, Bool.not_eq_true', Bool.and_eq_false_iff, Bool.or_eq_false_iff, Bool.not_eq_false', decide_eq_true_eq, decide_eq_false_iff_not] at bt54 ⊢
      omega
    repeat (refine awp_seq ?_)
    refine awp_skip ?_
    refine awp_sel [1] (by simp only [jN, seval, vint, TyS, TyF, BdS, Int.cast_ofNat_Int, d0, d1, d2, d3, d4, d5, d6, d7, d8, d9, d10] <;> with_reducible rfl) ?_
    repeat (refine awp_seq ?_)
    refine e_eval (by simp only [jA, jO, jN, seval, y22, y24, vint, TyS, TyF, BdS, Int.cast_ofNat_Int, d0, d1, d2, d3, d4, d5, d6, d7, d8, d9, d10] <;> with_reducible rfl) (by decide) ?_
    repeat (refine awp_seq ?_)
    refine awp_forS (σ := Unit) (t.args.length) (fun (s : Unit) => [(56, .slice (t.args.map Ty.enc) .none)]) [56] ([]) (fun (s : Unit) => []) (fun (i : Nat) (s : Unit) => (t.args.take i).any (fun u => !wfT u) = false) (()) (_) rfl rfl rfl rfl rfl rfl rfl rfl rfl (by decide) (by decide) (by decide) (fun _ => rfl) (hw.lenMax) ⟨(by first | rfl | (simp only [jN, seval, vint, TyS, TyF, BdS, Int.cast_ofNat_Int, d0, d1, d2, d3, d4, d5, d6, d7, d8, d9, d10] <;> first | done | with_reducible rfl)), (by first | rfl | (simp only [jN, seval, vint, TyS, TyF, BdS, Int.cast_ofNat_Int, d0, d1, d2, d3, d4, d5, d6, d7, d8, d9, d10] <;> first | done | with_reducible rfl)), (by first | rfl | (simp only [jN, seval, vint, TyS, TyF, BdS, Int.cast_ofNat_Int, d0, d1, d2, d3, d4, d5, d6, d7, d8, d9, d10] <;> first | done | with_reducible rfl)), trivial⟩ (by first | rfl | (simp only [jN, seval, vint, TyS, TyF, BdS, Int.cast_ofNat_Int, d0, d1, d2, d3, d4, d5, d6, d7, d8, d9, d10] <;> first | done | with_reducible rfl)) (by simp) (fun _ _ _ => by first | exact Nat.zero_le _ | (simp only [List.length_append]; omega)) ?_ ?_ ?_
    · exact fun i s hg => ⟨by first | exact hbel_nil _ | (simp only [List.append_nil]; assumption) | (refine hbel_app' hb' (by simp) ?_; repeat (first | exact hbel_nil _ | exact trivial | exact obel_row_nil _ | (refine HBel.cons ?_ ?_) | (refine obel_row_cons (by first | exact bel_Bd _ _ | exact Bd.bel _ _ | exact bel_int_tok _ (by simp) | exact bel_ints0 _ _ | exact bel_slice_ty _ _ | exact Ty.bel _ _ | exact bel_ty_tok _ (by simp) | exact Bel.int _ _ | exact Bel.bool _ | exact Bel.str _ | exact Bel.nilp | exact Bel.nilfn | exact Bel.optr _ _ (by simp) | exact bel_nil0 _ | exact bel_nil1 _ | exact bel_fn0 _ _ | assumption) ?_))), by repeat (first | exact BelL.nil | refine BelL.cons (by first | exact bel_Bd _ _ | exact Bd.bel _ _ | exact bel_int_tok _ (by simp) | exact bel_ints0 _ _ | exact bel_slice_ty _ _ | exact Ty.bel _ _ | exact bel_ty_tok _ (by simp) | exact Bel.int _ _ | exact Bel.bool _ | exact Bel.str _ | exact Bel.nilp | exact Bel.nilfn | exact Bel.optr _ _ (by simp) | exact bel_nil0 _ | exact bel_nil1 _ | exact bel_fn0 _ _ | assumption) ?_)⟩
    · intro i s hi hg
      have g1 := ix_nat hi
      have g2 := get_enc Ty.enc hi
      have hmem : t.args[i] ∈ t.args := List.getElem_mem hi
      repeat (refine awp_seq ?_)
      refine e_eval (by simp only [jA, jO, jN, seval, y22, y24, vint, TyS, TyF, BdS, Int.cast_ofNat_Int, d0, d1, d2, d3, d4, d5, d6, d7, d8, d9, d10, g1, g2, Int.toNat_natCast] <;> with_reducible rfl) (by decide) ?_
      repeat (refine awp_seq ?_)
      refine awp_region ?_
      refine e_take 1 (by simp only [jA, jO, jN, seval, y24, vint, TyS, TyF, BdS, Int.cast_ofNat_Int, d0, d1, d2, d3, d4, d5, d6, d7, d8, d9, d10, g1, g2, Int.toNat_natCast] <;> with_reducible rfl) (by decide) ?_
      refine aops_pure (by simp only [jC, jN, seval, vint, TyS, TyF, BdS, Int.cast_ofNat_Int, d0, d1, d2, d3, d4, d5, d6, d7, d8, d9, d10, g1, g2, Int.toNat_natCast] <;> with_reducible rfl) (by simp only [jC, jN, seval, vint, TyS, TyF, BdS, Int.cast_ofNat_Int, d0, d1, d2, d3, d4, d5, d6, d7, d8, d9, d10, g1, g2, Int.toNat_natCast]) (by decide) Trygo93 (ih t.args[i] hmem _) ?_
      refine e_end (by simp only [jA, jO, jN, seval, vint, TyS, TyF, BdS, Int.cast_ofNat_Int, d0, d1, d2, d3, d4, d5, d6, d7, d8, d9, d10, g1, g2, Int.toNat_natCast] <;> with_reducible rfl) (by decide) ?_
      repeat (refine awp_seq ?_)
      refine awp_cond rfl (by simp only [jN, seval, vint, TyS, TyF, BdS, Int.cast_ofNat_Int, d0, d1, d2, d3, d4, d5, d6, d7, d8, d9, d10, g1, g2, Int.toNat_natCast] <;> with_reducible rfl) (fun bt64 => ?_) (fun bt64 => ?_)
      ·
        have hbad : (t.args.any fun u => !wfT u) = true := List.any_eq_true.2 ⟨_, hmem, bt64⟩
        have hwf : wfT t = false := by rw [wfT_eq, hn, hbad]; rfl
        repeat (refine awp_seq ?_)
        refine e_eval (by simp only [jA, jO, jN, seval, vint, TyS, TyF, BdS, Int.cast_ofNat_Int, d0, d1, d2, d3, d4, d5, d6, d7, d8, d9, d10, g1, g2, Int.toNat_natCast] <;> with_reducible rfl) (by decide) ?_
        repeat (refine awp_seq ?_)
        refine awp_ret ⟨.inr rfl, _, rfl, ?_⟩
        rw [hwf]; rfl
      ·
        repeat (refine awp_seq ?_)
        refine awp_skip ?_
        exact ⟨⟨rfl, rfl, trivial⟩, (), _, ⟨rfl, trivial⟩, rfl, any_take_succ hi hg bt64⟩
    · intro s hg
      rw [List.take_length] at hg
      have hwf : wfT t = true := by rw [wfT_eq, hn, hg]; rfl
      repeat (refine awp_seq ?_)
      refine e_eval (by simp only [jA, jO, jN, seval, vint, TyS, TyF, BdS, Int.cast_ofNat_Int, d0, d1, d2, d3, d4, d5, d6, d7, d8, d9, d10] <;> with_reducible rfl) (by decide) ?_
      repeat (refine awp_seq ?_)
      refine awp_ret ⟨.inr rfl, _, rfl, ?_⟩
      rw [hwf]; rfl

theorem typeWF_10 (t : Ty) (hk : t.kind = 10) (hw : t.W) (ih : ∀ u ∈ t.args, PC Try.prog 93 [u.enc] (.bool (wfT u))) : PC Try.prog 93 [t.enc] (.bool (wfT t)) := by
  have hlen0 : (0 : Int) ≤ (t.args.length : Int) := by omega
  have d0 : decide (t.kind = 0) = false := decide_eq_false (by omega)
  have d1 : decide (t.kind = 1) = false := decide_eq_false (by omega)
  have d2 : decide (t.kind = 2) = false := decide_eq_false (by omega)
  have d3 : decide (t.kind = 3) = false := decide_eq_false (by omega)
  have d4 : decide (t.kind = 4) = false := decide_eq_false (by omega)
  have d5 : decide (t.kind = 5) = false := decide_eq_false (by omega)
  have d6 : decide (t.kind = 6) = false := decide_eq_false (by omega)
  have d7 : decide (t.kind = 7) = false := decide_eq_false (by omega)
  have d8 : decide (t.kind = 8) = false := decide_eq_false (by omega)
  have d9 : decide (t.kind = 9) = false := decide_eq_false (by omega)
  have d10 : decide (t.kind = 10) = true := decide_eq_true hk
  refine pc_of (N := 66) Try.func93 rfl rfl (by simp) (by simp [Ty.bel]) (.bool _) ?_
  repeat (refine awp_seq ?_)
  refine e_eval (by simp only [jA, jO, jN, seval, y24, vint, TyS, TyF, BdS, Int.cast_ofNat_Int, d0, d1, d2, d3, d4, d5, d6, d7, d8, d9, d10] <;> with_reducible rfl) (by decide) ?_
  repeat (refine awp_seq ?_)
  refine e_eval (by simp only [jA, jO, jN, seval, vint, TyS, TyF, BdS, Int.cast_ofNat_Int, d0, d1, d2, d3, d4, d5, d6, d7, d8, d9, d10] <;> with_reducible rfl) (by decide) ?_
  repeat (refine awp_seq ?_)
  refine e_eval (by simp only [jA, jO, jN, seval, y3, y24, vint, TyS, TyF, BdS, Int.cast_ofNat_Int, d0, d1, d2, d3, d4, d5, d6, d7, d8, d9, d10] <;> with_reducible rfl) (by decide) ?_
  repeat (refine awp_seq ?_)
  refine awp_block ?_
  repeat (refine awp_seq ?_)
  refine e_eval (by simp only [jA, jO, jN, seval, y3, vint, TyS, TyF, BdS, Int.cast_ofNat_Int, d0, d1, d2, d3, d4, d5, d6, d7, d8, d9, d10] <;> with_reducible rfl) (by decide) ?_
  repeat (refine awp_seq ?_)
  refine awp_cond_false rfl (by simp only [jN, seval, vint, TyS, TyF, BdS, Int.cast_ofNat_Int, d0, d1, d2, d3, d4, d5, d6, d7, d8, d9, d10] <;> with_reducible rfl) ?_
  repeat (refine awp_seq ?_)
  refine e_eval (by simp only [jA, jO, jN, seval, y3, vint, TyS, TyF, BdS, Int.cast_ofNat_Int, d0, d1, d2, d3, d4, d5, d6, d7, d8, d9, d10] <;> with_reducible rfl) (by decide) ?_
  repeat (refine awp_seq ?_)
  refine awp_cond_false rfl (by simp only [jN, seval, vint, TyS, TyF, BdS, Int.cast_ofNat_Int, d0, d1, d2, d3, d4, d5, d6, d7, d8, d9, d10] <;> with_reducible rfl) ?_
  repeat (refine awp_seq ?_)
  refine e_eval (by simp only [jA, jO, jN, seval, y3, vint, TyS, TyF, BdS, Int.cast_ofNat_Int, d0, d1, d2, d3, d4, d5, d6, d7, d8, d9, d10] <;> with_reducible rfl) (by decide) ?_
  repeat (refine awp_seq ?_)
  refine awp_cond_false rfl (by simp only [jN, seval, vint, TyS, TyF, BdS, Int.cast_ofNat_Int, d0, d1, d2, d3, d4, d5, d6, d7, d8, d9, d10] <;> with_reducible rfl) ?_
  repeat (refine awp_seq ?_)
  refine e_eval (by simp only [jA, jO, jN, seval, y3, vint, TyS, TyF, BdS, Int.cast_ofNat_Int, d0, d1, d2, d3, d4, d5, d6, d7, d8, d9, d10] <;> with_reducible rfl) (by decide) ?_
  repeat (refine awp_seq ?_)
  refine awp_cond_false rfl (by simp only [jN, seval, vint, TyS, TyF, BdS, Int.cast_ofNat_Int, d0, d1, d2, d3, d4, d5, d6, d7, d8, d9, d10] <;> with_reducible rfl) ?_
  refine awp_sel [1, 3, 4, 5, 9] (by simp only [jN, seval, vint, TyS, TyF, BdS, Int.cast_ofNat_Int, d0, d1, d2, d3, d4, d5, d6, d7, d8, d9, d10] <;> with_reducible rfl) ?_
  repeat (refine awp_seq ?_)
  refine e_eval (by simp only [jA, jO, jN, seval, y3, vint, TyS, TyF, BdS, Int.cast_ofNat_Int, d0, d1, d2, d3, d4, d5, d6, d7, d8, d9, d10] <;> with_reducible rfl) (by decide) ?_
  repeat (refine awp_seq ?_)
  refine awp_cond_false rfl (by simp only [jN, seval, vint, TyS, TyF, BdS, Int.cast_ofNat_Int, d0, d1, d2, d3, d4, d5, d6, d7, d8, d9, d10] <;> with_reducible rfl) ?_
  repeat (refine awp_seq ?_)
  refine e_eval (by simp only [jA, jO, jN, seval, y3, vint, TyS, TyF, BdS, Int.cast_ofNat_Int, d0, d1, d2, d3, d4, d5, d6, d7, d8, d9, d10] <;> with_reducible rfl) (by decide) ?_
  repeat (refine awp_seq ?_)
  refine awp_cond_false rfl (by simp only [jN, seval, vint, TyS, TyF, BdS, Int.cast_ofNat_Int, d0, d1, d2, d3, d4, d5, d6, d7, d8, d9, d10] <;> with_reducible rfl) ?_
  repeat (refine awp_seq ?_)
  refine e_eval (by simp only [jA, jO, jN, seval, y3, vint, TyS, TyF, BdS, Int.cast_ofNat_Int, d0, d1, d2, d3, d4, d5, d6, d7, d8, d9, d10] <;> with_reducible rfl) (by decide) ?_
  repeat (refine awp_seq ?_)
  refine awp_cond_false rfl (by simp only [jN, seval, vint, TyS, TyF, BdS, Int.cast_ofNat_Int, d0, d1, d2, d3, d4, d5, d6, d7, d8, d9, d10] <;> with_reducible rfl) ?_
  repeat (refine awp_seq ?_)
  refine e_eval (by simp only [jA, jO, jN, seval, y3, vint, TyS, TyF, BdS, Int.cast_ofNat_Int, d0, d1, d2, d3, d4, d5, d6, d7, d8, d9, d10] <;> with_reducible rfl) (by decide) ?_
  repeat (refine awp_seq ?_)
  refine awp_cond_false rfl (by simp only [jN, seval, vint, TyS, TyF, BdS, Int.cast_ofNat_Int, d0, d1, d2, d3, d4, d5, d6, d7, d8, d9, d10] <;> with_reducible rfl) ?_
  repeat (refine awp_seq ?_)
  refine e_eval (by simp only [jA, jO, jN, seval, y3, vint, TyS, TyF, BdS, Int.cast_ofNat_Int, d0, d1, d2, d3, d4, d5, d6, d7, d8, d9, d10] <;> with_reducible rfl) (by decide) ?_
  repeat (refine awp_seq ?_)
  refine awp_cond_false rfl (by simp only [jN, seval, vint, TyS, TyF, BdS, Int.cast_ofNat_Int, d0, d1, d2, d3, d4, d5, d6, d7, d8, d9, d10] <;> with_reducible rfl) ?_
  repeat (refine awp_seq ?_)
  refine e_eval (by simp only [jA, jO, jN, seval, y3, vint, TyS, TyF, BdS, Int.cast_ofNat_Int, d0, d1, d2, d3, d4, d5, d6, d7, d8, d9, d10] <;> with_reducible rfl) (by decide) ?_
  repeat (refine awp_seq ?_)
  refine awp_cond_false rfl (by simp only [jN, seval, vint, TyS, TyF, BdS, Int.cast_ofNat_Int, d0, d1, d2, d3, d4, d5, d6, d7, d8, d9, d10] <;> with_reducible rfl) ?_
  repeat (refine awp_seq ?_)
  refine e_eval (by simp only [jA, jO, jN, seval, y3, vint, TyS, TyF, BdS, Int.cast_ofNat_Int, d0, d1, d2, d3, d4, d5, d6, d7, d8, d9, d10] <;> with_reducible rfl) (by decide) ?_
  repeat (refine awp_seq ?_)
  refine awp_cond_true rfl (by simp only [jN, seval, vint, TyS, TyF, BdS, Int.cast_ofNat_Int, d0, d1, d2, d3, d4, d5, d6, d7, d8, d9, d10] <;> with_reducible rfl) ?_
  repeat (refine awp_seq ?_)
  refine e_eval (by simp only [jA, jO, jN, seval, vint, TyS, TyF, BdS, Int.cast_ofNat_Int, d0, d1, d2, d3, d4, d5, d6, d7, d8, d9, d10] <;> with_reducible rfl) (by decide) ?_
  refine awp_sel [1, 3, 4, 5] (by simp only [jN, seval, vint, TyS, TyF, BdS, Int.cast_ofNat_Int, d0, d1, d2, d3, d4, d5, d6, d7, d8, d9, d10] <;> with_reducible rfl) ?_
  repeat (refine awp_seq ?_)
  refine awp_region ?_
  refine aops_gstart ?_
  refine g_take 5 (by simp only [jG, jO, jN, seval, y22, y24, vint, TyS, TyF, BdS, Int.cast_ofNat_Int, d0, d1, d2, d3, d4, d5, d6, d7, d8, d9, d10] <;> with_reducible rfl) (by decide) ?_
  refine aops_gpure (by simp only [jE, jN, seval, vint, TyS, TyF, BdS, Int.cast_ofNat_Int, d0, d1, d2, d3, d4, d5, d6, d7, d8, d9, d10] <;> with_reducible rfl) (by simp only [jE, jN, seval, vint, TyS, TyF, BdS, Int.cast_ofNat_Int, d0, d1, d2, d3, d4, d5, d6, d7, d8, d9, d10] <;> with_reducible rfl) (by simp only [jE, jN, seval, vint, TyS, TyF, BdS, Int.cast_ofNat_Int, d0, d1, d2, d3, d4, d5, d6, d7, d8, d9, d10]) (by decide) Trygo98 (fun hc => inRange _ _ _ _) ?_
  refine g_end (by simp only [jG, jO, jN, seval, y3, y24, vint, TyS, TyF, BdS, Int.cast_ofNat_Int, d0, d1, d2, d3, d4, d5, d6, d7, d8, d9, d10] <;> with_reducible rfl) (by decide) (by repeat (first | exact Fin.base _ | with_reducible apply Fin.keep | apply Fin.drop)) ?_
  repeat (refine awp_seq ?_)
  refine awp_cond rfl (by simp only [jN, seval, vint, TyS, TyF, BdS, Int.cast_ofNat_Int, d0, d1, d2, d3, d4, d5, d6, d7, d8, d9, d10] <;> with_reducible rfl) (fun bt54 => ?_) (fun bt54 => ?_)
  ·
    have hn : nwf t = false := by
      unfold nwf
      simp only [d0, d1, d2, d3, d4, d5, d6, d7, d8, d9, d10, Bool.or_false, Bool.or_true, Bool.false_or, Bool.true_or, if_true, if_false, Bool.false_eq_true]
      rw [Bool.eq_false_iff]
      intro hh
      simp only [Bool.or_eq_true, Bool.and_eq_true, Bool.not_eq_true', Bool.and_eq_false_iff, Bool.or_eq_false_iff, Bool.not_eq_false', decide_eq_true_eq, decide_eq_false_iff_not] at hh bt54
      omega
    have hwf : wfT t = false := by rw [wfT_eq, hn]; rfl
    refine awp_sel [] (by simp only [jN, seval, vint, TyS, TyF, BdS, Int.cast_ofNat_Int, d0, d1, d2, d3, d4, d5, d6, d7, d8, d9, d10] <;> with_reducible rfl) ?_
    repeat (refine awp_seq ?_)
    refine e_eval (by simp only [jA, jO, jN, seval, vint, TyS, TyF, BdS, Int.cast_ofNat_Int, d0, d1, d2, d3, d4, d5, d6, d7, d8, d9, d10] <;> with_reducible rfl) (by decide) ?_
    repeat (refine awp_seq ?_)
    refine awp_ret ⟨.inr rfl, _, rfl, ?_⟩
    rw [hwf]; rfl
  ·
    have hn : nwf t = true := by
      unfold nwf
      simp only [d0, d1, d2, d3, d4, d5, d6, d7, d8, d9, d10, Bool.or_false, Bool.or_true, Bool.false_or, Bool.true_or, if_true, if_false, Bool.false_eq_true]
      simp only [Bool.or_eq_true, Bool.and_eq_true, Bool.not_eq_true', Bool.and_eq_false_iff, Bool.or_eq_false_iff, Bool.not_eq_false', decide_eq_true_eq, decide_eq_false_iff_not] at bt54 ⊢
      omega
    repeat (refine awp_seq ?_)
    refine awp_skip ?_
    refine awp_sel [1] (by simp only [jN, seval, vint, TyS, TyF, BdS, Int.cast_ofNat_Int, d0, d1, d2, d3, d4, d5, d6, d7, d8, d9, d10] <;> with_reducible rfl) ?_
    repeat (refine awp_seq ?_)
    refine e_eval (by simp only [jA, jO, jN, seval, y22, y24, vint, TyS, TyF, BdS, Int.cast_ofNat_Int, d0, d1, d2, d3, d4, d5, d6, d7, d8, d9, d10] <;> with_reducible rfl) (by decide) ?_
    repeat (refine awp_seq ?_)
    refine awp_forS (σ := Unit) (t.args.length) (fun (s : Unit) => [(56, .slice (t.args.map Ty.enc) .none)]) [56] ([]) (fun (s : Unit) => []) (fun (i : Nat) (s : Unit) => (t.args.take i).any (fun u => !wfT u) = false) (()) (_) rfl rfl rfl rfl rfl rfl rfl rfl rfl (by decide) (by decide) (by decide) (fun _ => rfl) (hw.lenMax) ⟨(by first | rfl | (simp only [jN, seval, vint, TyS, TyF, BdS, Int.cast_ofNat_Int, d0, d1, d2, d3, d4, d5, d6, d7, d8, d9, d10] <;> first | done | with_reducible rfl)), (by first | rfl | (simp only [jN, seval, vint, TyS, TyF, BdS, Int.cast_ofNat_Int, d0, d1, d2, d3, d4, d5, d6, d7, d8, d9, d10] <;> first | done | with_reducible rfl)), (by first | rfl | (simp only [jN, seval, vint, TyS, TyF, BdS, Int.cast_ofNat_Int, d0, d1, d2, d3, d4, d5, d6, d7, d8, d9, d10] <;> first | done | with_reducible rfl)), trivial⟩ (by first | rfl | (simp only [jN, seval, vint, TyS, TyF, BdS, Int.cast_ofNat_Int, d0, d1, d2, d3, d4, d5, d6, d7, d8, d9, d10] <;> first | done | with_reducible rfl)) (by simp) (fun _ _ _ => by first | exact Nat.zero_le _ | (simp only [List.length_append]; omega)) ?_ ?_ ?_
    · exact fun i s hg => ⟨by first | exact hbel_nil _ | (simp only [List.append_nil]; assumption) | (refine hbel_app' hb' (by simp) ?_; repeat (first | exact hbel_nil _ | exact trivial | exact obel_row_nil _ | (refine HBel.cons ?_ ?_) | (refine obel_row_cons (by first | exact bel_Bd _ _ | exact Bd.bel _ _ | exact bel_int_tok _ (by simp) | exact bel_ints0 _ _ | exact bel_slice_ty _ _ | exact Ty.bel _ _ | exact bel_ty_tok _ (by simp) | exact Bel.int _ _ | exact Bel.bool _ | exact Bel.str _ | exact Bel.nilp | exact Bel.nilfn | exact Bel.optr _ _ (by simp) | exact bel_nil0 _ | exact bel_nil1 _ | exact bel_fn0 _ _ | assumption) ?_))), by repeat (first | exact BelL.nil | refine BelL.cons (by first | exact bel_Bd _ _ | exact Bd.bel _ _ | exact bel_int_tok _ (by simp) | exact bel_ints0 _ _ | exact bel_slice_ty _ _ | exact Ty.bel _ _ | exact bel_ty_tok _ (by simp) | exact Bel.int _ _ | exact Bel.bool _ | exact Bel.str _ | exact Bel.nilp | exact Bel.nilfn | exact Bel.optr _ _ (by simp) | exact bel_nil0 _ | exact bel_nil1 _ | exact bel_fn0 _ _ | assumption) ?_)⟩
    · intro i s hi hg
      have g1 := ix_nat hi
      have g2 := get_enc Ty.enc hi
      have hmem : t.args[i] ∈ t.args := List.getElem_mem hi
      repeat (refine awp_seq ?_)
      refine e_eval (by simp only [jA, jO, jN, seval, y22, y24, vint, TyS, TyF, BdS, Int.cast_ofNat_Int, d0, d1, d2, d3, d4, d5, d6, d7, d8, d9, d10, g1, g2, Int.toNat_natCast] <;> with_reducible rfl) (by decide) ?_
      repeat (refine awp_seq ?_)
      refine awp_region ?_
      refine e_take 1 (by simp only [jA, jO, jN, seval, y24, vint, TyS, TyF, BdS, Int.cast_ofNat_Int, d0, d1, d2, d3, d4, d5, d6, d7, d8, d9, d10, g1, g2, Int.toNat_natCast] <;> with_reducible rfl) (by decide) ?_
      refine aops_pure (by simp only [jC, jN, seval, vint, TyS, TyF, BdS, Int.cast_ofNat_Int, d0, d1, d2, d3, d4, d5, d6, d7, d8, d9, d10, g1, g2, Int.toNat_natCast] <;> with_reducible rfl) (by simp only [jC, jN, seval, vint, TyS, TyF, BdS, Int.cast_ofNat_Int, d0, d1, d2, d3, d4, d5, d6, d7, d8, d9, d10, g1, g2, Int.toNat_natCast]) (by decide) Trygo93 (ih t.args[i] hmem _) ?_
      refine e_end (by simp only [jA, jO, jN, seval, vint, TyS, TyF, BdS, Int.cast_ofNat_Int, d0, d1, d2, d3, d4, d5, d6, d7, d8, d9, d10, g1, g2, Int.toNat_natCast] <;> with_reducible rfl) (by decide) ?_
      repeat (refine awp_seq ?_)
      refine awp_cond rfl (by simp only [jN, seval, vint, TyS, TyF, BdS, Int.cast_ofNat_Int, d0, d1, d2, d3, d4, d5, d6, d7, d8, d9, d10, g1, g2, Int.toNat_natCast] <;> with_reducible rfl) (fun bt64 => ?_) (fun bt64 => ?_)
      ·
        have hbad : (t.args.any fun u => !wfT u) = true := List.any_eq_true.2 ⟨_, hmem, bt64⟩
        have hwf : wfT t = false := by rw [wfT_eq, hn, hbad]; rfl
        repeat (refine awp_seq ?_)
        refine e_eval (by simp only [jA, jO, jN, seval, vint, TyS, TyF, BdS, Int.cast_ofNat_Int, d0, d1, d2, d3, d4, d5, d6, d7, d8, d9, d10, g1, g2, Int.toNat_natCast] <;> with_reducible rfl) (by decide) ?_
        repeat (refine awp_seq ?_)
        refine awp_ret ⟨.inr rfl, _, rfl, ?_⟩
        rw [hwf]; rfl
      ·
        repeat (refine awp_seq ?_)
        refine awp_skip ?_
        exact ⟨⟨rfl, rfl, trivial⟩, (), _, ⟨rfl, trivial⟩, rfl, any_take_succ hi hg bt64⟩
    · intro s hg
      rw [List.take_length] at hg
      have hwf : wfT t = true := by rw [wfT_eq, hn, hg]; rfl
      repeat (refine awp_seq ?_)
      refine e_eval (by simp only [jA, jO, jN, seval, vint, TyS, TyF, BdS, Int.cast_ofNat_Int, d0, d1, d2, d3, d4, d5, d6, d7, d8, d9, d10] <;> with_reducible rfl) (by decide) ?_
      repeat (refine awp_seq ?_)
      refine awp_ret ⟨.inr rfl, _, rfl, ?_⟩
      rw [hwf]; rfl

theorem typeWF_O (t : Ty) (hk : t.kind ≠ 0 ∧ t.kind ≠ 1 ∧ t.kind ≠ 2 ∧ t.kind ≠ 3 ∧ t.kind ≠ 4 ∧ t.kind ≠ 5 ∧ t.kind ≠ 6 ∧ t.kind ≠ 7 ∧ t.kind ≠ 8 ∧ t.kind ≠ 9 ∧ t.kind ≠ 10) (hw : t.W) (ih : ∀ u ∈ t.args, PC Try.prog 93 [u.enc] (.bool (wfT u))) : PC Try.prog 93 [t.enc] (.bool (wfT t)) := by
  have hlen0 : (0 : Int) ≤ (t.args.length : Int) := by omega
  have d0 : decide (t.kind = 0) = false := decide_eq_false (by omega)
  have d1 : decide (t.kind = 1) = false := decide_eq_false (by omega)
  have d2 : decide (t.kind = 2) = false := decide_eq_false (by omega)
  have d3 : decide (t.kind = 3) = false := decide_eq_false (by omega)
  have d4 : decide (t.kind = 4) = false := decide_eq_false (by omega)
  have d5 : decide (t.kind = 5) = false := decide_eq_false (by omega)
  have d6 : decide (t.kind = 6) = false := decide_eq_false (by omega)
  have d7 : decide (t.kind = 7) = false := decide_eq_false (by omega)
  have d8 : decide (t.kind = 8) = false := decide_eq_false (by omega)
  have d9 : decide (t.kind = 9) = false := decide_eq_false (by omega)
  have d10 : decide (t.kind = 10) = false := decide_eq_false (by omega)
  refine pc_of (N := 66) Try.func93 rfl rfl (by simp) (by simp [Ty.bel]) (.bool _) ?_
  repeat (refine awp_seq ?_)
  refine e_eval (by simp only [jA, jO, jN, seval, y24, vint, TyS, TyF, BdS, Int.cast_ofNat_Int, d0, d1, d2, d3, d4, d5, d6, d7, d8, d9, d10] <;> with_reducible rfl) (by decide) ?_
  repeat (refine awp_seq ?_)
  refine e_eval (by simp only [jA, jO, jN, seval, vint, TyS, TyF, BdS, Int.cast_ofNat_Int, d0, d1, d2, d3, d4, d5, d6, d7, d8, d9, d10] <;> with_reducible rfl) (by decide) ?_
  repeat (refine awp_seq ?_)
  refine e_eval (by simp only [jA, jO, jN, seval, y3, y24, vint, TyS, TyF, BdS, Int.cast_ofNat_Int, d0, d1, d2, d3, d4, d5, d6, d7, d8, d9, d10] <;> with_reducible rfl) (by decide) ?_
  repeat (refine awp_seq ?_)
  refine awp_block ?_
  repeat (refine awp_seq ?_)
  refine e_eval (by simp only [jA, jO, jN, seval, y3, vint, TyS, TyF, BdS, Int.cast_ofNat_Int, d0, d1, d2, d3, d4, d5, d6, d7, d8, d9, d10] <;> with_reducible rfl) (by decide) ?_
  repeat (refine awp_seq ?_)
  refine awp_cond_false rfl (by simp only [jN, seval, vint, TyS, TyF, BdS, Int.cast_ofNat_Int, d0, d1, d2, d3, d4, d5, d6, d7, d8, d9, d10] <;> with_reducible rfl) ?_
  repeat (refine awp_seq ?_)
  refine e_eval (by simp only [jA, jO, jN, seval, y3, vint, TyS, TyF, BdS, Int.cast_ofNat_Int, d0, d1, d2, d3, d4, d5, d6, d7, d8, d9, d10] <;> with_reducible rfl) (by decide) ?_
  repeat (refine awp_seq ?_)
  refine awp_cond_false rfl (by simp only [jN, seval, vint, TyS, TyF, BdS, Int.cast_ofNat_Int, d0, d1, d2, d3, d4, d5, d6, d7, d8, d9, d10] <;> with_reducible rfl) ?_
  repeat (refine awp_seq ?_)
  refine e_eval (by simp only [jA, jO, jN, seval, y3, vint, TyS, TyF, BdS, Int.cast_ofNat_Int, d0, d1, d2, d3, d4, d5, d6, d7, d8, d9, d10] <;> with_reducible rfl) (by decide) ?_
  repeat (refine awp_seq ?_)
  refine awp_cond_false rfl (by simp only [jN, seval, vint, TyS, TyF, BdS, Int.cast_ofNat_Int, d0, d1, d2, d3, d4, d5, d6, d7, d8, d9, d10] <;> with_reducible rfl) ?_
  repeat (refine awp_seq ?_)
  refine e_eval (by simp only [jA, jO, jN, seval, y3, vint, TyS, TyF, BdS, Int.cast_ofNat_Int, d0, d1, d2, d3, d4, d5, d6, d7, d8, d9, d10] <;> with_reducible rfl) (by decide) ?_
  repeat (refine awp_seq ?_)
  refine awp_cond_false rfl (by simp only [jN, seval, vint, TyS, TyF, BdS, Int.cast_ofNat_Int, d0, d1, d2, d3, d4, d5, d6, d7, d8, d9, d10] <;> with_reducible rfl) ?_
  refine awp_sel [1, 3, 4, 5, 9] (by simp only [jN, seval, vint, TyS, TyF, BdS, Int.cast_ofNat_Int, d0, d1, d2, d3, d4, d5, d6, d7, d8, d9, d10] <;> with_reducible rfl) ?_
  repeat (refine awp_seq ?_)
  refine e_eval (by simp only [jA, jO, jN, seval, y3, vint, TyS, TyF, BdS, Int.cast_ofNat_Int, d0, d1, d2, d3, d4, d5, d6, d7, d8, d9, d10] <;> with_reducible rfl) (by decide) ?_
  repeat (refine awp_seq ?_)
  refine awp_cond_false rfl (by simp only [jN, seval, vint, TyS, TyF, BdS, Int.cast_ofNat_Int, d0, d1, d2, d3, d4, d5, d6, d7, d8, d9, d10] <;> with_reducible rfl) ?_
  repeat (refine awp_seq ?_)
  refine e_eval (by simp only [jA, jO, jN, seval, y3, vint, TyS, TyF, BdS, Int.cast_ofNat_Int, d0, d1, d2, d3, d4, d5, d6, d7, d8, d9, d10] <;> with_reducible rfl) (by decide) ?_
  repeat (refine awp_seq ?_)
  refine awp_cond_false rfl (by simp only [jN, seval, vint, TyS, TyF, BdS, Int.cast_ofNat_Int, d0, d1, d2, d3, d4, d5, d6, d7, d8, d9, d10] <;> with_reducible rfl) ?_
  repeat (refine awp_seq ?_)
  refine e_eval (by simp only [jA, jO, jN, seval, y3, vint, TyS, TyF, BdS, Int.cast_ofNat_Int, d0, d1, d2, d3, d4, d5, d6, d7, d8, d9, d10] <;> with_reducible rfl) (by decide) ?_
  repeat (refine awp_seq ?_)
  refine awp_cond_false rfl (by simp only [jN, seval, vint, TyS, TyF, BdS, Int.cast_ofNat_Int, d0, d1, d2, d3, d4, d5, d6, d7, d8, d9, d10] <;> with_reducible rfl) ?_
  repeat (refine awp_seq ?_)
  refine e_eval (by simp only [jA, jO, jN, seval, y3, vint, TyS, TyF, BdS, Int.cast_ofNat_Int, d0, d1, d2, d3, d4, d5, d6, d7, d8, d9, d10] <;> with_reducible rfl) (by decide) ?_
  repeat (refine awp_seq ?_)
  refine awp_cond_false rfl (by simp only [jN, seval, vint, TyS, TyF, BdS, Int.cast_ofNat_Int, d0, d1, d2, d3, d4, d5, d6, d7, d8, d9, d10] <;> with_reducible rfl) ?_
  repeat (refine awp_seq ?_)
  refine e_eval (by simp only [jA, jO, jN, seval, y3, vint, TyS, TyF, BdS, Int.cast_ofNat_Int, d0, d1, d2, d3, d4, d5, d6, d7, d8, d9, d10] <;> with_reducible rfl) (by decide) ?_
  repeat (refine awp_seq ?_)
  refine awp_cond_false rfl (by simp only [jN, seval, vint, TyS, TyF, BdS, Int.cast_ofNat_Int, d0, d1, d2, d3, d4, d5, d6, d7, d8, d9, d10] <;> with_reducible rfl) ?_
  repeat (refine awp_seq ?_)
  refine e_eval (by simp only [jA, jO, jN, seval, y3, vint, TyS, TyF, BdS, Int.cast_ofNat_Int, d0, d1, d2, d3, d4, d5, d6, d7, d8, d9, d10] <;> with_reducible rfl) (by decide) ?_
  repeat (refine awp_seq ?_)
  refine awp_cond_false rfl (by simp only [jN, seval, vint, TyS, TyF, BdS, Int.cast_ofNat_Int, d0, d1, d2, d3, d4, d5, d6, d7, d8, d9, d10] <;> with_reducible rfl) ?_
  repeat (refine awp_seq ?_)
  refine e_eval (by simp only [jA, jO, jN, seval, y3, vint, TyS, TyF, BdS, Int.cast_ofNat_Int, d0, d1, d2, d3, d4, d5, d6, d7, d8, d9, d10] <;> with_reducible rfl) (by decide) ?_
  repeat (refine awp_seq ?_)
  refine awp_cond_false rfl (by simp only [jN, seval, vint, TyS, TyF, BdS, Int.cast_ofNat_Int, d0, d1, d2, d3, d4, d5, d6, d7, d8, d9, d10] <;> with_reducible rfl) ?_
  repeat (refine awp_seq ?_)
  refine e_eval (by simp only [jA, jO, jN, seval, vint, TyS, TyF, BdS, Int.cast_ofNat_Int, d0, d1, d2, d3, d4, d5, d6, d7, d8, d9, d10] <;> with_reducible rfl) (by decide) ?_
  repeat (refine awp_seq ?_)
  refine awp_ret ⟨.inr rfl, _, rfl, ?_⟩
  have hn : nwf t = false := by
    unfold nwf
    simp only [d0, d1, d2, d3, d4, d5, d6, d7, d8, d9, d10, Bool.or_false, Bool.or_true, Bool.false_or, Bool.true_or, if_true, if_false, Bool.false_eq_true]
  rw [wfT_eq, hn]; rfl

theorem typeWF_k : ∀ (k : Nat) (t : Ty), t.size ≤ k → t.W → PC Try.prog 93 [t.enc] (.bool (wfT t))
  | 0, t, h, _ => by cases t; simp [Ty.size] at h
  | k + 1, t, h, hw => by
    have ih : ∀ u ∈ t.args, PC Try.prog 93 [u.enc] (.bool (wfT u)) := fun u hu => typeWF_k k u (by have := Ty.size_arg hu; omega) (hw.arg hu)
    by_cases h0 : t.kind = 0
    · exact typeWF_0 t h0 hw ih
    by_cases h1 : t.kind = 1
    · exact typeWF_1 t h1 hw ih
    by_cases h2 : t.kind = 2
    · exact typeWF_2 t h2 hw ih
    by_cases h3 : t.kind = 3
    · exact typeWF_3 t h3 hw ih
    by_cases h4 : t.kind = 4
    · exact typeWF_4 t h4 hw ih
    by_cases h5 : t.kind = 5
    · exact typeWF_5 t h5 hw ih
    by_cases h6 : t.kind = 6
    · exact typeWF_6 t h6 hw ih
    by_cases h7 : t.kind = 7
    · exact typeWF_7 t h7 hw ih
    by_cases h8 : t.kind = 8
    · exact typeWF_8 t h8 hw ih
    by_cases h9 : t.kind = 9
    · exact typeWF_9 t h9 hw ih
    by_cases h10 : t.kind = 10
    · exact typeWF_10 t h10 hw ih
    exact typeWF_O t ⟨h0, h1, h2, h3, h4, h5, h6, h7, h8, h9, h10⟩ hw ih

theorem typeWF (t : Ty) (hw : t.W) : PC Try.prog 93 [t.enc] (.bool (wfT t)) := typeWF_k t.size t (Nat.le_refl _) hw

end Go.Abs
set_option maxRecDepth 4000
namespace Go.Abs
open Go.Proofs

theorem typeError (t : Ty) (hw : t.W) (hb : (t.size : Int) ≤ 4294967296) : PC Try.prog 37 [t.enc] (vint (valT t)) := by
  refine pc_of (N := 19) Try.func37 rfl rfl (by simp) (by simp [Ty.bel]) (.int _ _) ?_
  repeat (refine awp_seq ?_)
  refine e_eval (by simp only [jA, jO, jN, seval, y24, vint, TyS, TyF, BdS] <;> with_reducible rfl) (by decide) ?_
  repeat (refine awp_seq ?_)
  refine awp_region ?_
  refine e_take 1 (by simp only [jA, jO, jN, seval, y24, vint, TyS, TyF, BdS] <;> with_reducible rfl) (by decide) ?_
  refine aops_pure (by simp only [jC, jN, seval, vint, TyS, TyF, BdS] <;> with_reducible rfl) (by simp only [jC, jN, seval, vint, TyS, TyF, BdS]) (by decide) Trygo36 (typeSize_k t.size t (Nat.le_refl _) hw hb _) ?_
  refine e_end (by simp only [jA, jO, jN, seval, vint, TyS, TyF, BdS] <;> with_reducible rfl) (by decide) ?_
  repeat (refine awp_seq ?_)
  refine g_eval (by simp only [jG, jO, jN, seval, y3, vint, TyS, TyF, BdS] <;> with_reducible rfl) (by decide) (by repeat (first | exact Fin.base _ | with_reducible apply Fin.keep | apply Fin.drop)) ?_
  repeat (refine awp_seq ?_)
  refine awp_cond rfl (by simp only [jN, seval, vint, TyS, TyF, BdS] <;> with_reducible rfl) (fun b0 => ?_) (fun b0 => ?_)
  ·
    refine awp_sel [] (by simp only [jN, seval, vint, TyS, TyF, BdS] <;> with_reducible rfl) ?_
    repeat (refine awp_seq ?_)
    refine e_eval (by simp only [jA, jO, jN, seval, vint, TyS, TyF, BdS] <;> with_reducible rfl) (by decide) ?_
    repeat (refine awp_seq ?_)
    refine awp_ret ⟨.inr rfl, _, rfl, ?_⟩
    simp only [jN, seval, vint, TyS, TyF, BdS]
    rw [← val_eq]
    simp_all
  ·
    repeat (refine awp_seq ?_)
    refine awp_skip ?_
    refine awp_sel [1] (by simp only [jN, seval, vint, TyS, TyF, BdS] <;> with_reducible rfl) ?_
    repeat (refine awp_seq ?_)
    refine awp_region ?_
    refine e_take 1 (by simp only [jA, jO, jN, seval, y24, vint, TyS, TyF, BdS] <;> with_reducible rfl) (by decide) ?_
    refine aops_pure (by simp only [jC, jN, seval, vint, TyS, TyF, BdS] <;> with_reducible rfl) (by simp only [jC, jN, seval, vint, TyS, TyF, BdS]) (by decide) Trygo93 (typeWF t hw _) ?_
    refine e_end (by simp only [jA, jO, jN, seval, vint, TyS, TyF, BdS] <;> with_reducible rfl) (by decide) ?_
    repeat (refine awp_seq ?_)
    refine awp_cond rfl (by simp only [jN, seval, vint, TyS, TyF, BdS] <;> with_reducible rfl) (fun b1 => ?_) (fun b1 => ?_)
    ·
      repeat (refine awp_seq ?_)
      refine e_eval (by simp only [jA, jO, jN, seval, vint, TyS, TyF, BdS] <;> with_reducible rfl) (by decide) ?_
      repeat (refine awp_seq ?_)
      refine awp_ret ⟨.inr rfl, _, rfl, ?_⟩
      simp only [jN, seval, vint, TyS, TyF, BdS]
      rw [← val_eq]
      simp_all
    ·
      repeat (refine awp_seq ?_)
      refine awp_skip ?_
      repeat (refine awp_seq ?_)
      refine e_eval (by simp only [jA, jO, jN, seval, vint, TyS, TyF, BdS] <;> with_reducible rfl) (by decide) ?_
      repeat (refine awp_seq ?_)
      refine awp_ret ⟨.inr rfl, _, rfl, ?_⟩
      simp only [jN, seval, vint, TyS, TyF, BdS]
      rw [← val_eq]
      simp_all

end Go.Abs
set_option maxRecDepth 4000
namespace Go.Abs
open Go.Proofs

theorem search_a (ds : List Dc) (sas : List TB) (hl : ds.length ≤ maxLen) (hd : ∀ d ∈ ds, d.R) (hsl : sas.length ≤ maxLen) (hs : ∀ b ∈ sas, b.W) (t : Ty) (tr : Int) (ht : t.W) : PC Try.prog 50 [.slice (ds.map Dc.enc) .none, .slice (sas.map TB.enc) .none, t.enc, vint tr, .int .i64 8] (.tup [(solveT ds sas 8 t tr).1.enc, .bool (solveT ds sas 8 t tr).2]) :=
  search_k ds sas hl hd hsl hs 8 t tr (by omega) ht
theorem npr_drop {us : List Ty} {i : Nat} {u : Ty} (hi : i < us.length) (hu : us[i] = u) : ((us.take (i + 1)).map npr).sum = ((us.take i).map npr).sum + npr u := by
  rw [List.take_succ_eq_append_getElem hi, List.map_append, List.sum_append, hu]; simp
theorem npr_take_le (us : List Ty) (i : Nat) : ((us.take i).map npr).sum ≤ Ty.sizes us := by
  induction us generalizing i with
  | nil => simp
  | cons u us ih =>
    cases i with
    | zero => simp
    | succ i => have := ih i; have := npr_le u; simp only [List.take_succ_cons, List.map_cons, List.sum_cons, Ty.sizes]; omega

theorem projs_k : ∀ (k : Nat) (t : Ty), t.size ≤ k → t.W → (t.size : Int) ≤ 4294967296 → PC Try.prog 57 [t.enc] (vint (npr t))
  | 0, t, h, _, _ => by cases t; simp [Ty.size] at h
  | k + 1, t, h, hw, hb => by
    have hts : t.size = 1 + Ty.sizes t.args := by cases t; simp [Ty.size, Ty.args]
    have hnp := npr_eq t
    have hw1 : IntKind.i64.wrap 1 = 1 := by decide
    refine pc_of (N := 24) Try.func57 rfl rfl (by simp) (by simp [Ty.bel]) (.int _ _) ?_
    repeat (refine awp_seq ?_)
    refine e_eval (by simp only [jA, jO, jN, seval, y24, vint, qA, hw1] <;> with_reducible rfl) (by decide) ?_
    repeat (refine awp_seq ?_)
    refine e_eval (by simp only [jA, jO, jN, seval, vint, qA, hw1] <;> with_reducible rfl) (by decide) ?_
    repeat (refine awp_seq ?_)
    refine e_eval (by simp only [jA, jO, jN, seval, y3, y24, vint, qA, hw1] <;> with_reducible rfl) (by decide) ?_
    repeat (refine awp_seq ?_)
    refine awp_joinT (σ := Int) (fun (q : Int) => [(1, .optr 0 0), (3, vint q)]) (fun (q : Int) => [.row t.enc.cells]) (fun (q : Int) => q = if t.kind = 10 then 1 else 0) ?_ ?_ ?_
    · intro q hg
      exact ⟨by simp, by simp only [TyS, List.nil_append]; repeat (first | exact hbel_nil _ | exact trivial | exact obel_row_nil _ | (refine HBel.cons ?_ ?_) | (refine obel_row_cons (by first | exact bel_Sy _ _ | exact Sy.bel _ _ | exact bel_Rf _ _ | exact bel_Dg _ _ | exact Rs.bel _ _ | exact bel_TB _ _ | exact TB.bel _ _ | exact bel_Dc _ _ | exact Dc.bel _ _ | exact Pf.bel _ _ | exact bel_Pf _ _ | exact Sv.bel _ _ | exact bel_Pf_tok _ (by simp) | exact bel_ints0 _ _ | exact bel_slice_ty _ _ | exact Ty.bel _ _ | exact bel_ty_tok _ (by simp) | exact Bel.int _ _ | exact Bel.bool _ | exact Bel.str _ | exact Bel.nilp | exact Bel.nilfn | exact Bel.optr _ _ (by simp) | exact bel_nil0 _ | exact bel_nil1 _ | exact bel_fn0 _ _ | assumption) ?_)), by repeat (first | exact BelL.nil | refine BelL.cons (by first | exact bel_Sy _ _ | exact Sy.bel _ _ | exact bel_Rf _ _ | exact bel_Dg _ _ | exact Rs.bel _ _ | exact bel_TB _ _ | exact TB.bel _ _ | exact bel_Dc _ _ | exact Dc.bel _ _ | exact Pf.bel _ _ | exact bel_Pf _ _ | exact Sv.bel _ _ | exact bel_Pf_tok _ (by simp) | exact bel_ints0 _ _ | exact bel_slice_ty _ _ | exact Ty.bel _ _ | exact bel_ty_tok _ (by simp) | exact Bel.int _ _ | exact Bel.bool _ | exact Bel.str _ | exact Bel.nilp | exact Bel.nilfn | exact Bel.optr _ _ (by simp) | exact bel_nil0 _ | exact bel_nil1 _ | exact bel_fn0 _ _ | assumption) ?_)⟩
    · -- to the meeting
      repeat (refine awp_seq ?_)
      refine awp_cond rfl (by simp only [jN, seval, vint, qA, hw1] <;> with_reducible rfl) (fun b0 => ?_) (fun b0 => ?_)
      ·
        have hk : t.kind = 10 := of_decide_eq_true b0
        repeat (refine awp_seq ?_)
        refine e_eval (by simp only [jA, jO, jN, seval, y3, vint, qA, hw1] <;> with_reducible rfl) (by decide) ?_
        exact ⟨1, [], ⟨(by first | rfl | (simp only [jN, seval, vint, qA, hw1] <;> first | done | with_reducible rfl)), (by first | rfl | (simp only [jN, seval, vint, qA, hw1] <;> first | done | with_reducible rfl)), trivial⟩, (by first | rfl | (simp only [jN, seval, vint, qA, hw1] <;> first | done | with_reducible rfl)), by exact (if_pos hk).symm⟩
      ·
        have hk : ¬ t.kind = 10 := of_decide_eq_false b0
        repeat (refine awp_seq ?_)
        refine awp_skip ?_
        exact ⟨0, [], ⟨(by first | rfl | (simp only [jN, seval, vint, qA, hw1] <;> first | done | with_reducible rfl)), (by first | rfl | (simp only [jN, seval, vint, qA, hw1] <;> first | done | with_reducible rfl)), trivial⟩, (by first | rfl | (simp only [jN, seval, vint, qA, hw1] <;> first | done | with_reducible rfl)), by exact (if_neg hk).symm⟩
    · intro q hg
      have hg0 := hg
      repeat (refine awp_seq ?_)
      refine e_eval (by simp only [jA, jO, jN, seval, y22, y24, vint, qA, hw1] <;> with_reducible rfl) (by decide) ?_
      repeat (refine awp_seq ?_)
      refine awp_forS (σ := Int) (t.args.length) (fun (s : Int) => [(3, vint s), (12, .slice (t.args.map Ty.enc) .none)]) [3, 12] ([]) (fun (s : Int) => []) (fun (i : Nat) (s : Int) => s = q + (((t.args.take i).map npr).sum : Nat)) (q) (_) rfl rfl rfl rfl rfl rfl rfl rfl rfl (by decide) (by decide) (by decide) (fun _ => rfl) (hw.lenMax) ⟨(by first | rfl | (simp only [jN, seval, vint, qA, hw1] <;> first | done | with_reducible rfl)), (by first | rfl | (simp only [jN, seval, vint, qA, hw1] <;> first | done | with_reducible rfl)), (by first | rfl | (simp only [jN, seval, vint, qA, hw1] <;> first | done | with_reducible rfl)), (by first | rfl | (simp only [jN, seval, vint, qA, hw1] <;> first | done | with_reducible rfl)), trivial⟩ (by first | rfl | (simp only [jN, seval, vint, qA, hw1] <;> first | done | with_reducible rfl)) (by simp) (fun _ _ _ => by first | exact Nat.zero_le _ | (simp only [List.length_append]; omega)) ?_ ?_ ?_
      · exact fun i s hg => ⟨by first | exact hbel_nil _ | (simp only [List.append_nil]; assumption) | (refine hbel_app' hb' (by simp) ?_; repeat (first | exact hbel_nil _ | exact trivial | exact obel_row_nil _ | (refine HBel.cons ?_ ?_) | (refine obel_row_cons (by first | exact bel_Sy _ _ | exact Sy.bel _ _ | exact bel_Rf _ _ | exact bel_Dg _ _ | exact Rs.bel _ _ | exact bel_TB _ _ | exact TB.bel _ _ | exact bel_Dc _ _ | exact Dc.bel _ _ | exact Pf.bel _ _ | exact bel_Pf _ _ | exact Sv.bel _ _ | exact bel_Pf_tok _ (by simp) | exact bel_ints0 _ _ | exact bel_slice_ty _ _ | exact Ty.bel _ _ | exact bel_ty_tok _ (by simp) | exact Bel.int _ _ | exact Bel.bool _ | exact Bel.str _ | exact Bel.nilp | exact Bel.nilfn | exact Bel.optr _ _ (by simp) | exact bel_nil0 _ | exact bel_nil1 _ | exact bel_fn0 _ _ | assumption) ?_))), by repeat (first | exact BelL.nil | refine BelL.cons (by first | exact bel_Sy _ _ | exact Sy.bel _ _ | exact bel_Rf _ _ | exact bel_Dg _ _ | exact Rs.bel _ _ | exact bel_TB _ _ | exact TB.bel _ _ | exact bel_Dc _ _ | exact Dc.bel _ _ | exact Pf.bel _ _ | exact bel_Pf _ _ | exact Sv.bel _ _ | exact bel_Pf_tok _ (by simp) | exact bel_ints0 _ _ | exact bel_slice_ty _ _ | exact Ty.bel _ _ | exact bel_ty_tok _ (by simp) | exact Bel.int _ _ | exact Bel.bool _ | exact Bel.str _ | exact Bel.nilp | exact Bel.nilfn | exact Bel.optr _ _ (by simp) | exact bel_nil0 _ | exact bel_nil1 _ | exact bel_fn0 _ _ | assumption) ?_)⟩
      · intro i s hi hg
        have g1 := ix_nat hi
        have g2 := get_enc Ty.enc hi
        have hmem : t.args[i] ∈ t.args := List.getElem_mem hi
        have hsa := Ty.size_arg hmem
        obtain ⟨a, hae⟩ : ∃ a, t.args[i] = a := ⟨_, rfl⟩
        have haw := hw.arg hmem
        have hst := npr_drop hi hae
        have hle := npr_take_le t.args (i + 1)
        rw [hae] at g2 hsa haw
        have hq2 : 0 ≤ q ∧ q ≤ 1 := by rw [hg0]; split <;> simp
        have hwr : IntKind.i64.wrap (s + (npr a : Int)) = s + (npr a : Int) := wrap_id (by omega) (by omega)
        repeat (refine awp_seq ?_)
        refine e_eval (by simp only [jA, jO, jN, seval, y22, y24, vint, qA, hw1, g1, g2, Int.toNat_natCast] <;> with_reducible rfl) (by decide) ?_
        repeat (refine awp_seq ?_)
        refine awp_region ?_
        refine e_take 2 (by simp only [jA, jO, jN, seval, y24, vint, qA, hw1, g1, g2, Int.toNat_natCast, hwr] <;> with_reducible rfl) (by decide) ?_
        refine aops_pure (by simp only [jC, jN, seval, vint, qA, hw1, g1, g2, Int.toNat_natCast, hwr] <;> with_reducible rfl) (by simp only [jC, jN, seval, vint, qA, hw1, g1, g2, Int.toNat_natCast, hwr]) (by decide) Trygo57 (projs_k k a (by omega) haw (by omega) _) ?_
        refine e_end (by simp only [jA, jO, jN, seval, y3, vint, qA, hw1, g1, g2, Int.toNat_natCast, hwr] <;> with_reducible rfl) (by decide) ?_
        exact ⟨⟨rfl, rfl, trivial⟩, s + (npr a : Int), _, ⟨rfl, rfl, trivial⟩, rfl, by rw [hst]; omega⟩
      · intro s hg
        rw [List.take_length] at hg
        repeat (refine awp_seq ?_)
        refine e_eval (by simp only [jA, jO, jN, seval, vint, qA, hw1] <;> with_reducible rfl) (by decide) ?_
        repeat (refine awp_seq ?_)
        refine awp_ret ⟨.inr rfl, _, rfl, ?_⟩
        simp only [jN, seval, vint, qA]
        refine congrArg vint ?_
        rw [hnp, hg, hg0]; split <;> simp

end Go.Abs
set_option maxRecDepth 4000
namespace Go.Abs
open Go.Proofs

theorem nform_k (r : Rs) (ds : List Dc) (sas : List TB) (hlen : ds.length = r.syms.length) (hl : ds.length ≤ maxLen) (hd : ∀ d ∈ ds, d.R) (hsl : sas.length ≤ maxLen) (hs : ∀ b ∈ sas, b.W) (d : Nat) (hd8 : d ≤ 8)
    (hrec : ∀ d', d = d' + 1 → ∀ u : Ty, u.W → PC Try.prog 58 [r.enc, .slice (ds.map Dc.enc) .none, .slice (sas.map TB.enc) .none, u.enc, .int .i64 (8 - (d' : Int))] (.tup [(rnf (rprojN r.syms ds sas d') u).1.enc, .bool (rnf (rprojN r.syms ds sas d') u).2])) :
    ∀ (k : Nat) (t : Ty), t.size ≤ k → t.W → PC Try.prog 58 [r.enc, .slice (ds.map Dc.enc) .none, .slice (sas.map TB.enc) .none, t.enc, .int .i64 (8 - (d : Int))] (.tup [(rnf (rprojN r.syms ds sas d) t).1.enc, .bool (rnf (rprojN r.syms ds sas d) t).2])
  | 0, t, h, _ => by cases t; simp [Ty.size] at h
  | k + 1, t, h, ht => by
    have em : maxLen = 9223372036854775807 := by decide
    have hdB : ∀ d ∈ ds, d.B := fun d h => (hd d h).1
    have hcok : NC.Ok ⟨r, ds, sas⟩ := ⟨hlen, hl, hdB, hsl, hs⟩
    have hw1 : IntKind.i64.wrap ((r.syms.length : Int) - 1) = (r.syms.length : Int) - 1 := wrap_id (by omega) (by omega)
    refine pc_of (N := 175) Try.func58 rfl rfl (by simp) (by simp [Ty.bel, Rs.bel, bel_Dc, bel_TB, Bel.int]) (.tup _ (by simp [Ty.bel, Bel.bool])) ?_
    repeat (refine awp_seq ?_)
    refine e_eval (by simp only [jA, jO, jN, seval, y24, y56, vint, qA, hw1] <;> with_reducible rfl) (by decide) ?_
    repeat (refine awp_seq ?_)
    refine e_eval (by simp only [jA, jO, jN, seval, vint, qA, hw1] <;> with_reducible rfl) (by decide) ?_
    repeat (refine awp_seq ?_)
    refine e_eval (by simp only [jA, jO, jN, seval, y22, y24, vint, qA, hw1] <;> with_reducible rfl) (by decide) ?_
    repeat (refine awp_seq ?_)
    refine awp_retok 12 3 (es := []) (by simp only [jN, seval, vint, qA] <;> with_reducible rfl) ?_
    refine awp_forS (σ := List Ty) (t.args.length) (fun (q : List Ty) => [(1, .slice (ds.map Dc.enc) .none), (2, .slice (sas.map TB.enc) .none), (4, .int .i64 (8 - (d : Int))), (5, .optr 0 0), (8, .optr 1 0), (10, .optr 2 0), (12, .slice (q.map Ty.enc) (.tok 3)), (23, .slice (t.args.map Ty.enc) .none)]) [1, 2, 4, 5, 8, 10, 12, 23] ([]) (fun (q : List Ty) => [.row r.enc.cells, .row t.enc.cells, .row [.int .i64 0, .int .i64 0, .slice [] .full], .buf q.length 3]) (fun (i : Nat) (q : List Ty) => q = (t.args.take i).map (fun u => (rnf (rprojN r.syms ds sas d) u).1) ∧ (t.args.take i).all (fun u => (rnf (rprojN r.syms ds sas d) u).2) = true) ([]) ([]) rfl rfl rfl rfl rfl rfl rfl rfl rfl (by decide) (by decide) (by decide) (fun _ => rfl) (ht.lenMax) ⟨(by first | rfl | (simp only [jN, seval, vint, qA, hw1] <;> first | done | with_reducible rfl)), (by first | rfl | (simp only [jN, seval, vint, qA, hw1] <;> first | done | with_reducible rfl)), (by first | rfl | (simp only [jN, seval, vint, qA, hw1] <;> first | done | with_reducible rfl)), (by first | rfl | (simp only [jN, seval, vint, qA, hw1] <;> first | done | with_reducible rfl)), (by first | rfl | (simp only [jN, seval, vint, qA, hw1] <;> first | done | with_reducible rfl)), (by first | rfl | (simp only [jN, seval, vint, qA, hw1] <;> first | done | with_reducible rfl)), (by first | rfl | (simp only [jN, seval, vint, qA, hw1] <;> first | done | with_reducible rfl)), (by first | rfl | (simp only [jN, seval, vint, qA, hw1] <;> first | done | with_reducible rfl)), (by first | rfl | (simp only [jN, seval, vint, qA, hw1] <;> first | done | with_reducible rfl)), (by first | rfl | (simp only [jN, seval, vint, qA, hw1] <;> first | done | with_reducible rfl)), trivial⟩ (by first | rfl | (simp only [jN, seval, vint, qA, hw1] <;> first | done | with_reducible rfl)) (by simp) (fun _ _ _ => by first | exact Nat.zero_le _ | (simp only [List.length_append]; omega)) ?_ ?_ ?_
    · exact fun i q hg => ⟨by simp only [TyS, RsS, List.nil_append]; repeat (first | exact hbel_nil _ | exact trivial | exact obel_row_nil _ | (refine HBel.cons ?_ ?_) | (refine obel_row_cons (by first | exact bel_Sy _ _ | exact Sy.bel _ _ | exact bel_Rf _ _ | exact bel_Dg _ _ | exact Rs.bel _ _ | exact bel_TB _ _ | exact TB.bel _ _ | exact bel_Dc _ _ | exact Dc.bel _ _ | exact Pf.bel _ _ | exact bel_Pf _ _ | exact Sv.bel _ _ | exact bel_Pf_tok _ (by simp) | exact bel_ints0 _ _ | exact bel_slice_ty _ _ | exact Ty.bel _ _ | exact bel_ty_tok _ (by simp) | exact Bel.int _ _ | exact Bel.bool _ | exact Bel.str _ | exact Bel.nilp | exact Bel.nilfn | exact Bel.optr _ _ (by simp) | exact bel_nil0 _ | exact bel_nil1 _ | exact bel_fn0 _ _ | assumption) ?_)), by repeat (first | exact BelL.nil | refine BelL.cons (by first | exact bel_Sy _ _ | exact Sy.bel _ _ | exact bel_Rf _ _ | exact bel_Dg _ _ | exact Rs.bel _ _ | exact bel_TB _ _ | exact TB.bel _ _ | exact bel_Dc _ _ | exact Dc.bel _ _ | exact Pf.bel _ _ | exact bel_Pf _ _ | exact Sv.bel _ _ | exact bel_Pf_tok _ (by simp) | exact bel_ints0 _ _ | exact bel_slice_ty _ _ | exact Ty.bel _ _ | exact bel_ty_tok _ (by simp) | exact Bel.int _ _ | exact Bel.bool _ | exact Bel.str _ | exact Bel.nilp | exact Bel.nilfn | exact Bel.optr _ _ (by simp) | exact bel_nil0 _ | exact bel_nil1 _ | exact bel_fn0 _ _ | assumption) ?_)⟩
    · intro i q hi hg
      have g1 := ix_nat hi
      have g2 := get_enc Ty.enc hi
      have hmem : t.args[i] ∈ t.args := List.getElem_mem hi
      have hsa := Ty.size_arg hmem
      have hff := rnf_fail (P := (rprojN r.syms ds sas d)) hi hg.2
      obtain ⟨a, hae⟩ : ∃ a, t.args[i] = a := ⟨_, rfl⟩
      have haw := ht.arg hmem
      rw [hae] at g2 hsa haw hff
      have hlt := ht.len
      have hql : q.length < t.args.length := by rw [hg.1, List.length_map, List.length_take]; omega
      have happ := app_ty (us := q) (u := (rnf (rprojN r.syms ds sas d) a).1) (id := 3) (tl := .full) (by omega)
      repeat (refine awp_seq ?_)
      refine e_eval (by simp only [jA, jO, jN, seval, y22, y24, vint, qA, hw1, g1, g2, Int.toNat_natCast] <;> with_reducible rfl) (by decide) ?_
      repeat (refine awp_seq ?_)
      refine awp_region ?_
      refine e_take 5 (by simp only [jA, jO, jN, seval, y24, y56, vint, qA, hw1, g1, g2, Int.toNat_natCast] <;> with_reducible rfl) (by decide) ?_
      refine aops_pure (by simp only [jC, jN, seval, vint, qA, hw1, g1, g2, Int.toNat_natCast] <;> with_reducible rfl) (by simp only [jC, jN, seval, vint, qA, hw1, g1, g2, Int.toNat_natCast]) (by decide) Trygo58 (nform_k r ds sas hlen hl hd hsl hs d hd8 hrec k a (by omega) haw _) ?_
      refine e_end (by simp only [jA, jO, jN, seval, y24, vint, qA, hw1, g1, g2, Int.toNat_natCast] <;> with_reducible rfl) (by decide) ?_
      repeat (refine awp_seq ?_)
      refine e_eval (by simp only [jA, jO, jN, seval, vint, qA, hw1, g1, g2, Int.toNat_natCast] <;> with_reducible rfl) (by decide) ?_
      repeat (refine awp_seq ?_)
      refine awp_cond rfl (by simp only [jN, seval, vint, qA, hw1, g1, g2, Int.toNat_natCast] <;> with_reducible rfl) (fun b0 => ?_) (fun b0 => ?_)
      ·
        rw [hff (by simpa using b0)]
        refine awp_sel [1, 2, 4, 5, 8, 10, 12, 15, 23, 24, 25] (by simp only [jN, seval, vint, qA, hw1, g1, g2, Int.toNat_natCast] <;> with_reducible rfl) ?_
        repeat (refine awp_seq ?_)
        refine e_eval (by simp only [jA, jO, jN, seval, y24, vint, qA, hw1, g1, g2, Int.toNat_natCast] <;> with_reducible rfl) (by decide) ?_
        repeat (refine awp_seq ?_)
        refine awp_ret ⟨.inr rfl, _, (ares_two (.cell 10 24) (.tmp 11) rfl (ares_cell1 Tryti24 (by decide) (by simp only [jL, jN, seval, vint, qA, hw1, g1, g2, Int.toNat_natCast] <;> with_reducible rfl)) (ares_tmp1 (by decide))), ?_⟩
        simp only [jN, seval, vint, qA]
      ·
        repeat (refine awp_seq ?_)
        refine awp_skip ?_
        refine awp_sel [1, 2, 4, 5, 8, 10, 12, 15, 23, 24, 25] (by simp only [jN, seval, vint, qA, hw1, g1, g2, Int.toNat_natCast] <;> with_reducible rfl) ?_
        repeat (refine awp_seq ?_)
        refine e_eval (by simp only [jA, jO, jN, seval, y22, y24, vint, qA, hw1, g1, g2, Int.toNat_natCast, happ] <;> with_reducible rfl) (by decide) ?_
        exact ⟨⟨rfl, rfl, trivial⟩, q ++ [(rnf (rprojN r.syms ds sas d) a).1], _, ⟨rfl, rfl, rfl, rfl, rfl, rfl, rfl, rfl, trivial⟩, by simp only [jN, seval, vint, qA, List.length_append, List.length_singleton] <;> rfl, by rw [map_take_succ _ hi, ← hg.1, hae], all_take_succ hi hg.2 (by rw [hae]; simpa using b0)⟩
    · intro q hg
      rw [List.take_length] at hg
      have hqW : (Ty.mk t.kind t.id q).W := by
        rw [Ty.W_iff, hg.1, List.length_map]
        exact ⟨ht.len, fun v hv => by obtain ⟨w, hw, rfl⟩ := List.mem_map.1 hv; exact rnorm_W ⟨r, ds, sas⟩ hcok d w (ht.arg hw)⟩
      have hfin := rnf_done hg.2
      rw [← hg.1] at hfin
      repeat (refine awp_seq ?_)
      refine e_eval (by simp only [jA, jO, jN, seval, y22, y24, vint, qA, hw1] <;> with_reducible rfl) (by decide) ?_
      repeat (refine awp_seq ?_)
      refine e_eval (by simp only [jA, jO, jN, seval, y3, y24, vint, qA, hw1] <;> with_reducible rfl) (by decide) ?_
      repeat (refine awp_seq ?_)
      refine awp_cond rfl (by simp only [jN, seval, vint, qA, hw1] <;> with_reducible rfl) (fun b1 => ?_) (fun b1 => ?_)
      ·
        have hk : ¬ t.kind = 10 := by simpa using b1
        rw [if_neg hk] at hfin
        rw [hfin]
        repeat (refine awp_seq ?_)
        refine e_eval (by simp only [jA, jO, jN, seval, y24, vint, qA, hw1] <;> with_reducible rfl) (by decide) ?_
        repeat (refine awp_seq ?_)
        refine awp_ret ⟨.inr rfl, _, (ares_two (.cell 10 24) (.tmp 11) rfl (ares_cell1 Tryti24 (by decide) (by simp only [jL, jN, seval, vint, qA, hw1] <;> with_reducible rfl)) (ares_tmp1 (by decide))), ?_⟩
        simp only [jN, seval, vint, qA]
      ·
        have hk : t.kind = 10 := by simpa using b1
        rw [if_pos hk] at hfin
        have hbadL : (traitIx r.syms t.id < 0 ∨ q.length ≠ 1) → rnf (rprojN r.syms ds sas d) t = ((Ty.mk t.kind t.id q), false) := fun h => by rw [hfin]; exact rprojN_bad (t := (Ty.mk t.kind t.id q)) h
        repeat (refine awp_seq ?_)
        refine awp_skip ?_
        rcases Classical.em (¬ ((0 : Int) ≤ t.id ∧ t.id < r.syms.length)) with h | h
        ·
          have hx : (decide (0 ≤ t.id) && decide (t.id ≤ (r.syms.length : Int) - 1)) = false := by simp; omega
          have hT : traitIx r.syms t.id < 0 := by unfold traitIx; rw [if_pos (Or.inl h)]; omega
          repeat (refine awp_seq ?_)
          refine awp_region ?_
          refine aops_gstart ?_
          refine g_take 6 (by simp only [jG, jO, jN, seval, y3, y24, y52, y56, y117, vint, qA, hw1, hx, Bool.not_false, Bool.true_or, Bool.not_true] <;> with_reducible rfl) (by decide) ?_
          refine aops_gpure (by simp only [jE, jN, seval, vint, qA, hw1, hx, Bool.not_false, Bool.true_or, Bool.not_true] <;> with_reducible rfl) (by simp only [jE, jN, seval, vint, qA, hw1, hx, Bool.not_false, Bool.true_or, Bool.not_true] <;> with_reducible rfl) (by simp only [jE, jN, seval, vint, qA, hw1, hx, Bool.not_false, Bool.true_or, Bool.not_true]) (by decide) Trygo98 (fun hc => inRange t.id 0 ((r.syms.length : Int) - 1) _) ?_
          refine g_take 2 (by simp only [jG, jO, jN, seval, vint, qA, hw1, hx, Bool.not_false, Bool.true_or, Bool.not_true] <;> with_reducible rfl) (by decide) ?_
          refine aops_gskip (r := .tup []) (by simp only [jE, jN, seval, vint, qA, hx, hw1, Bool.not_false, Bool.true_or, Bool.not_true] <;> with_reducible rfl) ?_
          refine aops_gskip (r := .tup []) (by simp only [jE, jN, seval, vint, qA, hx, hw1, Bool.not_false, Bool.true_or, Bool.not_true] <;> with_reducible rfl) ?_
          refine aops_gskip (r := .tup []) (by simp only [jE, jN, seval, vint, qA, hx, hw1, Bool.not_false, Bool.true_or, Bool.not_true] <;> with_reducible rfl) ?_
          refine aops_gskip (r := .tup []) (by simp only [jE, jN, seval, vint, qA, hx, hw1, Bool.not_false, Bool.true_or, Bool.not_true] <;> with_reducible rfl) ?_
          refine aops_gskip (r := .tup []) (by simp only [jE, jN, seval, vint, qA, hx, hw1, Bool.not_false, Bool.true_or, Bool.not_true] <;> with_reducible rfl) ?_
          refine aops_gskip (r := .tup []) (by simp only [jE, jN, seval, vint, qA, hx, hw1, Bool.not_false, Bool.true_or, Bool.not_true] <;> with_reducible rfl) ?_
          refine aops_gskip (r := .tup []) (by simp only [jE, jN, seval, vint, qA, hx, hw1, Bool.not_false, Bool.true_or, Bool.not_true] <;> with_reducible rfl) ?_
          refine aops_gskip (r := .tup []) (by simp only [jE, jN, seval, vint, qA, hx, hw1, Bool.not_false, Bool.true_or, Bool.not_true] <;> with_reducible rfl) ?_
          refine g_take 2 (by simp only [jG, jO, jN, seval, vint, qA, hw1, hx, Bool.not_false, Bool.true_or, Bool.not_true] <;> with_reducible rfl) (by decide) ?_
          refine aops_gskip (r := .tup []) (by simp only [jE, jN, seval, vint, qA, hx, hw1, Bool.not_false, Bool.true_or, Bool.not_true] <;> with_reducible rfl) ?_
          refine aops_gskip (r := .tup []) (by simp only [jE, jN, seval, vint, qA, hx, hw1, Bool.not_false, Bool.true_or, Bool.not_true] <;> with_reducible rfl) ?_
          refine aops_gskip (r := .tup []) (by simp only [jE, jN, seval, vint, qA, hx, hw1, Bool.not_false, Bool.true_or, Bool.not_true] <;> with_reducible rfl) ?_
          refine g_end (by simp only [jG, jO, jN, seval, vint, qA, hw1, hx, Bool.not_false, Bool.true_or, Bool.not_true] <;> with_reducible rfl) (by decide) (by repeat (first | exact Fin.base _ | with_reducible apply Fin.keep | apply Fin.drop)) ?_
          repeat (refine awp_seq ?_)
          refine awp_cond_true rfl (by simp only [jN, seval, vint, qA, hw1, hx, Bool.not_false, Bool.true_or, Bool.not_true] <;> with_reducible rfl) ?_
          refine awp_sel [8, 10] (by simp only [jN, seval, vint, qA, hw1, hx, Bool.not_false, Bool.true_or, Bool.not_true] <;> with_reducible rfl) ?_
          repeat (refine awp_seq ?_)
          refine e_eval (by simp only [jA, jO, jN, seval, y24, vint, qA, hw1, hx, Bool.not_false, Bool.true_or, Bool.not_true] <;> with_reducible rfl) (by decide) ?_
          repeat (refine awp_seq ?_)
          refine awp_ret ⟨.inr rfl, _, (ares_two (.cell 10 24) (.tmp 11) rfl (ares_cell1 Tryti24 (by decide) (by simp only [jL, jN, seval, vint, qA, hw1, hx, Bool.not_false, Bool.true_or, Bool.not_true] <;> with_reducible rfl)) (ares_tmp1 (by decide))), ?_⟩
          rw [hbadL (.inl hT)]
          simp only [jN, seval, vint, qA]
        ·
          have hx : (decide (0 ≤ t.id) && decide (t.id ≤ (r.syms.length : Int) - 1)) = true := by simp; omega
          have ga : ((0 : Int) ≤ t.id ∧ t.id < (r.syms).length) = True := by simp; omega
          have gl : (t.id).toNat < (r.syms).length := by omega
          obtain ⟨s, se⟩ : ∃ z_, (r.syms)[(t.id).toNat] = z_ := ⟨_, rfl⟩
          have gb := get_enc Sy.enc gl
          rw [se] at gb
          have gd : (r.syms).getD (t.id).toNat .zero = s := by rw [List.getD_eq_getElem?_getD, List.getElem?_eq_getElem gl, se]; rfl
          repeat (refine awp_seq ?_)
          refine awp_region ?_
          refine aops_gstart ?_
          refine g_take 6 (by simp only [jG, jO, jN, seval, y3, y24, y52, y56, y117, vint, qA, hw1, hx, Bool.not_true, Bool.false_or, ga, gb] <;> with_reducible rfl) (by decide) ?_
          refine aops_gpure (by simp only [jE, jN, seval, vint, qA, hw1, hx, Bool.not_true, Bool.false_or, ga, gb] <;> with_reducible rfl) (by simp only [jE, jN, seval, vint, qA, hw1, hx, Bool.not_true, Bool.false_or, ga, gb] <;> with_reducible rfl) (by simp only [jE, jN, seval, vint, qA, hw1, hx, Bool.not_true, Bool.false_or, ga, gb]) (by decide) Trygo98 (fun hc => inRange t.id 0 ((r.syms.length : Int) - 1) _) ?_
          refine g_end (by simp only [jG, jO, jN, seval, y3, y22, y24, y52, y56, y117, vint, qA, hw1, hx, Bool.not_true, Bool.false_or, ga, gb] <;> with_reducible rfl) (by decide) (by repeat (first | exact Fin.base _ | with_reducible apply Fin.keep | apply Fin.drop)) ?_
          repeat (refine awp_seq ?_)
          refine awp_cond rfl (by simp only [jN, seval, vint, qA, hw1, hx, Bool.not_true, Bool.false_or, ga, gb] <;> with_reducible rfl) (fun b3 => ?_) (fun b3 => ?_)
          ·
            have hT : traitIx r.syms t.id < 0 ∨ q.length ≠ 1 := by
              have hh : s.kind ≠ 13 ∨ q.length ≠ 1 := by simp at b3; omega
              rcases hh with hh | hh
              · left; unfold traitIx; rw [gd, if_pos (Or.inr hh)]; omega
              · exact .inr hh
            refine awp_sel [8, 10] (by simp only [jN, seval, vint, qA, hw1, hx, Bool.not_true, Bool.false_or, ga, gb] <;> with_reducible rfl) ?_
            repeat (refine awp_seq ?_)
            refine e_eval (by simp only [jA, jO, jN, seval, y24, vint, qA, hw1, hx, Bool.not_true, Bool.false_or, ga, gb] <;> with_reducible rfl) (by decide) ?_
            repeat (refine awp_seq ?_)
            refine awp_ret ⟨.inr rfl, _, (ares_two (.cell 10 24) (.tmp 11) rfl (ares_cell1 Tryti24 (by decide) (by simp only [jL, jN, seval, vint, qA, hw1, hx, Bool.not_true, Bool.false_or, ga, gb] <;> with_reducible rfl)) (ares_tmp1 (by decide))), ?_⟩
            rw [hbadL hT]
            simp only [jN, seval, vint, qA]
          ·
            have hh : s.kind = 13 ∧ q.length = 1 := by simp at b3; omega
            have hk1 : ¬ (¬ (0 ≤ t.id ∧ t.id < r.syms.length) ∨ s.kind ≠ 13) := by simp [hh.1]; omega
            obtain ⟨a, hqa⟩ := List.length_eq_one_iff.1 hh.2
            have hq1 : ((0 : Int) < (q.length : Int)) = True := by rw [hh.2]; simp
            have hq0 : (q.map Ty.enc)[0]? = some a.enc := by rw [hqa]; rfl
            have haW : a.W := hqW.arg (by rw [hqa]; simp [Ty.args])
            repeat (refine awp_seq ?_)
            refine awp_skip ?_
            refine awp_sel [1, 2, 4, 5, 8, 10, 12] (by simp only [jN, seval, vint, qA, hw1, hx, Bool.not_true, Bool.false_or, ga, gb] <;> with_reducible rfl) ?_
            repeat (refine awp_seq ?_)
            refine e_eval (by simp only [jA, jO, jN, seval, y3, y24, y52, y56, y117, vint, qA, hw1, hx, Bool.not_true, Bool.false_or, ga, gb, ga, gb] <;> with_reducible rfl) (by decide) ?_
            rcases Classical.em (¬ ((0 : Int) ≤ s.par ∧ s.par < r.syms.length)) with h | h
            ·
              have hx : (decide (0 ≤ s.par) && decide (s.par ≤ (r.syms.length : Int) - 1)) = false := by simp; omega
              have hT : traitIx r.syms t.id < 0 := by unfold traitIx; rw [gd, if_neg hk1, if_pos (Or.inl h)]; omega
              repeat (refine awp_seq ?_)
              refine awp_region ?_
              refine aops_gstart ?_
              refine g_take 5 (by simp only [jG, jO, jN, seval, y3, y52, y56, y117, vint, qA, hw1, hx, Bool.not_true, Bool.false_or, ga, gb, hx, Bool.not_false, Bool.true_or, Bool.not_true] <;> with_reducible rfl) (by decide) ?_
              refine aops_gpure (by simp only [jE, jN, seval, vint, qA, hw1, hx, Bool.not_true, Bool.false_or, ga, gb, hx, Bool.not_false, Bool.true_or, Bool.not_true] <;> with_reducible rfl) (by simp only [jE, jN, seval, vint, qA, hw1, hx, Bool.not_true, Bool.false_or, ga, gb, hx, Bool.not_false, Bool.true_or, Bool.not_true] <;> with_reducible rfl) (by simp only [jE, jN, seval, vint, qA, hw1, hx, Bool.not_true, Bool.false_or, ga, gb, hx, Bool.not_false, Bool.true_or, Bool.not_true]) (by decide) Trygo98 (fun hc => inRange s.par 0 ((r.syms.length : Int) - 1) _) ?_
              refine g_take 2 (by simp only [jG, jO, jN, seval, vint, qA, hw1, hx, Bool.not_true, Bool.false_or, ga, gb, hx, Bool.not_false, Bool.true_or, Bool.not_true] <;> with_reducible rfl) (by decide) ?_
              refine aops_gskip (r := .tup []) (by simp only [jE, jN, seval, vint, qA, hx, hw1, Bool.not_false, Bool.true_or, Bool.not_true] <;> with_reducible rfl) ?_
              refine aops_gskip (r := .tup []) (by simp only [jE, jN, seval, vint, qA, hx, hw1, Bool.not_false, Bool.true_or, Bool.not_true] <;> with_reducible rfl) ?_
              refine aops_gskip (r := .tup []) (by simp only [jE, jN, seval, vint, qA, hx, hw1, Bool.not_false, Bool.true_or, Bool.not_true] <;> with_reducible rfl) ?_
              refine aops_gskip (r := .tup []) (by simp only [jE, jN, seval, vint, qA, hx, hw1, Bool.not_false, Bool.true_or, Bool.not_true] <;> with_reducible rfl) ?_
              refine aops_gskip (r := .tup []) (by simp only [jE, jN, seval, vint, qA, hx, hw1, Bool.not_false, Bool.true_or, Bool.not_true] <;> with_reducible rfl) ?_
              refine aops_gskip (r := .tup []) (by simp only [jE, jN, seval, vint, qA, hx, hw1, Bool.not_false, Bool.true_or, Bool.not_true] <;> with_reducible rfl) ?_
              refine aops_gskip (r := .tup []) (by simp only [jE, jN, seval, vint, qA, hx, hw1, Bool.not_false, Bool.true_or, Bool.not_true] <;> with_reducible rfl) ?_
              refine g_end (by simp only [jG, jO, jN, seval, vint, qA, hw1, hx, Bool.not_true, Bool.false_or, ga, gb, hx, Bool.not_false, Bool.true_or, Bool.not_true] <;> with_reducible rfl) (by decide) (by repeat (first | exact Fin.base _ | with_reducible apply Fin.keep | apply Fin.drop)) ?_
              repeat (refine awp_seq ?_)
              refine awp_cond_true rfl (by simp only [jN, seval, vint, qA, hw1, hx, Bool.not_true, Bool.false_or, ga, gb, hx, Bool.not_false, Bool.true_or, Bool.not_true] <;> with_reducible rfl) ?_
              refine awp_sel [8, 10] (by simp only [jN, seval, vint, qA, hw1, hx, Bool.not_true, Bool.false_or, ga, gb, hx, Bool.not_false, Bool.true_or, Bool.not_true] <;> with_reducible rfl) ?_
              repeat (refine awp_seq ?_)
              refine e_eval (by simp only [jA, jO, jN, seval, y24, vint, qA, hw1, hx, Bool.not_true, Bool.false_or, ga, gb, hx, Bool.not_false, Bool.true_or, Bool.not_true] <;> with_reducible rfl) (by decide) ?_
              repeat (refine awp_seq ?_)
              refine awp_ret ⟨.inr rfl, _, (ares_two (.cell 10 24) (.tmp 11) rfl (ares_cell1 Tryti24 (by decide) (by simp only [jL, jN, seval, vint, qA, hw1, hx, Bool.not_true, Bool.false_or, ga, gb, hx, Bool.not_false, Bool.true_or, Bool.not_true] <;> with_reducible rfl)) (ares_tmp1 (by decide))), ?_⟩
              rw [hbadL (.inl hT)]
              simp only [jN, seval, vint, qA]
            ·
              have hx : (decide (0 ≤ s.par) && decide (s.par ≤ (r.syms.length : Int) - 1)) = true := by simp; omega
              have ma : ((0 : Int) ≤ s.par ∧ s.par < (r.syms).length) = True := by simp; omega
              have ml : (s.par).toNat < (r.syms).length := by omega
              obtain ⟨p, pe⟩ : ∃ z_, (r.syms)[(s.par).toNat] = z_ := ⟨_, rfl⟩
              have mb := get_enc Sy.enc ml
              rw [pe] at mb
              have md : (r.syms).getD (s.par).toNat .zero = p := by rw [List.getD_eq_getElem?_getD, List.getElem?_eq_getElem ml, pe]; rfl
              repeat (refine awp_seq ?_)
              refine awp_region ?_
              refine aops_gstart ?_
              refine g_take 5 (by simp only [jG, jO, jN, seval, y3, y52, y56, y117, vint, qA, hw1, hx, Bool.not_true, Bool.false_or, ga, gb, hx, Bool.not_true, Bool.false_or, ma, mb] <;> with_reducible rfl) (by decide) ?_
              refine aops_gpure (by simp only [jE, jN, seval, vint, qA, hw1, hx, Bool.not_true, Bool.false_or, ga, gb, hx, Bool.not_true, Bool.false_or, ma, mb] <;> with_reducible rfl) (by simp only [jE, jN, seval, vint, qA, hw1, hx, Bool.not_true, Bool.false_or, ga, gb, hx, Bool.not_true, Bool.false_or, ma, mb] <;> with_reducible rfl) (by simp only [jE, jN, seval, vint, qA, hw1, hx, Bool.not_true, Bool.false_or, ga, gb, hx, Bool.not_true, Bool.false_or, ma, mb]) (by decide) Trygo98 (fun hc => inRange s.par 0 ((r.syms.length : Int) - 1) _) ?_
              refine g_end (by simp only [jG, jO, jN, seval, y3, y52, y56, y117, vint, qA, hw1, hx, Bool.not_true, Bool.false_or, ga, gb, hx, Bool.not_true, Bool.false_or, ma, mb] <;> with_reducible rfl) (by decide) (by repeat (first | exact Fin.base _ | with_reducible apply Fin.keep | apply Fin.drop)) ?_
              repeat (refine awp_seq ?_)
              refine awp_cond rfl (by simp only [jN, seval, vint, qA, hw1, hx, Bool.not_true, Bool.false_or, ga, gb, hx, Bool.not_true, Bool.false_or, ma, mb] <;> with_reducible rfl) (fun b5 => ?_) (fun b5 => ?_)
              ·
                have hT : traitIx r.syms t.id < 0 := by unfold traitIx; rw [gd, if_neg hk1, md, if_pos (Or.inr (by simpa using b5))]; omega
                refine awp_sel [8, 10] (by simp only [jN, seval, vint, qA, hw1, hx, Bool.not_true, Bool.false_or, ga, gb, hx, Bool.not_true, Bool.false_or, ma, mb] <;> with_reducible rfl) ?_
                repeat (refine awp_seq ?_)
                refine e_eval (by simp only [jA, jO, jN, seval, y24, vint, qA, hw1, hx, Bool.not_true, Bool.false_or, ga, gb, hx, Bool.not_true, Bool.false_or, ma, mb] <;> with_reducible rfl) (by decide) ?_
                repeat (refine awp_seq ?_)
                refine awp_ret ⟨.inr rfl, _, (ares_two (.cell 10 24) (.tmp 11) rfl (ares_cell1 Tryti24 (by decide) (by simp only [jL, jN, seval, vint, qA, hw1, hx, Bool.not_true, Bool.false_or, ga, gb, hx, Bool.not_true, Bool.false_or, ma, mb] <;> with_reducible rfl)) (ares_tmp1 (by decide))), ?_⟩
                rw [hbadL (.inl hT)]
                simp only [jN, seval, vint, qA]
              ·
                have hT : traitIx r.syms t.id = s.par := by unfold traitIx; rw [gd, if_neg hk1, md, if_neg (by simp at b5; simp [b5]; omega)]
                have hsr := search_a ds sas hl hd hsl hs a s.par haW
                obtain ⟨pf, hpf⟩ : ∃ x, solveT ds sas 8 a s.par = x := ⟨_, rfl⟩
                rw [hpf] at hsr
                have hTn : ¬ traitIx r.syms (Ty.mk t.kind t.id q).id < 0 := by show ¬ traitIx r.syms t.id < 0; omega
                have hsol : solveT ds sas 8 a (traitIx r.syms (Ty.mk t.kind t.id q).id) = pf := by show solveT ds sas 8 a (traitIx r.syms t.id) = pf; rw [hT, hpf]
                have hme : memIx r.syms ds sas (Ty.mk t.kind t.id q).id a = idxI (memP pf.1.im s.name) r.syms := by unfold memIx; rw [hsol]; show idxI (memP pf.1.im (r.syms.getD t.id.toNat .zero).name) r.syms = _; rw [gd]
                repeat (refine awp_seq ?_)
                refine awp_skip ?_
                refine awp_sel [1, 2, 4, 5, 8, 10, 12, 17] (by simp only [jN, seval, vint, qA, hw1, hx, Bool.not_true, Bool.false_or, ga, gb, hx, Bool.not_true, Bool.false_or, ma, mb] <;> with_reducible rfl) ?_
                repeat (refine awp_seq ?_)
                refine awp_region ?_
                refine e_take 6 (by simp only [jA, jO, jN, seval, y22, y24, vint, qA, hw1, hx, Bool.not_true, Bool.false_or, ga, gb, hx, Bool.not_true, Bool.false_or, ma, mb, hq0, hq1] <;> with_reducible rfl) (by decide) ?_
                refine aops_pure (by simp only [jC, jN, seval, vint, qA, hw1, hx, Bool.not_true, Bool.false_or, ga, gb, hx, Bool.not_true, Bool.false_or, ma, mb, hq0, hq1] <;> with_reducible rfl) (by simp only [jC, jN, seval, vint, qA, hw1, hx, Bool.not_true, Bool.false_or, ga, gb, hx, Bool.not_true, Bool.false_or, ma, mb, hq0, hq1]) (by decide) Trygo50 (hsr _) ?_
                refine e_end (by simp only [jA, jO, jN, seval, y63, vint, qA, hw1, hx, Bool.not_true, Bool.false_or, ga, gb, hx, Bool.not_true, Bool.false_or, ma, mb, hq0, hq1] <;> with_reducible rfl) (by decide) ?_
                repeat (refine awp_seq ?_)
                refine g_eval (by simp only [jG, jO, jN, seval, y3, y63, vint, qA, hw1, hx, Bool.not_true, Bool.false_or, ga, gb, hx, Bool.not_true, Bool.false_or, ma, mb] <;> with_reducible rfl) (by decide) (by repeat (first | exact Fin.base _ | with_reducible apply Fin.keep | apply Fin.drop)) ?_
                repeat (refine awp_seq ?_)
                refine awp_cond rfl (by simp only [jN, seval, vint, qA, hw1, hx, Bool.not_true, Bool.false_or, ga, gb, hx, Bool.not_true, Bool.false_or, ma, mb] <;> with_reducible rfl) (fun b6 => ?_) (fun b6 => ?_)
                ·
                  have hr2 : pf.2 = false ∨ pf.1.im < 0 := by simpa using b6
                  rw [hfin, rprojN_rig (t := (Ty.mk t.kind t.id q)) (a := a) hqa hTn (by rw [hsol]; exact hr2)]
                  refine awp_sel [8, 10] (by simp only [jN, seval, vint, qA, hw1, hx, Bool.not_true, Bool.false_or, ga, gb, hx, Bool.not_true, Bool.false_or, ma, mb] <;> with_reducible rfl) ?_
                  repeat (refine awp_seq ?_)
                  refine e_eval (by simp only [jA, jO, jN, seval, y24, vint, qA, hw1, hx, Bool.not_true, Bool.false_or, ga, gb, hx, Bool.not_true, Bool.false_or, ma, mb] <;> with_reducible rfl) (by decide) ?_
                  repeat (refine awp_seq ?_)
                  refine awp_ret ⟨.inr rfl, _, (ares_two (.cell 10 24) (.tmp 11) rfl (ares_cell1 Tryti24 (by decide) (by simp only [jL, jN, seval, vint, qA, hw1, hx, Bool.not_true, Bool.false_or, ga, gb, hx, Bool.not_true, Bool.false_or, ma, mb] <;> with_reducible rfl)) (ares_tmp1 (by decide))), ?_⟩
                  simp only [jN, seval, vint, qA]
                ·
                  have hr2 : pf.2 = true ∧ 0 ≤ pf.1.im := by simp at b6; exact ⟨by simpa using b6.1, by omega⟩
                  have hr3 : ¬ ((solveT ds sas 8 a (traitIx r.syms (Ty.mk t.kind t.id q).id)).2 = false ∨ (solveT ds sas 8 a (traitIx r.syms (Ty.mk t.kind t.id q).id)).1.im < 0) := by rw [hsol, hr2.1]; simp; omega
                  have hal : pf.1.args.length = (ds.getD pf.1.im.toNat .zero).ps.length := by
                    have := solve_arglen (ds := ds) (sas := sas) (tr := s.par) 8 haW (by rw [hpf]; exact hr2.1) (by rw [hpf]; exact hr2.2)
                    rwa [hpf] at this
                  have him := solve_im (ds := ds) (sas := sas) (n := 8) (t := a) (tr := s.par) (by rw [hpf]; exact hr2.1) (by rw [hpf]; exact hr2.2)
                  rw [hpf] at him
                  have hpW := solve_W (ds := ds) (sas := sas) hdB 8 a s.par haW
                  rw [hpf] at hpW
                  have hmx : r.syms.length ≤ maxLen := by omega
                  repeat (refine awp_seq ?_)
                  refine awp_skip ?_
                  refine awp_sel [1, 2, 4, 5, 8, 10, 18] (by simp only [jN, seval, vint, qA, hw1, hx, Bool.not_true, Bool.false_or, ga, gb, hx, Bool.not_true, Bool.false_or, ma, mb] <;> with_reducible rfl) ?_
                  repeat (refine awp_seq ?_)
                  refine e_eval (by simp only [jA, jO, jN, seval, y52, y56, y117, vint, qA, hw1, hx, Bool.not_true, Bool.false_or, ga, gb, hx, Bool.not_true, Bool.false_or, ma, mb] <;> with_reducible rfl) (by decide) ?_
                  repeat (refine awp_seq ?_)
                  refine awp_forS (σ := Unit) (r.syms.length) (fun (u_ : Unit) => [(1, .slice (ds.map Dc.enc) .none), (2, .slice (sas.map TB.enc) .none), (4, .int .i64 (8 - (d : Int))), (5, .optr 0 0), (8, .optr 1 0), (10, .optr 2 0), (18, .optr 4 0), (119, .slice (r.syms.map Sy.enc) .none)]) [1, 2, 4, 5, 8, 10, 18, 119] ([]) (fun (u_ : Unit) => [.row r.enc.cells, .row [.int .i64 t.kind, .int .i64 t.id, .slice (q.map Ty.enc) (.tok 3)], .row [.int .i64 0, .int .i64 0, .slice [] .full], .buf q.length 3, .row pf.1.enc.cells]) (fun (i : Nat) (u_ : Unit) => (r.syms.take i).any (memP pf.1.im s.name) = false) (()) ([]) rfl rfl rfl rfl rfl rfl rfl rfl rfl (by decide) (by decide) (by decide) (fun _ => rfl) (hmx) ⟨(by first | rfl | (simp only [jN, seval, vint, qA, hw1, hx, Bool.not_true, Bool.false_or, ga, gb, hx, Bool.not_true, Bool.false_or, ma, mb] <;> first | done | with_reducible rfl)), (by first | rfl | (simp only [jN, seval, vint, qA, hw1, hx, Bool.not_true, Bool.false_or, ga, gb, hx, Bool.not_true, Bool.false_or, ma, mb] <;> first | done | with_reducible rfl)), (by first | rfl | (simp only [jN, seval, vint, qA, hw1, hx, Bool.not_true, Bool.false_or, ga, gb, hx, Bool.not_true, Bool.false_or, ma, mb] <;> first | done | with_reducible rfl)), (by first | rfl | (simp only [jN, seval, vint, qA, hw1, hx, Bool.not_true, Bool.false_or, ga, gb, hx, Bool.not_true, Bool.false_or, ma, mb] <;> first | done | with_reducible rfl)), (by first | rfl | (simp only [jN, seval, vint, qA, hw1, hx, Bool.not_true, Bool.false_or, ga, gb, hx, Bool.not_true, Bool.false_or, ma, mb] <;> first | done | with_reducible rfl)), (by first | rfl | (simp only [jN, seval, vint, qA, hw1, hx, Bool.not_true, Bool.false_or, ga, gb, hx, Bool.not_true, Bool.false_or, ma, mb] <;> first | done | with_reducible rfl)), (by first | rfl | (simp only [jN, seval, vint, qA, hw1, hx, Bool.not_true, Bool.false_or, ga, gb, hx, Bool.not_true, Bool.false_or, ma, mb] <;> first | done | with_reducible rfl)), (by first | rfl | (simp only [jN, seval, vint, qA, hw1, hx, Bool.not_true, Bool.false_or, ga, gb, hx, Bool.not_true, Bool.false_or, ma, mb] <;> first | done | with_reducible rfl)), (by first | rfl | (simp only [jN, seval, vint, qA, hw1, hx, Bool.not_true, Bool.false_or, ga, gb, hx, Bool.not_true, Bool.false_or, ma, mb] <;> first | done | with_reducible rfl)), (by first | rfl | (simp only [jN, seval, vint, qA, hw1, hx, Bool.not_true, Bool.false_or, ga, gb, hx, Bool.not_true, Bool.false_or, ma, mb] <;> first | done | with_reducible rfl)), trivial⟩ (by first | rfl | (simp only [jN, seval, vint, qA, hw1, hx, Bool.not_true, Bool.false_or, ga, gb, hx, Bool.not_true, Bool.false_or, ma, mb] <;> first | done | with_reducible rfl)) (by simp) (fun _ _ _ => by first | exact Nat.zero_le _ | (simp only [List.length_append]; omega)) ?_ ?_ ?_
                  · exact fun i s_ hg_ => ⟨by simp only [TyS, RsS, PfS, List.nil_append]; repeat (first | exact hbel_nil _ | exact trivial | exact obel_row_nil _ | (refine HBel.cons ?_ ?_) | (refine obel_row_cons (by first | exact bel_Sy _ _ | exact Sy.bel _ _ | exact bel_Rf _ _ | exact bel_Dg _ _ | exact Rs.bel _ _ | exact bel_TB _ _ | exact TB.bel _ _ | exact bel_Dc _ _ | exact Dc.bel _ _ | exact Pf.bel _ _ | exact bel_Pf _ _ | exact Sv.bel _ _ | exact bel_Pf_tok _ (by simp) | exact bel_ints0 _ _ | exact bel_slice_ty _ _ | exact Ty.bel _ _ | exact bel_ty_tok _ (by simp) | exact Bel.int _ _ | exact Bel.bool _ | exact Bel.str _ | exact Bel.nilp | exact Bel.nilfn | exact Bel.optr _ _ (by simp) | exact bel_nil0 _ | exact bel_nil1 _ | exact bel_fn0 _ _ | assumption) ?_)), by repeat (first | exact BelL.nil | refine BelL.cons (by first | exact bel_Sy _ _ | exact Sy.bel _ _ | exact bel_Rf _ _ | exact bel_Dg _ _ | exact Rs.bel _ _ | exact bel_TB _ _ | exact TB.bel _ _ | exact bel_Dc _ _ | exact Dc.bel _ _ | exact Pf.bel _ _ | exact bel_Pf _ _ | exact Sv.bel _ _ | exact bel_Pf_tok _ (by simp) | exact bel_ints0 _ _ | exact bel_slice_ty _ _ | exact Ty.bel _ _ | exact bel_ty_tok _ (by simp) | exact Bel.int _ _ | exact Bel.bool _ | exact Bel.str _ | exact Bel.nilp | exact Bel.nilfn | exact Bel.optr _ _ (by simp) | exact bel_nil0 _ | exact bel_nil1 _ | exact bel_fn0 _ _ | assumption) ?_)⟩
                  · intro i u_ hi hg2
                    have g1 := ix_nat hi
                    have g2 := get_enc Sy.enc hi
                    obtain ⟨y, hye⟩ : ∃ y, r.syms[i] = y := ⟨_, rfl⟩
                    rw [hye] at g2
                    repeat (refine awp_seq ?_)
                    refine e_eval (by simp only [jA, jO, jN, seval, y52, y117, vint, qA, hw1, hx, Bool.not_true, Bool.false_or, ga, gb, hx, Bool.not_true, Bool.false_or, ma, mb, g1, g2, Int.toNat_natCast] <;> with_reducible rfl) (by decide) ?_
                    repeat (refine awp_seq ?_)
                    refine dp_draw (by kernel_rfl) ?_
                    refine dp_end (by simp only [jP, jO, jN, seval, y3, y9, y24, y52, y56, y63, y117, vint, qA, hw1, hx, Bool.not_true, Bool.false_or, ga, gb, hx, Bool.not_true, Bool.false_or, ma, mb, g1, g2, Int.toNat_natCast, ga, gb] <;> with_reducible rfl) (by decide) (by repeat (first | exact Fin.base _ | with_reducible apply Fin.keep | apply Fin.drop)) ?_
                    repeat (refine awp_seq ?_)
                    refine awp_cond rfl (by simp only [jN, seval, vint, qA, hw1, hx, Bool.not_true, Bool.false_or, ga, gb, hx, Bool.not_true, Bool.false_or, ma, mb, g1, g2, Int.toNat_natCast] <;> with_reducible rfl) (fun b7 => ?_) (fun b7 => ?_)
                    ·
                      have hmi : idxI (memP pf.1.im s.name) r.syms = i := idxI_at hi (by rw [hye]; unfold memP; simpa [and_assoc] using b7) hg2
                      refine awp_sel [1, 2, 4, 5, 8, 10, 18, 20, 119, 120, 121] (by simp only [jN, seval, vint, qA, hw1, hx, Bool.not_true, Bool.false_or, ga, gb, hx, Bool.not_true, Bool.false_or, ma, mb, g1, g2, Int.toNat_natCast] <;> with_reducible rfl) ?_
                      repeat (refine awp_seq ?_)
                      refine e_eval (by simp only [jA, jO, jN, seval, y3, vint, qA, hw1, hx, Bool.not_true, Bool.false_or, ga, gb, hx, Bool.not_true, Bool.false_or, ma, mb, g1, g2, Int.toNat_natCast] <;> with_reducible rfl) (by decide) ?_
                      repeat (refine awp_seq ?_)
                      refine awp_cond rfl (by simp only [jN, seval, vint, qA, hw1, hx, Bool.not_true, Bool.false_or, ga, gb, hx, Bool.not_true, Bool.false_or, ma, mb, g1, g2, Int.toNat_natCast] <;> with_reducible rfl) (fun b8 => ?_) (fun b8 => ?_)
                      ·
                        have hd0 : d = 0 := by simp at b8; omega
                        rw [hfin, rprojN_none (t := (Ty.mk t.kind t.id q)) (a := a) hqa hTn hr3 (.inr hd0)]
                        repeat (refine awp_seq ?_)
                        refine e_eval (by simp only [jA, jO, jN, seval, y24, vint, qA, hw1, hx, Bool.not_true, Bool.false_or, ga, gb, hx, Bool.not_true, Bool.false_or, ma, mb, g1, g2, Int.toNat_natCast] <;> with_reducible rfl) (by decide) ?_
                        repeat (refine awp_seq ?_)
                        refine awp_ret ⟨.inr rfl, _, (ares_two (.cell 10 24) (.tmp 11) rfl (ares_cell1 Tryti24 (by decide) (by simp only [jL, jN, seval, vint, qA, hw1, hx, Bool.not_true, Bool.false_or, ga, gb, hx, Bool.not_true, Bool.false_or, ma, mb, g1, g2, Int.toNat_natCast] <;> with_reducible rfl)) (ares_tmp1 (by decide))), ?_⟩
                        simp only [jN, seval, vint, qA]
                        rfl
                      ·
                        have hd0 : d ≠ 0 := by simp at b8; omega
                        obtain ⟨d', rfl⟩ : ∃ d', d = d' + 1 := ⟨d - 1, by omega⟩
                        rw [hfin, rprojN_step (t := (Ty.mk t.kind t.id q)) (a := a) hqa hTn hr3 (by rw [hme, hmi]; omega)]
                        have hw2 : IntKind.i64.wrap (8 - ((d' + 1 : Nat) : Int) + 1) = 8 - (d' : Int) := by rw [wrap_id (by omega) (by omega)]; omega
                        have hi3 : i < ds.length := by omega
                        have g3 := ix_nat hi3
                        have g4 := get_enc Dc.enc hi3
                        have dmm : ds[i] ∈ ds := List.getElem_mem hi3
                        obtain ⟨dm, dme⟩ : ∃ z, ds[i] = z := ⟨_, rfl⟩
                        rw [dme] at g4 dmm
                        have za : ((0 : Int) ≤ pf.1.im ∧ pf.1.im < (ds).length) = True := by simp; omega
                        have zl : (pf.1.im).toNat < (ds).length := by omega
                        obtain ⟨di, die⟩ : ∃ z_, (ds)[(pf.1.im).toNat] = z_ := ⟨_, rfl⟩
                        have zb := get_enc Dc.enc zl
                        rw [die] at zb
                        have zd : (ds).getD (pf.1.im).toNat .zero = di := by rw [List.getD_eq_getElem?_getD, List.getElem?_eq_getElem zl, die]; rfl
                        rw [zd] at hal
                        have hdm := hd dm dmm
                        have hdi := hd di (by rw [← die]; exact List.getElem_mem _)
                        have hX : projX r.syms ds sas (Ty.mk t.kind t.id q).id a = mapT (appG di.ps pf.1.args) dm.t := by
                          unfold projX
                          rw [hsol, hme, hmi, zd, Int.toNat_natCast, List.getD_eq_getElem?_getD, List.getElem?_eq_getElem hi3, dme]; rfl
                        have hXW : (mapT (appG di.ps pf.1.args) dm.t).W := app_W hpW.el_args hdm.1.1.st_t
                        rw [hX]
                        repeat (refine awp_seq ?_)
                        refine awp_skip ?_
                        repeat (refine awp_seq ?_)
                        refine x_draw 0 rfl (by kernel_rfl) ?_
                        refine x1_take 16 rfl (by simp only [jP, jO, jN, seval, y3, y22, y24, y25, y56, y59, y63, y71, vint, qA, hw1, hx, Bool.not_true, Bool.false_or, ga, gb, hx, Bool.not_true, Bool.false_or, ma, mb, g1, g2, Int.toNat_natCast, g3, g4, za, zb, hw2] <;> with_reducible rfl) (by decide) (by decide) (by decide) ?_
                        refine x1_keep rfl (by simp only [jE, jN, seval, vint, qA, hw1, hx, Bool.not_true, Bool.false_or, ga, gb, hx, Bool.not_true, Bool.false_or, ma, mb, g1, g2, Int.toNat_natCast, g3, g4, za, zb, hw2] <;> with_reducible rfl) (by simp only [jE, jN, seval, vint, qA, hw1, hx, Bool.not_true, Bool.false_or, ga, gb, hx, Bool.not_true, Bool.false_or, ma, mb, g1, g2, Int.toNat_natCast, g3, g4, za, zb, hw2] <;> with_reducible rfl) (by simp only [jE, jN, seval, vint, qA, hw1, hx, Bool.not_true, Bool.false_or, ga, gb, hx, Bool.not_true, Bool.false_or, ma, mb, g1, g2, Int.toNat_natCast, g3, g4, za, zb, hw2]) (by decide) Trygo105 (fun hc L => applyArgs_k di.ps pf.1.args hdi.1.1.max_ps hal hpW.el_args _ dm.t (Nat.le_refl _) hdm.1.1.st_t _) ?_
                        refine x1_take 2 rfl (by simp only [jP, jO, jN, seval, y3, vint, qA, hw1, hx, Bool.not_true, Bool.false_or, ga, gb, hx, Bool.not_true, Bool.false_or, ma, mb, g1, g2, Int.toNat_natCast, g3, g4, za, zb, hw2] <;> with_reducible rfl) (by decide) (by decide) (by decide) ?_
                        refine x1_keep rfl (by simp only [jE, jN, seval, vint, qA, hw1, hx, Bool.not_true, Bool.false_or, ga, gb, hx, Bool.not_true, Bool.false_or, ma, mb, g1, g2, Int.toNat_natCast, g3, g4, za, zb, hw2] <;> with_reducible rfl) (by simp only [jE, jN, seval, vint, qA, hw1, hx, Bool.not_true, Bool.false_or, ga, gb, hx, Bool.not_true, Bool.false_or, ma, mb, g1, g2, Int.toNat_natCast, g3, g4, za, zb, hw2] <;> with_reducible rfl) (by simp only [jE, jN, seval, vint, qA, hw1, hx, Bool.not_true, Bool.false_or, ga, gb, hx, Bool.not_true, Bool.false_or, ma, mb, g1, g2, Int.toNat_natCast, g3, g4, za, zb, hw2]) (by decide) Trygo58 (fun hc L => hrec d' rfl (mapT (appG di.ps pf.1.args) dm.t) hXW _) ?_
                        refine x1_take 2 rfl (by simp only [jP, jO, jN, seval, vint, qA, hw1, hx, Bool.not_true, Bool.false_or, ga, gb, hx, Bool.not_true, Bool.false_or, ma, mb, g1, g2, Int.toNat_natCast, g3, g4, za, zb, hw2] <;> with_reducible rfl) (by decide) (by decide) (by decide) ?_
                        refine x_mid (by first | (simp only [LS, HS, List.append_assoc, List.cons_append, List.nil_append, hw1, hx, Bool.not_true, Bool.false_or, ga, gb, hx, Bool.not_true, Bool.false_or, ma, mb, g1, g2, Int.toNat_natCast, g3, g4, za, zb, hw2] <;> with_reducible rfl) | rfl) ?_
                        refine x2_end (bm := [0, 0, 0, 0, 0, 24, 56, 120, 0, 0, 512, 1792, 3840, 7936, 0, 16384, 65528, 0, 131072, 524287, 1048575, 1048575, 4194303, 8388607]) (fresh := 0) (by kernel_rfl) (by simp only [jX, jO, jN, seval, y24, vint, qA, hw1, hx, Bool.not_true, Bool.false_or, ga, gb, hx, Bool.not_true, Bool.false_or, ma, mb, g1, g2, Int.toNat_natCast, g3, g4, za, zb, hw2] <;> with_reducible rfl) (by decide) (by repeat (first | exact Fin.base _ | with_reducible apply Fin.keep | apply Fin.drop)) ?_
                        repeat (refine awp_seq ?_)
                        refine awp_ret ⟨.inr rfl, _, (ares_two (.cell 10 24) (.tmp 11) rfl (ares_cell1 Tryti24 (by decide) (by simp only [jL, jN, seval, vint, qA, hw1, hx, Bool.not_true, Bool.false_or, ga, gb, hx, Bool.not_true, Bool.false_or, ma, mb, g1, g2, Int.toNat_natCast] <;> with_reducible rfl)) (ares_tmp1 (by decide))), ?_⟩
                        simp only [jN, seval, vint, qA]
                    ·
                      repeat (refine awp_seq ?_)
                      refine awp_skip ?_
                      exact ⟨⟨rfl, rfl, trivial⟩, (), _, ⟨rfl, rfl, rfl, rfl, rfl, rfl, rfl, rfl, trivial⟩, by simp only [jN, seval, vint, qA] <;> rfl, any_take_succ hi hg2 (by rw [hye]; unfold memP; simpa [and_assoc] using b7)⟩
                  · intro u_ hg2
                    rw [List.take_length] at hg2
                    rw [hfin, rprojN_none (t := (Ty.mk t.kind t.id q)) (a := a) hqa hTn hr3 (.inl (by rw [hme, idxI_none hg2]; omega))]
                    repeat (refine awp_seq ?_)
                    refine e_eval (by simp only [jA, jO, jN, seval, y24, vint, qA, hw1, hx, Bool.not_true, Bool.false_or, ga, gb, hx, Bool.not_true, Bool.false_or, ma, mb] <;> with_reducible rfl) (by decide) ?_
                    repeat (refine awp_seq ?_)
                    refine awp_ret ⟨.inr rfl, _, (ares_two (.cell 10 24) (.tmp 11) rfl (ares_cell1 Tryti24 (by decide) (by simp only [jL, jN, seval, vint, qA, hw1, hx, Bool.not_true, Bool.false_or, ga, gb, hx, Bool.not_true, Bool.false_or, ma, mb] <;> with_reducible rfl)) (ares_tmp1 (by decide))), ?_⟩
                    simp only [jN, seval, vint, qA]
                    rfl

theorem nform_all (r : Rs) (ds : List Dc) (sas : List TB) (hlen : ds.length = r.syms.length) (hl : ds.length ≤ maxLen) (hd : ∀ d ∈ ds, d.R) (hsl : sas.length ≤ maxLen) (hs : ∀ b ∈ sas, b.W) : ∀ (d : Nat), d ≤ 8 → ∀ u : Ty, u.W → PC Try.prog 58 [r.enc, .slice (ds.map Dc.enc) .none, .slice (sas.map TB.enc) .none, u.enc, .int .i64 (8 - (d : Int))] (.tup [(rnf (rprojN r.syms ds sas d) u).1.enc, .bool (rnf (rprojN r.syms ds sas d) u).2])
  | 0, h, u, hu => nform_k r ds sas hlen hl hd hsl hs 0 h (fun d' e => by cases e) _ u (Nat.le_refl _) hu
  | d + 1, h, u, hu => nform_k r ds sas hlen hl hd hsl hs (d + 1) h (fun d' e => by cases e; exact nform_all r ds sas hlen hl hd hsl hs d (by omega)) _ u (Nat.le_refl _) hu

end Go.Abs
