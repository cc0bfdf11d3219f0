/- Part 7 of a proof of the law UnifyMatchesReference: Go data as trees, the walks of the functions that the law reaches, the plain laws. -/
import Derived.Test.YtgjpdplbjbgebaaGFUnifyMatchesReference
set_option linter.unusedVariables false
set_option linter.unusedSimpArgs false
set_option maxRecDepth 4000
namespace Go.Abs
open Go.Proofs

theorem containsIntR (xs : List Int) (n : Int) (hx : xs.length ≤ maxLen) : PC Try.prog 43 [.slice (xs.map vint) .none, vint n] (.bool (xs.any fun x => decide (x = n))) := by
  refine pc_of (N := 17) Try.func43 rfl rfl (by simp) (by simp [bel_ints0, Bel.int]) (.bool _) ?_
  repeat (refine awp_seq ?_)
  refine e_eval (by simp only [jA, jO, jN, seval, vint, TyS, TyF, BdS] <;> with_reducible rfl) (by decide) ?_
  repeat (refine awp_seq ?_)
  refine e_eval (by simp only [jA, jO, jN, seval, y3, y50, vint, TyS, TyF, BdS] <;> with_reducible rfl) (by decide) ?_
  repeat (refine awp_seq ?_)
  refine awp_forS (σ := Unit) (xs.length) (fun (s : Unit) => [(7, .slice (xs.map vint) .none), (1, vint n)]) [7, 1] ([]) (fun (s : Unit) => []) (fun (i : Nat) (s : Unit) => (xs.take i).any (fun x => decide (x = n)) = false) (()) ([]) rfl rfl rfl rfl rfl rfl rfl rfl rfl (by decide) (by decide) (by decide) (fun _ => rfl) (hx) ⟨(by first | rfl | (simp only [jN, seval, vint, TyS, TyF, BdS] <;> first | done | with_reducible rfl)), (by first | rfl | (simp only [jN, seval, vint, TyS, TyF, BdS] <;> first | done | with_reducible rfl)), (by first | rfl | (simp only [jN, seval, vint, TyS, TyF, BdS] <;> first | done | with_reducible rfl)), (by first | rfl | (simp only [jN, seval, vint, TyS, TyF, BdS] <;> first | done | with_reducible rfl)), trivial⟩ (by first | rfl | (simp only [jN, seval, vint, TyS, TyF, BdS] <;> first | done | with_reducible rfl)) (by simp) (fun _ _ _ => by first | exact Nat.zero_le _ | (simp only [List.length_append]; omega)) ?_ ?_ ?_
  · exact fun i s hg => ⟨by first | exact hbel_nil _ | (simp only [List.append_nil]; assumption) | (refine hbel_app' hb' (by simp) ?_; repeat (first | exact hbel_nil _ | exact trivial | exact obel_row_nil _ | (refine HBel.cons ?_ ?_) | (refine obel_row_cons (by first | exact bel_Bd _ _ | exact Bd.bel _ _ | exact bel_int_tok _ (by simp) | exact bel_ints0 _ _ | exact bel_slice_ty _ _ | exact Ty.bel _ _ | exact bel_ty_tok _ (by simp) | exact Bel.int _ _ | exact Bel.bool _ | exact Bel.str _ | exact Bel.nilp | exact Bel.nilfn | exact Bel.optr _ _ (by simp) | exact bel_nil0 _ | exact bel_nil1 _ | exact bel_fn0 _ _ | assumption) ?_))), by repeat (first | exact BelL.nil | refine BelL.cons (by first | exact bel_Bd _ _ | exact Bd.bel _ _ | exact bel_int_tok _ (by simp) | exact bel_ints0 _ _ | exact bel_slice_ty _ _ | exact Ty.bel _ _ | exact bel_ty_tok _ (by simp) | exact Bel.int _ _ | exact Bel.bool _ | exact Bel.str _ | exact Bel.nilp | exact Bel.nilfn | exact Bel.optr _ _ (by simp) | exact bel_nil0 _ | exact bel_nil1 _ | exact bel_fn0 _ _ | assumption) ?_)⟩
  · intro i s hi hg
    have g1 := ix_nat hi
    have g2 := get_enc vint hi
    repeat (refine awp_seq ?_)
    refine e_eval (by simp only [jA, jO, jN, seval, y3, y50, vint, TyS, TyF, BdS, g1, Int.toNat_natCast, g2] <;> with_reducible rfl) (by decide) ?_
    repeat (refine awp_seq ?_)
    refine e_eval (by simp only [jA, jO, jN, seval, y3, vint, TyS, TyF, BdS, g1, Int.toNat_natCast, g2] <;> with_reducible rfl) (by decide) ?_
    repeat (refine awp_seq ?_)
    refine awp_cond rfl (by simp only [jN, seval, vint, TyS, TyF, BdS, g1, Int.toNat_natCast, g2] <;> with_reducible rfl) (fun b0 => ?_) (fun b0 => ?_)
    ·
      repeat (refine awp_seq ?_)
      refine e_eval (by simp only [jA, jO, jN, seval, vint, TyS, TyF, BdS, g1, Int.toNat_natCast, g2] <;> with_reducible rfl) (by decide) ?_
      repeat (refine awp_seq ?_)
      refine awp_ret ⟨.inr rfl, _, rfl, ?_⟩
      have : (xs.any fun x => decide (x = n)) = true := List.any_eq_true.2 ⟨_, List.getElem_mem hi, b0⟩
      rw [this]; rfl
    ·
      repeat (refine awp_seq ?_)
      refine awp_skip ?_
      exact ⟨⟨rfl, rfl, trivial⟩, (), [], ⟨rfl, rfl, trivial⟩, rfl, any_take_succ hi hg b0⟩
  · intro s hg
    rw [List.take_length] at hg
    repeat (refine awp_seq ?_)
    refine e_eval (by simp only [jA, jO, jN, seval, vint, TyS, TyF, BdS] <;> with_reducible rfl) (by decide) ?_
    repeat (refine awp_seq ?_)
    refine awp_ret ⟨.inr rfl, _, rfl, ?_⟩
    rw [hg]; rfl

theorem inRange (n lo hi : Int) : PC Try.prog 67 [vint n, vint lo, vint hi] (.bool (decide (lo ≤ n) && decide (n ≤ hi))) := by
  refine pc_of (N := 15) Try.func67 rfl rfl (by simp) (by simp [Bel.int]) (.bool _) ?_
  repeat (refine awp_seq ?_)
  refine e_eval (by simp only [jA, jO, jN, seval, vint, TyS, TyF, BdS] <;> with_reducible rfl) (by decide) ?_
  repeat (refine awp_seq ?_)
  refine g_eval (by simp only [jG, jO, jN, seval, y3, vint, TyS, TyF, BdS] <;> with_reducible rfl) (by decide) (by repeat (first | exact Fin.base _ | with_reducible apply Fin.keep | apply Fin.drop)) ?_
  repeat (refine awp_seq ?_)
  refine awp_ret ⟨.inr rfl, _, rfl, ?_⟩
  simp only [jN, seval, vint, TyS, TyF, BdS]

theorem typeSize_k : ∀ (k : Nat) (t : Ty), t.size ≤ k → t.W → (t.size : Int) ≤ 1152921504606846976 → PC Try.prog 39 [t.enc] (.tup [vint t.size, vint (dep t)])
  | 0, t, h, _, _ => by cases t; simp [Ty.size] at h
  | k + 1, t, h, hw, hb => by
    have hts : t.size = 1 + Ty.sizes t.args := by cases t; simp [Ty.size, Ty.args]
    refine pc_of (N := 30) Try.func39 rfl rfl (by simp) (by simp [Ty.bel]) (.tup _ (by simp [Bel.int])) ?_
    repeat (refine awp_seq ?_)
    refine e_eval (by simp only [jA, jO, jN, seval, y29, vint, TyS, TyF, BdS] <;> with_reducible rfl) (by decide) ?_
    repeat (refine awp_seq ?_)
    refine e_eval (by simp only [jA, jO, jN, seval, vint, TyS, TyF, BdS] <;> with_reducible rfl) (by decide) ?_
    repeat (refine awp_seq ?_)
    refine e_eval (by simp only [jA, jO, jN, seval, y27, y29, vint, TyS, TyF, BdS] <;> with_reducible rfl) (by decide) ?_
    repeat (refine awp_seq ?_)
    refine awp_forS (σ := Int × Int) (t.args.length) (fun (q : Int × Int) => [(2, vint q.1), (3, vint q.2), (9, .slice (t.args.map Ty.enc) .none)]) [2, 3, 9] ([]) (fun (q : Int × Int) => []) (fun (i : Nat) (q : Int × Int) => (1 ≤ q.1 ∧ 1 ≤ q.2 ∧ q.2 ≤ q.1) ∧ q.1 + (Ty.sizes (t.args.drop i) : Int) = t.size ∧ depL ((t.args.map dep).drop i) q.2 = dep t) ((1, 1)) (_) rfl rfl rfl rfl rfl rfl rfl rfl rfl (by decide) (by decide) (by decide) (fun _ => rfl) (hw.lenMax) ⟨(by first | rfl | (simp only [jN, seval, vint, TyS, TyF, BdS] <;> first | done | with_reducible rfl)), (by first | rfl | (simp only [jN, seval, vint, TyS, TyF, BdS] <;> first | done | with_reducible rfl)), (by first | rfl | (simp only [jN, seval, vint, TyS, TyF, BdS] <;> first | done | with_reducible rfl)), (by first | rfl | (simp only [jN, seval, vint, TyS, TyF, BdS] <;> first | done | with_reducible rfl)), (by first | rfl | (simp only [jN, seval, vint, TyS, TyF, BdS] <;> first | done | with_reducible rfl)), trivial⟩ (by first | rfl | (simp only [jN, seval, vint, TyS, TyF, BdS] <;> first | done | with_reducible rfl)) (⟨by decide, by simp only [List.drop_zero]; omega, by rw [dep_eq]; rfl⟩) (fun _ _ _ => by first | exact Nat.zero_le _ | (simp only [List.length_append]; omega)) ?_ ?_ ?_
    · exact fun i s hg => ⟨by first | exact hbel_nil _ | (simp only [List.append_nil]; assumption) | (refine hbel_app' hb' (by simp) ?_; repeat (first | exact hbel_nil _ | exact trivial | exact obel_row_nil _ | (refine HBel.cons ?_ ?_) | (refine obel_row_cons (by first | exact bel_Bd _ _ | exact Bd.bel _ _ | exact bel_int_tok _ (by simp) | exact bel_ints0 _ _ | exact bel_slice_ty _ _ | exact Ty.bel _ _ | exact bel_ty_tok _ (by simp) | exact Bel.int _ _ | exact Bel.bool _ | exact Bel.str _ | exact Bel.nilp | exact Bel.nilfn | exact Bel.optr _ _ (by simp) | exact bel_nil0 _ | exact bel_nil1 _ | exact bel_fn0 _ _ | assumption) ?_))), by repeat (first | exact BelL.nil | refine BelL.cons (by first | exact bel_Bd _ _ | exact Bd.bel _ _ | exact bel_int_tok _ (by simp) | exact bel_ints0 _ _ | exact bel_slice_ty _ _ | exact Ty.bel _ _ | exact bel_ty_tok _ (by simp) | exact Bel.int _ _ | exact Bel.bool _ | exact Bel.str _ | exact Bel.nilp | exact Bel.nilfn | exact Bel.optr _ _ (by simp) | exact bel_nil0 _ | exact bel_nil1 _ | exact bel_fn0 _ _ | assumption) ?_)⟩
    · intro i q hi hg
      obtain ⟨⟨q1, q2, q3⟩, hg1, hg2⟩ := hg
      have g1 := ix_nat hi
      have g2 := get_enc Ty.enc hi
      have hmem : t.args[i] ∈ t.args := List.getElem_mem hi
      have hsa := Ty.size_arg hmem
      rw [List.drop_eq_getElem_cons hi, Ty.sizes] at hg1
      rw [List.drop_eq_getElem_cons (by simpa using hi), List.getElem_map, depL_cons] at hg2
      have hdu := dep_bd t.args[i]
      have hwr1 : IntKind.i64.wrap (q.1 + (t.args[i].size : Int)) = q.1 + (t.args[i].size : Int) := wrap_id (by omega) (by omega)
      have hwr2 : IntKind.i64.wrap (dep t.args[i] + 1) = dep t.args[i] + 1 := wrap_id (by omega) (by omega)
      repeat (refine awp_seq ?_)
      refine e_eval (by simp only [jA, jO, jN, seval, y27, y29, vint, TyS, TyF, BdS, g1, g2, Int.toNat_natCast] <;> with_reducible rfl) (by decide) ?_
      repeat (refine awp_seq ?_)
      refine awp_region ?_
      refine e_take 1 (by simp only [jA, jO, jN, seval, y29, vint, TyS, TyF, BdS, g1, g2, Int.toNat_natCast] <;> with_reducible rfl) (by decide) ?_
      refine aops_pure (by simp only [jC, jN, seval, vint, TyS, TyF, BdS, g1, g2, Int.toNat_natCast] <;> with_reducible rfl) (by simp only [jC, jN, seval, vint, TyS, TyF, BdS, g1, g2, Int.toNat_natCast]) (by decide) Trygo39 (typeSize_k k t.args[i] (by omega) (hw.arg hmem) (by omega) _) ?_
      refine e_end (by simp only [jA, jO, jN, seval, vint, TyS, TyF, BdS, g1, g2, Int.toNat_natCast] <;> with_reducible rfl) (by decide) ?_
      repeat (refine awp_seq ?_)
      refine e_eval (by simp only [jA, jO, jN, seval, y3, vint, TyS, TyF, BdS, g1, g2, Int.toNat_natCast, hwr1] <;> with_reducible rfl) (by decide) ?_
      repeat (refine awp_seq ?_)
      refine e_eval (by simp only [jA, jO, jN, seval, y3, vint, TyS, TyF, BdS, g1, g2, Int.toNat_natCast, hwr2] <;> with_reducible rfl) (by decide) ?_
      exact ⟨⟨rfl, rfl, trivial⟩, (q.1 + (t.args[i].size : Int), max q.2 (dep t.args[i] + 1)), _, ⟨rfl, rfl, rfl, trivial⟩, rfl, ⟨by simp only; omega, by simp only; omega, by simp only; omega⟩, by simp only; omega, hg2⟩
    · intro q hg
      obtain ⟨_, hg1, hg2⟩ := hg
      rw [List.drop_eq_nil_of_le (by simp)] at hg1 hg2
      have e1 : q.1 = t.size := by simpa [Ty.sizes] using hg1
      have e2 : q.2 = dep t := hg2
      repeat (refine awp_seq ?_)
      refine e_eval (by simp only [jA, jO, jN, seval, vint, TyS, TyF, BdS] <;> with_reducible rfl) (by decide) ?_
      repeat (refine awp_seq ?_)
      refine awp_ret ⟨.inr rfl, _, (ares_two (.tmp 2) (.tmp 3) rfl (ares_tmp1 (by decide)) (ares_tmp1 (by decide))), ?_⟩
      rw [← e1, ← e2]; rfl

theorem typeWF_0 (t : Ty) (hk : t.kind = 0) (hw : t.W) (ih : ∀ u ∈ t.args, PC Try.prog 40 [u.enc] (.bool (wfT u))) : PC Try.prog 40 [t.enc] (.bool (wfT t)) := by
  have hlen0 : (0 : Int) ≤ (t.args.length : Int) := by omega
  have d0 : decide (t.kind = 0) = true := decide_eq_true hk
  have d1 : decide (t.kind = 1) = false := decide_eq_false (by omega)
  have d2 : decide (t.kind = 2) = false := decide_eq_false (by omega)
  have d3 : decide (t.kind = 3) = false := decide_eq_false (by omega)
  have d4 : decide (t.kind = 4) = false := decide_eq_false (by omega)
  have d5 : decide (t.kind = 5) = false := decide_eq_false (by omega)
  have d6 : decide (t.kind = 6) = false := decide_eq_false (by omega)
  have d7 : decide (t.kind = 7) = false := decide_eq_false (by omega)
  have d8 : decide (t.kind = 8) = false := decide_eq_false (by omega)
  have d9 : decide (t.kind = 9) = false := decide_eq_false (by omega)
  have d10 : decide (t.kind = 10) = false := decide_eq_false (by omega)
  refine pc_of (N := 66) Try.func40 rfl rfl (by simp) (by simp [Ty.bel]) (.bool _) ?_
  repeat (refine awp_seq ?_)
  refine e_eval (by simp only [jA, jO, jN, seval, y29, vint, TyS, TyF, BdS, Int.cast_ofNat_Int, d0, d1, d2, d3, d4, d5, d6, d7, d8, d9, d10] <;> with_reducible rfl) (by decide) ?_
  repeat (refine awp_seq ?_)
  refine e_eval (by simp only [jA, jO, jN, seval, vint, TyS, TyF, BdS, Int.cast_ofNat_Int, d0, d1, d2, d3, d4, d5, d6, d7, d8, d9, d10] <;> with_reducible rfl) (by decide) ?_
  repeat (refine awp_seq ?_)
  refine e_eval (by simp only [jA, jO, jN, seval, y3, y29, vint, TyS, TyF, BdS, Int.cast_ofNat_Int, d0, d1, d2, d3, d4, d5, d6, d7, d8, d9, d10] <;> with_reducible rfl) (by decide) ?_
  repeat (refine awp_seq ?_)
  refine awp_block ?_
  repeat (refine awp_seq ?_)
  refine e_eval (by simp only [jA, jO, jN, seval, y3, vint, TyS, TyF, BdS, Int.cast_ofNat_Int, d0, d1, d2, d3, d4, d5, d6, d7, d8, d9, d10] <;> with_reducible rfl) (by decide) ?_
  repeat (refine awp_seq ?_)
  refine awp_cond_true rfl (by simp only [jN, seval, vint, TyS, TyF, BdS, Int.cast_ofNat_Int, d0, d1, d2, d3, d4, d5, d6, d7, d8, d9, d10] <;> with_reducible rfl) ?_
  repeat (refine awp_seq ?_)
  refine awp_skip ?_
  repeat (refine awp_seq ?_)
  refine awp_cond_true rfl (by simp only [jN, seval, vint, TyS, TyF, BdS, Int.cast_ofNat_Int, d0, d1, d2, d3, d4, d5, d6, d7, d8, d9, d10] <;> with_reducible rfl) ?_
  repeat (refine awp_seq ?_)
  refine awp_skip ?_
  repeat (refine awp_seq ?_)
  refine awp_region ?_
  refine aops_gstart ?_
  refine g_take 5 (by simp only [jG, jO, jN, seval, y27, y29, vint, TyS, TyF, BdS, Int.cast_ofNat_Int, d0, d1, d2, d3, d4, d5, d6, d7, d8, d9, d10] <;> with_reducible rfl) (by decide) ?_
  refine aops_gpure (by simp only [jE, jN, seval, vint, TyS, TyF, BdS, Int.cast_ofNat_Int, d0, d1, d2, d3, d4, d5, d6, d7, d8, d9, d10] <;> with_reducible rfl) (by simp only [jE, jN, seval, vint, TyS, TyF, BdS, Int.cast_ofNat_Int, d0, d1, d2, d3, d4, d5, d6, d7, d8, d9, d10] <;> with_reducible rfl) (by simp only [jE, jN, seval, vint, TyS, TyF, BdS, Int.cast_ofNat_Int, d0, d1, d2, d3, d4, d5, d6, d7, d8, d9, d10]) (by decide) Trygo67 (fun hc => inRange _ _ _ _) ?_
  refine g_end (by simp only [jG, jO, jN, seval, y3, y29, vint, TyS, TyF, BdS, Int.cast_ofNat_Int, d0, d1, d2, d3, d4, d5, d6, d7, d8, d9, d10] <;> with_reducible rfl) (by decide) (by repeat (first | exact Fin.base _ | with_reducible apply Fin.keep | apply Fin.drop)) ?_
  repeat (refine awp_seq ?_)
  refine awp_cond rfl (by simp only [jN, seval, vint, TyS, TyF, BdS, Int.cast_ofNat_Int, d0, d1, d2, d3, d4, d5, d6, d7, d8, d9, d10] <;> with_reducible rfl) (fun bt54 => ?_) (fun bt54 => ?_)
  ·
    have hn : nwf t = false := by
      unfold nwf
      simp only [d0, d1, d2, d3, d4, d5, d6, d7, d8, d9, d10, Bool.or_false, Bool.or_true, Bool.false_or, Bool.true_or, if_true, if_false, Bool.false_eq_true]
      rw [Bool.eq_false_iff]
      intro hh
      simp only [Bool.or_eq_true, Bool.and_eq_true, Bool.not_eq_true', Bool.and_eq_false_iff, Bool.or_eq_false_iff, Bool.not_eq_false', decide_eq_true_eq, decide_eq_false_iff_not] at hh bt54
      omega
    have hwf : wfT t = false := by rw [wfT_eq, hn]; rfl
    refine awp_sel [] (by simp only [jN, seval, vint, TyS, TyF, BdS, Int.cast_ofNat_Int, d0, d1, d2, d3, d4, d5, d6, d7, d8, d9, d10] <;> with_reducible rfl) ?_
    repeat (refine awp_seq ?_)
    refine e_eval (by simp only [jA, jO, jN, seval, vint, TyS, TyF, BdS, Int.cast_ofNat_Int, d0, d1, d2, d3, d4, d5, d6, d7, d8, d9, d10] <;> with_reducible rfl) (by decide) ?_
    repeat (refine awp_seq ?_)
    refine awp_ret ⟨.inr rfl, _, rfl, ?_⟩
    rw [hwf]; rfl
  ·
    have hn : nwf t = true := by
      unfold nwf
      simp only [d0, d1, d2, d3, d4, d5, d6, d7, d8, d9, d10, Bool.or_false, Bool.or_true, Bool.false_or, Bool.true_or, if_true, if_false, Bool.false_eq_true]
      simp only [Bool.or_eq_true, Bool.and_eq_true, Bool.not_eq_true', Bool.and_eq_false_iff, Bool.or_eq_false_iff, Bool.not_eq_false', decide_eq_true_eq, decide_eq_false_iff_not] at bt54 ⊢
      omega
    repeat (refine awp_seq ?_)
    refine awp_skip ?_
    refine awp_sel [1] (by simp only [jN, seval, vint, TyS, TyF, BdS, Int.cast_ofNat_Int, d0, d1, d2, d3, d4, d5, d6, d7, d8, d9, d10] <;> with_reducible rfl) ?_
    repeat (refine awp_seq ?_)
    refine e_eval (by simp only [jA, jO, jN, seval, y27, y29, vint, TyS, TyF, BdS, Int.cast_ofNat_Int, d0, d1, d2, d3, d4, d5, d6, d7, d8, d9, d10] <;> with_reducible rfl) (by decide) ?_
    repeat (refine awp_seq ?_)
    refine awp_forS (σ := Unit) (t.args.length) (fun (s : Unit) => [(56, .slice (t.args.map Ty.enc) .none)]) [56] ([]) (fun (s : Unit) => []) (fun (i : Nat) (s : Unit) => (t.args.take i).any (fun u => !wfT u) = false) (()) (_) rfl rfl rfl rfl rfl rfl rfl rfl rfl (by decide) (by decide) (by decide) (fun _ => rfl) (hw.lenMax) ⟨(by first | rfl | (simp only [jN, seval, vint, TyS, TyF, BdS, Int.cast_ofNat_Int, d0, d1, d2, d3, d4, d5, d6, d7, d8, d9, d10] <;> first | done | with_reducible rfl)), (by first | rfl | (simp only [jN, seval, vint, TyS, TyF, BdS, Int.cast_ofNat_Int, d0, d1, d2, d3, d4, d5, d6, d7, d8, d9, d10] <;> first | done | with_reducible rfl)), (by first | rfl | (simp only [jN, seval, vint, TyS, TyF, BdS, Int.cast_ofNat_Int, d0, d1, d2, d3, d4, d5, d6, d7, d8, d9, d10] <;> first | done | with_reducible rfl)), trivial⟩ (by first | rfl | (simp only [jN, seval, vint, TyS, TyF, BdS, Int.cast_ofNat_Int, d0, d1, d2, d3, d4, d5, d6, d7, d8, d9, d10] <;> first | done | with_reducible rfl)) (by simp) (fun _ _ _ => by first | exact Nat.zero_le _ | (simp only [List.length_append]; omega)) ?_ ?_ ?_
    · exact fun i s hg => ⟨by first | exact hbel_nil _ | (simp only [List.append_nil]; assumption) | (refine hbel_app' hb' (by simp) ?_; repeat (first | exact hbel_nil _ | exact trivial | exact obel_row_nil _ | (refine HBel.cons ?_ ?_) | (refine obel_row_cons (by first | exact bel_Bd _ _ | exact Bd.bel _ _ | exact bel_int_tok _ (by simp) | exact bel_ints0 _ _ | exact bel_slice_ty _ _ | exact Ty.bel _ _ | exact bel_ty_tok _ (by simp) | exact Bel.int _ _ | exact Bel.bool _ | exact Bel.str _ | exact Bel.nilp | exact Bel.nilfn | exact Bel.optr _ _ (by simp) | exact bel_nil0 _ | exact bel_nil1 _ | exact bel_fn0 _ _ | assumption) ?_))), by repeat (first | exact BelL.nil | refine BelL.cons (by first | exact bel_Bd _ _ | exact Bd.bel _ _ | exact bel_int_tok _ (by simp) | exact bel_ints0 _ _ | exact bel_slice_ty _ _ | exact Ty.bel _ _ | exact bel_ty_tok _ (by simp) | exact Bel.int _ _ | exact Bel.bool _ | exact Bel.str _ | exact Bel.nilp | exact Bel.nilfn | exact Bel.optr _ _ (by simp) | exact bel_nil0 _ | exact bel_nil1 _ | exact bel_fn0 _ _ | assumption) ?_)⟩
    · intro i s hi hg
      have g1 := ix_nat hi
      have g2 := get_enc Ty.enc hi
      have hmem : t.args[i] ∈ t.args := List.getElem_mem hi
      repeat (refine awp_seq ?_)
      refine e_eval (by simp only [jA, jO, jN, seval, y27, y29, vint, TyS, TyF, BdS, Int.cast_ofNat_Int, d0, d1, d2, d3, d4, d5, d6, d7, d8, d9, d10, g1, g2, Int.toNat_natCast] <;> with_reducible rfl) (by decide) ?_
      repeat (refine awp_seq ?_)
      refine awp_region ?_
      refine e_take 1 (by simp only [jA, jO, jN, seval, y29, vint, TyS, TyF, BdS, Int.cast_ofNat_Int, d0, d1, d2, d3, d4, d5, d6, d7, d8, d9, d10, g1, g2, Int.toNat_natCast] <;> with_reducible rfl) (by decide) ?_
      refine aops_pure (by simp only [jC, jN, seval, vint, TyS, TyF, BdS, Int.cast_ofNat_Int, d0, d1, d2, d3, d4, d5, d6, d7, d8, d9, d10, g1, g2, Int.toNat_natCast] <;> with_reducible rfl) (by simp only [jC, jN, seval, vint, TyS, TyF, BdS, Int.cast_ofNat_Int, d0, d1, d2, d3, d4, d5, d6, d7, d8, d9, d10, g1, g2, Int.toNat_natCast]) (by decide) Trygo40 (ih t.args[i] hmem _) ?_
      refine e_end (by simp only [jA, jO, jN, seval, vint, TyS, TyF, BdS, Int.cast_ofNat_Int, d0, d1, d2, d3, d4, d5, d6, d7, d8, d9, d10, g1, g2, Int.toNat_natCast] <;> with_reducible rfl) (by decide) ?_
      repeat (refine awp_seq ?_)
      refine awp_cond rfl (by simp only [jN, seval, vint, TyS, TyF, BdS, Int.cast_ofNat_Int, d0, d1, d2, d3, d4, d5, d6, d7, d8, d9, d10, g1, g2, Int.toNat_natCast] <;> with_reducible rfl) (fun bt64 => ?_) (fun bt64 => ?_)
      ·
        have hbad : (t.args.any fun u => !wfT u) = true := List.any_eq_true.2 ⟨_, hmem, bt64⟩
        have hwf : wfT t = false := by rw [wfT_eq, hn, hbad]; rfl
        repeat (refine awp_seq ?_)
        refine e_eval (by simp only [jA, jO, jN, seval, vint, TyS, TyF, BdS, Int.cast_ofNat_Int, d0, d1, d2, d3, d4, d5, d6, d7, d8, d9, d10, g1, g2, Int.toNat_natCast] <;> with_reducible rfl) (by decide) ?_
        repeat (refine awp_seq ?_)
        refine awp_ret ⟨.inr rfl, _, rfl, ?_⟩
        rw [hwf]; rfl
      ·
        repeat (refine awp_seq ?_)
        refine awp_skip ?_
        exact ⟨⟨rfl, rfl, trivial⟩, (), _, ⟨rfl, trivial⟩, rfl, any_take_succ hi hg bt64⟩
    · intro s hg
      rw [List.take_length] at hg
      have hwf : wfT t = true := by rw [wfT_eq, hn, hg]; rfl
      repeat (refine awp_seq ?_)
      refine e_eval (by simp only [jA, jO, jN, seval, vint, TyS, TyF, BdS, Int.cast_ofNat_Int, d0, d1, d2, d3, d4, d5, d6, d7, d8, d9, d10] <;> with_reducible rfl) (by decide) ?_
      repeat (refine awp_seq ?_)
      refine awp_ret ⟨.inr rfl, _, rfl, ?_⟩
      rw [hwf]; rfl

theorem typeWF_1 (t : Ty) (hk : t.kind = 1) (hw : t.W) (ih : ∀ u ∈ t.args, PC Try.prog 40 [u.enc] (.bool (wfT u))) : PC Try.prog 40 [t.enc] (.bool (wfT t)) := by
  have hlen0 : (0 : Int) ≤ (t.args.length : Int) := by omega
  have d0 : decide (t.kind = 0) = false := decide_eq_false (by omega)
  have d1 : decide (t.kind = 1) = true := decide_eq_true hk
  have d2 : decide (t.kind = 2) = false := decide_eq_false (by omega)
  have d3 : decide (t.kind = 3) = false := decide_eq_false (by omega)
  have d4 : decide (t.kind = 4) = false := decide_eq_false (by omega)
  have d5 : decide (t.kind = 5) = false := decide_eq_false (by omega)
  have d6 : decide (t.kind = 6) = false := decide_eq_false (by omega)
  have d7 : decide (t.kind = 7) = false := decide_eq_false (by omega)
  have d8 : decide (t.kind = 8) = false := decide_eq_false (by omega)
  have d9 : decide (t.kind = 9) = false := decide_eq_false (by omega)
  have d10 : decide (t.kind = 10) = false := decide_eq_false (by omega)
  refine pc_of (N := 66) Try.func40 rfl rfl (by simp) (by simp [Ty.bel]) (.bool _) ?_
  repeat (refine awp_seq ?_)
  refine e_eval (by simp only [jA, jO, jN, seval, y29, vint, TyS, TyF, BdS, Int.cast_ofNat_Int, d0, d1, d2, d3, d4, d5, d6, d7, d8, d9, d10] <;> with_reducible rfl) (by decide) ?_
  repeat (refine awp_seq ?_)
  refine e_eval (by simp only [jA, jO, jN, seval, vint, TyS, TyF, BdS, Int.cast_ofNat_Int, d0, d1, d2, d3, d4, d5, d6, d7, d8, d9, d10] <;> with_reducible rfl) (by decide) ?_
  repeat (refine awp_seq ?_)
  refine e_eval (by simp only [jA, jO, jN, seval, y3, y29, vint, TyS, TyF, BdS, Int.cast_ofNat_Int, d0, d1, d2, d3, d4, d5, d6, d7, d8, d9, d10] <;> with_reducible rfl) (by decide) ?_
  repeat (refine awp_seq ?_)
  refine awp_block ?_
  repeat (refine awp_seq ?_)
  refine e_eval (by simp only [jA, jO, jN, seval, y3, vint, TyS, TyF, BdS, Int.cast_ofNat_Int, d0, d1, d2, d3, d4, d5, d6, d7, d8, d9, d10] <;> with_reducible rfl) (by decide) ?_
  repeat (refine awp_seq ?_)
  refine awp_cond_false rfl (by simp only [jN, seval, vint, TyS, TyF, BdS, Int.cast_ofNat_Int, d0, d1, d2, d3, d4, d5, d6, d7, d8, d9, d10] <;> with_reducible rfl) ?_
  repeat (refine awp_seq ?_)
  refine e_eval (by simp only [jA, jO, jN, seval, y3, vint, TyS, TyF, BdS, Int.cast_ofNat_Int, d0, d1, d2, d3, d4, d5, d6, d7, d8, d9, d10] <;> with_reducible rfl) (by decide) ?_
  repeat (refine awp_seq ?_)
  refine awp_cond_false rfl (by simp only [jN, seval, vint, TyS, TyF, BdS, Int.cast_ofNat_Int, d0, d1, d2, d3, d4, d5, d6, d7, d8, d9, d10] <;> with_reducible rfl) ?_
  repeat (refine awp_seq ?_)
  refine e_eval (by simp only [jA, jO, jN, seval, y3, vint, TyS, TyF, BdS, Int.cast_ofNat_Int, d0, d1, d2, d3, d4, d5, d6, d7, d8, d9, d10] <;> with_reducible rfl) (by decide) ?_
  repeat (refine awp_seq ?_)
  refine awp_cond_false rfl (by simp only [jN, seval, vint, TyS, TyF, BdS, Int.cast_ofNat_Int, d0, d1, d2, d3, d4, d5, d6, d7, d8, d9, d10] <;> with_reducible rfl) ?_
  repeat (refine awp_seq ?_)
  refine e_eval (by simp only [jA, jO, jN, seval, y3, vint, TyS, TyF, BdS, Int.cast_ofNat_Int, d0, d1, d2, d3, d4, d5, d6, d7, d8, d9, d10] <;> with_reducible rfl) (by decide) ?_
  repeat (refine awp_seq ?_)
  refine awp_cond_false rfl (by simp only [jN, seval, vint, TyS, TyF, BdS, Int.cast_ofNat_Int, d0, d1, d2, d3, d4, d5, d6, d7, d8, d9, d10] <;> with_reducible rfl) ?_
  refine awp_sel [1, 3, 4, 5, 9] (by simp only [jN, seval, vint, TyS, TyF, BdS, Int.cast_ofNat_Int, d0, d1, d2, d3, d4, d5, d6, d7, d8, d9, d10] <;> with_reducible rfl) ?_
  repeat (refine awp_seq ?_)
  refine e_eval (by simp only [jA, jO, jN, seval, y3, vint, TyS, TyF, BdS, Int.cast_ofNat_Int, d0, d1, d2, d3, d4, d5, d6, d7, d8, d9, d10] <;> with_reducible rfl) (by decide) ?_
  repeat (refine awp_seq ?_)
  refine awp_cond_false rfl (by simp only [jN, seval, vint, TyS, TyF, BdS, Int.cast_ofNat_Int, d0, d1, d2, d3, d4, d5, d6, d7, d8, d9, d10] <;> with_reducible rfl) ?_
  repeat (refine awp_seq ?_)
  refine e_eval (by simp only [jA, jO, jN, seval, y3, vint, TyS, TyF, BdS, Int.cast_ofNat_Int, d0, d1, d2, d3, d4, d5, d6, d7, d8, d9, d10] <;> with_reducible rfl) (by decide) ?_
  repeat (refine awp_seq ?_)
  refine awp_cond_true rfl (by simp only [jN, seval, vint, TyS, TyF, BdS, Int.cast_ofNat_Int, d0, d1, d2, d3, d4, d5, d6, d7, d8, d9, d10] <;> with_reducible rfl) ?_
  repeat (refine awp_seq ?_)
  refine awp_skip ?_
  repeat (refine awp_seq ?_)
  refine awp_cond_true rfl (by simp only [jN, seval, vint, TyS, TyF, BdS, Int.cast_ofNat_Int, d0, d1, d2, d3, d4, d5, d6, d7, d8, d9, d10] <;> with_reducible rfl) ?_
  repeat (refine awp_seq ?_)
  refine e_eval (by simp only [jA, jO, jN, seval, vint, TyS, TyF, BdS, Int.cast_ofNat_Int, d0, d1, d2, d3, d4, d5, d6, d7, d8, d9, d10] <;> with_reducible rfl) (by decide) ?_
  repeat (refine awp_seq ?_)
  refine awp_region ?_
  refine aops_gstart ?_
  refine g_take 5 (by simp only [jG, jO, jN, seval, y27, y29, vint, TyS, TyF, BdS, Int.cast_ofNat_Int, d0, d1, d2, d3, d4, d5, d6, d7, d8, d9, d10] <;> with_reducible rfl) (by decide) ?_
  refine aops_gpure (by simp only [jE, jN, seval, vint, TyS, TyF, BdS, Int.cast_ofNat_Int, d0, d1, d2, d3, d4, d5, d6, d7, d8, d9, d10] <;> with_reducible rfl) (by simp only [jE, jN, seval, vint, TyS, TyF, BdS, Int.cast_ofNat_Int, d0, d1, d2, d3, d4, d5, d6, d7, d8, d9, d10] <;> with_reducible rfl) (by simp only [jE, jN, seval, vint, TyS, TyF, BdS, Int.cast_ofNat_Int, d0, d1, d2, d3, d4, d5, d6, d7, d8, d9, d10]) (by decide) Trygo67 (fun hc => inRange _ _ _ _) ?_
  refine g_end (by simp only [jG, jO, jN, seval, y3, y29, vint, TyS, TyF, BdS, Int.cast_ofNat_Int, d0, d1, d2, d3, d4, d5, d6, d7, d8, d9, d10] <;> with_reducible rfl) (by decide) (by repeat (first | exact Fin.base _ | with_reducible apply Fin.keep | apply Fin.drop)) ?_
  repeat (refine awp_seq ?_)
  refine awp_cond rfl (by simp only [jN, seval, vint, TyS, TyF, BdS, Int.cast_ofNat_Int, d0, d1, d2, d3, d4, d5, d6, d7, d8, d9, d10] <;> with_reducible rfl) (fun bt54 => ?_) (fun bt54 => ?_)
  ·
    have hn : nwf t = false := by
      unfold nwf
      simp only [d0, d1, d2, d3, d4, d5, d6, d7, d8, d9, d10, Bool.or_false, Bool.or_true, Bool.false_or, Bool.true_or, if_true, if_false, Bool.false_eq_true]
      rw [Bool.eq_false_iff]
      intro hh
      simp only [Bool.or_eq_true, Bool.and_eq_true, Bool.not_eq_true', Bool.and_eq_false_iff, Bool.or_eq_false_iff, Bool.not_eq_false', decide_eq_true_eq, decide_eq_false_iff_not] at hh bt54
      omega
    have hwf : wfT t = false := by rw [wfT_eq, hn]; rfl
    refine awp_sel [] (by simp only [jN, seval, vint, TyS, TyF, BdS, Int.cast_ofNat_Int, d0, d1, d2, d3, d4, d5, d6, d7, d8, d9, d10] <;> with_reducible rfl) ?_
    repeat (refine awp_seq ?_)
    refine e_eval (by simp only [jA, jO, jN, seval, vint, TyS, TyF, BdS, Int.cast_ofNat_Int, d0, d1, d2, d3, d4, d5, d6, d7, d8, d9, d10] <;> with_reducible rfl) (by decide) ?_
    repeat (refine awp_seq ?_)
    refine awp_ret ⟨.inr rfl, _, rfl, ?_⟩
    rw [hwf]; rfl
  ·
    have hn : nwf t = true := by
      unfold nwf
      simp only [d0, d1, d2, d3, d4, d5, d6, d7, d8, d9, d10, Bool.or_false, Bool.or_true, Bool.false_or, Bool.true_or, if_true, if_false, Bool.false_eq_true]
      simp only [Bool.or_eq_true, Bool.and_eq_true, Bool.not_eq_true', Bool.and_eq_false_iff, Bool.or_eq_false_iff, Bool.not_eq_false', decide_eq_true_eq, decide_eq_false_iff_not] at bt54 ⊢
      omega
    repeat (refine awp_seq ?_)
    refine awp_skip ?_
    refine awp_sel [1] (by simp only [jN, seval, vint, TyS, TyF, BdS, Int.cast_ofNat_Int, d0, d1, d2, d3, d4, d5, d6, d7, d8, d9, d10] <;> with_reducible rfl) ?_
    repeat (refine awp_seq ?_)
    refine e_eval (by simp only [jA, jO, jN, seval, y27, y29, vint, TyS, TyF, BdS, Int.cast_ofNat_Int, d0, d1, d2, d3, d4, d5, d6, d7, d8, d9, d10] <;> with_reducible rfl) (by decide) ?_
    repeat (refine awp_seq ?_)
    refine awp_forS (σ := Unit) (t.args.length) (fun (s : Unit) => [(56, .slice (t.args.map Ty.enc) .none)]) [56] ([]) (fun (s : Unit) => []) (fun (i : Nat) (s : Unit) => (t.args.take i).any (fun u => !wfT u) = false) (()) (_) rfl rfl rfl rfl rfl rfl rfl rfl rfl (by decide) (by decide) (by decide) (fun _ => rfl) (hw.lenMax) ⟨(by first | rfl | (simp only [jN, seval, vint, TyS, TyF, BdS, Int.cast_ofNat_Int, d0, d1, d2, d3, d4, d5, d6, d7, d8, d9, d10] <;> first | done | with_reducible rfl)), (by first | rfl | (simp only [jN, seval, vint, TyS, TyF, BdS, Int.cast_ofNat_Int, d0, d1, d2, d3, d4, d5, d6, d7, d8, d9, d10] <;> first | done | with_reducible rfl)), (by first | rfl | (simp only [jN, seval, vint, TyS, TyF, BdS, Int.cast_ofNat_Int, d0, d1, d2, d3, d4, d5, d6, d7, d8, d9, d10] <;> first | done | with_reducible rfl)), trivial⟩ (by first | rfl | (simp only [jN, seval, vint, TyS, TyF, BdS, Int.cast_ofNat_Int, d0, d1, d2, d3, d4, d5, d6, d7, d8, d9, d10] <;> first | done | with_reducible rfl)) (by simp) (fun _ _ _ => by first | exact Nat.zero_le _ | (simp only [List.length_append]; omega)) ?_ ?_ ?_
    · exact fun i s hg => ⟨by first | exact hbel_nil _ | (simp only [List.append_nil]; assumption) | (refine hbel_app' hb' (by simp) ?_; repeat (first | exact hbel_nil _ | exact trivial | exact obel_row_nil _ | (refine HBel.cons ?_ ?_) | (refine obel_row_cons (by first | exact bel_Bd _ _ | exact Bd.bel _ _ | exact bel_int_tok _ (by simp) | exact bel_ints0 _ _ | exact bel_slice_ty _ _ | exact Ty.bel _ _ | exact bel_ty_tok _ (by simp) | exact Bel.int _ _ | exact Bel.bool _ | exact Bel.str _ | exact Bel.nilp | exact Bel.nilfn | exact Bel.optr _ _ (by simp) | exact bel_nil0 _ | exact bel_nil1 _ | exact bel_fn0 _ _ | assumption) ?_))), by repeat (first | exact BelL.nil | refine BelL.cons (by first | exact bel_Bd _ _ | exact Bd.bel _ _ | exact bel_int_tok _ (by simp) | exact bel_ints0 _ _ | exact bel_slice_ty _ _ | exact Ty.bel _ _ | exact bel_ty_tok _ (by simp) | exact Bel.int _ _ | exact Bel.bool _ | exact Bel.str _ | exact Bel.nilp | exact Bel.nilfn | exact Bel.optr _ _ (by simp) | exact bel_nil0 _ | exact bel_nil1 _ | exact bel_fn0 _ _ | assumption) ?_)⟩
    · intro i s hi hg
      have g1 := ix_nat hi
      have g2 := get_enc Ty.enc hi
      have hmem : t.args[i] ∈ t.args := List.getElem_mem hi
      repeat (refine awp_seq ?_)
      refine e_eval (by simp only [jA, jO, jN, seval, y27, y29, vint, TyS, TyF, BdS, Int.cast_ofNat_Int, d0, d1, d2, d3, d4, d5, d6, d7, d8, d9, d10, g1, g2, Int.toNat_natCast] <;> with_reducible rfl) (by decide) ?_
      repeat (refine awp_seq ?_)
      refine awp_region ?_
      refine e_take 1 (by simp only [jA, jO, jN, seval, y29, vint, TyS, TyF, BdS, Int.cast_ofNat_Int, d0, d1, d2, d3, d4, d5, d6, d7, d8, d9, d10, g1, g2, Int.toNat_natCast] <;> with_reducible rfl) (by decide) ?_
      refine aops_pure (by simp only [jC, jN, seval, vint, TyS, TyF, BdS, Int.cast_ofNat_Int, d0, d1, d2, d3, d4, d5, d6, d7, d8, d9, d10, g1, g2, Int.toNat_natCast] <;> with_reducible rfl) (by simp only [jC, jN, seval, vint, TyS, TyF, BdS, Int.cast_ofNat_Int, d0, d1, d2, d3, d4, d5, d6, d7, d8, d9, d10, g1, g2, Int.toNat_natCast]) (by decide) Trygo40 (ih t.args[i] hmem _) ?_
      refine e_end (by simp only [jA, jO, jN, seval, vint, TyS, TyF, BdS, Int.cast_ofNat_Int, d0, d1, d2, d3, d4, d5, d6, d7, d8, d9, d10, g1, g2, Int.toNat_natCast] <;> with_reducible rfl) (by decide) ?_
      repeat (refine awp_seq ?_)
      refine awp_cond rfl (by simp only [jN, seval, vint, TyS, TyF, BdS, Int.cast_ofNat_Int, d0, d1, d2, d3, d4, d5, d6, d7, d8, d9, d10, g1, g2, Int.toNat_natCast] <;> with_reducible rfl) (fun bt64 => ?_) (fun bt64 => ?_)
      ·
        have hbad : (t.args.any fun u => !wfT u) = true := List.any_eq_true.2 ⟨_, hmem, bt64⟩
        have hwf : wfT t = false := by rw [wfT_eq, hn, hbad]; rfl
        repeat (refine awp_seq ?_)
        refine e_eval (by simp only [jA, jO, jN, seval, vint, TyS, TyF, BdS, Int.cast_ofNat_Int, d0, d1, d2, d3, d4, d5, d6, d7, d8, d9, d10, g1, g2, Int.toNat_natCast] <;> with_reducible rfl) (by decide) ?_
        repeat (refine awp_seq ?_)
        refine awp_ret ⟨.inr rfl, _, rfl, ?_⟩
        rw [hwf]; rfl
      ·
        repeat (refine awp_seq ?_)
        refine awp_skip ?_
        exact ⟨⟨rfl, rfl, trivial⟩, (), _, ⟨rfl, trivial⟩, rfl, any_take_succ hi hg bt64⟩
    · intro s hg
      rw [List.take_length] at hg
      have hwf : wfT t = true := by rw [wfT_eq, hn, hg]; rfl
      repeat (refine awp_seq ?_)
      refine e_eval (by simp only [jA, jO, jN, seval, vint, TyS, TyF, BdS, Int.cast_ofNat_Int, d0, d1, d2, d3, d4, d5, d6, d7, d8, d9, d10] <;> with_reducible rfl) (by decide) ?_
      repeat (refine awp_seq ?_)
      refine awp_ret ⟨.inr rfl, _, rfl, ?_⟩
      rw [hwf]; rfl

theorem typeWF_2 (t : Ty) (hk : t.kind = 2) (hw : t.W) (ih : ∀ u ∈ t.args, PC Try.prog 40 [u.enc] (.bool (wfT u))) : PC Try.prog 40 [t.enc] (.bool (wfT t)) := by
  have hlen0 : (0 : Int) ≤ (t.args.length : Int) := by omega
  have d0 : decide (t.kind = 0) = false := decide_eq_false (by omega)
  have d1 : decide (t.kind = 1) = false := decide_eq_false (by omega)
  have d2 : decide (t.kind = 2) = true := decide_eq_true hk
  have d3 : decide (t.kind = 3) = false := decide_eq_false (by omega)
  have d4 : decide (t.kind = 4) = false := decide_eq_false (by omega)
  have d5 : decide (t.kind = 5) = false := decide_eq_false (by omega)
  have d6 : decide (t.kind = 6) = false := decide_eq_false (by omega)
  have d7 : decide (t.kind = 7) = false := decide_eq_false (by omega)
  have d8 : decide (t.kind = 8) = false := decide_eq_false (by omega)
  have d9 : decide (t.kind = 9) = false := decide_eq_false (by omega)
  have d10 : decide (t.kind = 10) = false := decide_eq_false (by omega)
  refine pc_of (N := 66) Try.func40 rfl rfl (by simp) (by simp [Ty.bel]) (.bool _) ?_
  repeat (refine awp_seq ?_)
  refine e_eval (by simp only [jA, jO, jN, seval, y29, vint, TyS, TyF, BdS, Int.cast_ofNat_Int, d0, d1, d2, d3, d4, d5, d6, d7, d8, d9, d10] <;> with_reducible rfl) (by decide) ?_
  repeat (refine awp_seq ?_)
  refine e_eval (by simp only [jA, jO, jN, seval, vint, TyS, TyF, BdS, Int.cast_ofNat_Int, d0, d1, d2, d3, d4, d5, d6, d7, d8, d9, d10] <;> with_reducible rfl) (by decide) ?_
  repeat (refine awp_seq ?_)
  refine e_eval (by simp only [jA, jO, jN, seval, y3, y29, vint, TyS, TyF, BdS, Int.cast_ofNat_Int, d0, d1, d2, d3, d4, d5, d6, d7, d8, d9, d10] <;> with_reducible rfl) (by decide) ?_
  repeat (refine awp_seq ?_)
  refine awp_block ?_
  repeat (refine awp_seq ?_)
  refine e_eval (by simp only [jA, jO, jN, seval, y3, vint, TyS, TyF, BdS, Int.cast_ofNat_Int, d0, d1, d2, d3, d4, d5, d6, d7, d8, d9, d10] <;> with_reducible rfl) (by decide) ?_
  repeat (refine awp_seq ?_)
  refine awp_cond_false rfl (by simp only [jN, seval, vint, TyS, TyF, BdS, Int.cast_ofNat_Int, d0, d1, d2, d3, d4, d5, d6, d7, d8, d9, d10] <;> with_reducible rfl) ?_
  repeat (refine awp_seq ?_)
  refine e_eval (by simp only [jA, jO, jN, seval, y3, vint, TyS, TyF, BdS, Int.cast_ofNat_Int, d0, d1, d2, d3, d4, d5, d6, d7, d8, d9, d10] <;> with_reducible rfl) (by decide) ?_
  repeat (refine awp_seq ?_)
  refine awp_cond_false rfl (by simp only [jN, seval, vint, TyS, TyF, BdS, Int.cast_ofNat_Int, d0, d1, d2, d3, d4, d5, d6, d7, d8, d9, d10] <;> with_reducible rfl) ?_
  repeat (refine awp_seq ?_)
  refine e_eval (by simp only [jA, jO, jN, seval, y3, vint, TyS, TyF, BdS, Int.cast_ofNat_Int, d0, d1, d2, d3, d4, d5, d6, d7, d8, d9, d10] <;> with_reducible rfl) (by decide) ?_
  repeat (refine awp_seq ?_)
  refine awp_cond_false rfl (by simp only [jN, seval, vint, TyS, TyF, BdS, Int.cast_ofNat_Int, d0, d1, d2, d3, d4, d5, d6, d7, d8, d9, d10] <;> with_reducible rfl) ?_
  repeat (refine awp_seq ?_)
  refine e_eval (by simp only [jA, jO, jN, seval, y3, vint, TyS, TyF, BdS, Int.cast_ofNat_Int, d0, d1, d2, d3, d4, d5, d6, d7, d8, d9, d10] <;> with_reducible rfl) (by decide) ?_
  repeat (refine awp_seq ?_)
  refine awp_cond_false rfl (by simp only [jN, seval, vint, TyS, TyF, BdS, Int.cast_ofNat_Int, d0, d1, d2, d3, d4, d5, d6, d7, d8, d9, d10] <;> with_reducible rfl) ?_
  refine awp_sel [1, 3, 4, 5, 9] (by simp only [jN, seval, vint, TyS, TyF, BdS, Int.cast_ofNat_Int, d0, d1, d2, d3, d4, d5, d6, d7, d8, d9, d10] <;> with_reducible rfl) ?_
  repeat (refine awp_seq ?_)
  refine e_eval (by simp only [jA, jO, jN, seval, y3, vint, TyS, TyF, BdS, Int.cast_ofNat_Int, d0, d1, d2, d3, d4, d5, d6, d7, d8, d9, d10] <;> with_reducible rfl) (by decide) ?_
  repeat (refine awp_seq ?_)
  refine awp_cond_false rfl (by simp only [jN, seval, vint, TyS, TyF, BdS, Int.cast_ofNat_Int, d0, d1, d2, d3, d4, d5, d6, d7, d8, d9, d10] <;> with_reducible rfl) ?_
  repeat (refine awp_seq ?_)
  refine e_eval (by simp only [jA, jO, jN, seval, y3, vint, TyS, TyF, BdS, Int.cast_ofNat_Int, d0, d1, d2, d3, d4, d5, d6, d7, d8, d9, d10] <;> with_reducible rfl) (by decide) ?_
  repeat (refine awp_seq ?_)
  refine awp_cond_false rfl (by simp only [jN, seval, vint, TyS, TyF, BdS, Int.cast_ofNat_Int, d0, d1, d2, d3, d4, d5, d6, d7, d8, d9, d10] <;> with_reducible rfl) ?_
  repeat (refine awp_seq ?_)
  refine e_eval (by simp only [jA, jO, jN, seval, y3, vint, TyS, TyF, BdS, Int.cast_ofNat_Int, d0, d1, d2, d3, d4, d5, d6, d7, d8, d9, d10] <;> with_reducible rfl) (by decide) ?_
  repeat (refine awp_seq ?_)
  refine awp_cond_true rfl (by simp only [jN, seval, vint, TyS, TyF, BdS, Int.cast_ofNat_Int, d0, d1, d2, d3, d4, d5, d6, d7, d8, d9, d10] <;> with_reducible rfl) ?_
  repeat (refine awp_seq ?_)
  refine e_eval (by simp only [jA, jO, jN, seval, vint, TyS, TyF, BdS, Int.cast_ofNat_Int, d0, d1, d2, d3, d4, d5, d6, d7, d8, d9, d10] <;> with_reducible rfl) (by decide) ?_
  repeat (refine awp_seq ?_)
  refine awp_region ?_
  refine aops_gstart ?_
  refine g_take 5 (by simp only [jG, jO, jN, seval, y27, y29, vint, TyS, TyF, BdS, Int.cast_ofNat_Int, d0, d1, d2, d3, d4, d5, d6, d7, d8, d9, d10] <;> with_reducible rfl) (by decide) ?_
  refine aops_gpure (by simp only [jE, jN, seval, vint, TyS, TyF, BdS, Int.cast_ofNat_Int, d0, d1, d2, d3, d4, d5, d6, d7, d8, d9, d10] <;> with_reducible rfl) (by simp only [jE, jN, seval, vint, TyS, TyF, BdS, Int.cast_ofNat_Int, d0, d1, d2, d3, d4, d5, d6, d7, d8, d9, d10] <;> with_reducible rfl) (by simp only [jE, jN, seval, vint, TyS, TyF, BdS, Int.cast_ofNat_Int, d0, d1, d2, d3, d4, d5, d6, d7, d8, d9, d10]) (by decide) Trygo67 (fun hc => inRange _ _ _ _) ?_
  refine g_end (by simp only [jG, jO, jN, seval, y3, y29, vint, TyS, TyF, BdS, Int.cast_ofNat_Int, d0, d1, d2, d3, d4, d5, d6, d7, d8, d9, d10] <;> with_reducible rfl) (by decide) (by repeat (first | exact Fin.base _ | with_reducible apply Fin.keep | apply Fin.drop)) ?_
  repeat (refine awp_seq ?_)
  refine awp_cond rfl (by simp only [jN, seval, vint, TyS, TyF, BdS, Int.cast_ofNat_Int, d0, d1, d2, d3, d4, d5, d6, d7, d8, d9, d10] <;> with_reducible rfl) (fun bt54 => ?_) (fun bt54 => ?_)
  ·
    have hn : nwf t = false := by
      unfold nwf
      simp only [d0, d1, d2, d3, d4, d5, d6, d7, d8, d9, d10, Bool.or_false, Bool.or_true, Bool.false_or, Bool.true_or, if_true, if_false, Bool.false_eq_true]
      rw [Bool.eq_false_iff]
      intro hh
      simp only [Bool.or_eq_true, Bool.and_eq_true, Bool.not_eq_true', Bool.and_eq_false_iff, Bool.or_eq_false_iff, Bool.not_eq_false', decide_eq_true_eq, decide_eq_false_iff_not] at hh bt54
      omega
    have hwf : wfT t = false := by rw [wfT_eq, hn]; rfl
    refine awp_sel [] (by simp only [jN, seval, vint, TyS, TyF, BdS, Int.cast_ofNat_Int, d0, d1, d2, d3, d4, d5, d6, d7, d8, d9, d10] <;> with_reducible rfl) ?_
    repeat (refine awp_seq ?_)
    refine e_eval (by simp only [jA, jO, jN, seval, vint, TyS, TyF, BdS, Int.cast_ofNat_Int, d0, d1, d2, d3, d4, d5, d6, d7, d8, d9, d10] <;> with_reducible rfl) (by decide) ?_
    repeat (refine awp_seq ?_)
    refine awp_ret ⟨.inr rfl, _, rfl, ?_⟩
    rw [hwf]; rfl
  ·
    have hn : nwf t = true := by
      unfold nwf
      simp only [d0, d1, d2, d3, d4, d5, d6, d7, d8, d9, d10, Bool.or_false, Bool.or_true, Bool.false_or, Bool.true_or, if_true, if_false, Bool.false_eq_true]
      simp only [Bool.or_eq_true, Bool.and_eq_true, Bool.not_eq_true', Bool.and_eq_false_iff, Bool.or_eq_false_iff, Bool.not_eq_false', decide_eq_true_eq, decide_eq_false_iff_not] at bt54 ⊢
      omega
    repeat (refine awp_seq ?_)
    refine awp_skip ?_
    refine awp_sel [1] (by simp only [jN, seval, vint, TyS, TyF, BdS, Int.cast_ofNat_Int, d0, d1, d2, d3, d4, d5, d6, d7, d8, d9, d10] <;> with_reducible rfl) ?_
    repeat (refine awp_seq ?_)
    refine e_eval (by simp only [jA, jO, jN, seval, y27, y29, vint, TyS, TyF, BdS, Int.cast_ofNat_Int, d0, d1, d2, d3, d4, d5, d6, d7, d8, d9, d10] <;> with_reducible rfl) (by decide) ?_
    repeat (refine awp_seq ?_)
    refine awp_forS (σ := Unit) (t.args.length) (fun (s : Unit) => [(56, .slice (t.args.map Ty.enc) .none)]) [56] ([]) (fun (s : Unit) => []) (fun (i : Nat) (s : Unit) => (t.args.take i).any (fun u => !wfT u) = false) (()) (_) rfl rfl rfl rfl rfl rfl rfl rfl rfl (by decide) (by decide) (by decide) (fun _ => rfl) (hw.lenMax) ⟨(by first | rfl | (simp only [jN, seval, vint, TyS, TyF, BdS, Int.cast_ofNat_Int, d0, d1, d2, d3, d4, d5, d6, d7, d8, d9, d10] <;> first | done | with_reducible rfl)), (by first | rfl | (simp only [jN, seval, vint, TyS, TyF, BdS, Int.cast_ofNat_Int, d0, d1, d2, d3, d4, d5, d6, d7, d8, d9, d10] <;> first | done | with_reducible rfl)), (by first | rfl | (simp only [jN, seval, vint, TyS, TyF, BdS, Int.cast_ofNat_Int, d0, d1, d2, d3, d4, d5, d6, d7, d8, d9, d10] <;> first | done | with_reducible rfl)), trivial⟩ (by first | rfl | (simp only [jN, seval, vint, TyS, TyF, BdS, Int.cast_ofNat_Int, d0, d1, d2, d3, d4, d5, d6, d7, d8, d9, d10] <;> first | done | with_reducible rfl)) (by simp) (fun _ _ _ => by first | exact Nat.zero_le _ | (simp only [List.length_append]; omega)) ?_ ?_ ?_
    · exact fun i s hg => ⟨by first | exact hbel_nil _ | (simp only [List.append_nil]; assumption) | (refine hbel_app' hb' (by simp) ?_; repeat (first | exact hbel_nil _ | exact trivial | exact obel_row_nil _ | (refine HBel.cons ?_ ?_) | (refine obel_row_cons (by first | exact bel_Bd _ _ | exact Bd.bel _ _ | exact bel_int_tok _ (by simp) | exact bel_ints0 _ _ | exact bel_slice_ty _ _ | exact Ty.bel _ _ | exact bel_ty_tok _ (by simp) | exact Bel.int _ _ | exact Bel.bool _ | exact Bel.str _ | exact Bel.nilp | exact Bel.nilfn | exact Bel.optr _ _ (by simp) | exact bel_nil0 _ | exact bel_nil1 _ | exact bel_fn0 _ _ | assumption) ?_))), by repeat (first | exact BelL.nil | refine BelL.cons (by first | exact bel_Bd _ _ | exact Bd.bel _ _ | exact bel_int_tok _ (by simp) | exact bel_ints0 _ _ | exact bel_slice_ty _ _ | exact Ty.bel _ _ | exact bel_ty_tok _ (by simp) | exact Bel.int _ _ | exact Bel.bool _ | exact Bel.str _ | exact Bel.nilp | exact Bel.nilfn | exact Bel.optr _ _ (by simp) | exact bel_nil0 _ | exact bel_nil1 _ | exact bel_fn0 _ _ | assumption) ?_)⟩
    · intro i s hi hg
      have g1 := ix_nat hi
      have g2 := get_enc Ty.enc hi
      have hmem : t.args[i] ∈ t.args := List.getElem_mem hi
      repeat (refine awp_seq ?_)
      refine e_eval (by simp only [jA, jO, jN, seval, y27, y29, vint, TyS, TyF, BdS, Int.cast_ofNat_Int, d0, d1, d2, d3, d4, d5, d6, d7, d8, d9, d10, g1, g2, Int.toNat_natCast] <;> with_reducible rfl) (by decide) ?_
      repeat (refine awp_seq ?_)
      refine awp_region ?_
      refine e_take 1 (by simp only [jA, jO, jN, seval, y29, vint, TyS, TyF, BdS, Int.cast_ofNat_Int, d0, d1, d2, d3, d4, d5, d6, d7, d8, d9, d10, g1, g2, Int.toNat_natCast] <;> with_reducible rfl) (by decide) ?_
      refine aops_pure (by simp only [jC, jN, seval, vint, TyS, TyF, BdS, Int.cast_ofNat_Int, d0, d1, d2, d3, d4, d5, d6, d7, d8, d9, d10, g1, g2, Int.toNat_natCast] <;> with_reducible rfl) (by simp only [jC, jN, seval, vint, TyS, TyF, BdS, Int.cast_ofNat_Int, d0, d1, d2, d3, d4, d5, d6, d7, d8, d9, d10, g1, g2, Int.toNat_natCast]) (by decide) Trygo40 (ih t.args[i] hmem _) ?_
      refine e_end (by simp only [jA, jO, jN, seval, vint, TyS, TyF, BdS, Int.cast_ofNat_Int, d0, d1, d2, d3, d4, d5, d6, d7, d8, d9, d10, g1, g2, Int.toNat_natCast] <;> with_reducible rfl) (by decide) ?_
      repeat (refine awp_seq ?_)
      refine awp_cond rfl (by simp only [jN, seval, vint, TyS, TyF, BdS, Int.cast_ofNat_Int, d0, d1, d2, d3, d4, d5, d6, d7, d8, d9, d10, g1, g2, Int.toNat_natCast] <;> with_reducible rfl) (fun bt64 => ?_) (fun bt64 => ?_)
      ·
        have hbad : (t.args.any fun u => !wfT u) = true := List.any_eq_true.2 ⟨_, hmem, bt64⟩
        have hwf : wfT t = false := by rw [wfT_eq, hn, hbad]; rfl
        repeat (refine awp_seq ?_)
        refine e_eval (by simp only [jA, jO, jN, seval, vint, TyS, TyF, BdS, Int.cast_ofNat_Int, d0, d1, d2, d3, d4, d5, d6, d7, d8, d9, d10, g1, g2, Int.toNat_natCast] <;> with_reducible rfl) (by decide) ?_
        repeat (refine awp_seq ?_)
        refine awp_ret ⟨.inr rfl, _, rfl, ?_⟩
        rw [hwf]; rfl
      ·
        repeat (refine awp_seq ?_)
        refine awp_skip ?_
        exact ⟨⟨rfl, rfl, trivial⟩, (), _, ⟨rfl, trivial⟩, rfl, any_take_succ hi hg bt64⟩
    · intro s hg
      rw [List.take_length] at hg
      have hwf : wfT t = true := by rw [wfT_eq, hn, hg]; rfl
      repeat (refine awp_seq ?_)
      refine e_eval (by simp only [jA, jO, jN, seval, vint, TyS, TyF, BdS, Int.cast_ofNat_Int, d0, d1, d2, d3, d4, d5, d6, d7, d8, d9, d10] <;> with_reducible rfl) (by decide) ?_
      repeat (refine awp_seq ?_)
      refine awp_ret ⟨.inr rfl, _, rfl, ?_⟩
      rw [hwf]; rfl

theorem typeWF_3 (t : Ty) (hk : t.kind = 3) (hw : t.W) (ih : ∀ u ∈ t.args, PC Try.prog 40 [u.enc] (.bool (wfT u))) : PC Try.prog 40 [t.enc] (.bool (wfT t)) := by
  have hlen0 : (0 : Int) ≤ (t.args.length : Int) := by omega
  have d0 : decide (t.kind = 0) = false := decide_eq_false (by omega)
  have d1 : decide (t.kind = 1) = false := decide_eq_false (by omega)
  have d2 : decide (t.kind = 2) = false := decide_eq_false (by omega)
  have d3 : decide (t.kind = 3) = true := decide_eq_true hk
  have d4 : decide (t.kind = 4) = false := decide_eq_false (by omega)
  have d5 : decide (t.kind = 5) = false := decide_eq_false (by omega)
  have d6 : decide (t.kind = 6) = false := decide_eq_false (by omega)
  have d7 : decide (t.kind = 7) = false := decide_eq_false (by omega)
  have d8 : decide (t.kind = 8) = false := decide_eq_false (by omega)
  have d9 : decide (t.kind = 9) = false := decide_eq_false (by omega)
  have d10 : decide (t.kind = 10) = false := decide_eq_false (by omega)
  refine pc_of (N := 66) Try.func40 rfl rfl (by simp) (by simp [Ty.bel]) (.bool _) ?_
  repeat (refine awp_seq ?_)
  refine e_eval (by simp only [jA, jO, jN, seval, y29, vint, TyS, TyF, BdS, Int.cast_ofNat_Int, d0, d1, d2, d3, d4, d5, d6, d7, d8, d9, d10] <;> with_reducible rfl) (by decide) ?_
  repeat (refine awp_seq ?_)
  refine e_eval (by simp only [jA, jO, jN, seval, vint, TyS, TyF, BdS, Int.cast_ofNat_Int, d0, d1, d2, d3, d4, d5, d6, d7, d8, d9, d10] <;> with_reducible rfl) (by decide) ?_
  repeat (refine awp_seq ?_)
  refine e_eval (by simp only [jA, jO, jN, seval, y3, y29, vint, TyS, TyF, BdS, Int.cast_ofNat_Int, d0, d1, d2, d3, d4, d5, d6, d7, d8, d9, d10] <;> with_reducible rfl) (by decide) ?_
  repeat (refine awp_seq ?_)
  refine awp_block ?_
  repeat (refine awp_seq ?_)
  refine e_eval (by simp only [jA, jO, jN, seval, y3, vint, TyS, TyF, BdS, Int.cast_ofNat_Int, d0, d1, d2, d3, d4, d5, d6, d7, d8, d9, d10] <;> with_reducible rfl) (by decide) ?_
  repeat (refine awp_seq ?_)
  refine awp_cond_false rfl (by simp only [jN, seval, vint, TyS, TyF, BdS, Int.cast_ofNat_Int, d0, d1, d2, d3, d4, d5, d6, d7, d8, d9, d10] <;> with_reducible rfl) ?_
  repeat (refine awp_seq ?_)
  refine e_eval (by simp only [jA, jO, jN, seval, y3, vint, TyS, TyF, BdS, Int.cast_ofNat_Int, d0, d1, d2, d3, d4, d5, d6, d7, d8, d9, d10] <;> with_reducible rfl) (by decide) ?_
  repeat (refine awp_seq ?_)
  refine awp_cond_true rfl (by simp only [jN, seval, vint, TyS, TyF, BdS, Int.cast_ofNat_Int, d0, d1, d2, d3, d4, d5, d6, d7, d8, d9, d10] <;> with_reducible rfl) ?_
  repeat (refine awp_seq ?_)
  refine awp_skip ?_
  repeat (refine awp_seq ?_)
  refine awp_cond_true rfl (by simp only [jN, seval, vint, TyS, TyF, BdS, Int.cast_ofNat_Int, d0, d1, d2, d3, d4, d5, d6, d7, d8, d9, d10] <;> with_reducible rfl) ?_
  repeat (refine awp_seq ?_)
  refine awp_skip ?_
  repeat (refine awp_seq ?_)
  refine awp_region ?_
  refine aops_gstart ?_
  refine g_take 5 (by simp only [jG, jO, jN, seval, y27, y29, vint, TyS, TyF, BdS, Int.cast_ofNat_Int, d0, d1, d2, d3, d4, d5, d6, d7, d8, d9, d10] <;> with_reducible rfl) (by decide) ?_
  refine aops_gpure (by simp only [jE, jN, seval, vint, TyS, TyF, BdS, Int.cast_ofNat_Int, d0, d1, d2, d3, d4, d5, d6, d7, d8, d9, d10] <;> with_reducible rfl) (by simp only [jE, jN, seval, vint, TyS, TyF, BdS, Int.cast_ofNat_Int, d0, d1, d2, d3, d4, d5, d6, d7, d8, d9, d10] <;> with_reducible rfl) (by simp only [jE, jN, seval, vint, TyS, TyF, BdS, Int.cast_ofNat_Int, d0, d1, d2, d3, d4, d5, d6, d7, d8, d9, d10]) (by decide) Trygo67 (fun hc => inRange _ _ _ _) ?_
  refine g_end (by simp only [jG, jO, jN, seval, y3, y29, vint, TyS, TyF, BdS, Int.cast_ofNat_Int, d0, d1, d2, d3, d4, d5, d6, d7, d8, d9, d10] <;> with_reducible rfl) (by decide) (by repeat (first | exact Fin.base _ | with_reducible apply Fin.keep | apply Fin.drop)) ?_
  repeat (refine awp_seq ?_)
  refine awp_cond rfl (by simp only [jN, seval, vint, TyS, TyF, BdS, Int.cast_ofNat_Int, d0, d1, d2, d3, d4, d5, d6, d7, d8, d9, d10] <;> with_reducible rfl) (fun bt54 => ?_) (fun bt54 => ?_)
  ·
    have hn : nwf t = false := by
      unfold nwf
      simp only [d0, d1, d2, d3, d4, d5, d6, d7, d8, d9, d10, Bool.or_false, Bool.or_true, Bool.false_or, Bool.true_or, if_true, if_false, Bool.false_eq_true]
      rw [Bool.eq_false_iff]
      intro hh
      simp only [Bool.or_eq_true, Bool.and_eq_true, Bool.not_eq_true', Bool.and_eq_false_iff, Bool.or_eq_false_iff, Bool.not_eq_false', decide_eq_true_eq, decide_eq_false_iff_not] at hh bt54
      omega
    have hwf : wfT t = false := by rw [wfT_eq, hn]; rfl
    refine awp_sel [] (by simp only [jN, seval, vint, TyS, TyF, BdS, Int.cast_ofNat_Int, d0, d1, d2, d3, d4, d5, d6, d7, d8, d9, d10] <;> with_reducible rfl) ?_
    repeat (refine awp_seq ?_)
    refine e_eval (by simp only [jA, jO, jN, seval, vint, TyS, TyF, BdS, Int.cast_ofNat_Int, d0, d1, d2, d3, d4, d5, d6, d7, d8, d9, d10] <;> with_reducible rfl) (by decide) ?_
    repeat (refine awp_seq ?_)
    refine awp_ret ⟨.inr rfl, _, rfl, ?_⟩
    rw [hwf]; rfl
  ·
    have hn : nwf t = true := by
      unfold nwf
      simp only [d0, d1, d2, d3, d4, d5, d6, d7, d8, d9, d10, Bool.or_false, Bool.or_true, Bool.false_or, Bool.true_or, if_true, if_false, Bool.false_eq_true]
      simp only [Bool.or_eq_true, Bool.and_eq_true, Bool.not_eq_true', Bool.and_eq_false_iff, Bool.or_eq_false_iff, Bool.not_eq_false', decide_eq_true_eq, decide_eq_false_iff_not] at bt54 ⊢
      omega
    repeat (refine awp_seq ?_)
    refine awp_skip ?_
    refine awp_sel [1] (by simp only [jN, seval, vint, TyS, TyF, BdS, Int.cast_ofNat_Int, d0, d1, d2, d3, d4, d5, d6, d7, d8, d9, d10] <;> with_reducible rfl) ?_
    repeat (refine awp_seq ?_)
    refine e_eval (by simp only [jA, jO, jN, seval, y27, y29, vint, TyS, TyF, BdS, Int.cast_ofNat_Int, d0, d1, d2, d3, d4, d5, d6, d7, d8, d9, d10] <;> with_reducible rfl) (by decide) ?_
    repeat (refine awp_seq ?_)
    refine awp_forS (σ := Unit) (t.args.length) (fun (s : Unit) => [(56, .slice (t.args.map Ty.enc) .none)]) [56] ([]) (fun (s : Unit) => []) (fun (i : Nat) (s : Unit) => (t.args.take i).any (fun u => !wfT u) = false) (()) (_) rfl rfl rfl rfl rfl rfl rfl rfl rfl (by decide) (by decide) (by decide) (fun _ => rfl) (hw.lenMax) ⟨(by first | rfl | (simp only [jN, seval, vint, TyS, TyF, BdS, Int.cast_ofNat_Int, d0, d1, d2, d3, d4, d5, d6, d7, d8, d9, d10] <;> first | done | with_reducible rfl)), (by first | rfl | (simp only [jN, seval, vint, TyS, TyF, BdS, Int.cast_ofNat_Int, d0, d1, d2, d3, d4, d5, d6, d7, d8, d9, d10] <;> first | done | with_reducible rfl)), (by first | rfl | (simp only [jN, seval, vint, TyS, TyF, BdS, Int.cast_ofNat_Int, d0, d1, d2, d3, d4, d5, d6, d7, d8, d9, d10] <;> first | done | with_reducible rfl)), trivial⟩ (by first | rfl | (simp only [jN, seval, vint, TyS, TyF, BdS, Int.cast_ofNat_Int, d0, d1, d2, d3, d4, d5, d6, d7, d8, d9, d10] <;> first | done | with_reducible rfl)) (by simp) (fun _ _ _ => by first | exact Nat.zero_le _ | (simp only [List.length_append]; omega)) ?_ ?_ ?_
    · exact fun i s hg => ⟨by first | exact hbel_nil _ | (simp only [List.append_nil]; assumption) | (refine hbel_app' hb' (by simp) ?_; repeat (first | exact hbel_nil _ | exact trivial | exact obel_row_nil _ | (refine HBel.cons ?_ ?_) | (refine obel_row_cons (by first | exact bel_Bd _ _ | exact Bd.bel _ _ | exact bel_int_tok _ (by simp) | exact bel_ints0 _ _ | exact bel_slice_ty _ _ | exact Ty.bel _ _ | exact bel_ty_tok _ (by simp) | exact Bel.int _ _ | exact Bel.bool _ | exact Bel.str _ | exact Bel.nilp | exact Bel.nilfn | exact Bel.optr _ _ (by simp) | exact bel_nil0 _ | exact bel_nil1 _ | exact bel_fn0 _ _ | assumption) ?_))), by repeat (first | exact BelL.nil | refine BelL.cons (by first | exact bel_Bd _ _ | exact Bd.bel _ _ | exact bel_int_tok _ (by simp) | exact bel_ints0 _ _ | exact bel_slice_ty _ _ | exact Ty.bel _ _ | exact bel_ty_tok _ (by simp) | exact Bel.int _ _ | exact Bel.bool _ | exact Bel.str _ | exact Bel.nilp | exact Bel.nilfn | exact Bel.optr _ _ (by simp) | exact bel_nil0 _ | exact bel_nil1 _ | exact bel_fn0 _ _ | assumption) ?_)⟩
    · intro i s hi hg
      have g1 := ix_nat hi
      have g2 := get_enc Ty.enc hi
      have hmem : t.args[i] ∈ t.args := List.getElem_mem hi
      repeat (refine awp_seq ?_)
      refine e_eval (by simp only [jA, jO, jN, seval, y27, y29, vint, TyS, TyF, BdS, Int.cast_ofNat_Int, d0, d1, d2, d3, d4, d5, d6, d7, d8, d9, d10, g1, g2, Int.toNat_natCast] <;> with_reducible rfl) (by decide) ?_
      repeat (refine awp_seq ?_)
      refine awp_region ?_
      refine e_take 1 (by simp only [jA, jO, jN, seval, y29, vint, TyS, TyF, BdS, Int.cast_ofNat_Int, d0, d1, d2, d3, d4, d5, d6, d7, d8, d9, d10, g1, g2, Int.toNat_natCast] <;> with_reducible rfl) (by decide) ?_
      refine aops_pure (by simp only [jC, jN, seval, vint, TyS, TyF, BdS, Int.cast_ofNat_Int, d0, d1, d2, d3, d4, d5, d6, d7, d8, d9, d10, g1, g2, Int.toNat_natCast] <;> with_reducible rfl) (by simp only [jC, jN, seval, vint, TyS, TyF, BdS, Int.cast_ofNat_Int, d0, d1, d2, d3, d4, d5, d6, d7, d8, d9, d10, g1, g2, Int.toNat_natCast]) (by decide) Trygo40 (ih t.args[i] hmem _) ?_
      refine e_end (by simp only [jA, jO, jN, seval, vint, TyS, TyF, BdS, Int.cast_ofNat_Int, d0, d1, d2, d3, d4, d5, d6, d7, d8, d9, d10, g1, g2, Int.toNat_natCast] <;> with_reducible rfl) (by decide) ?_
      repeat (refine awp_seq ?_)
      refine awp_cond rfl (by simp only [jN, seval, vint, TyS, TyF, BdS, Int.cast_ofNat_Int, d0, d1, d2, d3, d4, d5, d6, d7, d8, d9, d10, g1, g2, Int.toNat_natCast] <;> with_reducible rfl) (fun bt64 => ?_) (fun bt64 => ?_)
      ·
        have hbad : (t.args.any fun u => !wfT u) = true := List.any_eq_true.2 ⟨_, hmem, bt64⟩
        have hwf : wfT t = false := by rw [wfT_eq, hn, hbad]; rfl
        repeat (refine awp_seq ?_)
        refine e_eval (by simp only [jA, jO, jN, seval, vint, TyS, TyF, BdS, Int.cast_ofNat_Int, d0, d1, d2, d3, d4, d5, d6, d7, d8, d9, d10, g1, g2, Int.toNat_natCast] <;> with_reducible rfl) (by decide) ?_
        repeat (refine awp_seq ?_)
        refine awp_ret ⟨.inr rfl, _, rfl, ?_⟩
        rw [hwf]; rfl
      ·
        repeat (refine awp_seq ?_)
        refine awp_skip ?_
        exact ⟨⟨rfl, rfl, trivial⟩, (), _, ⟨rfl, trivial⟩, rfl, any_take_succ hi hg bt64⟩
    · intro s hg
      rw [List.take_length] at hg
      have hwf : wfT t = true := by rw [wfT_eq, hn, hg]; rfl
      repeat (refine awp_seq ?_)
      refine e_eval (by simp only [jA, jO, jN, seval, vint, TyS, TyF, BdS, Int.cast_ofNat_Int, d0, d1, d2, d3, d4, d5, d6, d7, d8, d9, d10] <;> with_reducible rfl) (by decide) ?_
      repeat (refine awp_seq ?_)
      refine awp_ret ⟨.inr rfl, _, rfl, ?_⟩
      rw [hwf]; rfl

theorem typeWF_4 (t : Ty) (hk : t.kind = 4) (hw : t.W) (ih : ∀ u ∈ t.args, PC Try.prog 40 [u.enc] (.bool (wfT u))) : PC Try.prog 40 [t.enc] (.bool (wfT t)) := by
  have hlen0 : (0 : Int) ≤ (t.args.length : Int) := by omega
  have d0 : decide (t.kind = 0) = false := decide_eq_false (by omega)
  have d1 : decide (t.kind = 1) = false := decide_eq_false (by omega)
  have d2 : decide (t.kind = 2) = false := decide_eq_false (by omega)
  have d3 : decide (t.kind = 3) = false := decide_eq_false (by omega)
  have d4 : decide (t.kind = 4) = true := decide_eq_true hk
  have d5 : decide (t.kind = 5) = false := decide_eq_false (by omega)
  have d6 : decide (t.kind = 6) = false := decide_eq_false (by omega)
  have d7 : decide (t.kind = 7) = false := decide_eq_false (by omega)
  have d8 : decide (t.kind = 8) = false := decide_eq_false (by omega)
  have d9 : decide (t.kind = 9) = false := decide_eq_false (by omega)
  have d10 : decide (t.kind = 10) = false := decide_eq_false (by omega)
  refine pc_of (N := 66) Try.func40 rfl rfl (by simp) (by simp [Ty.bel]) (.bool _) ?_
  repeat (refine awp_seq ?_)
  refine e_eval (by simp only [jA, jO, jN, seval, y29, vint, TyS, TyF, BdS, Int.cast_ofNat_Int, d0, d1, d2, d3, d4, d5, d6, d7, d8, d9, d10] <;> with_reducible rfl) (by decide) ?_
  repeat (refine awp_seq ?_)
  refine e_eval (by simp only [jA, jO, jN, seval, vint, TyS, TyF, BdS, Int.cast_ofNat_Int, d0, d1, d2, d3, d4, d5, d6, d7, d8, d9, d10] <;> with_reducible rfl) (by decide) ?_
  repeat (refine awp_seq ?_)
  refine e_eval (by simp only [jA, jO, jN, seval, y3, y29, vint, TyS, TyF, BdS, Int.cast_ofNat_Int, d0, d1, d2, d3, d4, d5, d6, d7, d8, d9, d10] <;> with_reducible rfl) (by decide) ?_
  repeat (refine awp_seq ?_)
  refine awp_block ?_
  repeat (refine awp_seq ?_)
  refine e_eval (by simp only [jA, jO, jN, seval, y3, vint, TyS, TyF, BdS, Int.cast_ofNat_Int, d0, d1, d2, d3, d4, d5, d6, d7, d8, d9, d10] <;> with_reducible rfl) (by decide) ?_
  repeat (refine awp_seq ?_)
  refine awp_cond_false rfl (by simp only [jN, seval, vint, TyS, TyF, BdS, Int.cast_ofNat_Int, d0, d1, d2, d3, d4, d5, d6, d7, d8, d9, d10] <;> with_reducible rfl) ?_
  repeat (refine awp_seq ?_)
  refine e_eval (by simp only [jA, jO, jN, seval, y3, vint, TyS, TyF, BdS, Int.cast_ofNat_Int, d0, d1, d2, d3, d4, d5, d6, d7, d8, d9, d10] <;> with_reducible rfl) (by decide) ?_
  repeat (refine awp_seq ?_)
  refine awp_cond_false rfl (by simp only [jN, seval, vint, TyS, TyF, BdS, Int.cast_ofNat_Int, d0, d1, d2, d3, d4, d5, d6, d7, d8, d9, d10] <;> with_reducible rfl) ?_
  repeat (refine awp_seq ?_)
  refine e_eval (by simp only [jA, jO, jN, seval, y3, vint, TyS, TyF, BdS, Int.cast_ofNat_Int, d0, d1, d2, d3, d4, d5, d6, d7, d8, d9, d10] <;> with_reducible rfl) (by decide) ?_
  repeat (refine awp_seq ?_)
  refine awp_cond_true rfl (by simp only [jN, seval, vint, TyS, TyF, BdS, Int.cast_ofNat_Int, d0, d1, d2, d3, d4, d5, d6, d7, d8, d9, d10] <;> with_reducible rfl) ?_
  repeat (refine awp_seq ?_)
  refine awp_skip ?_
  repeat (refine awp_seq ?_)
  refine awp_cond_true rfl (by simp only [jN, seval, vint, TyS, TyF, BdS, Int.cast_ofNat_Int, d0, d1, d2, d3, d4, d5, d6, d7, d8, d9, d10] <;> with_reducible rfl) ?_
  repeat (refine awp_seq ?_)
  refine awp_skip ?_
  repeat (refine awp_seq ?_)
  refine awp_region ?_
  refine aops_gstart ?_
  refine g_take 5 (by simp only [jG, jO, jN, seval, y27, y29, vint, TyS, TyF, BdS, Int.cast_ofNat_Int, d0, d1, d2, d3, d4, d5, d6, d7, d8, d9, d10] <;> with_reducible rfl) (by decide) ?_
  refine aops_gpure (by simp only [jE, jN, seval, vint, TyS, TyF, BdS, Int.cast_ofNat_Int, d0, d1, d2, d3, d4, d5, d6, d7, d8, d9, d10] <;> with_reducible rfl) (by simp only [jE, jN, seval, vint, TyS, TyF, BdS, Int.cast_ofNat_Int, d0, d1, d2, d3, d4, d5, d6, d7, d8, d9, d10] <;> with_reducible rfl) (by simp only [jE, jN, seval, vint, TyS, TyF, BdS, Int.cast_ofNat_Int, d0, d1, d2, d3, d4, d5, d6, d7, d8, d9, d10]) (by decide) Trygo67 (fun hc => inRange _ _ _ _) ?_
  refine g_end (by simp only [jG, jO, jN, seval, y3, y29, vint, TyS, TyF, BdS, Int.cast_ofNat_Int, d0, d1, d2, d3, d4, d5, d6, d7, d8, d9, d10] <;> with_reducible rfl) (by decide) (by repeat (first | exact Fin.base _ | with_reducible apply Fin.keep | apply Fin.drop)) ?_
  repeat (refine awp_seq ?_)
  refine awp_cond rfl (by simp only [jN, seval, vint, TyS, TyF, BdS, Int.cast_ofNat_Int, d0, d1, d2, d3, d4, d5, d6, d7, d8, d9, d10] <;> with_reducible rfl) (fun bt54 => ?_) (fun bt54 => ?_)
  ·
    have hn : nwf t = false := by
      unfold nwf
      simp only [d0, d1, d2, d3, d4, d5, d6, d7, d8, d9, d10, Bool.or_false, Bool.or_true, Bool.false_or, Bool.true_or, if_true, if_false, Bool.false_eq_true]
      rw [Bool.eq_false_iff]
      intro hh
      simp only [Bool.or_eq_true, Bool.and_eq_true, Bool.not_eq_true', Bool.and_eq_false_iff, Bool.or_eq_false_iff, Bool.not_eq_false', decide_eq_true_eq, decide_eq_false_iff_not] at hh bt54
      omega
    have hwf : wfT t = false := by rw [wfT_eq, hn]; rfl
    refine awp_sel [] (by simp only [jN, seval, vint, TyS, TyF, BdS, Int.cast_ofNat_Int, d0, d1, d2, d3, d4, d5, d6, d7, d8, d9, d10] <;> with_reducible rfl) ?_
    repeat (refine awp_seq ?_)
    refine e_eval (by simp only [jA, jO, jN, seval, vint, TyS, TyF, BdS, Int.cast_ofNat_Int, d0, d1, d2, d3, d4, d5, d6, d7, d8, d9, d10] <;> with_reducible rfl) (by decide) ?_
    repeat (refine awp_seq ?_)
    refine awp_ret ⟨.inr rfl, _, rfl, ?_⟩
    rw [hwf]; rfl
  ·
    have hn : nwf t = true := by
      unfold nwf
      simp only [d0, d1, d2, d3, d4, d5, d6, d7, d8, d9, d10, Bool.or_false, Bool.or_true, Bool.false_or, Bool.true_or, if_true, if_false, Bool.false_eq_true]
      simp only [Bool.or_eq_true, Bool.and_eq_true, Bool.not_eq_true', Bool.and_eq_false_iff, Bool.or_eq_false_iff, Bool.not_eq_false', decide_eq_true_eq, decide_eq_false_iff_not] at bt54 ⊢
      omega
    repeat (refine awp_seq ?_)
    refine awp_skip ?_
    refine awp_sel [1] (by simp only [jN, seval, vint, TyS, TyF, BdS, Int.cast_ofNat_Int, d0, d1, d2, d3, d4, d5, d6, d7, d8, d9, d10] <;> with_reducible rfl) ?_
    repeat (refine awp_seq ?_)
    refine e_eval (by simp only [jA, jO, jN, seval, y27, y29, vint, TyS, TyF, BdS, Int.cast_ofNat_Int, d0, d1, d2, d3, d4, d5, d6, d7, d8, d9, d10] <;> with_reducible rfl) (by decide) ?_
    repeat (refine awp_seq ?_)
    refine awp_forS (σ := Unit) (t.args.length) (fun (s : Unit) => [(56, .slice (t.args.map Ty.enc) .none)]) [56] ([]) (fun (s : Unit) => []) (fun (i : Nat) (s : Unit) => (t.args.take i).any (fun u => !wfT u) = false) (()) (_) rfl rfl rfl rfl rfl rfl rfl rfl rfl (by decide) (by decide) (by decide) (fun _ => rfl) (hw.lenMax) ⟨(by first | rfl | (simp only [jN, seval, vint, TyS, TyF, BdS, Int.cast_ofNat_Int, d0, d1, d2, d3, d4, d5, d6, d7, d8, d9, d10] <;> first | done | with_reducible rfl)), (by first | rfl | (simp only [jN, seval, vint, TyS, TyF, BdS, Int.cast_ofNat_Int, d0, d1, d2, d3, d4, d5, d6, d7, d8, d9, d10] <;> first | done | with_reducible rfl)), (by first | rfl | (simp only [jN, seval, vint, TyS, TyF, BdS, Int.cast_ofNat_Int, d0, d1, d2, d3, d4, d5, d6, d7, d8, d9, d10] <;> first | done | with_reducible rfl)), trivial⟩ (by first | rfl | (simp only [jN, seval, vint, TyS, TyF, BdS, Int.cast_ofNat_Int, d0, d1, d2, d3, d4, d5, d6, d7, d8, d9, d10] <;> first | done | with_reducible rfl)) (by simp) (fun _ _ _ => by first | exact Nat.zero_le _ | (simp only [List.length_append]; omega)) ?_ ?_ ?_
    · exact fun i s hg => ⟨by first | exact hbel_nil _ | (simp only [List.append_nil]; assumption) | (refine hbel_app' hb' (by simp) ?_; repeat (first | exact hbel_nil _ | exact trivial | exact obel_row_nil _ | (refine HBel.cons ?_ ?_) | (refine obel_row_cons (by first | exact bel_Bd _ _ | exact Bd.bel _ _ | exact bel_int_tok _ (by simp) | exact bel_ints0 _ _ | exact bel_slice_ty _ _ | exact Ty.bel _ _ | exact bel_ty_tok _ (by simp) | exact Bel.int _ _ | exact Bel.bool _ | exact Bel.str _ | exact Bel.nilp | exact Bel.nilfn | exact Bel.optr _ _ (by simp) | exact bel_nil0 _ | exact bel_nil1 _ | exact bel_fn0 _ _ | assumption) ?_))), by repeat (first | exact BelL.nil | refine BelL.cons (by first | exact bel_Bd _ _ | exact Bd.bel _ _ | exact bel_int_tok _ (by simp) | exact bel_ints0 _ _ | exact bel_slice_ty _ _ | exact Ty.bel _ _ | exact bel_ty_tok _ (by simp) | exact Bel.int _ _ | exact Bel.bool _ | exact Bel.str _ | exact Bel.nilp | exact Bel.nilfn | exact Bel.optr _ _ (by simp) | exact bel_nil0 _ | exact bel_nil1 _ | exact bel_fn0 _ _ | assumption) ?_)⟩
    · intro i s hi hg
      have g1 := ix_nat hi
      have g2 := get_enc Ty.enc hi
      have hmem : t.args[i] ∈ t.args := List.getElem_mem hi
      repeat (refine awp_seq ?_)
      refine e_eval (by simp only [jA, jO, jN, seval, y27, y29, vint, TyS, TyF, BdS, Int.cast_ofNat_Int, d0, d1, d2, d3, d4, d5, d6, d7, d8, d9, d10, g1, g2, Int.toNat_natCast] <;> with_reducible rfl) (by decide) ?_
      repeat (refine awp_seq ?_)
      refine awp_region ?_
      refine e_take 1 (by simp only [jA, jO, jN, seval, y29, vint, TyS, TyF, BdS, Int.cast_ofNat_Int, d0, d1, d2, d3, d4, d5, d6, d7, d8, d9, d10, g1, g2, Int.toNat_natCast] <;> with_reducible rfl) (by decide) ?_
      refine aops_pure (by simp only [jC, jN, seval, vint, TyS, TyF, BdS, Int.cast_ofNat_Int, d0, d1, d2, d3, d4, d5, d6, d7, d8, d9, d10, g1, g2, Int.toNat_natCast] <;> with_reducible rfl) (by simp only [jC, jN, seval, vint, TyS, TyF, BdS, Int.cast_ofNat_Int, d0, d1, d2, d3, d4, d5, d6, d7, d8, d9, d10, g1, g2, Int.toNat_natCast]) (by decide) Trygo40 (ih t.args[i] hmem _) ?_
      refine e_end (by simp only [jA, jO, jN, seval, vint, TyS, TyF, BdS, Int.cast_ofNat_Int, d0, d1, d2, d3, d4, d5, d6, d7, d8, d9, d10, g1, g2, Int.toNat_natCast] <;> with_reducible rfl) (by decide) ?_
      repeat (refine awp_seq ?_)
      refine awp_cond rfl (by simp only [jN, seval, vint, TyS, TyF, BdS, Int.cast_ofNat_Int, d0, d1, d2, d3, d4, d5, d6, d7, d8, d9, d10, g1, g2, Int.toNat_natCast] <;> with_reducible rfl) (fun bt64 => ?_) (fun bt64 => ?_)
      ·
        have hbad : (t.args.any fun u => !wfT u) = true := List.any_eq_true.2 ⟨_, hmem, bt64⟩
        have hwf : wfT t = false := by rw [wfT_eq, hn, hbad]; rfl
        repeat (refine awp_seq ?_)
        refine e_eval (by simp only [jA, jO, jN, seval, vint, TyS, TyF, BdS, Int.cast_ofNat_Int, d0, d1, d2, d3, d4, d5, d6, d7, d8, d9, d10, g1, g2, Int.toNat_natCast] <;> with_reducible rfl) (by decide) ?_
        repeat (refine awp_seq ?_)
        refine awp_ret ⟨.inr rfl, _, rfl, ?_⟩
        rw [hwf]; rfl
      ·
        repeat (refine awp_seq ?_)
        refine awp_skip ?_
        exact ⟨⟨rfl, rfl, trivial⟩, (), _, ⟨rfl, trivial⟩, rfl, any_take_succ hi hg bt64⟩
    · intro s hg
      rw [List.take_length] at hg
      have hwf : wfT t = true := by rw [wfT_eq, hn, hg]; rfl
      repeat (refine awp_seq ?_)
      refine e_eval (by simp only [jA, jO, jN, seval, vint, TyS, TyF, BdS, Int.cast_ofNat_Int, d0, d1, d2, d3, d4, d5, d6, d7, d8, d9, d10] <;> with_reducible rfl) (by decide) ?_
      repeat (refine awp_seq ?_)
      refine awp_ret ⟨.inr rfl, _, rfl, ?_⟩
      rw [hwf]; rfl

theorem typeWF_5 (t : Ty) (hk : t.kind = 5) (hw : t.W) (ih : ∀ u ∈ t.args, PC Try.prog 40 [u.enc] (.bool (wfT u))) : PC Try.prog 40 [t.enc] (.bool (wfT t)) := by
  have hlen0 : (0 : Int) ≤ (t.args.length : Int) := by omega
  have d0 : decide (t.kind = 0) = false := decide_eq_false (by omega)
  have d1 : decide (t.kind = 1) = false := decide_eq_false (by omega)
  have d2 : decide (t.kind = 2) = false := decide_eq_false (by omega)
  have d3 : decide (t.kind = 3) = false := decide_eq_false (by omega)
  have d4 : decide (t.kind = 4) = false := decide_eq_false (by omega)
  have d5 : decide (t.kind = 5) = true := decide_eq_true hk
  have d6 : decide (t.kind = 6) = false := decide_eq_false (by omega)
  have d7 : decide (t.kind = 7) = false := decide_eq_false (by omega)
  have d8 : decide (t.kind = 8) = false := decide_eq_false (by omega)
  have d9 : decide (t.kind = 9) = false := decide_eq_false (by omega)
  have d10 : decide (t.kind = 10) = false := decide_eq_false (by omega)
  refine pc_of (N := 66) Try.func40 rfl rfl (by simp) (by simp [Ty.bel]) (.bool _) ?_
  repeat (refine awp_seq ?_)
  refine e_eval (by simp only [jA, jO, jN, seval, y29, vint, TyS, TyF, BdS, Int.cast_ofNat_Int, d0, d1, d2, d3, d4, d5, d6, d7, d8, d9, d10] <;> with_reducible rfl) (by decide) ?_
  repeat (refine awp_seq ?_)
  refine e_eval (by simp only [jA, jO, jN, seval, vint, TyS, TyF, BdS, Int.cast_ofNat_Int, d0, d1, d2, d3, d4, d5, d6, d7, d8, d9, d10] <;> with_reducible rfl) (by decide) ?_
  repeat (refine awp_seq ?_)
  refine e_eval (by simp only [jA, jO, jN, seval, y3, y29, vint, TyS, TyF, BdS, Int.cast_ofNat_Int, d0, d1, d2, d3, d4, d5, d6, d7, d8, d9, d10] <;> with_reducible rfl) (by decide) ?_
  repeat (refine awp_seq ?_)
  refine awp_block ?_
  repeat (refine awp_seq ?_)
  refine e_eval (by simp only [jA, jO, jN, seval, y3, vint, TyS, TyF, BdS, Int.cast_ofNat_Int, d0, d1, d2, d3, d4, d5, d6, d7, d8, d9, d10] <;> with_reducible rfl) (by decide) ?_
  repeat (refine awp_seq ?_)
  refine awp_cond_false rfl (by simp only [jN, seval, vint, TyS, TyF, BdS, Int.cast_ofNat_Int, d0, d1, d2, d3, d4, d5, d6, d7, d8, d9, d10] <;> with_reducible rfl) ?_
  repeat (refine awp_seq ?_)
  refine e_eval (by simp only [jA, jO, jN, seval, y3, vint, TyS, TyF, BdS, Int.cast_ofNat_Int, d0, d1, d2, d3, d4, d5, d6, d7, d8, d9, d10] <;> with_reducible rfl) (by decide) ?_
  repeat (refine awp_seq ?_)
  refine awp_cond_false rfl (by simp only [jN, seval, vint, TyS, TyF, BdS, Int.cast_ofNat_Int, d0, d1, d2, d3, d4, d5, d6, d7, d8, d9, d10] <;> with_reducible rfl) ?_
  repeat (refine awp_seq ?_)
  refine e_eval (by simp only [jA, jO, jN, seval, y3, vint, TyS, TyF, BdS, Int.cast_ofNat_Int, d0, d1, d2, d3, d4, d5, d6, d7, d8, d9, d10] <;> with_reducible rfl) (by decide) ?_
  repeat (refine awp_seq ?_)
  refine awp_cond_false rfl (by simp only [jN, seval, vint, TyS, TyF, BdS, Int.cast_ofNat_Int, d0, d1, d2, d3, d4, d5, d6, d7, d8, d9, d10] <;> with_reducible rfl) ?_
  repeat (refine awp_seq ?_)
  refine e_eval (by simp only [jA, jO, jN, seval, y3, vint, TyS, TyF, BdS, Int.cast_ofNat_Int, d0, d1, d2, d3, d4, d5, d6, d7, d8, d9, d10] <;> with_reducible rfl) (by decide) ?_
  repeat (refine awp_seq ?_)
  refine awp_cond_true rfl (by simp only [jN, seval, vint, TyS, TyF, BdS, Int.cast_ofNat_Int, d0, d1, d2, d3, d4, d5, d6, d7, d8, d9, d10] <;> with_reducible rfl) ?_
  repeat (refine awp_seq ?_)
  refine awp_skip ?_
  repeat (refine awp_seq ?_)
  refine awp_cond_true rfl (by simp only [jN, seval, vint, TyS, TyF, BdS, Int.cast_ofNat_Int, d0, d1, d2, d3, d4, d5, d6, d7, d8, d9, d10] <;> with_reducible rfl) ?_
  repeat (refine awp_seq ?_)
  refine awp_skip ?_
  refine awp_sel [1, 3, 4, 5] (by simp only [jN, seval, vint, TyS, TyF, BdS, Int.cast_ofNat_Int, d0, d1, d2, d3, d4, d5, d6, d7, d8, d9, d10] <;> with_reducible rfl) ?_
  repeat (refine awp_seq ?_)
  refine awp_region ?_
  refine aops_gstart ?_
  refine g_take 5 (by simp only [jG, jO, jN, seval, y27, y29, vint, TyS, TyF, BdS, Int.cast_ofNat_Int, d0, d1, d2, d3, d4, d5, d6, d7, d8, d9, d10] <;> with_reducible rfl) (by decide) ?_
  refine aops_gpure (by simp only [jE, jN, seval, vint, TyS, TyF, BdS, Int.cast_ofNat_Int, d0, d1, d2, d3, d4, d5, d6, d7, d8, d9, d10] <;> with_reducible rfl) (by simp only [jE, jN, seval, vint, TyS, TyF, BdS, Int.cast_ofNat_Int, d0, d1, d2, d3, d4, d5, d6, d7, d8, d9, d10] <;> with_reducible rfl) (by simp only [jE, jN, seval, vint, TyS, TyF, BdS, Int.cast_ofNat_Int, d0, d1, d2, d3, d4, d5, d6, d7, d8, d9, d10]) (by decide) Trygo67 (fun hc => inRange _ _ _ _) ?_
  refine g_end (by simp only [jG, jO, jN, seval, y3, y29, vint, TyS, TyF, BdS, Int.cast_ofNat_Int, d0, d1, d2, d3, d4, d5, d6, d7, d8, d9, d10] <;> with_reducible rfl) (by decide) (by repeat (first | exact Fin.base _ | with_reducible apply Fin.keep | apply Fin.drop)) ?_
  repeat (refine awp_seq ?_)
  refine awp_cond rfl (by simp only [jN, seval, vint, TyS, TyF, BdS, Int.cast_ofNat_Int, d0, d1, d2, d3, d4, d5, d6, d7, d8, d9, d10] <;> with_reducible rfl) (fun bt54 => ?_) (fun bt54 => ?_)
  ·
    have hn : nwf t = false := by
      unfold nwf
      simp only [d0, d1, d2, d3, d4, d5, d6, d7, d8, d9, d10, Bool.or_false, Bool.or_true, Bool.false_or, Bool.true_or, if_true, if_false, Bool.false_eq_true]
      rw [Bool.eq_false_iff]
      intro hh
      simp only [Bool.or_eq_true, Bool.and_eq_true, Bool.not_eq_true', Bool.and_eq_false_iff, Bool.or_eq_false_iff, Bool.not_eq_false', decide_eq_true_eq, decide_eq_false_iff_not] at hh bt54
      omega
    have hwf : wfT t = false := by rw [wfT_eq, hn]; rfl
    refine awp_sel [] (by simp only [jN, seval, vint, TyS, TyF, BdS, Int.cast_ofNat_Int, d0, d1, d2, d3, d4, d5, d6, d7, d8, d9, d10] <;> with_reducible rfl) ?_
    repeat (refine awp_seq ?_)
    refine e_eval (by simp only [jA, jO, jN, seval, vint, TyS, TyF, BdS, Int.cast_ofNat_Int, d0, d1, d2, d3, d4, d5, d6, d7, d8, d9, d10] <;> with_reducible rfl) (by decide) ?_
    repeat (refine awp_seq ?_)
    refine awp_ret ⟨.inr rfl, _, rfl, ?_⟩
    rw [hwf]; rfl
  ·
    have hn : nwf t = true := by
      unfold nwf
      simp only [d0, d1, d2, d3, d4, d5, d6, d7, d8, d9, d10, Bool.or_false, Bool.or_true, Bool.false_or, Bool.true_or, if_true, if_false, Bool.false_eq_true]
      simp only [Bool.or_eq_true, Bool.and_eq_true, Bool.not_eq_true', Bool.and_eq_false_iff, Bool.or_eq_false_iff, Bool.not_eq_false', decide_eq_true_eq, decide_eq_false_iff_not] at bt54 ⊢
      omega
    repeat (refine awp_seq ?_)
    refine awp_skip ?_
    refine awp_sel [1] (by simp only [jN, seval, vint, TyS, TyF, BdS, Int.cast_ofNat_Int, d0, d1, d2, d3, d4, d5, d6, d7, d8, d9, d10] <;> with_reducible rfl) ?_
    repeat (refine awp_seq ?_)
    refine e_eval (by simp only [jA, jO, jN, seval, y27, y29, vint, TyS, TyF, BdS, Int.cast_ofNat_Int, d0, d1, d2, d3, d4, d5, d6, d7, d8, d9, d10] <;> with_reducible rfl) (by decide) ?_
    repeat (refine awp_seq ?_)
    refine awp_forS (σ := Unit) (t.args.length) (fun (s : Unit) => [(56, .slice (t.args.map Ty.enc) .none)]) [56] ([]) (fun (s : Unit) => []) (fun (i : Nat) (s : Unit) => (t.args.take i).any (fun u => !wfT u) = false) (()) (_) rfl rfl rfl rfl rfl rfl rfl rfl rfl (by decide) (by decide) (by decide) (fun _ => rfl) (hw.lenMax) ⟨(by first | rfl | (simp only [jN, seval, vint, TyS, TyF, BdS, Int.cast_ofNat_Int, d0, d1, d2, d3, d4, d5, d6, d7, d8, d9, d10] <;> first | done | with_reducible rfl)), (by first | rfl | (simp only [jN, seval, vint, TyS, TyF, BdS, Int.cast_ofNat_Int, d0, d1, d2, d3, d4, d5, d6, d7, d8, d9, d10] <;> first | done | with_reducible rfl)), (by first | rfl | (simp only [jN, seval, vint, TyS, TyF, BdS, Int.cast_ofNat_Int, d0, d1, d2, d3, d4, d5, d6, d7, d8, d9, d10] <;> first | done | with_reducible rfl)), trivial⟩ (by first | rfl | (simp only [jN, seval, vint, TyS, TyF, BdS, Int.cast_ofNat_Int, d0, d1, d2, d3, d4, d5, d6, d7, d8, d9, d10] <;> first | done | with_reducible rfl)) (by simp) (fun _ _ _ => by first | exact Nat.zero_le _ | (simp only [List.length_append]; omega)) ?_ ?_ ?_
    · exact fun i s hg => ⟨by first | exact hbel_nil _ | (simp only [List.append_nil]; assumption) | (refine hbel_app' hb' (by simp) ?_; repeat (first | exact hbel_nil _ | exact trivial | exact obel_row_nil _ | (refine HBel.cons ?_ ?_) | (refine obel_row_cons (by first | exact bel_Bd _ _ | exact Bd.bel _ _ | exact bel_int_tok _ (by simp) | exact bel_ints0 _ _ | exact bel_slice_ty _ _ | exact Ty.bel _ _ | exact bel_ty_tok _ (by simp) | exact Bel.int _ _ | exact Bel.bool _ | exact Bel.str _ | exact Bel.nilp | exact Bel.nilfn | exact Bel.optr _ _ (by simp) | exact bel_nil0 _ | exact bel_nil1 _ | exact bel_fn0 _ _ | assumption) ?_))), by repeat (first | exact BelL.nil | refine BelL.cons (by first | exact bel_Bd _ _ | exact Bd.bel _ _ | exact bel_int_tok _ (by simp) | exact bel_ints0 _ _ | exact bel_slice_ty _ _ | exact Ty.bel _ _ | exact bel_ty_tok _ (by simp) | exact Bel.int _ _ | exact Bel.bool _ | exact Bel.str _ | exact Bel.nilp | exact Bel.nilfn | exact Bel.optr _ _ (by simp) | exact bel_nil0 _ | exact bel_nil1 _ | exact bel_fn0 _ _ | assumption) ?_)⟩
    · intro i s hi hg
      have g1 := ix_nat hi
      have g2 := get_enc Ty.enc hi
      have hmem : t.args[i] ∈ t.args := List.getElem_mem hi
      repeat (refine awp_seq ?_)
      refine e_eval (by simp only [jA, jO, jN, seval, y27, y29, vint, TyS, TyF, BdS, Int.cast_ofNat_Int, d0, d1, d2, d3, d4, d5, d6, d7, d8, d9, d10, g1, g2, Int.toNat_natCast] <;> with_reducible rfl) (by decide) ?_
      repeat (refine awp_seq ?_)
      refine awp_region ?_
      refine e_take 1 (by simp only [jA, jO, jN, seval, y29, vint, TyS, TyF, BdS, Int.cast_ofNat_Int, d0, d1, d2, d3, d4, d5, d6, d7, d8, d9, d10, g1, g2, Int.toNat_natCast] <;> with_reducible rfl) (by decide) ?_
      refine aops_pure (by simp only [jC, jN, seval, vint, TyS, TyF, BdS, Int.cast_ofNat_Int, d0, d1, d2, d3, d4, d5, d6, d7, d8, d9, d10, g1, g2, Int.toNat_natCast] <;> with_reducible rfl) (by simp only [jC, jN, seval, vint, TyS, TyF, BdS, Int.cast_ofNat_Int, d0, d1, d2, d3, d4, d5, d6, d7, d8, d9, d10, g1, g2, Int.toNat_natCast]) (by decide) Trygo40 (ih t.args[i] hmem _) ?_
      refine e_end (by simp only [jA, jO, jN, seval, vint, TyS, TyF, BdS, Int.cast_ofNat_Int, d0, d1, d2, d3, d4, d5, d6, d7, d8, d9, d10, g1, g2, Int.toNat_natCast] <;> with_reducible rfl) (by decide) ?_
      repeat (refine awp_seq ?_)
      refine awp_cond rfl (by simp only [jN, seval, vint, TyS, TyF, BdS, Int.cast_ofNat_Int, d0, d1, d2, d3, d4, d5, d6, d7, d8, d9, d10, g1, g2, Int.toNat_natCast] <;> with_reducible rfl) (fun bt64 => ?_) (fun bt64 => ?_)
      ·
        have hbad : (t.args.any fun u => !wfT u) = true := List.any_eq_true.2 ⟨_, hmem, bt64⟩
        have hwf : wfT t = false := by rw [wfT_eq, hn, hbad]; rfl
        repeat (refine awp_seq ?_)
        refine e_eval (by simp only [jA, jO, jN, seval, vint, TyS, TyF, BdS, Int.cast_ofNat_Int, d0, d1, d2, d3, d4, d5, d6, d7, d8, d9, d10, g1, g2, Int.toNat_natCast] <;> with_reducible rfl) (by decide) ?_
        repeat (refine awp_seq ?_)
        refine awp_ret ⟨.inr rfl, _, rfl, ?_⟩
        rw [hwf]; rfl
      ·
        repeat (refine awp_seq ?_)
        refine awp_skip ?_
        exact ⟨⟨rfl, rfl, trivial⟩, (), _, ⟨rfl, trivial⟩, rfl, any_take_succ hi hg bt64⟩
    · intro s hg
      rw [List.take_length] at hg
      have hwf : wfT t = true := by rw [wfT_eq, hn, hg]; rfl
      repeat (refine awp_seq ?_)
      refine e_eval (by simp only [jA, jO, jN, seval, vint, TyS, TyF, BdS, Int.cast_ofNat_Int, d0, d1, d2, d3, d4, d5, d6, d7, d8, d9, d10] <;> with_reducible rfl) (by decide) ?_
      repeat (refine awp_seq ?_)
      refine awp_ret ⟨.inr rfl, _, rfl, ?_⟩
      rw [hwf]; rfl

theorem typeWF_6 (t : Ty) (hk : t.kind = 6) (hw : t.W) (ih : ∀ u ∈ t.args, PC Try.prog 40 [u.enc] (.bool (wfT u))) : PC Try.prog 40 [t.enc] (.bool (wfT t)) := by
  have hlen0 : (0 : Int) ≤ (t.args.length : Int) := by omega
  have d0 : decide (t.kind = 0) = false := decide_eq_false (by omega)
  have d1 : decide (t.kind = 1) = false := decide_eq_false (by omega)
  have d2 : decide (t.kind = 2) = false := decide_eq_false (by omega)
  have d3 : decide (t.kind = 3) = false := decide_eq_false (by omega)
  have d4 : decide (t.kind = 4) = false := decide_eq_false (by omega)
  have d5 : decide (t.kind = 5) = false := decide_eq_false (by omega)
  have d6 : decide (t.kind = 6) = true := decide_eq_true hk
  have d7 : decide (t.kind = 7) = false := decide_eq_false (by omega)
  have d8 : decide (t.kind = 8) = false := decide_eq_false (by omega)
  have d9 : decide (t.kind = 9) = false := decide_eq_false (by omega)
  have d10 : decide (t.kind = 10) = false := decide_eq_false (by omega)
  refine pc_of (N := 66) Try.func40 rfl rfl (by simp) (by simp [Ty.bel]) (.bool _) ?_
  repeat (refine awp_seq ?_)
  refine e_eval (by simp only [jA, jO, jN, seval, y29, vint, TyS, TyF, BdS, Int.cast_ofNat_Int, d0, d1, d2, d3, d4, d5, d6, d7, d8, d9, d10] <;> with_reducible rfl) (by decide) ?_
  repeat (refine awp_seq ?_)
  refine e_eval (by simp only [jA, jO, jN, seval, vint, TyS, TyF, BdS, Int.cast_ofNat_Int, d0, d1, d2, d3, d4, d5, d6, d7, d8, d9, d10] <;> with_reducible rfl) (by decide) ?_
  repeat (refine awp_seq ?_)
  refine e_eval (by simp only [jA, jO, jN, seval, y3, y29, vint, TyS, TyF, BdS, Int.cast_ofNat_Int, d0, d1, d2, d3, d4, d5, d6, d7, d8, d9, d10] <;> with_reducible rfl) (by decide) ?_
  repeat (refine awp_seq ?_)
  refine awp_block ?_
  repeat (refine awp_seq ?_)
  refine e_eval (by simp only [jA, jO, jN, seval, y3, vint, TyS, TyF, BdS, Int.cast_ofNat_Int, d0, d1, d2, d3, d4, d5, d6, d7, d8, d9, d10] <;> with_reducible rfl) (by decide) ?_
  repeat (refine awp_seq ?_)
  refine awp_cond_false rfl (by simp only [jN, seval, vint, TyS, TyF, BdS, Int.cast_ofNat_Int, d0, d1, d2, d3, d4, d5, d6, d7, d8, d9, d10] <;> with_reducible rfl) ?_
  repeat (refine awp_seq ?_)
  refine e_eval (by simp only [jA, jO, jN, seval, y3, vint, TyS, TyF, BdS, Int.cast_ofNat_Int, d0, d1, d2, d3, d4, d5, d6, d7, d8, d9, d10] <;> with_reducible rfl) (by decide) ?_
  repeat (refine awp_seq ?_)
  refine awp_cond_false rfl (by simp only [jN, seval, vint, TyS, TyF, BdS, Int.cast_ofNat_Int, d0, d1, d2, d3, d4, d5, d6, d7, d8, d9, d10] <;> with_reducible rfl) ?_
  repeat (refine awp_seq ?_)
  refine e_eval (by simp only [jA, jO, jN, seval, y3, vint, TyS, TyF, BdS, Int.cast_ofNat_Int, d0, d1, d2, d3, d4, d5, d6, d7, d8, d9, d10] <;> with_reducible rfl) (by decide) ?_
  repeat (refine awp_seq ?_)
  refine awp_cond_false rfl (by simp only [jN, seval, vint, TyS, TyF, BdS, Int.cast_ofNat_Int, d0, d1, d2, d3, d4, d5, d6, d7, d8, d9, d10] <;> with_reducible rfl) ?_
  repeat (refine awp_seq ?_)
  refine e_eval (by simp only [jA, jO, jN, seval, y3, vint, TyS, TyF, BdS, Int.cast_ofNat_Int, d0, d1, d2, d3, d4, d5, d6, d7, d8, d9, d10] <;> with_reducible rfl) (by decide) ?_
  repeat (refine awp_seq ?_)
  refine awp_cond_false rfl (by simp only [jN, seval, vint, TyS, TyF, BdS, Int.cast_ofNat_Int, d0, d1, d2, d3, d4, d5, d6, d7, d8, d9, d10] <;> with_reducible rfl) ?_
  refine awp_sel [1, 3, 4, 5, 9] (by simp only [jN, seval, vint, TyS, TyF, BdS, Int.cast_ofNat_Int, d0, d1, d2, d3, d4, d5, d6, d7, d8, d9, d10] <;> with_reducible rfl) ?_
  repeat (refine awp_seq ?_)
  refine e_eval (by simp only [jA, jO, jN, seval, y3, vint, TyS, TyF, BdS, Int.cast_ofNat_Int, d0, d1, d2, d3, d4, d5, d6, d7, d8, d9, d10] <;> with_reducible rfl) (by decide) ?_
  repeat (refine awp_seq ?_)
  refine awp_cond_true rfl (by simp only [jN, seval, vint, TyS, TyF, BdS, Int.cast_ofNat_Int, d0, d1, d2, d3, d4, d5, d6, d7, d8, d9, d10] <;> with_reducible rfl) ?_
  repeat (refine awp_seq ?_)
  refine awp_skip ?_
  repeat (refine awp_seq ?_)
  refine awp_region ?_
  refine aops_gstart ?_
  refine g_take 5 (by simp only [jG, jO, jN, seval, y27, y29, vint, TyS, TyF, BdS, Int.cast_ofNat_Int, d0, d1, d2, d3, d4, d5, d6, d7, d8, d9, d10] <;> with_reducible rfl) (by decide) ?_
  refine aops_gpure (by simp only [jE, jN, seval, vint, TyS, TyF, BdS, Int.cast_ofNat_Int, d0, d1, d2, d3, d4, d5, d6, d7, d8, d9, d10] <;> with_reducible rfl) (by simp only [jE, jN, seval, vint, TyS, TyF, BdS, Int.cast_ofNat_Int, d0, d1, d2, d3, d4, d5, d6, d7, d8, d9, d10] <;> with_reducible rfl) (by simp only [jE, jN, seval, vint, TyS, TyF, BdS, Int.cast_ofNat_Int, d0, d1, d2, d3, d4, d5, d6, d7, d8, d9, d10]) (by decide) Trygo67 (fun hc => inRange _ _ _ _) ?_
  refine g_end (by simp only [jG, jO, jN, seval, y3, y29, vint, TyS, TyF, BdS, Int.cast_ofNat_Int, d0, d1, d2, d3, d4, d5, d6, d7, d8, d9, d10] <;> with_reducible rfl) (by decide) (by repeat (first | exact Fin.base _ | with_reducible apply Fin.keep | apply Fin.drop)) ?_
  repeat (refine awp_seq ?_)
  refine awp_cond rfl (by simp only [jN, seval, vint, TyS, TyF, BdS, Int.cast_ofNat_Int, d0, d1, d2, d3, d4, d5, d6, d7, d8, d9, d10] <;> with_reducible rfl) (fun bt54 => ?_) (fun bt54 => ?_)
  ·
    have hn : nwf t = false := by
      unfold nwf
      simp only [d0, d1, d2, d3, d4, d5, d6, d7, d8, d9, d10, Bool.or_false, Bool.or_true, Bool.false_or, Bool.true_or, if_true, if_false, Bool.false_eq_true]
      rw [Bool.eq_false_iff]
      intro hh
      simp only [Bool.or_eq_true, Bool.and_eq_true, Bool.not_eq_true', Bool.and_eq_false_iff, Bool.or_eq_false_iff, Bool.not_eq_false', decide_eq_true_eq, decide_eq_false_iff_not] at hh bt54
      omega
    have hwf : wfT t = false := by rw [wfT_eq, hn]; rfl
    refine awp_sel [] (by simp only [jN, seval, vint, TyS, TyF, BdS, Int.cast_ofNat_Int, d0, d1, d2, d3, d4, d5, d6, d7, d8, d9, d10] <;> with_reducible rfl) ?_
    repeat (refine awp_seq ?_)
    refine e_eval (by simp only [jA, jO, jN, seval, vint, TyS, TyF, BdS, Int.cast_ofNat_Int, d0, d1, d2, d3, d4, d5, d6, d7, d8, d9, d10] <;> with_reducible rfl) (by decide) ?_
    repeat (refine awp_seq ?_)
    refine awp_ret ⟨.inr rfl, _, rfl, ?_⟩
    rw [hwf]; rfl
  ·
    have hn : nwf t = true := by
      unfold nwf
      simp only [d0, d1, d2, d3, d4, d5, d6, d7, d8, d9, d10, Bool.or_false, Bool.or_true, Bool.false_or, Bool.true_or, if_true, if_false, Bool.false_eq_true]
      simp only [Bool.or_eq_true, Bool.and_eq_true, Bool.not_eq_true', Bool.and_eq_false_iff, Bool.or_eq_false_iff, Bool.not_eq_false', decide_eq_true_eq, decide_eq_false_iff_not] at bt54 ⊢
      omega
    repeat (refine awp_seq ?_)
    refine awp_skip ?_
    refine awp_sel [1] (by simp only [jN, seval, vint, TyS, TyF, BdS, Int.cast_ofNat_Int, d0, d1, d2, d3, d4, d5, d6, d7, d8, d9, d10] <;> with_reducible rfl) ?_
    repeat (refine awp_seq ?_)
    refine e_eval (by simp only [jA, jO, jN, seval, y27, y29, vint, TyS, TyF, BdS, Int.cast_ofNat_Int, d0, d1, d2, d3, d4, d5, d6, d7, d8, d9, d10] <;> with_reducible rfl) (by decide) ?_
    repeat (refine awp_seq ?_)
    refine awp_forS (σ := Unit) (t.args.length) (fun (s : Unit) => [(56, .slice (t.args.map Ty.enc) .none)]) [56] ([]) (fun (s : Unit) => []) (fun (i : Nat) (s : Unit) => (t.args.take i).any (fun u => !wfT u) = false) (()) (_) rfl rfl rfl rfl rfl rfl rfl rfl rfl (by decide) (by decide) (by decide) (fun _ => rfl) (hw.lenMax) ⟨(by first | rfl | (simp only [jN, seval, vint, TyS, TyF, BdS, Int.cast_ofNat_Int, d0, d1, d2, d3, d4, d5, d6, d7, d8, d9, d10] <;> first | done | with_reducible rfl)), (by first | rfl | (simp only [jN, seval, vint, TyS, TyF, BdS, Int.cast_ofNat_Int, d0, d1, d2, d3, d4, d5, d6, d7, d8, d9, d10] <;> first | done | with_reducible rfl)), (by first | rfl | (simp only [jN, seval, vint, TyS, TyF, BdS, Int.cast_ofNat_Int, d0, d1, d2, d3, d4, d5, d6, d7, d8, d9, d10] <;> first | done | with_reducible rfl)), trivial⟩ (by first | rfl | (simp only [jN, seval, vint, TyS, TyF, BdS, Int.cast_ofNat_Int, d0, d1, d2, d3, d4, d5, d6, d7, d8, d9, d10] <;> first | done | with_reducible rfl)) (by simp) (fun _ _ _ => by first | exact Nat.zero_le _ | (simp only [List.length_append]; omega)) ?_ ?_ ?_
    · exact fun i s hg => ⟨by first | exact hbel_nil _ | (simp only [List.append_nil]; assumption) | (refine hbel_app' hb' (by simp) ?_; repeat (first | exact hbel_nil _ | exact trivial | exact obel_row_nil _ | (refine HBel.cons ?_ ?_) | (refine obel_row_cons (by first | exact bel_Bd _ _ | exact Bd.bel _ _ | exact bel_int_tok _ (by simp) | exact bel_ints0 _ _ | exact bel_slice_ty _ _ | exact Ty.bel _ _ | exact bel_ty_tok _ (by simp) | exact Bel.int _ _ | exact Bel.bool _ | exact Bel.str _ | exact Bel.nilp | exact Bel.nilfn | exact Bel.optr _ _ (by simp) | exact bel_nil0 _ | exact bel_nil1 _ | exact bel_fn0 _ _ | assumption) ?_))), by repeat (first | exact BelL.nil | refine BelL.cons (by first | exact bel_Bd _ _ | exact Bd.bel _ _ | exact bel_int_tok _ (by simp) | exact bel_ints0 _ _ | exact bel_slice_ty _ _ | exact Ty.bel _ _ | exact bel_ty_tok _ (by simp) | exact Bel.int _ _ | exact Bel.bool _ | exact Bel.str _ | exact Bel.nilp | exact Bel.nilfn | exact Bel.optr _ _ (by simp) | exact bel_nil0 _ | exact bel_nil1 _ | exact bel_fn0 _ _ | assumption) ?_)⟩
    · intro i s hi hg
      have g1 := ix_nat hi
      have g2 := get_enc Ty.enc hi
      have hmem : t.args[i] ∈ t.args := List.getElem_mem hi
      repeat (refine awp_seq ?_)
      refine e_eval (by simp only [jA, jO, jN, seval, y27, y29, vint, TyS, TyF, BdS, Int.cast_ofNat_Int, d0, d1, d2, d3, d4, d5, d6, d7, d8, d9, d10, g1, g2, Int.toNat_natCast] <;> with_reducible rfl) (by decide) ?_
      repeat (refine awp_seq ?_)
      refine awp_region ?_
      refine e_take 1 (by simp only [jA, jO, jN, seval, y29, vint, TyS, TyF, BdS, Int.cast_ofNat_Int, d0, d1, d2, d3, d4, d5, d6, d7, d8, d9, d10, g1, g2, Int.toNat_natCast] <;> with_reducible rfl) (by decide) ?_
      refine aops_pure (by simp only [jC, jN, seval, vint, TyS, TyF, BdS, Int.cast_ofNat_Int, d0, d1, d2, d3, d4, d5, d6, d7, d8, d9, d10, g1, g2, Int.toNat_natCast] <;> with_reducible rfl) (by simp only [jC, jN, seval, vint, TyS, TyF, BdS, Int.cast_ofNat_Int, d0, d1, d2, d3, d4, d5, d6, d7, d8, d9, d10, g1, g2, Int.toNat_natCast]) (by decide) Trygo40 (ih t.args[i] hmem _) ?_
      refine e_end (by simp only [jA, jO, jN, seval, vint, TyS, TyF, BdS, Int.cast_ofNat_Int, d0, d1, d2, d3, d4, d5, d6, d7, d8, d9, d10, g1, g2, Int.toNat_natCast] <;> with_reducible rfl) (by decide) ?_
      repeat (refine awp_seq ?_)
      refine awp_cond rfl (by simp only [jN, seval, vint, TyS, TyF, BdS, Int.cast_ofNat_Int, d0, d1, d2, d3, d4, d5, d6, d7, d8, d9, d10, g1, g2, Int.toNat_natCast] <;> with_reducible rfl) (fun bt64 => ?_) (fun bt64 => ?_)
      ·
        have hbad : (t.args.any fun u => !wfT u) = true := List.any_eq_true.2 ⟨_, hmem, bt64⟩
        have hwf : wfT t = false := by rw [wfT_eq, hn, hbad]; rfl
        repeat (refine awp_seq ?_)
        refine e_eval (by simp only [jA, jO, jN, seval, vint, TyS, TyF, BdS, Int.cast_ofNat_Int, d0, d1, d2, d3, d4, d5, d6, d7, d8, d9, d10, g1, g2, Int.toNat_natCast] <;> with_reducible rfl) (by decide) ?_
        repeat (refine awp_seq ?_)
        refine awp_ret ⟨.inr rfl, _, rfl, ?_⟩
        rw [hwf]; rfl
      ·
        repeat (refine awp_seq ?_)
        refine awp_skip ?_
        exact ⟨⟨rfl, rfl, trivial⟩, (), _, ⟨rfl, trivial⟩, rfl, any_take_succ hi hg bt64⟩
    · intro s hg
      rw [List.take_length] at hg
      have hwf : wfT t = true := by rw [wfT_eq, hn, hg]; rfl
      repeat (refine awp_seq ?_)
      refine e_eval (by simp only [jA, jO, jN, seval, vint, TyS, TyF, BdS, Int.cast_ofNat_Int, d0, d1, d2, d3, d4, d5, d6, d7, d8, d9, d10] <;> with_reducible rfl) (by decide) ?_
      repeat (refine awp_seq ?_)
      refine awp_ret ⟨.inr rfl, _, rfl, ?_⟩
      rw [hwf]; rfl

theorem typeWF_7 (t : Ty) (hk : t.kind = 7) (hw : t.W) (ih : ∀ u ∈ t.args, PC Try.prog 40 [u.enc] (.bool (wfT u))) : PC Try.prog 40 [t.enc] (.bool (wfT t)) := by
  have hlen0 : (0 : Int) ≤ (t.args.length : Int) := by omega
  have d0 : decide (t.kind = 0) = false := decide_eq_false (by omega)
  have d1 : decide (t.kind = 1) = false := decide_eq_false (by omega)
  have d2 : decide (t.kind = 2) = false := decide_eq_false (by omega)
  have d3 : decide (t.kind = 3) = false := decide_eq_false (by omega)
  have d4 : decide (t.kind = 4) = false := decide_eq_false (by omega)
  have d5 : decide (t.kind = 5) = false := decide_eq_false (by omega)
  have d6 : decide (t.kind = 6) = false := decide_eq_false (by omega)
  have d7 : decide (t.kind = 7) = true := decide_eq_true hk
  have d8 : decide (t.kind = 8) = false := decide_eq_false (by omega)
  have d9 : decide (t.kind = 9) = false := decide_eq_false (by omega)
  have d10 : decide (t.kind = 10) = false := decide_eq_false (by omega)
  refine pc_of (N := 66) Try.func40 rfl rfl (by simp) (by simp [Ty.bel]) (.bool _) ?_
  repeat (refine awp_seq ?_)
  refine e_eval (by simp only [jA, jO, jN, seval, y29, vint, TyS, TyF, BdS, Int.cast_ofNat_Int, d0, d1, d2, d3, d4, d5, d6, d7, d8, d9, d10] <;> with_reducible rfl) (by decide) ?_
  repeat (refine awp_seq ?_)
  refine e_eval (by simp only [jA, jO, jN, seval, vint, TyS, TyF, BdS, Int.cast_ofNat_Int, d0, d1, d2, d3, d4, d5, d6, d7, d8, d9, d10] <;> with_reducible rfl) (by decide) ?_
  repeat (refine awp_seq ?_)
  refine e_eval (by simp only [jA, jO, jN, seval, y3, y29, vint, TyS, TyF, BdS, Int.cast_ofNat_Int, d0, d1, d2, d3, d4, d5, d6, d7, d8, d9, d10] <;> with_reducible rfl) (by decide) ?_
  repeat (refine awp_seq ?_)
  refine awp_block ?_
  repeat (refine awp_seq ?_)
  refine e_eval (by simp only [jA, jO, jN, seval, y3, vint, TyS, TyF, BdS, Int.cast_ofNat_Int, d0, d1, d2, d3, d4, d5, d6, d7, d8, d9, d10] <;> with_reducible rfl) (by decide) ?_
  repeat (refine awp_seq ?_)
  refine awp_cond_false rfl (by simp only [jN, seval, vint, TyS, TyF, BdS, Int.cast_ofNat_Int, d0, d1, d2, d3, d4, d5, d6, d7, d8, d9, d10] <;> with_reducible rfl) ?_
  repeat (refine awp_seq ?_)
  refine e_eval (by simp only [jA, jO, jN, seval, y3, vint, TyS, TyF, BdS, Int.cast_ofNat_Int, d0, d1, d2, d3, d4, d5, d6, d7, d8, d9, d10] <;> with_reducible rfl) (by decide) ?_
  repeat (refine awp_seq ?_)
  refine awp_cond_false rfl (by simp only [jN, seval, vint, TyS, TyF, BdS, Int.cast_ofNat_Int, d0, d1, d2, d3, d4, d5, d6, d7, d8, d9, d10] <;> with_reducible rfl) ?_
  repeat (refine awp_seq ?_)
  refine e_eval (by simp only [jA, jO, jN, seval, y3, vint, TyS, TyF, BdS, Int.cast_ofNat_Int, d0, d1, d2, d3, d4, d5, d6, d7, d8, d9, d10] <;> with_reducible rfl) (by decide) ?_
  repeat (refine awp_seq ?_)
  refine awp_cond_false rfl (by simp only [jN, seval, vint, TyS, TyF, BdS, Int.cast_ofNat_Int, d0, d1, d2, d3, d4, d5, d6, d7, d8, d9, d10] <;> with_reducible rfl) ?_
  repeat (refine awp_seq ?_)
  refine e_eval (by simp only [jA, jO, jN, seval, y3, vint, TyS, TyF, BdS, Int.cast_ofNat_Int, d0, d1, d2, d3, d4, d5, d6, d7, d8, d9, d10] <;> with_reducible rfl) (by decide) ?_
  repeat (refine awp_seq ?_)
  refine awp_cond_false rfl (by simp only [jN, seval, vint, TyS, TyF, BdS, Int.cast_ofNat_Int, d0, d1, d2, d3, d4, d5, d6, d7, d8, d9, d10] <;> with_reducible rfl) ?_
  refine awp_sel [1, 3, 4, 5, 9] (by simp only [jN, seval, vint, TyS, TyF, BdS, Int.cast_ofNat_Int, d0, d1, d2, d3, d4, d5, d6, d7, d8, d9, d10] <;> with_reducible rfl) ?_
  repeat (refine awp_seq ?_)
  refine e_eval (by simp only [jA, jO, jN, seval, y3, vint, TyS, TyF, BdS, Int.cast_ofNat_Int, d0, d1, d2, d3, d4, d5, d6, d7, d8, d9, d10] <;> with_reducible rfl) (by decide) ?_
  repeat (refine awp_seq ?_)
  refine awp_cond_false rfl (by simp only [jN, seval, vint, TyS, TyF, BdS, Int.cast_ofNat_Int, d0, d1, d2, d3, d4, d5, d6, d7, d8, d9, d10] <;> with_reducible rfl) ?_
  repeat (refine awp_seq ?_)
  refine e_eval (by simp only [jA, jO, jN, seval, y3, vint, TyS, TyF, BdS, Int.cast_ofNat_Int, d0, d1, d2, d3, d4, d5, d6, d7, d8, d9, d10] <;> with_reducible rfl) (by decide) ?_
  repeat (refine awp_seq ?_)
  refine awp_cond_false rfl (by simp only [jN, seval, vint, TyS, TyF, BdS, Int.cast_ofNat_Int, d0, d1, d2, d3, d4, d5, d6, d7, d8, d9, d10] <;> with_reducible rfl) ?_
  repeat (refine awp_seq ?_)
  refine e_eval (by simp only [jA, jO, jN, seval, y3, vint, TyS, TyF, BdS, Int.cast_ofNat_Int, d0, d1, d2, d3, d4, d5, d6, d7, d8, d9, d10] <;> with_reducible rfl) (by decide) ?_
  repeat (refine awp_seq ?_)
  refine awp_cond_false rfl (by simp only [jN, seval, vint, TyS, TyF, BdS, Int.cast_ofNat_Int, d0, d1, d2, d3, d4, d5, d6, d7, d8, d9, d10] <;> with_reducible rfl) ?_
  repeat (refine awp_seq ?_)
  refine e_eval (by simp only [jA, jO, jN, seval, y3, vint, TyS, TyF, BdS, Int.cast_ofNat_Int, d0, d1, d2, d3, d4, d5, d6, d7, d8, d9, d10] <;> with_reducible rfl) (by decide) ?_
  repeat (refine awp_seq ?_)
  refine awp_cond_true rfl (by simp only [jN, seval, vint, TyS, TyF, BdS, Int.cast_ofNat_Int, d0, d1, d2, d3, d4, d5, d6, d7, d8, d9, d10] <;> with_reducible rfl) ?_
  repeat (refine awp_seq ?_)
  refine awp_draw 0 (by kernel_rfl) ?_
  refine d_end (bm := [0, 1, 3, 0, 15]) (fresh := 0) (by kernel_rfl) (by simp only [jD, jO, jN, seval, y27, y29, vint, TyS, TyF, BdS, Int.cast_ofNat_Int, d0, d1, d2, d3, d4, d5, d6, d7, d8, d9, d10] <;> with_reducible rfl) (by decide) ?_
  repeat (refine awp_seq ?_)
  refine awp_region ?_
  refine aops_gstart ?_
  refine g_take 5 (by simp only [jG, jO, jN, seval, y27, y29, vint, TyS, TyF, BdS, Int.cast_ofNat_Int, d0, d1, d2, d3, d4, d5, d6, d7, d8, d9, d10] <;> with_reducible rfl) (by decide) ?_
  refine aops_gpure (by simp only [jE, jN, seval, vint, TyS, TyF, BdS, Int.cast_ofNat_Int, d0, d1, d2, d3, d4, d5, d6, d7, d8, d9, d10] <;> with_reducible rfl) (by simp only [jE, jN, seval, vint, TyS, TyF, BdS, Int.cast_ofNat_Int, d0, d1, d2, d3, d4, d5, d6, d7, d8, d9, d10] <;> with_reducible rfl) (by simp only [jE, jN, seval, vint, TyS, TyF, BdS, Int.cast_ofNat_Int, d0, d1, d2, d3, d4, d5, d6, d7, d8, d9, d10]) (by decide) Trygo67 (fun hc => inRange _ _ _ _) ?_
  refine g_end (by simp only [jG, jO, jN, seval, y3, y29, vint, TyS, TyF, BdS, Int.cast_ofNat_Int, d0, d1, d2, d3, d4, d5, d6, d7, d8, d9, d10] <;> with_reducible rfl) (by decide) (by repeat (first | exact Fin.base _ | with_reducible apply Fin.keep | apply Fin.drop)) ?_
  repeat (refine awp_seq ?_)
  refine awp_cond rfl (by simp only [jN, seval, vint, TyS, TyF, BdS, Int.cast_ofNat_Int, d0, d1, d2, d3, d4, d5, d6, d7, d8, d9, d10] <;> with_reducible rfl) (fun bt54 => ?_) (fun bt54 => ?_)
  ·
    have hn : nwf t = false := by
      unfold nwf
      simp only [d0, d1, d2, d3, d4, d5, d6, d7, d8, d9, d10, Bool.or_false, Bool.or_true, Bool.false_or, Bool.true_or, if_true, if_false, Bool.false_eq_true]
      rw [Bool.eq_false_iff]
      intro hh
      simp only [Bool.or_eq_true, Bool.and_eq_true, Bool.not_eq_true', Bool.and_eq_false_iff, Bool.or_eq_false_iff, Bool.not_eq_false', decide_eq_true_eq, decide_eq_false_iff_not] at hh bt54
      omega
    have hwf : wfT t = false := by rw [wfT_eq, hn]; rfl
    refine awp_sel [] (by simp only [jN, seval, vint, TyS, TyF, BdS, Int.cast_ofNat_Int, d0, d1, d2, d3, d4, d5, d6, d7, d8, d9, d10] <;> with_reducible rfl) ?_
    repeat (refine awp_seq ?_)
    refine e_eval (by simp only [jA, jO, jN, seval, vint, TyS, TyF, BdS, Int.cast_ofNat_Int, d0, d1, d2, d3, d4, d5, d6, d7, d8, d9, d10] <;> with_reducible rfl) (by decide) ?_
    repeat (refine awp_seq ?_)
    refine awp_ret ⟨.inr rfl, _, rfl, ?_⟩
    rw [hwf]; rfl
  ·
    have hn : nwf t = true := by
      unfold nwf
      simp only [d0, d1, d2, d3, d4, d5, d6, d7, d8, d9, d10, Bool.or_false, Bool.or_true, Bool.false_or, Bool.true_or, if_true, if_false, Bool.false_eq_true]
      simp only [Bool.or_eq_true, Bool.and_eq_true, Bool.not_eq_true', Bool.and_eq_false_iff, Bool.or_eq_false_iff, Bool.not_eq_false', decide_eq_true_eq, decide_eq_false_iff_not] at bt54 ⊢
      omega
    repeat (refine awp_seq ?_)
    refine awp_skip ?_
    refine awp_sel [1] (by simp only [jN, seval, vint, TyS, TyF, BdS, Int.cast_ofNat_Int, d0, d1, d2, d3, d4, d5, d6, d7, d8, d9, d10] <;> with_reducible rfl) ?_
    repeat (refine awp_seq ?_)
    refine e_eval (by simp only [jA, jO, jN, seval, y27, y29, vint, TyS, TyF, BdS, Int.cast_ofNat_Int, d0, d1, d2, d3, d4, d5, d6, d7, d8, d9, d10] <;> with_reducible rfl) (by decide) ?_
    repeat (refine awp_seq ?_)
    refine awp_forS (σ := Unit) (t.args.length) (fun (s : Unit) => [(56, .slice (t.args.map Ty.enc) .none)]) [56] ([]) (fun (s : Unit) => []) (fun (i : Nat) (s : Unit) => (t.args.take i).any (fun u => !wfT u) = false) (()) (_) rfl rfl rfl rfl rfl rfl rfl rfl rfl (by decide) (by decide) (by decide) (fun _ => rfl) (hw.lenMax) ⟨(by first | rfl | (simp only [jN, seval, vint, TyS, TyF, BdS, Int.cast_ofNat_Int, d0, d1, d2, d3, d4, d5, d6, d7, d8, d9, d10] <;> first | done | with_reducible rfl)), (by first | rfl | (simp only [jN, seval, vint, TyS, TyF, BdS, Int.cast_ofNat_Int, d0, d1, d2, d3, d4, d5, d6, d7, d8, d9, d10] <;> first | done | with_reducible rfl)), (by first | rfl | (simp only [jN, seval, vint, TyS, TyF, BdS, Int.cast_ofNat_Int, d0, d1, d2, d3, d4, d5, d6, d7, d8, d9, d10] <;> first | done | with_reducible rfl)), trivial⟩ (by first | rfl | (simp only [jN, seval, vint, TyS, TyF, BdS, Int.cast_ofNat_Int, d0, d1, d2, d3, d4, d5, d6, d7, d8, d9, d10] <;> first | done | with_reducible rfl)) (by simp) (fun _ _ _ => by first | exact Nat.zero_le _ | (simp only [List.length_append]; omega)) ?_ ?_ ?_
    · exact fun i s hg => ⟨by first | exact hbel_nil _ | (simp only [List.append_nil]; assumption) | (refine hbel_app' hb' (by simp) ?_; repeat (first | exact hbel_nil _ | exact trivial | exact obel_row_nil _ | (refine HBel.cons ?_ ?_) | (refine obel_row_cons (by first | exact bel_Bd _ _ | exact Bd.bel _ _ | exact bel_int_tok _ (by simp) | exact bel_ints0 _ _ | exact bel_slice_ty _ _ | exact Ty.bel _ _ | exact bel_ty_tok _ (by simp) | exact Bel.int _ _ | exact Bel.bool _ | exact Bel.str _ | exact Bel.nilp | exact Bel.nilfn | exact Bel.optr _ _ (by simp) | exact bel_nil0 _ | exact bel_nil1 _ | exact bel_fn0 _ _ | assumption) ?_))), by repeat (first | exact BelL.nil | refine BelL.cons (by first | exact bel_Bd _ _ | exact Bd.bel _ _ | exact bel_int_tok _ (by simp) | exact bel_ints0 _ _ | exact bel_slice_ty _ _ | exact Ty.bel _ _ | exact bel_ty_tok _ (by simp) | exact Bel.int _ _ | exact Bel.bool _ | exact Bel.str _ | exact Bel.nilp | exact Bel.nilfn | exact Bel.optr _ _ (by simp) | exact bel_nil0 _ | exact bel_nil1 _ | exact bel_fn0 _ _ | assumption) ?_)⟩
    · intro i s hi hg
      have g1 := ix_nat hi
      have g2 := get_enc Ty.enc hi
      have hmem : t.args[i] ∈ t.args := List.getElem_mem hi
      repeat (refine awp_seq ?_)
      refine e_eval (by simp only [jA, jO, jN, seval, y27, y29, vint, TyS, TyF, BdS, Int.cast_ofNat_Int, d0, d1, d2, d3, d4, d5, d6, d7, d8, d9, d10, g1, g2, Int.toNat_natCast] <;> with_reducible rfl) (by decide) ?_
      repeat (refine awp_seq ?_)
      refine awp_region ?_
      refine e_take 1 (by simp only [jA, jO, jN, seval, y29, vint, TyS, TyF, BdS, Int.cast_ofNat_Int, d0, d1, d2, d3, d4, d5, d6, d7, d8, d9, d10, g1, g2, Int.toNat_natCast] <;> with_reducible rfl) (by decide) ?_
      refine aops_pure (by simp only [jC, jN, seval, vint, TyS, TyF, BdS, Int.cast_ofNat_Int, d0, d1, d2, d3, d4, d5, d6, d7, d8, d9, d10, g1, g2, Int.toNat_natCast] <;> with_reducible rfl) (by simp only [jC, jN, seval, vint, TyS, TyF, BdS, Int.cast_ofNat_Int, d0, d1, d2, d3, d4, d5, d6, d7, d8, d9, d10, g1, g2, Int.toNat_natCast]) (by decide) Trygo40 (ih t.args[i] hmem _) ?_
      refine e_end (by simp only [jA, jO, jN, seval, vint, TyS, TyF, BdS, Int.cast_ofNat_Int, d0, d1, d2, d3, d4, d5, d6, d7, d8, d9, d10, g1, g2, Int.toNat_natCast] <;> with_reducible rfl) (by decide) ?_
      repeat (refine awp_seq ?_)
      refine awp_cond rfl (by simp only [jN, seval, vint, TyS, TyF, BdS, Int.cast_ofNat_Int, d0, d1, d2, d3, d4, d5, d6, d7, d8, d9, d10, g1, g2, Int.toNat_natCast] <;> with_reducible rfl) (fun bt64 => ?_) (fun bt64 => ?_)
      ·
        have hbad : (t.args.any fun u => !wfT u) = true := List.any_eq_true.2 ⟨_, hmem, bt64⟩
        have hwf : wfT t = false := by rw [wfT_eq, hn, hbad]; rfl
        repeat (refine awp_seq ?_)
        refine e_eval (by simp only [jA, jO, jN, seval, vint, TyS, TyF, BdS, Int.cast_ofNat_Int, d0, d1, d2, d3, d4, d5, d6, d7, d8, d9, d10, g1, g2, Int.toNat_natCast] <;> with_reducible rfl) (by decide) ?_
        repeat (refine awp_seq ?_)
        refine awp_ret ⟨.inr rfl, _, rfl, ?_⟩
        rw [hwf]; rfl
      ·
        repeat (refine awp_seq ?_)
        refine awp_skip ?_
        exact ⟨⟨rfl, rfl, trivial⟩, (), _, ⟨rfl, trivial⟩, rfl, any_take_succ hi hg bt64⟩
    · intro s hg
      rw [List.take_length] at hg
      have hwf : wfT t = true := by rw [wfT_eq, hn, hg]; rfl
      repeat (refine awp_seq ?_)
      refine e_eval (by simp only [jA, jO, jN, seval, vint, TyS, TyF, BdS, Int.cast_ofNat_Int, d0, d1, d2, d3, d4, d5, d6, d7, d8, d9, d10] <;> with_reducible rfl) (by decide) ?_
      repeat (refine awp_seq ?_)
      refine awp_ret ⟨.inr rfl, _, rfl, ?_⟩
      rw [hwf]; rfl

theorem typeWF_8 (t : Ty) (hk : t.kind = 8) (hw : t.W) (ih : ∀ u ∈ t.args, PC Try.prog 40 [u.enc] (.bool (wfT u))) : PC Try.prog 40 [t.enc] (.bool (wfT t)) := by
  have hlen0 : (0 : Int) ≤ (t.args.length : Int) := by omega
  have d0 : decide (t.kind = 0) = false := decide_eq_false (by omega)
  have d1 : decide (t.kind = 1) = false := decide_eq_false (by omega)
  have d2 : decide (t.kind = 2) = false := decide_eq_false (by omega)
  have d3 : decide (t.kind = 3) = false := decide_eq_false (by omega)
  have d4 : decide (t.kind = 4) = false := decide_eq_false (by omega)
  have d5 : decide (t.kind = 5) = false := decide_eq_false (by omega)
  have d6 : decide (t.kind = 6) = false := decide_eq_false (by omega)
  have d7 : decide (t.kind = 7) = false := decide_eq_false (by omega)
  have d8 : decide (t.kind = 8) = true := decide_eq_true hk
  have d9 : decide (t.kind = 9) = false := decide_eq_false (by omega)
  have d10 : decide (t.kind = 10) = false := decide_eq_false (by omega)
  refine pc_of (N := 66) Try.func40 rfl rfl (by simp) (by simp [Ty.bel]) (.bool _) ?_
  repeat (refine awp_seq ?_)
  refine e_eval (by simp only [jA, jO, jN, seval, y29, vint, TyS, TyF, BdS, Int.cast_ofNat_Int, d0, d1, d2, d3, d4, d5, d6, d7, d8, d9, d10] <;> with_reducible rfl) (by decide) ?_
  repeat (refine awp_seq ?_)
  refine e_eval (by simp only [jA, jO, jN, seval, vint, TyS, TyF, BdS, Int.cast_ofNat_Int, d0, d1, d2, d3, d4, d5, d6, d7, d8, d9, d10] <;> with_reducible rfl) (by decide) ?_
  repeat (refine awp_seq ?_)
  refine e_eval (by simp only [jA, jO, jN, seval, y3, y29, vint, TyS, TyF, BdS, Int.cast_ofNat_Int, d0, d1, d2, d3, d4, d5, d6, d7, d8, d9, d10] <;> with_reducible rfl) (by decide) ?_
  repeat (refine awp_seq ?_)
  refine awp_block ?_
  repeat (refine awp_seq ?_)
  refine e_eval (by simp only [jA, jO, jN, seval, y3, vint, TyS, TyF, BdS, Int.cast_ofNat_Int, d0, d1, d2, d3, d4, d5, d6, d7, d8, d9, d10] <;> with_reducible rfl) (by decide) ?_
  repeat (refine awp_seq ?_)
  refine awp_cond_false rfl (by simp only [jN, seval, vint, TyS, TyF, BdS, Int.cast_ofNat_Int, d0, d1, d2, d3, d4, d5, d6, d7, d8, d9, d10] <;> with_reducible rfl) ?_
  repeat (refine awp_seq ?_)
  refine e_eval (by simp only [jA, jO, jN, seval, y3, vint, TyS, TyF, BdS, Int.cast_ofNat_Int, d0, d1, d2, d3, d4, d5, d6, d7, d8, d9, d10] <;> with_reducible rfl) (by decide) ?_
  repeat (refine awp_seq ?_)
  refine awp_cond_false rfl (by simp only [jN, seval, vint, TyS, TyF, BdS, Int.cast_ofNat_Int, d0, d1, d2, d3, d4, d5, d6, d7, d8, d9, d10] <;> with_reducible rfl) ?_
  repeat (refine awp_seq ?_)
  refine e_eval (by simp only [jA, jO, jN, seval, y3, vint, TyS, TyF, BdS, Int.cast_ofNat_Int, d0, d1, d2, d3, d4, d5, d6, d7, d8, d9, d10] <;> with_reducible rfl) (by decide) ?_
  repeat (refine awp_seq ?_)
  refine awp_cond_false rfl (by simp only [jN, seval, vint, TyS, TyF, BdS, Int.cast_ofNat_Int, d0, d1, d2, d3, d4, d5, d6, d7, d8, d9, d10] <;> with_reducible rfl) ?_
  repeat (refine awp_seq ?_)
  refine e_eval (by simp only [jA, jO, jN, seval, y3, vint, TyS, TyF, BdS, Int.cast_ofNat_Int, d0, d1, d2, d3, d4, d5, d6, d7, d8, d9, d10] <;> with_reducible rfl) (by decide) ?_
  repeat (refine awp_seq ?_)
  refine awp_cond_false rfl (by simp only [jN, seval, vint, TyS, TyF, BdS, Int.cast_ofNat_Int, d0, d1, d2, d3, d4, d5, d6, d7, d8, d9, d10] <;> with_reducible rfl) ?_
  refine awp_sel [1, 3, 4, 5, 9] (by simp only [jN, seval, vint, TyS, TyF, BdS, Int.cast_ofNat_Int, d0, d1, d2, d3, d4, d5, d6, d7, d8, d9, d10] <;> with_reducible rfl) ?_
  repeat (refine awp_seq ?_)
  refine e_eval (by simp only [jA, jO, jN, seval, y3, vint, TyS, TyF, BdS, Int.cast_ofNat_Int, d0, d1, d2, d3, d4, d5, d6, d7, d8, d9, d10] <;> with_reducible rfl) (by decide) ?_
  repeat (refine awp_seq ?_)
  refine awp_cond_false rfl (by simp only [jN, seval, vint, TyS, TyF, BdS, Int.cast_ofNat_Int, d0, d1, d2, d3, d4, d5, d6, d7, d8, d9, d10] <;> with_reducible rfl) ?_
  repeat (refine awp_seq ?_)
  refine e_eval (by simp only [jA, jO, jN, seval, y3, vint, TyS, TyF, BdS, Int.cast_ofNat_Int, d0, d1, d2, d3, d4, d5, d6, d7, d8, d9, d10] <;> with_reducible rfl) (by decide) ?_
  repeat (refine awp_seq ?_)
  refine awp_cond_false rfl (by simp only [jN, seval, vint, TyS, TyF, BdS, Int.cast_ofNat_Int, d0, d1, d2, d3, d4, d5, d6, d7, d8, d9, d10] <;> with_reducible rfl) ?_
  repeat (refine awp_seq ?_)
  refine e_eval (by simp only [jA, jO, jN, seval, y3, vint, TyS, TyF, BdS, Int.cast_ofNat_Int, d0, d1, d2, d3, d4, d5, d6, d7, d8, d9, d10] <;> with_reducible rfl) (by decide) ?_
  repeat (refine awp_seq ?_)
  refine awp_cond_false rfl (by simp only [jN, seval, vint, TyS, TyF, BdS, Int.cast_ofNat_Int, d0, d1, d2, d3, d4, d5, d6, d7, d8, d9, d10] <;> with_reducible rfl) ?_
  repeat (refine awp_seq ?_)
  refine e_eval (by simp only [jA, jO, jN, seval, y3, vint, TyS, TyF, BdS, Int.cast_ofNat_Int, d0, d1, d2, d3, d4, d5, d6, d7, d8, d9, d10] <;> with_reducible rfl) (by decide) ?_
  repeat (refine awp_seq ?_)
  refine awp_cond_false rfl (by simp only [jN, seval, vint, TyS, TyF, BdS, Int.cast_ofNat_Int, d0, d1, d2, d3, d4, d5, d6, d7, d8, d9, d10] <;> with_reducible rfl) ?_
  repeat (refine awp_seq ?_)
  refine e_eval (by simp only [jA, jO, jN, seval, y3, vint, TyS, TyF, BdS, Int.cast_ofNat_Int, d0, d1, d2, d3, d4, d5, d6, d7, d8, d9, d10] <;> with_reducible rfl) (by decide) ?_
  repeat (refine awp_seq ?_)
  refine awp_cond_true rfl (by simp only [jN, seval, vint, TyS, TyF, BdS, Int.cast_ofNat_Int, d0, d1, d2, d3, d4, d5, d6, d7, d8, d9, d10] <;> with_reducible rfl) ?_
  repeat (refine awp_seq ?_)
  refine e_eval (by simp only [jA, jO, jN, seval, vint, TyS, TyF, BdS, Int.cast_ofNat_Int, d0, d1, d2, d3, d4, d5, d6, d7, d8, d9, d10] <;> with_reducible rfl) (by decide) ?_
  repeat (refine awp_seq ?_)
  refine awp_region ?_
  refine aops_gstart ?_
  refine g_take 5 (by simp only [jG, jO, jN, seval, y27, y29, vint, TyS, TyF, BdS, Int.cast_ofNat_Int, d0, d1, d2, d3, d4, d5, d6, d7, d8, d9, d10] <;> with_reducible rfl) (by decide) ?_
  refine aops_gpure (by simp only [jE, jN, seval, vint, TyS, TyF, BdS, Int.cast_ofNat_Int, d0, d1, d2, d3, d4, d5, d6, d7, d8, d9, d10] <;> with_reducible rfl) (by simp only [jE, jN, seval, vint, TyS, TyF, BdS, Int.cast_ofNat_Int, d0, d1, d2, d3, d4, d5, d6, d7, d8, d9, d10] <;> with_reducible rfl) (by simp only [jE, jN, seval, vint, TyS, TyF, BdS, Int.cast_ofNat_Int, d0, d1, d2, d3, d4, d5, d6, d7, d8, d9, d10]) (by decide) Trygo67 (fun hc => inRange _ _ _ _) ?_
  refine g_end (by simp only [jG, jO, jN, seval, y3, y29, vint, TyS, TyF, BdS, Int.cast_ofNat_Int, d0, d1, d2, d3, d4, d5, d6, d7, d8, d9, d10] <;> with_reducible rfl) (by decide) (by repeat (first | exact Fin.base _ | with_reducible apply Fin.keep | apply Fin.drop)) ?_
  repeat (refine awp_seq ?_)
  refine awp_cond rfl (by simp only [jN, seval, vint, TyS, TyF, BdS, Int.cast_ofNat_Int, d0, d1, d2, d3, d4, d5, d6, d7, d8, d9, d10] <;> with_reducible rfl) (fun bt54 => ?_) (fun bt54 => ?_)
  ·
    have hn : nwf t = false := by
      unfold nwf
      simp only [d0, d1, d2, d3, d4, d5, d6, d7, d8, d9, d10, Bool.or_false, Bool.or_true, Bool.false_or, Bool.true_or, if_true, if_false, Bool.false_eq_true]
      rw [Bool.eq_false_iff]
      intro hh
      simp only [Bool.or_eq_true, Bool.and_eq_true, Bool.not_eq_true', Bool.and_eq_false_iff, Bool.or_eq_false_iff, Bool.not_eq_false', decide_eq_true_eq, decide_eq_false_iff_not] at hh bt54
      omega
    have hwf : wfT t = false := by rw [wfT_eq, hn]; rfl
    refine awp_sel [] (by simp only [jN, seval, vint, TyS, TyF, BdS, Int.cast_ofNat_Int, d0, d1, d2, d3, d4, d5, d6, d7, d8, d9, d10] <;> with_reducible rfl) ?_
    repeat (refine awp_seq ?_)
    refine e_eval (by simp only [jA, jO, jN, seval, vint, TyS, TyF, BdS, Int.cast_ofNat_Int, d0, d1, d2, d3, d4, d5, d6, d7, d8, d9, d10] <;> with_reducible rfl) (by decide) ?_
    repeat (refine awp_seq ?_)
    refine awp_ret ⟨.inr rfl, _, rfl, ?_⟩
    rw [hwf]; rfl
  ·
    have hn : nwf t = true := by
      unfold nwf
      simp only [d0, d1, d2, d3, d4, d5, d6, d7, d8, d9, d10, Bool.or_false, Bool.or_true, Bool.false_or, Bool.true_or, if_true, if_false, Bool.false_eq_true]
      simp only [Bool.or_eq_true, Bool.and_eq_true, Bool.not_eq_true', Bool.and_eq_false_iff, Bool.or_eq_false_iff, Bool.not_eq_false', decide_eq_true_eq, decide_eq_false_iff_not] at bt54 ⊢
      omega
    repeat (refine awp_seq ?_)
    refine awp_skip ?_
    refine awp_sel [1] (by simp only [jN, seval, vint, TyS, TyF, BdS, Int.cast_ofNat_Int, d0, d1, d2, d3, d4, d5, d6, d7, d8, d9, d10] <;> with_reducible rfl) ?_
    repeat (refine awp_seq ?_)
    refine e_eval (by simp only [jA, jO, jN, seval, y27, y29, vint, TyS, TyF, BdS, Int.cast_ofNat_Int, d0, d1, d2, d3, d4, d5, d6, d7, d8, d9, d10] <;> with_reducible rfl) (by decide) ?_
    repeat (refine awp_seq ?_)
    refine awp_forS (σ := Unit) (t.args.length) (fun (s : Unit) => [(56, .slice (t.args.map Ty.enc) .none)]) [56] ([]) (fun (s : Unit) => []) (fun (i : Nat) (s : Unit) => (t.args.take i).any (fun u => !wfT u) = false) (()) (_) rfl rfl rfl rfl rfl rfl rfl rfl rfl (by decide) (by decide) (by decide) (fun _ => rfl) (hw.lenMax) ⟨(by first | rfl | (simp only [jN, seval, vint, TyS, TyF, BdS, Int.cast_ofNat_Int, d0, d1, d2, d3, d4, d5, d6, d7, d8, d9, d10] <;> first | done | with_reducible rfl)), (by first | rfl | (simp only [jN, seval, vint, TyS, TyF, BdS, Int.cast_ofNat_Int, d0, d1, d2, d3, d4, d5, d6, d7, d8, d9, d10] <;> first | done | with_reducible rfl)), (by first | rfl | (simp only [jN, seval, vint, TyS, TyF, BdS, Int.cast_ofNat_Int, d0, d1, d2, d3, d4, d5, d6, d7, d8, d9, d10] <;> first | done | with_reducible rfl)), trivial⟩ (by first | rfl | (simp only [jN, seval, vint, TyS, TyF, BdS, Int.cast_ofNat_Int, d0, d1, d2, d3, d4, d5, d6, d7, d8, d9, d10] <;> first | done | with_reducible rfl)) (by simp) (fun _ _ _ => by first | exact Nat.zero_le _ | (simp only [List.length_append]; omega)) ?_ ?_ ?_
    · exact fun i s hg => ⟨by first | exact hbel_nil _ | (simp only [List.append_nil]; assumption) | (refine hbel_app' hb' (by simp) ?_; repeat (first | exact hbel_nil _ | exact trivial | exact obel_row_nil _ | (refine HBel.cons ?_ ?_) | (refine obel_row_cons (by first | exact bel_Bd _ _ | exact Bd.bel _ _ | exact bel_int_tok _ (by simp) | exact bel_ints0 _ _ | exact bel_slice_ty _ _ | exact Ty.bel _ _ | exact bel_ty_tok _ (by simp) | exact Bel.int _ _ | exact Bel.bool _ | exact Bel.str _ | exact Bel.nilp | exact Bel.nilfn | exact Bel.optr _ _ (by simp) | exact bel_nil0 _ | exact bel_nil1 _ | exact bel_fn0 _ _ | assumption) ?_))), by repeat (first | exact BelL.nil | refine BelL.cons (by first | exact bel_Bd _ _ | exact Bd.bel _ _ | exact bel_int_tok _ (by simp) | exact bel_ints0 _ _ | exact bel_slice_ty _ _ | exact Ty.bel _ _ | exact bel_ty_tok _ (by simp) | exact Bel.int _ _ | exact Bel.bool _ | exact Bel.str _ | exact Bel.nilp | exact Bel.nilfn | exact Bel.optr _ _ (by simp) | exact bel_nil0 _ | exact bel_nil1 _ | exact bel_fn0 _ _ | assumption) ?_)⟩
    · intro i s hi hg
      have g1 := ix_nat hi
      have g2 := get_enc Ty.enc hi
      have hmem : t.args[i] ∈ t.args := List.getElem_mem hi
      repeat (refine awp_seq ?_)
      refine e_eval (by simp only [jA, jO, jN, seval, y27, y29, vint, TyS, TyF, BdS, Int.cast_ofNat_Int, d0, d1, d2, d3, d4, d5, d6, d7, d8, d9, d10, g1, g2, Int.toNat_natCast] <;> with_reducible rfl) (by decide) ?_
      repeat (refine awp_seq ?_)
      refine awp_region ?_
      refine e_take 1 (by simp only [jA, jO, jN, seval, y29, vint, TyS, TyF, BdS, Int.cast_ofNat_Int, d0, d1, d2, d3, d4, d5, d6, d7, d8, d9, d10, g1, g2, Int.toNat_natCast] <;> with_reducible rfl) (by decide) ?_
      refine aops_pure (by simp only [jC, jN, seval, vint, TyS, TyF, BdS, Int.cast_ofNat_Int, d0, d1, d2, d3, d4, d5, d6, d7, d8, d9, d10, g1, g2, Int.toNat_natCast] <;> with_reducible rfl) (by simp only [jC, jN, seval, vint, TyS, TyF, BdS, Int.cast_ofNat_Int, d0, d1, d2, d3, d4, d5, d6, d7, d8, d9, d10, g1, g2, Int.toNat_natCast]) (by decide) Trygo40 (ih t.args[i] hmem _) ?_
      refine e_end (by simp only [jA, jO, jN, seval, vint, TyS, TyF, BdS, Int.cast_ofNat_Int, d0, d1, d2, d3, d4, d5, d6, d7, d8, d9, d10, g1, g2, Int.toNat_natCast] <;> with_reducible rfl) (by decide) ?_
      repeat (refine awp_seq ?_)
      refine awp_cond rfl (by simp only [jN, seval, vint, TyS, TyF, BdS, Int.cast_ofNat_Int, d0, d1, d2, d3, d4, d5, d6, d7, d8, d9, d10, g1, g2, Int.toNat_natCast] <;> with_reducible rfl) (fun bt64 => ?_) (fun bt64 => ?_)
      ·
        have hbad : (t.args.any fun u => !wfT u) = true := List.any_eq_true.2 ⟨_, hmem, bt64⟩
        have hwf : wfT t = false := by rw [wfT_eq, hn, hbad]; rfl
        repeat (refine awp_seq ?_)
        refine e_eval (by simp only [jA, jO, jN, seval, vint, TyS, TyF, BdS, Int.cast_ofNat_Int, d0, d1, d2, d3, d4, d5, d6, d7, d8, d9, d10, g1, g2, Int.toNat_natCast] <;> with_reducible rfl) (by decide) ?_
        repeat (refine awp_seq ?_)
        refine awp_ret ⟨.inr rfl, _, rfl, ?_⟩
        rw [hwf]; rfl
      ·
        repeat (refine awp_seq ?_)
        refine awp_skip ?_
        exact ⟨⟨rfl, rfl, trivial⟩, (), _, ⟨rfl, trivial⟩, rfl, any_take_succ hi hg bt64⟩
    · intro s hg
      rw [List.take_length] at hg
      have hwf : wfT t = true := by rw [wfT_eq, hn, hg]; rfl
      repeat (refine awp_seq ?_)
      refine e_eval (by simp only [jA, jO, jN, seval, vint, TyS, TyF, BdS, Int.cast_ofNat_Int, d0, d1, d2, d3, d4, d5, d6, d7, d8, d9, d10] <;> with_reducible rfl) (by decide) ?_
      repeat (refine awp_seq ?_)
      refine awp_ret ⟨.inr rfl, _, rfl, ?_⟩
      rw [hwf]; rfl

theorem typeWF_9 (t : Ty) (hk : t.kind = 9) (hw : t.W) (ih : ∀ u ∈ t.args, PC Try.prog 40 [u.enc] (.bool (wfT u))) : PC Try.prog 40 [t.enc] (.bool (wfT t)) := by
  have hlen0 : (0 : Int) ≤ (t.args.length : Int) := by omega
  have d0 : decide (t.kind = 0) = false := decide_eq_false (by omega)
  have d1 : decide (t.kind = 1) = false := decide_eq_false (by omega)
  have d2 : decide (t.kind = 2) = false := decide_eq_false (by omega)
  have d3 : decide (t.kind = 3) = false := decide_eq_false (by omega)
  have d4 : decide (t.kind = 4) = false := decide_eq_false (by omega)
  have d5 : decide (t.kind = 5) = false := decide_eq_false (by omega)
  have d6 : decide (t.kind = 6) = false := decide_eq_false (by omega)
  have d7 : decide (t.kind = 7) = false := decide_eq_false (by omega)
  have d8 : decide (t.kind = 8) = false := decide_eq_false (by omega)
  have d9 : decide (t.kind = 9) = true := decide_eq_true hk
  have d10 : decide (t.kind = 10) = false := decide_eq_false (by omega)
  refine pc_of (N := 66) Try.func40 rfl rfl (by simp) (by simp [Ty.bel]) (.bool _) ?_
  repeat (refine awp_seq ?_)
  refine e_eval (by simp only [jA, jO, jN, seval, y29, vint, TyS, TyF, BdS, Int.cast_ofNat_Int, d0, d1, d2, d3, d4, d5, d6, d7, d8, d9, d10] <;> with_reducible rfl) (by decide) ?_
  repeat (refine awp_seq ?_)
  refine e_eval (by simp only [jA, jO, jN, seval, vint, TyS, TyF, BdS, Int.cast_ofNat_Int, d0, d1, d2, d3, d4, d5, d6, d7, d8, d9, d10] <;> with_reducible rfl) (by decide) ?_
  repeat (refine awp_seq ?_)
  refine e_eval (by simp only [jA, jO, jN, seval, y3, y29, vint, TyS, TyF, BdS, Int.cast_ofNat_Int, d0, d1, d2, d3, d4, d5, d6, d7, d8, d9, d10] <;> with_reducible rfl) (by decide) ?_
  repeat (refine awp_seq ?_)
  refine awp_block ?_
  repeat (refine awp_seq ?_)
  refine e_eval (by simp only [jA, jO, jN, seval, y3, vint, TyS, TyF, BdS, Int.cast_ofNat_Int, d0, d1, d2, d3, d4, d5, d6, d7, d8, d9, d10] <;> with_reducible rfl) (by decide) ?_
  repeat (refine awp_seq ?_)
  refine awp_cond_false rfl (by simp only [jN, seval, vint, TyS, TyF, BdS, Int.cast_ofNat_Int, d0, d1, d2, d3, d4, d5, d6, d7, d8, d9, d10] <;> with_reducible rfl) ?_
  repeat (refine awp_seq ?_)
  refine e_eval (by simp only [jA, jO, jN, seval, y3, vint, TyS, TyF, BdS, Int.cast_ofNat_Int, d0, d1, d2, d3, d4, d5, d6, d7, d8, d9, d10] <;> with_reducible rfl) (by decide) ?_
  repeat (refine awp_seq ?_)
  refine awp_cond_false rfl (by simp only [jN, seval, vint, TyS, TyF, BdS, Int.cast_ofNat_Int, d0, d1, d2, d3, d4, d5, d6, d7, d8, d9, d10] <;> with_reducible rfl) ?_
  repeat (refine awp_seq ?_)
  refine e_eval (by simp only [jA, jO, jN, seval, y3, vint, TyS, TyF, BdS, Int.cast_ofNat_Int, d0, d1, d2, d3, d4, d5, d6, d7, d8, d9, d10] <;> with_reducible rfl) (by decide) ?_
  repeat (refine awp_seq ?_)
  refine awp_cond_false rfl (by simp only [jN, seval, vint, TyS, TyF, BdS, Int.cast_ofNat_Int, d0, d1, d2, d3, d4, d5, d6, d7, d8, d9, d10] <;> with_reducible rfl) ?_
  repeat (refine awp_seq ?_)
  refine e_eval (by simp only [jA, jO, jN, seval, y3, vint, TyS, TyF, BdS, Int.cast_ofNat_Int, d0, d1, d2, d3, d4, d5, d6, d7, d8, d9, d10] <;> with_reducible rfl) (by decide) ?_
  repeat (refine awp_seq ?_)
  refine awp_cond_false rfl (by simp only [jN, seval, vint, TyS, TyF, BdS, Int.cast_ofNat_Int, d0, d1, d2, d3, d4, d5, d6, d7, d8, d9, d10] <;> with_reducible rfl) ?_
  refine awp_sel [1, 3, 4, 5, 9] (by simp only [jN, seval, vint, TyS, TyF, BdS, Int.cast_ofNat_Int, d0, d1, d2, d3, d4, d5, d6, d7, d8, d9, d10] <;> with_reducible rfl) ?_
  repeat (refine awp_seq ?_)
  refine e_eval (by simp only [jA, jO, jN, seval, y3, vint, TyS, TyF, BdS, Int.cast_ofNat_Int, d0, d1, d2, d3, d4, d5, d6, d7, d8, d9, d10] <;> with_reducible rfl) (by decide) ?_
  repeat (refine awp_seq ?_)
  refine awp_cond_false rfl (by simp only [jN, seval, vint, TyS, TyF, BdS, Int.cast_ofNat_Int, d0, d1, d2, d3, d4, d5, d6, d7, d8, d9, d10] <;> with_reducible rfl) ?_
  repeat (refine awp_seq ?_)
  refine e_eval (by simp only [jA, jO, jN, seval, y3, vint, TyS, TyF, BdS, Int.cast_ofNat_Int, d0, d1, d2, d3, d4, d5, d6, d7, d8, d9, d10] <;> with_reducible rfl) (by decide) ?_
  repeat (refine awp_seq ?_)
  refine awp_cond_false rfl (by simp only [jN, seval, vint, TyS, TyF, BdS, Int.cast_ofNat_Int, d0, d1, d2, d3, d4, d5, d6, d7, d8, d9, d10] <;> with_reducible rfl) ?_
  repeat (refine awp_seq ?_)
  refine e_eval (by simp only [jA, jO, jN, seval, y3, vint, TyS, TyF, BdS, Int.cast_ofNat_Int, d0, d1, d2, d3, d4, d5, d6, d7, d8, d9, d10] <;> with_reducible rfl) (by decide) ?_
  repeat (refine awp_seq ?_)
  refine awp_cond_false rfl (by simp only [jN, seval, vint, TyS, TyF, BdS, Int.cast_ofNat_Int, d0, d1, d2, d3, d4, d5, d6, d7, d8, d9, d10] <;> with_reducible rfl) ?_
  repeat (refine awp_seq ?_)
  refine e_eval (by simp only [jA, jO, jN, seval, y3, vint, TyS, TyF, BdS, Int.cast_ofNat_Int, d0, d1, d2, d3, d4, d5, d6, d7, d8, d9, d10] <;> with_reducible rfl) (by decide) ?_
  repeat (refine awp_seq ?_)
  refine awp_cond_false rfl (by simp only [jN, seval, vint, TyS, TyF, BdS, Int.cast_ofNat_Int, d0, d1, d2, d3, d4, d5, d6, d7, d8, d9, d10] <;> with_reducible rfl) ?_
  repeat (refine awp_seq ?_)
  refine e_eval (by simp only [jA, jO, jN, seval, y3, vint, TyS, TyF, BdS, Int.cast_ofNat_Int, d0, d1, d2, d3, d4, d5, d6, d7, d8, d9, d10] <;> with_reducible rfl) (by decide) ?_
  repeat (refine awp_seq ?_)
  refine awp_cond_false rfl (by simp only [jN, seval, vint, TyS, TyF, BdS, Int.cast_ofNat_Int, d0, d1, d2, d3, d4, d5, d6, d7, d8, d9, d10] <;> with_reducible rfl) ?_
  repeat (refine awp_seq ?_)
  refine e_eval (by simp only [jA, jO, jN, seval, y3, vint, TyS, TyF, BdS, Int.cast_ofNat_Int, d0, d1, d2, d3, d4, d5, d6, d7, d8, d9, d10] <;> with_reducible rfl) (by decide) ?_
  repeat (refine awp_seq ?_)
  refine awp_cond_true rfl (by simp only [jN, seval, vint, TyS, TyF, BdS, Int.cast_ofNat_Int, d0, d1, d2, d3, d4, d5, d6, d7, d8, d9, d10] <;> with_reducible rfl) ?_
  repeat (refine awp_seq ?_)
  refine awp_draw 0 (by kernel_rfl) ?_
  refine d_end (bm := [0, 1, 3, 0, 15]) (fresh := 0) (by kernel_rfl) (by simp only [jD, jO, jN, seval, y27, y29, vint, TyS, TyF, BdS, Int.cast_ofNat_Int, d0, d1, d2, d3, d4, d5, d6, d7, d8, d9, d10] <;> with_reducible rfl) (by decide) ?_
  refine awp_sel [1, 3, 4, 5] (by simp only [jN, seval, vint, TyS, TyF, BdS, Int.cast_ofNat_Int, d0, d1, d2, d3, d4, d5, d6, d7, d8, d9, d10] <;> with_reducible rfl) ?_
  repeat (refine awp_seq ?_)
  refine awp_region ?_
  refine aops_gstart ?_
  refine g_take 5 (by simp only [jG, jO, jN, seval, y27, y29, vint, TyS, TyF, BdS, Int.cast_ofNat_Int, d0, d1, d2, d3, d4, d5, d6, d7, d8, d9, d10] <;> with_reducible rfl) (by decide) ?_
  refine aops_gpure (by simp only [jE, jN, seval, vint, TyS, TyF, BdS, Int.cast_ofNat_Int, d0, d1, d2, d3, d4, d5, d6, d7, d8, d9, d10] <;> with_reducible rfl) (by simp only [jE, jN, seval, vint, TyS, TyF, BdS, Int.cast_ofNat_Int, d0, d1, d2, d3, d4, d5, d6, d7, d8, d9, d10] <;> with_reducible rfl) (by simp only [jE, jN, seval, vint, TyS, TyF, BdS, Int.cast_ofNat_Int, d0, d1, d2, d3, d4, d5, d6, d7, d8, d9, d10]) (by decide) Trygo67 (fun hc => inRange _ _ _ _) ?_
  refine g_end (by simp only [jG, jO, jN, seval, y3, y29, vint, TyS, TyF, BdS, Int.cast_ofNat_Int, d0, d1, d2, d3, d4, d5, d6, d7, d8, d9, d10] <;> with_reducible rfl) (by decide) (by repeat (first | exact Fin.base _ | with_reducible apply Fin.keep | apply Fin.drop)) ?_
  repeat (refine awp_seq ?_)
  refine awp_cond rfl (by simp only [jN, seval, vint, TyS, TyF, BdS, Int.cast_ofNat_Int, d0, d1, d2, d3, d4, d5, d6, d7, d8, d9, d10] <;> with_reducible rfl) (fun bt54 => ?_) (fun bt54 => ?_)
  ·
    have hn : nwf t = false := by
      unfold nwf
      simp only [d0, d1, d2, d3, d4, d5, d6, d7, d8, d9, d10, Bool.or_false, Bool.or_true, Bool.false_or, Bool.true_or, if_true, if_false, Bool.false_eq_true]
      rw [Bool.eq_false_iff]
      intro hh
      simp only [Bool.or_eq_true, Bool.and_eq_true, Bool.not_eq_true', Bool.and_eq_false_iff, Bool.or_eq_false_iff, Bool.not_eq_false', decide_eq_true_eq, decide_eq_false_iff_not] at hh bt54
      omega
    have hwf : wfT t = false := by rw [wfT_eq, hn]; rfl
    refine awp_sel [] (by simp only [jN, seval, vint, TyS, TyF, BdS, Int.cast_ofNat_Int, d0, d1, d2, d3, d4, d5, d6, d7, d8, d9, d10] <;> with_reducible rfl) ?_
    repeat (refine awp_seq ?_)
    refine e_eval (by simp only [jA, jO, jN, seval, vint, TyS, TyF, BdS, Int.cast_ofNat_Int, d0, d1, d2, d3, d4, d5, d6, d7, d8, d9, d10] <;> with_reducible rfl) (by decide) ?_
    repeat (refine awp_seq ?_)
    refine awp_ret ⟨.inr rfl, _, rfl, ?_⟩
    rw [hwf]; rfl
  ·
    have hn : nwf t = true := by
      unfold nwf
      simp only [d0, d1, d2, d3, d4, d5, d6, d7, d8, d9, d10, Bool.or_false, Bool.or_true, Bool.false_or, Bool.true_or, if_true, if_false, Bool.false_eq_true]
      simp only [Bool.or_eq_true, Bool.and_eq_true, Bool.not_eq_true', Bool.and_eq_false_iff, Bool.or_eq_false_iff, Bool.not_eq_false', decide_eq_true_eq, decide_eq_false_iff_not] at bt54 ⊢
      omega
    repeat (refine awp_seq ?_)
    refine awp_skip ?_
    refine awp_sel [1] (by simp only [jN, seval, vint, TyS, TyF, BdS, Int.cast_ofNat_Int, d0, d1, d2, d3, d4, d5, d6, d7, d8, d9, d10] <;> with_reducible rfl) ?_
    repeat (refine awp_seq ?_)
    refine e_eval (by simp only [jA, jO, jN, seval, y27, y29, vint, TyS, TyF, BdS, Int.cast_ofNat_Int, d0, d1, d2, d3, d4, d5, d6, d7, d8, d9, d10] <;> with_reducible rfl) (by decide) ?_
    repeat (refine awp_seq ?_)
    refine awp_forS (σ := Unit) (t.args.length) (fun (s : Unit) => [(56, .slice (t.args.map Ty.enc) .none)]) [56] ([]) (fun (s : Unit) => []) (fun (i : Nat) (s : Unit) => (t.args.take i).any (fun u => !wfT u) = false) (()) (_) rfl rfl rfl rfl rfl rfl rfl rfl rfl (by decide) (by decide) (by decide) (fun _ => rfl) (hw.lenMax) ⟨(by first | rfl | (simp only [jN, seval, vint, TyS, TyF, BdS, Int.cast_ofNat_Int, d0, d1, d2, d3, d4, d5, d6, d7, d8, d9, d10] <;> first | done | with_reducible rfl)), (by first | rfl | (simp only [jN, seval, vint, TyS, TyF, BdS, Int.cast_ofNat_Int, d0, d1, d2, d3, d4, d5, d6, d7, d8, d9, d10] <;> first | done | with_reducible rfl)), (by first | rfl | (simp only [jN, seval, vint, TyS, TyF, BdS, Int.cast_ofNat_Int, d0, d1, d2, d3, d4, d5, d6, d7, d8, d9, d10] <;> first | done | with_reducible rfl)), trivial⟩ (by first | rfl | (simp only [jN, seval, vint, TyS, TyF, BdS, Int.cast_ofNat_Int, d0, d1, d2, d3, d4, d5, d6, d7, d8, d9, d10] <;> first | done | with_reducible rfl)) (by simp) (fun _ _ _ => by first | exact Nat.zero_le _ | (simp only [List.length_append]; omega)) ?_ ?_ ?_
    · exact fun i s hg => ⟨by first | exact hbel_nil _ | (simp only [List.append_nil]; assumption) | (refine hbel_app' hb' (by simp) ?_; repeat (first | exact hbel_nil _ | exact trivial | exact obel_row_nil _ | (refine HBel.cons ?_ ?_) | (refine obel_row_cons (by first | exact bel_Bd _ _ | exact Bd.bel _ _ | exact bel_int_tok _ (by simp) | exact bel_ints0 _ _ | exact bel_slice_ty _ _ | exact Ty.bel _ _ | exact bel_ty_tok _ (by simp) | exact Bel.int _ _ | exact Bel.bool _ | exact Bel.str _ | exact Bel.nilp | exact Bel.nilfn | exact Bel.optr _ _ (by simp) | exact bel_nil0 _ | exact bel_nil1 _ | exact bel_fn0 _ _ | assumption) ?_))), by repeat (first | exact BelL.nil | refine BelL.cons (by first | exact bel_Bd _ _ | exact Bd.bel _ _ | exact bel_int_tok _ (by simp) | exact bel_ints0 _ _ | exact bel_slice_ty _ _ | exact Ty.bel _ _ | exact bel_ty_tok _ (by simp) | exact Bel.int _ _ | exact Bel.bool _ | exact Bel.str _ | exact Bel.nilp | exact Bel.nilfn | exact Bel.optr _ _ (by simp) | exact bel_nil0 _ | exact bel_nil1 _ | exact bel_fn0 _ _ | assumption) ?_)⟩
    · intro i s hi hg
      have g1 := ix_nat hi
      have g2 := get_enc Ty.enc hi
      have hmem : t.args[i] ∈ t.args := List.getElem_mem hi
      repeat (refine awp_seq ?_)
      refine e_eval (by simp only [jA, jO, jN, seval, y27, y29, vint, TyS, TyF, BdS, Int.cast_ofNat_Int, d0, d1, d2, d3, d4, d5, d6, d7, d8, d9, d10, g1, g2, Int.toNat_natCast] <;> with_reducible rfl) (by decide) ?_
      repeat (refine awp_seq ?_)
      refine awp_region ?_
      refine e_take 1 (by simp only [jA, jO, jN, seval, y29, vint, TyS, TyF, BdS, Int.cast_ofNat_Int, d0, d1, d2, d3, d4, d5, d6, d7, d8, d9, d10, g1, g2, Int.toNat_natCast] <;> with_reducible rfl) (by decide) ?_
      refine aops_pure (by simp only [jC, jN, seval, vint, TyS, TyF, BdS, Int.cast_ofNat_Int, d0, d1, d2, d3, d4, d5, d6, d7, d8, d9, d10, g1, g2, Int.toNat_natCast] <;> with_reducible rfl) (by simp only [jC, jN, seval, vint, TyS, TyF, BdS, Int.cast_ofNat_Int, d0, d1, d2, d3, d4, d5, d6, d7, d8, d9, d10, g1, g2, Int.toNat_natCast]) (by decide) Trygo40 (ih t.args[i] hmem _) ?_
      refine e_end (by simp only [jA, jO, jN, seval, vint, TyS, TyF, BdS, Int.cast_ofNat_Int, d0, d1, d2, d3, d4, d5, d6, d7, d8, d9, d10, g1, g2, Int.toNat_natCast] <;> with_reducible rfl) (by decide) ?_
      repeat (refine awp_seq ?_)
      refine awp_cond rfl (by simp only [jN, seval, vint, TyS, TyF, BdS, Int.cast_ofNat_Int, d0, d1, d2, d3, d4, d5, d6, d7, d8, d9, d10, g1, g2, Int.toNat_natCast] <;> with_reducible rfl) (fun bt64 => ?_) (fun bt64 => ?_)
      ·
        have hbad : (t.args.any fun u => !wfT u) = true := List.any_eq_true.2 ⟨_, hmem, bt64⟩
        have hwf : wfT t = false := by rw [wfT_eq, hn, hbad]; rfl
        repeat (refine awp_seq ?_)
        refine e_eval (by simp only [jA, jO, jN, seval, vint, TyS, TyF, BdS, Int.cast_ofNat_Int, d0, d1, d2, d3, d4, d5, d6, d7, d8, d9, d10, g1, g2, Int.toNat_natCast] <;> with_reducible rfl) (by decide) ?_
        repeat (refine awp_seq ?_)
        refine awp_ret ⟨.inr rfl, _, rfl, ?_⟩
        rw [hwf]; rfl
      ·
        repeat (refine awp_seq ?_)
        refine awp_skip ?_
        exact ⟨⟨rfl, rfl, trivial⟩, (), _, ⟨rfl, trivial⟩, rfl, any_take_succ hi hg bt64⟩
    · intro s hg
      rw [List.take_length] at hg
      have hwf : wfT t = true := by rw [wfT_eq, hn, hg]; rfl
      repeat (refine awp_seq ?_)
      refine e_eval (by simp only [jA, jO, jN, seval, vint, TyS, TyF, BdS, Int.cast_ofNat_Int, d0, d1, d2, d3, d4, d5, d6, d7, d8, d9, d10] <;> with_reducible rfl) (by decide) ?_
      repeat (refine awp_seq ?_)
      refine awp_ret ⟨.inr rfl, _, rfl, ?_⟩
      rw [hwf]; rfl

theorem typeWF_10 (t : Ty) (hk : t.kind = 10) (hw : t.W) (ih : ∀ u ∈ t.args, PC Try.prog 40 [u.enc] (.bool (wfT u))) : PC Try.prog 40 [t.enc] (.bool (wfT t)) := by
  have hlen0 : (0 : Int) ≤ (t.args.length : Int) := by omega
  have d0 : decide (t.kind = 0) = false := decide_eq_false (by omega)
  have d1 : decide (t.kind = 1) = false := decide_eq_false (by omega)
  have d2 : decide (t.kind = 2) = false := decide_eq_false (by omega)
  have d3 : decide (t.kind = 3) = false := decide_eq_false (by omega)
  have d4 : decide (t.kind = 4) = false := decide_eq_false (by omega)
  have d5 : decide (t.kind = 5) = false := decide_eq_false (by omega)
  have d6 : decide (t.kind = 6) = false := decide_eq_false (by omega)
  have d7 : decide (t.kind = 7) = false := decide_eq_false (by omega)
  have d8 : decide (t.kind = 8) = false := decide_eq_false (by omega)
  have d9 : decide (t.kind = 9) = false := decide_eq_false (by omega)
  have d10 : decide (t.kind = 10) = true := decide_eq_true hk
  refine pc_of (N := 66) Try.func40 rfl rfl (by simp) (by simp [Ty.bel]) (.bool _) ?_
  repeat (refine awp_seq ?_)
  refine e_eval (by simp only [jA, jO, jN, seval, y29, vint, TyS, TyF, BdS, Int.cast_ofNat_Int, d0, d1, d2, d3, d4, d5, d6, d7, d8, d9, d10] <;> with_reducible rfl) (by decide) ?_
  repeat (refine awp_seq ?_)
  refine e_eval (by simp only [jA, jO, jN, seval, vint, TyS, TyF, BdS, Int.cast_ofNat_Int, d0, d1, d2, d3, d4, d5, d6, d7, d8, d9, d10] <;> with_reducible rfl) (by decide) ?_
  repeat (refine awp_seq ?_)
  refine e_eval (by simp only [jA, jO, jN, seval, y3, y29, vint, TyS, TyF, BdS, Int.cast_ofNat_Int, d0, d1, d2, d3, d4, d5, d6, d7, d8, d9, d10] <;> with_reducible rfl) (by decide) ?_
  repeat (refine awp_seq ?_)
  refine awp_block ?_
  repeat (refine awp_seq ?_)
  refine e_eval (by simp only [jA, jO, jN, seval, y3, vint, TyS, TyF, BdS, Int.cast_ofNat_Int, d0, d1, d2, d3, d4, d5, d6, d7, d8, d9, d10] <;> with_reducible rfl) (by decide) ?_
  repeat (refine awp_seq ?_)
  refine awp_cond_false rfl (by simp only [jN, seval, vint, TyS, TyF, BdS, Int.cast_ofNat_Int, d0, d1, d2, d3, d4, d5, d6, d7, d8, d9, d10] <;> with_reducible rfl) ?_
  repeat (refine awp_seq ?_)
  refine e_eval (by simp only [jA, jO, jN, seval, y3, vint, TyS, TyF, BdS, Int.cast_ofNat_Int, d0, d1, d2, d3, d4, d5, d6, d7, d8, d9, d10] <;> with_reducible rfl) (by decide) ?_
  repeat (refine awp_seq ?_)
  refine awp_cond_false rfl (by simp only [jN, seval, vint, TyS, TyF, BdS, Int.cast_ofNat_Int, d0, d1, d2, d3, d4, d5, d6, d7, d8, d9, d10] <;> with_reducible rfl) ?_
  repeat (refine awp_seq ?_)
  refine e_eval (by simp only [jA, jO, jN, seval, y3, vint, TyS, TyF, BdS, Int.cast_ofNat_Int, d0, d1, d2, d3, d4, d5, d6, d7, d8, d9, d10] <;> with_reducible rfl) (by decide) ?_
  repeat (refine awp_seq ?_)
  refine awp_cond_false rfl (by simp only [jN, seval, vint, TyS, TyF, BdS, Int.cast_ofNat_Int, d0, d1, d2, d3, d4, d5, d6, d7, d8, d9, d10] <;> with_reducible rfl) ?_
  repeat (refine awp_seq ?_)
  refine e_eval (by simp only [jA, jO, jN, seval, y3, vint, TyS, TyF, BdS, Int.cast_ofNat_Int, d0, d1, d2, d3, d4, d5, d6, d7, d8, d9, d10] <;> with_reducible rfl) (by decide) ?_
  repeat (refine awp_seq ?_)
  refine awp_cond_false rfl (by simp only [jN, seval, vint, TyS, TyF, BdS, Int.cast_ofNat_Int, d0, d1, d2, d3, d4, d5, d6, d7, d8, d9, d10] <;> with_reducible rfl) ?_
  refine awp_sel [1, 3, 4, 5, 9] (by simp only [jN, seval, vint, TyS, TyF, BdS, Int.cast_ofNat_Int, d0, d1, d2, d3, d4, d5, d6, d7, d8, d9, d10] <;> with_reducible rfl) ?_
  repeat (refine awp_seq ?_)
  refine e_eval (by simp only [jA, jO, jN, seval, y3, vint, TyS, TyF, BdS, Int.cast_ofNat_Int, d0, d1, d2, d3, d4, d5, d6, d7, d8, d9, d10] <;> with_reducible rfl) (by decide) ?_
  repeat (refine awp_seq ?_)
  refine awp_cond_false rfl (by simp only [jN, seval, vint, TyS, TyF, BdS, Int.cast_ofNat_Int, d0, d1, d2, d3, d4, d5, d6, d7, d8, d9, d10] <;> with_reducible rfl) ?_
  repeat (refine awp_seq ?_)
  refine e_eval (by simp only [jA, jO, jN, seval, y3, vint, TyS, TyF, BdS, Int.cast_ofNat_Int, d0, d1, d2, d3, d4, d5, d6, d7, d8, d9, d10] <;> with_reducible rfl) (by decide) ?_
  repeat (refine awp_seq ?_)
  refine awp_cond_false rfl (by simp only [jN, seval, vint, TyS, TyF, BdS, Int.cast_ofNat_Int, d0, d1, d2, d3, d4, d5, d6, d7, d8, d9, d10] <;> with_reducible rfl) ?_
  repeat (refine awp_seq ?_)
  refine e_eval (by simp only [jA, jO, jN, seval, y3, vint, TyS, TyF, BdS, Int.cast_ofNat_Int, d0, d1, d2, d3, d4, d5, d6, d7, d8, d9, d10] <;> with_reducible rfl) (by decide) ?_
  repeat (refine awp_seq ?_)
  refine awp_cond_false rfl (by simp only [jN, seval, vint, TyS, TyF, BdS, Int.cast_ofNat_Int, d0, d1, d2, d3, d4, d5, d6, d7, d8, d9, d10] <;> with_reducible rfl) ?_
  repeat (refine awp_seq ?_)
  refine e_eval (by simp only [jA, jO, jN, seval, y3, vint, TyS, TyF, BdS, Int.cast_ofNat_Int, d0, d1, d2, d3, d4, d5, d6, d7, d8, d9, d10] <;> with_reducible rfl) (by decide) ?_
  repeat (refine awp_seq ?_)
  refine awp_cond_false rfl (by simp only [jN, seval, vint, TyS, TyF, BdS, Int.cast_ofNat_Int, d0, d1, d2, d3, d4, d5, d6, d7, d8, d9, d10] <;> with_reducible rfl) ?_
  repeat (refine awp_seq ?_)
  refine e_eval (by simp only [jA, jO, jN, seval, y3, vint, TyS, TyF, BdS, Int.cast_ofNat_Int, d0, d1, d2, d3, d4, d5, d6, d7, d8, d9, d10] <;> with_reducible rfl) (by decide) ?_
  repeat (refine awp_seq ?_)
  refine awp_cond_false rfl (by simp only [jN, seval, vint, TyS, TyF, BdS, Int.cast_ofNat_Int, d0, d1, d2, d3, d4, d5, d6, d7, d8, d9, d10] <;> with_reducible rfl) ?_
  repeat (refine awp_seq ?_)
  refine e_eval (by simp only [jA, jO, jN, seval, y3, vint, TyS, TyF, BdS, Int.cast_ofNat_Int, d0, d1, d2, d3, d4, d5, d6, d7, d8, d9, d10] <;> with_reducible rfl) (by decide) ?_
  repeat (refine awp_seq ?_)
  refine awp_cond_false rfl (by simp only [jN, seval, vint, TyS, TyF, BdS, Int.cast_ofNat_Int, d0, d1, d2, d3, d4, d5, d6, d7, d8, d9, d10] <;> with_reducible rfl) ?_
  repeat (refine awp_seq ?_)
  refine e_eval (by simp only [jA, jO, jN, seval, y3, vint, TyS, TyF, BdS, Int.cast_ofNat_Int, d0, d1, d2, d3, d4, d5, d6, d7, d8, d9, d10] <;> with_reducible rfl) (by decide) ?_
  repeat (refine awp_seq ?_)
  refine awp_cond_true rfl (by simp only [jN, seval, vint, TyS, TyF, BdS, Int.cast_ofNat_Int, d0, d1, d2, d3, d4, d5, d6, d7, d8, d9, d10] <;> with_reducible rfl) ?_
  repeat (refine awp_seq ?_)
  refine e_eval (by simp only [jA, jO, jN, seval, vint, TyS, TyF, BdS, Int.cast_ofNat_Int, d0, d1, d2, d3, d4, d5, d6, d7, d8, d9, d10] <;> with_reducible rfl) (by decide) ?_
  refine awp_sel [1, 3, 4, 5] (by simp only [jN, seval, vint, TyS, TyF, BdS, Int.cast_ofNat_Int, d0, d1, d2, d3, d4, d5, d6, d7, d8, d9, d10] <;> with_reducible rfl) ?_
  repeat (refine awp_seq ?_)
  refine awp_region ?_
  refine aops_gstart ?_
  refine g_take 5 (by simp only [jG, jO, jN, seval, y27, y29, vint, TyS, TyF, BdS, Int.cast_ofNat_Int, d0, d1, d2, d3, d4, d5, d6, d7, d8, d9, d10] <;> with_reducible rfl) (by decide) ?_
  refine aops_gpure (by simp only [jE, jN, seval, vint, TyS, TyF, BdS, Int.cast_ofNat_Int, d0, d1, d2, d3, d4, d5, d6, d7, d8, d9, d10] <;> with_reducible rfl) (by simp only [jE, jN, seval, vint, TyS, TyF, BdS, Int.cast_ofNat_Int, d0, d1, d2, d3, d4, d5, d6, d7, d8, d9, d10] <;> with_reducible rfl) (by simp only [jE, jN, seval, vint, TyS, TyF, BdS, Int.cast_ofNat_Int, d0, d1, d2, d3, d4, d5, d6, d7, d8, d9, d10]) (by decide) Trygo67 (fun hc => inRange _ _ _ _) ?_
  refine g_end (by simp only [jG, jO, jN, seval, y3, y29, vint, TyS, TyF, BdS, Int.cast_ofNat_Int, d0, d1, d2, d3, d4, d5, d6, d7, d8, d9, d10] <;> with_reducible rfl) (by decide) (by repeat (first | exact Fin.base _ | with_reducible apply Fin.keep | apply Fin.drop)) ?_
  repeat (refine awp_seq ?_)
  refine awp_cond rfl (by simp only [jN, seval, vint, TyS, TyF, BdS, Int.cast_ofNat_Int, d0, d1, d2, d3, d4, d5, d6, d7, d8, d9, d10] <;> with_reducible rfl) (fun bt54 => ?_) (fun bt54 => ?_)
  ·
    have hn : nwf t = false := by
      unfold nwf
      simp only [d0, d1, d2, d3, d4, d5, d6, d7, d8, d9, d10, Bool.or_false, Bool.or_true, Bool.false_or, Bool.true_or, if_true, if_false, Bool.false_eq_true]
      rw [Bool.eq_false_iff]
      intro hh
      simp only [Bool.or_eq_true, Bool.and_eq_true, Bool.not_eq_true', Bool.and_eq_false_iff, Bool.or_eq_false_iff, Bool.not_eq_false', decide_eq_true_eq, decide_eq_false_iff_not] at hh bt54
      omega
    have hwf : wfT t = false := by rw [wfT_eq, hn]; rfl
    refine awp_sel [] (by simp only [jN, seval, vint, TyS, TyF, BdS, Int.cast_ofNat_Int, d0, d1, d2, d3, d4, d5, d6, d7, d8, d9, d10] <;> with_reducible rfl) ?_
    repeat (refine awp_seq ?_)
    refine e_eval (by simp only [jA, jO, jN, seval, vint, TyS, TyF, BdS, Int.cast_ofNat_Int, d0, d1, d2, d3, d4, d5, d6, d7, d8, d9, d10] <;> with_reducible rfl) (by decide) ?_
    repeat (refine awp_seq ?_)
    refine awp_ret ⟨.inr rfl, _, rfl, ?_⟩
    rw [hwf]; rfl
  ·
    have hn : nwf t = true := by
      unfold nwf
      simp only [d0, d1, d2, d3, d4, d5, d6, d7, d8, d9, d10, Bool.or_false, Bool.or_true, Bool.false_or, Bool.true_or, if_true, if_false, Bool.false_eq_true]
      simp only [Bool.or_eq_true, Bool.and_eq_true, Bool.not_eq_true', Bool.and_eq_false_iff, Bool.or_eq_false_iff, Bool.not_eq_false', decide_eq_true_eq, decide_eq_false_iff_not] at bt54 ⊢
      omega
    repeat (refine awp_seq ?_)
    refine awp_skip ?_
    refine awp_sel [1] (by simp only [jN, seval, vint, TyS, TyF, BdS, Int.cast_ofNat_Int, d0, d1, d2, d3, d4, d5, d6, d7, d8, d9, d10] <;> with_reducible rfl) ?_
    repeat (refine awp_seq ?_)
    refine e_eval (by simp only [jA, jO, jN, seval, y27, y29, vint, TyS, TyF, BdS, Int.cast_ofNat_Int, d0, d1, d2, d3, d4, d5, d6, d7, d8, d9, d10] <;> with_reducible rfl) (by decide) ?_
    repeat (refine awp_seq ?_)
    refine awp_forS (σ := Unit) (t.args.length) (fun (s : Unit) => [(56, .slice (t.args.map Ty.enc) .none)]) [56] ([]) (fun (s : Unit) => []) (fun (i : Nat) (s : Unit) => (t.args.take i).any (fun u => !wfT u) = false) (()) (_) rfl rfl rfl rfl rfl rfl rfl rfl rfl (by decide) (by decide) (by decide) (fun _ => rfl) (hw.lenMax) ⟨(by first | rfl | (simp only [jN, seval, vint, TyS, TyF, BdS, Int.cast_ofNat_Int, d0, d1, d2, d3, d4, d5, d6, d7, d8, d9, d10] <;> first | done | with_reducible rfl)), (by first | rfl | (simp only [jN, seval, vint, TyS, TyF, BdS, Int.cast_ofNat_Int, d0, d1, d2, d3, d4, d5, d6, d7, d8, d9, d10] <;> first | done | with_reducible rfl)), (by first | rfl | (simp only [jN, seval, vint, TyS, TyF, BdS, Int.cast_ofNat_Int, d0, d1, d2, d3, d4, d5, d6, d7, d8, d9, d10] <;> first | done | with_reducible rfl)), trivial⟩ (by first | rfl | (simp only [jN, seval, vint, TyS, TyF, BdS, Int.cast_ofNat_Int, d0, d1, d2, d3, d4, d5, d6, d7, d8, d9, d10] <;> first | done | with_reducible rfl)) (by simp) (fun _ _ _ => by first | exact Nat.zero_le _ | (simp only [List.length_append]; omega)) ?_ ?_ ?_
    · exact fun i s hg => ⟨by first | exact hbel_nil _ | (simp only [List.append_nil]; assumption) | (refine hbel_app' hb' (by simp) ?_; repeat (first | exact hbel_nil _ | exact trivial | exact obel_row_nil _ | (refine HBel.cons ?_ ?_) | (refine obel_row_cons (by first | exact bel_Bd _ _ | exact Bd.bel _ _ | exact bel_int_tok _ (by simp) | exact bel_ints0 _ _ | exact bel_slice_ty _ _ | exact Ty.bel _ _ | exact bel_ty_tok _ (by simp) | exact Bel.int _ _ | exact Bel.bool _ | exact Bel.str _ | exact Bel.nilp | exact Bel.nilfn | exact Bel.optr _ _ (by simp) | exact bel_nil0 _ | exact bel_nil1 _ | exact bel_fn0 _ _ | assumption) ?_))), by repeat (first | exact BelL.nil | refine BelL.cons (by first | exact bel_Bd _ _ | exact Bd.bel _ _ | exact bel_int_tok _ (by simp) | exact bel_ints0 _ _ | exact bel_slice_ty _ _ | exact Ty.bel _ _ | exact bel_ty_tok _ (by simp) | exact Bel.int _ _ | exact Bel.bool _ | exact Bel.str _ | exact Bel.nilp | exact Bel.nilfn | exact Bel.optr _ _ (by simp) | exact bel_nil0 _ | exact bel_nil1 _ | exact bel_fn0 _ _ | assumption) ?_)⟩
    · intro i s hi hg
      have g1 := ix_nat hi
      have g2 := get_enc Ty.enc hi
      have hmem : t.args[i] ∈ t.args := List.getElem_mem hi
      repeat (refine awp_seq ?_)
      refine e_eval (by simp only [jA, jO, jN, seval, y27, y29, vint, TyS, TyF, BdS, Int.cast_ofNat_Int, d0, d1, d2, d3, d4, d5, d6, d7, d8, d9, d10, g1, g2, Int.toNat_natCast] <;> with_reducible rfl) (by decide) ?_
      repeat (refine awp_seq ?_)
      refine awp_region ?_
      refine e_take 1 (by simp only [jA, jO, jN, seval, y29, vint, TyS, TyF, BdS, Int.cast_ofNat_Int, d0, d1, d2, d3, d4, d5, d6, d7, d8, d9, d10, g1, g2, Int.toNat_natCast] <;> with_reducible rfl) (by decide) ?_
      refine aops_pure (by simp only [jC, jN, seval, vint, TyS, TyF, BdS, Int.cast_ofNat_Int, d0, d1, d2, d3, d4, d5, d6, d7, d8, d9, d10, g1, g2, Int.toNat_natCast] <;> with_reducible rfl) (by simp only [jC, jN, seval, vint, TyS, TyF, BdS, Int.cast_ofNat_Int, d0, d1, d2, d3, d4, d5, d6, d7, d8, d9, d10, g1, g2, Int.toNat_natCast]) (by decide) Trygo40 (ih t.args[i] hmem _) ?_
      refine e_end (by simp only [jA, jO, jN, seval, vint, TyS, TyF, BdS, Int.cast_ofNat_Int, d0, d1, d2, d3, d4, d5, d6, d7, d8, d9, d10, g1, g2, Int.toNat_natCast] <;> with_reducible rfl) (by decide) ?_
      repeat (refine awp_seq ?_)
      refine awp_cond rfl (by simp only [jN, seval, vint, TyS, TyF, BdS, Int.cast_ofNat_Int, d0, d1, d2, d3, d4, d5, d6, d7, d8, d9, d10, g1, g2, Int.toNat_natCast] <;> with_reducible rfl) (fun bt64 => ?_) (fun bt64 => ?_)
      ·
        have hbad : (t.args.any fun u => !wfT u) = true := List.any_eq_true.2 ⟨_, hmem, bt64⟩
        have hwf : wfT t = false := by rw [wfT_eq, hn, hbad]; rfl
        repeat (refine awp_seq ?_)
        refine e_eval (by simp only [jA, jO, jN, seval, vint, TyS, TyF, BdS, Int.cast_ofNat_Int, d0, d1, d2, d3, d4, d5, d6, d7, d8, d9, d10, g1, g2, Int.toNat_natCast] <;> with_reducible rfl) (by decide) ?_
        repeat (refine awp_seq ?_)
        refine awp_ret ⟨.inr rfl, _, rfl, ?_⟩
        rw [hwf]; rfl
      ·
        repeat (refine awp_seq ?_)
        refine awp_skip ?_
        exact ⟨⟨rfl, rfl, trivial⟩, (), _, ⟨rfl, trivial⟩, rfl, any_take_succ hi hg bt64⟩
    · intro s hg
      rw [List.take_length] at hg
      have hwf : wfT t = true := by rw [wfT_eq, hn, hg]; rfl
      repeat (refine awp_seq ?_)
      refine e_eval (by simp only [jA, jO, jN, seval, vint, TyS, TyF, BdS, Int.cast_ofNat_Int, d0, d1, d2, d3, d4, d5, d6, d7, d8, d9, d10] <;> with_reducible rfl) (by decide) ?_
      repeat (refine awp_seq ?_)
      refine awp_ret ⟨.inr rfl, _, rfl, ?_⟩
      rw [hwf]; rfl

theorem typeWF_O (t : Ty) (hk : t.kind ≠ 0 ∧ t.kind ≠ 1 ∧ t.kind ≠ 2 ∧ t.kind ≠ 3 ∧ t.kind ≠ 4 ∧ t.kind ≠ 5 ∧ t.kind ≠ 6 ∧ t.kind ≠ 7 ∧ t.kind ≠ 8 ∧ t.kind ≠ 9 ∧ t.kind ≠ 10) (hw : t.W) (ih : ∀ u ∈ t.args, PC Try.prog 40 [u.enc] (.bool (wfT u))) : PC Try.prog 40 [t.enc] (.bool (wfT t)) := by
  have hlen0 : (0 : Int) ≤ (t.args.length : Int) := by omega
  have d0 : decide (t.kind = 0) = false := decide_eq_false (by omega)
  have d1 : decide (t.kind = 1) = false := decide_eq_false (by omega)
  have d2 : decide (t.kind = 2) = false := decide_eq_false (by omega)
  have d3 : decide (t.kind = 3) = false := decide_eq_false (by omega)
  have d4 : decide (t.kind = 4) = false := decide_eq_false (by omega)
  have d5 : decide (t.kind = 5) = false := decide_eq_false (by omega)
  have d6 : decide (t.kind = 6) = false := decide_eq_false (by omega)
  have d7 : decide (t.kind = 7) = false := decide_eq_false (by omega)
  have d8 : decide (t.kind = 8) = false := decide_eq_false (by omega)
  have d9 : decide (t.kind = 9) = false := decide_eq_false (by omega)
  have d10 : decide (t.kind = 10) = false := decide_eq_false (by omega)
  refine pc_of (N := 66) Try.func40 rfl rfl (by simp) (by simp [Ty.bel]) (.bool _) ?_
  repeat (refine awp_seq ?_)
  refine e_eval (by simp only [jA, jO, jN, seval, y29, vint, TyS, TyF, BdS, Int.cast_ofNat_Int, d0, d1, d2, d3, d4, d5, d6, d7, d8, d9, d10] <;> with_reducible rfl) (by decide) ?_
  repeat (refine awp_seq ?_)
  refine e_eval (by simp only [jA, jO, jN, seval, vint, TyS, TyF, BdS, Int.cast_ofNat_Int, d0, d1, d2, d3, d4, d5, d6, d7, d8, d9, d10] <;> with_reducible rfl) (by decide) ?_
  repeat (refine awp_seq ?_)
  refine e_eval (by simp only [jA, jO, jN, seval, y3, y29, vint, TyS, TyF, BdS, Int.cast_ofNat_Int, d0, d1, d2, d3, d4, d5, d6, d7, d8, d9, d10] <;> with_reducible rfl) (by decide) ?_
  repeat (refine awp_seq ?_)
  refine awp_block ?_
  repeat (refine awp_seq ?_)
  refine e_eval (by simp only [jA, jO, jN, seval, y3, vint, TyS, TyF, BdS, Int.cast_ofNat_Int, d0, d1, d2, d3, d4, d5, d6, d7, d8, d9, d10] <;> with_reducible rfl) (by decide) ?_
  repeat (refine awp_seq ?_)
  refine awp_cond_false rfl (by simp only [jN, seval, vint, TyS, TyF, BdS, Int.cast_ofNat_Int, d0, d1, d2, d3, d4, d5, d6, d7, d8, d9, d10] <;> with_reducible rfl) ?_
  repeat (refine awp_seq ?_)
  refine e_eval (by simp only [jA, jO, jN, seval, y3, vint, TyS, TyF, BdS, Int.cast_ofNat_Int, d0, d1, d2, d3, d4, d5, d6, d7, d8, d9, d10] <;> with_reducible rfl) (by decide) ?_
  repeat (refine awp_seq ?_)
  refine awp_cond_false rfl (by simp only [jN, seval, vint, TyS, TyF, BdS, Int.cast_ofNat_Int, d0, d1, d2, d3, d4, d5, d6, d7, d8, d9, d10] <;> with_reducible rfl) ?_
  repeat (refine awp_seq ?_)
  refine e_eval (by simp only [jA, jO, jN, seval, y3, vint, TyS, TyF, BdS, Int.cast_ofNat_Int, d0, d1, d2, d3, d4, d5, d6, d7, d8, d9, d10] <;> with_reducible rfl) (by decide) ?_
  repeat (refine awp_seq ?_)
  refine awp_cond_false rfl (by simp only [jN, seval, vint, TyS, TyF, BdS, Int.cast_ofNat_Int, d0, d1, d2, d3, d4, d5, d6, d7, d8, d9, d10] <;> with_reducible rfl) ?_
  repeat (refine awp_seq ?_)
  refine e_eval (by simp only [jA, jO, jN, seval, y3, vint, TyS, TyF, BdS, Int.cast_ofNat_Int, d0, d1, d2, d3, d4, d5, d6, d7, d8, d9, d10] <;> with_reducible rfl) (by decide) ?_
  repeat (refine awp_seq ?_)
  refine awp_cond_false rfl (by simp only [jN, seval, vint, TyS, TyF, BdS, Int.cast_ofNat_Int, d0, d1, d2, d3, d4, d5, d6, d7, d8, d9, d10] <;> with_reducible rfl) ?_
  refine awp_sel [1, 3, 4, 5, 9] (by simp only [jN, seval, vint, TyS, TyF, BdS, Int.cast_ofNat_Int, d0, d1, d2, d3, d4, d5, d6, d7, d8, d9, d10] <;> with_reducible rfl) ?_
  repeat (refine awp_seq ?_)
  refine e_eval (by simp only [jA, jO, jN, seval, y3, vint, TyS, TyF, BdS, Int.cast_ofNat_Int, d0, d1, d2, d3, d4, d5, d6, d7, d8, d9, d10] <;> with_reducible rfl) (by decide) ?_
  repeat (refine awp_seq ?_)
  refine awp_cond_false rfl (by simp only [jN, seval, vint, TyS, TyF, BdS, Int.cast_ofNat_Int, d0, d1, d2, d3, d4, d5, d6, d7, d8, d9, d10] <;> with_reducible rfl) ?_
  repeat (refine awp_seq ?_)
  refine e_eval (by simp only [jA, jO, jN, seval, y3, vint, TyS, TyF, BdS, Int.cast_ofNat_Int, d0, d1, d2, d3, d4, d5, d6, d7, d8, d9, d10] <;> with_reducible rfl) (by decide) ?_
  repeat (refine awp_seq ?_)
  refine awp_cond_false rfl (by simp only [jN, seval, vint, TyS, TyF, BdS, Int.cast_ofNat_Int, d0, d1, d2, d3, d4, d5, d6, d7, d8, d9, d10] <;> with_reducible rfl) ?_
  repeat (refine awp_seq ?_)
  refine e_eval (by simp only [jA, jO, jN, seval, y3, vint, TyS, TyF, BdS, Int.cast_ofNat_Int, d0, d1, d2, d3, d4, d5, d6, d7, d8, d9, d10] <;> with_reducible rfl) (by decide) ?_
  repeat (refine awp_seq ?_)
  refine awp_cond_false rfl (by simp only [jN, seval, vint, TyS, TyF, BdS, Int.cast_ofNat_Int, d0, d1, d2, d3, d4, d5, d6, d7, d8, d9, d10] <;> with_reducible rfl) ?_
  repeat (refine awp_seq ?_)
  refine e_eval (by simp only [jA, jO, jN, seval, y3, vint, TyS, TyF, BdS, Int.cast_ofNat_Int, d0, d1, d2, d3, d4, d5, d6, d7, d8, d9, d10] <;> with_reducible rfl) (by decide) ?_
  repeat (refine awp_seq ?_)
  refine awp_cond_false rfl (by simp only [jN, seval, vint, TyS, TyF, BdS, Int.cast_ofNat_Int, d0, d1, d2, d3, d4, d5, d6, d7, d8, d9, d10] <;> with_reducible rfl) ?_
  repeat (refine awp_seq ?_)
  refine e_eval (by simp only [jA, jO, jN, seval, y3, vint, TyS, TyF, BdS, Int.cast_ofNat_Int, d0, d1, d2, d3, d4, d5, d6, d7, d8, d9, d10] <;> with_reducible rfl) (by decide) ?_
  repeat (refine awp_seq ?_)
  refine awp_cond_false rfl (by simp only [jN, seval, vint, TyS, TyF, BdS, Int.cast_ofNat_Int, d0, d1, d2, d3, d4, d5, d6, d7, d8, d9, d10] <;> with_reducible rfl) ?_
  repeat (refine awp_seq ?_)
  refine e_eval (by simp only [jA, jO, jN, seval, y3, vint, TyS, TyF, BdS, Int.cast_ofNat_Int, d0, d1, d2, d3, d4, d5, d6, d7, d8, d9, d10] <;> with_reducible rfl) (by decide) ?_
  repeat (refine awp_seq ?_)
  refine awp_cond_false rfl (by simp only [jN, seval, vint, TyS, TyF, BdS, Int.cast_ofNat_Int, d0, d1, d2, d3, d4, d5, d6, d7, d8, d9, d10] <;> with_reducible rfl) ?_
  repeat (refine awp_seq ?_)
  refine e_eval (by simp only [jA, jO, jN, seval, y3, vint, TyS, TyF, BdS, Int.cast_ofNat_Int, d0, d1, d2, d3, d4, d5, d6, d7, d8, d9, d10] <;> with_reducible rfl) (by decide) ?_
  repeat (refine awp_seq ?_)
  refine awp_cond_false rfl (by simp only [jN, seval, vint, TyS, TyF, BdS, Int.cast_ofNat_Int, d0, d1, d2, d3, d4, d5, d6, d7, d8, d9, d10] <;> with_reducible rfl) ?_
  repeat (refine awp_seq ?_)
  refine e_eval (by simp only [jA, jO, jN, seval, vint, TyS, TyF, BdS, Int.cast_ofNat_Int, d0, d1, d2, d3, d4, d5, d6, d7, d8, d9, d10] <;> with_reducible rfl) (by decide) ?_
  repeat (refine awp_seq ?_)
  refine awp_ret ⟨.inr rfl, _, rfl, ?_⟩
  have hn : nwf t = false := by
    unfold nwf
    simp only [d0, d1, d2, d3, d4, d5, d6, d7, d8, d9, d10, Bool.or_false, Bool.or_true, Bool.false_or, Bool.true_or, if_true, if_false, Bool.false_eq_true]
  rw [wfT_eq, hn]; rfl

theorem typeWF_k : ∀ (k : Nat) (t : Ty), t.size ≤ k → t.W → PC Try.prog 40 [t.enc] (.bool (wfT t))
  | 0, t, h, _ => by cases t; simp [Ty.size] at h
  | k + 1, t, h, hw => by
    have ih : ∀ u ∈ t.args, PC Try.prog 40 [u.enc] (.bool (wfT u)) := fun u hu => typeWF_k k u (by have := Ty.size_arg hu; omega) (hw.arg hu)
    by_cases h0 : t.kind = 0
    · exact typeWF_0 t h0 hw ih
    by_cases h1 : t.kind = 1
    · exact typeWF_1 t h1 hw ih
    by_cases h2 : t.kind = 2
    · exact typeWF_2 t h2 hw ih
    by_cases h3 : t.kind = 3
    · exact typeWF_3 t h3 hw ih
    by_cases h4 : t.kind = 4
    · exact typeWF_4 t h4 hw ih
    by_cases h5 : t.kind = 5
    · exact typeWF_5 t h5 hw ih
    by_cases h6 : t.kind = 6
    · exact typeWF_6 t h6 hw ih
    by_cases h7 : t.kind = 7
    · exact typeWF_7 t h7 hw ih
    by_cases h8 : t.kind = 8
    · exact typeWF_8 t h8 hw ih
    by_cases h9 : t.kind = 9
    · exact typeWF_9 t h9 hw ih
    by_cases h10 : t.kind = 10
    · exact typeWF_10 t h10 hw ih
    exact typeWF_O t ⟨h0, h1, h2, h3, h4, h5, h6, h7, h8, h9, h10⟩ hw ih

theorem typeWF (t : Ty) (hw : t.W) : PC Try.prog 40 [t.enc] (.bool (wfT t)) := typeWF_k t.size t (Nat.le_refl _) hw

end Go.Abs
set_option maxRecDepth 4000
namespace Go.Abs
open Go.Proofs

theorem typeError (t : Ty) (hw : t.W) (hb : (t.size : Int) ≤ 1152921504606846976) : PC Try.prog 10 [t.enc] (vint (valT t)) := by
  refine pc_of (N := 19) Try.func10 rfl rfl (by simp) (by simp [Ty.bel]) (.int _ _) ?_
  repeat (refine awp_seq ?_)
  refine e_eval (by simp only [jA, jO, jN, seval, y29, vint, TyS, TyF, BdS] <;> with_reducible rfl) (by decide) ?_
  repeat (refine awp_seq ?_)
  refine awp_region ?_
  refine e_take 1 (by simp only [jA, jO, jN, seval, y29, vint, TyS, TyF, BdS] <;> with_reducible rfl) (by decide) ?_
  refine aops_pure (by simp only [jC, jN, seval, vint, TyS, TyF, BdS] <;> with_reducible rfl) (by simp only [jC, jN, seval, vint, TyS, TyF, BdS]) (by decide) Trygo39 (typeSize_k t.size t (Nat.le_refl _) hw (by omega) _) ?_
  refine e_end (by simp only [jA, jO, jN, seval, vint, TyS, TyF, BdS] <;> with_reducible rfl) (by decide) ?_
  repeat (refine awp_seq ?_)
  refine g_eval (by simp only [jG, jO, jN, seval, y3, vint, TyS, TyF, BdS] <;> with_reducible rfl) (by decide) (by repeat (first | exact Fin.base _ | with_reducible apply Fin.keep | apply Fin.drop)) ?_
  repeat (refine awp_seq ?_)
  refine awp_cond rfl (by simp only [jN, seval, vint, TyS, TyF, BdS] <;> with_reducible rfl) (fun b0 => ?_) (fun b0 => ?_)
  ·
    refine awp_sel [] (by simp only [jN, seval, vint, TyS, TyF, BdS] <;> with_reducible rfl) ?_
    repeat (refine awp_seq ?_)
    refine e_eval (by simp only [jA, jO, jN, seval, vint, TyS, TyF, BdS] <;> with_reducible rfl) (by decide) ?_
    repeat (refine awp_seq ?_)
    refine awp_ret ⟨.inr rfl, _, rfl, ?_⟩
    simp only [jN, seval, vint, TyS, TyF, BdS]
    rw [← val_eq]
    simp_all
  ·
    repeat (refine awp_seq ?_)
    refine awp_skip ?_
    refine awp_sel [1] (by simp only [jN, seval, vint, TyS, TyF, BdS] <;> with_reducible rfl) ?_
    repeat (refine awp_seq ?_)
    refine awp_region ?_
    refine e_take 1 (by simp only [jA, jO, jN, seval, y29, vint, TyS, TyF, BdS] <;> with_reducible rfl) (by decide) ?_
    refine aops_pure (by simp only [jC, jN, seval, vint, TyS, TyF, BdS] <;> with_reducible rfl) (by simp only [jC, jN, seval, vint, TyS, TyF, BdS]) (by decide) Trygo40 (typeWF t hw _) ?_
    refine e_end (by simp only [jA, jO, jN, seval, vint, TyS, TyF, BdS] <;> with_reducible rfl) (by decide) ?_
    repeat (refine awp_seq ?_)
    refine awp_cond rfl (by simp only [jN, seval, vint, TyS, TyF, BdS] <;> with_reducible rfl) (fun b1 => ?_) (fun b1 => ?_)
    ·
      repeat (refine awp_seq ?_)
      refine e_eval (by simp only [jA, jO, jN, seval, vint, TyS, TyF, BdS] <;> with_reducible rfl) (by decide) ?_
      repeat (refine awp_seq ?_)
      refine awp_ret ⟨.inr rfl, _, rfl, ?_⟩
      simp only [jN, seval, vint, TyS, TyF, BdS]
      rw [← val_eq]
      simp_all
    ·
      repeat (refine awp_seq ?_)
      refine awp_skip ?_
      repeat (refine awp_seq ?_)
      refine e_eval (by simp only [jA, jO, jN, seval, vint, TyS, TyF, BdS] <;> with_reducible rfl) (by decide) ?_
      repeat (refine awp_seq ?_)
      refine awp_ret ⟨.inr rfl, _, rfl, ?_⟩
      simp only [jN, seval, vint, TyS, TyF, BdS]
      rw [← val_eq]
      simp_all

end Go.Abs
set_option maxRecDepth 4000
namespace Go.Abs
open Go.Proofs

theorem typesEqual_k : ∀ (k : Nat) (a b : Ty), a.size ≤ k → a.W → PC Try.prog 45 [a.enc, b.enc] (.bool (a.eqb b))
  | 0, a, b, h, _ => by cases a; simp [Ty.size] at h
  | k + 1, a, b, h, hw => by
    refine pc_of (N := 46) Try.func45 rfl rfl (by simp) (by simp [Ty.bel]) (.bool _) ?_
    repeat (refine awp_seq ?_)
    refine e_eval (by simp only [jA, jO, jN, seval, y29, vint, TyS, TyF, BdS] <;> with_reducible rfl) (by decide) ?_
    repeat (refine awp_seq ?_)
    refine g_eval (by simp only [jG, jO, jN, seval, y3, y27, y29, vint, TyS, TyF, BdS] <;> with_reducible rfl) (by decide) (by repeat (first | exact Fin.base _ | with_reducible apply Fin.keep | apply Fin.drop)) ?_
    repeat (refine awp_seq ?_)
    refine awp_cond rfl (by simp only [jN, seval, vint, TyS, TyF, BdS] <;> with_reducible rfl) (fun bt26 => ?_) (fun bt26 => ?_)
    ·
      have hf : a.eqb b = false := by
        cases hq : a.eqb b with
        | false => rfl
        | true => have := (Ty.eqb_iff a b).1 hq; subst this; simp at bt26
      refine awp_sel [] (by simp only [jN, seval, vint, TyS, TyF, BdS] <;> with_reducible rfl) ?_
      repeat (refine awp_seq ?_)
      refine e_eval (by simp only [jA, jO, jN, seval, vint, TyS, TyF, BdS] <;> with_reducible rfl) (by decide) ?_
      repeat (refine awp_seq ?_)
      refine awp_ret ⟨.inr rfl, _, rfl, ?_⟩
      first | (rw [hf]; rfl) | (rw [ht]; rfl)
    ·
      have hq : a.kind = b.kind ∧ a.id = b.id ∧ (a.args.length : Int) = b.args.length := by simp at bt26; omega
      have hlen : a.args.length = b.args.length := by omega
      repeat (refine awp_seq ?_)
      refine awp_skip ?_
      refine awp_sel [2, 3] (by simp only [jN, seval, vint, TyS, TyF, BdS] <;> with_reducible rfl) ?_
      repeat (refine awp_seq ?_)
      refine e_eval (by simp only [jA, jO, jN, seval, y27, y29, vint, TyS, TyF, BdS] <;> with_reducible rfl) (by decide) ?_
      repeat (refine awp_seq ?_)
      refine awp_forS (σ := Unit) (a.args.length) (fun (s : Unit) => [(2, .optr 0 0), (3, .optr 1 0)]) [2, 3] ([]) (fun (s : Unit) => [.row a.enc.cells, .row b.enc.cells]) (fun (i : Nat) (s : Unit) => ((a.args.zip b.args).take i).all (fun p => p.1.eqb p.2) = true) (()) ([]) rfl rfl rfl rfl rfl rfl rfl rfl rfl (by decide) (by decide) (by decide) (fun _ => rfl) (hw.lenMax) ⟨(by first | rfl | (simp only [jN, seval, vint, TyS, TyF, BdS] <;> first | done | with_reducible rfl)), (by first | rfl | (simp only [jN, seval, vint, TyS, TyF, BdS] <;> first | done | with_reducible rfl)), (by first | rfl | (simp only [jN, seval, vint, TyS, TyF, BdS] <;> first | done | with_reducible rfl)), (by first | rfl | (simp only [jN, seval, vint, TyS, TyF, BdS] <;> first | done | with_reducible rfl)), trivial⟩ (by first | rfl | (simp only [jN, seval, vint, TyS, TyF, BdS] <;> first | done | with_reducible rfl)) (by simp) (fun _ _ _ => by first | exact Nat.zero_le _ | (simp only [List.length_append]; omega)) ?_ ?_ ?_
      · intro i s hg
        simp only [List.nil_append, TyS]
        refine ⟨?_, by repeat (first | exact BelL.nil | refine BelL.cons (by first | exact bel_Bd _ _ | exact Bd.bel _ _ | exact bel_int_tok _ (by simp) | exact bel_ints0 _ _ | exact bel_slice_ty _ _ | exact Ty.bel _ _ | exact bel_ty_tok _ (by simp) | exact Bel.int _ _ | exact Bel.bool _ | exact Bel.str _ | exact Bel.nilp | exact Bel.nilfn | exact Bel.optr _ _ (by simp) | exact bel_nil0 _ | exact bel_nil1 _ | exact bel_fn0 _ _ | assumption) ?_)⟩
        repeat (first | exact hbel_nil _ | exact trivial | exact obel_row_nil _ | (refine HBel.cons ?_ ?_) | (refine obel_row_cons (by first | exact bel_Bd _ _ | exact Bd.bel _ _ | exact bel_int_tok _ (by simp) | exact bel_ints0 _ _ | exact bel_slice_ty _ _ | exact Ty.bel _ _ | exact bel_ty_tok _ (by simp) | exact Bel.int _ _ | exact Bel.bool _ | exact Bel.str _ | exact Bel.nilp | exact Bel.nilfn | exact Bel.optr _ _ (by simp) | exact bel_nil0 _ | exact bel_nil1 _ | exact bel_fn0 _ _ | assumption) ?_))
      · intro i s hi hg
        have g1 := ix_nat hi
        have hi2 : i < b.args.length := by omega
        have g3 := ix_nat hi2
        have g2 := get_enc Ty.enc hi
        have g4 := get_enc Ty.enc hi2
        have hmem : a.args[i] ∈ a.args := List.getElem_mem hi
        have hsa := Ty.size_arg hmem
        repeat (refine awp_seq ?_)
        refine e_eval (by simp only [jA, jO, jN, seval, vint, TyS, TyF, BdS, g1, Int.toNat_natCast, g2, g3, g4] <;> with_reducible rfl) (by decide) ?_
        repeat (refine awp_seq ?_)
        refine awp_draw 0 (by kernel_rfl) ?_
        refine d_take (bm := [0, 1, 0, 7, 15, 0, 32, 0, 224, 480, 1023, 2047]) 10 (fresh := 0) (by kernel_rfl) (by simp only [jD, jO, jN, seval, y27, y29, vint, TyS, TyF, BdS, g1, Int.toNat_natCast, g2, g3, g4] <;> with_reducible rfl) (by decide) (by decide) ?_
        refine dops_keep (bm := [0, 1, 0, 7, 15, 0, 32, 0, 224, 480, 1023, 2047]) ([]) (by kernel_rfl) (by simp only [jC, jN, seval, vint, TyS, TyF, BdS, g1, Int.toNat_natCast, g2, g3, g4] <;> with_reducible rfl) (by simp only [jC, jN, seval, vint, TyS, TyF, BdS, g1, Int.toNat_natCast, g2, g3, g4]) (by decide) Trygo45 (fun H' _ => typesEqual_k k a.args[i] b.args[i] (by omega) (hw.arg hmem) H') (by simp only [jD, jO, jN, seval, vint, TyS, TyF, BdS, g1, Int.toNat_natCast, g2, g3, g4] <;> first | done | rfl) ?_
        refine d_end (bm := [0, 1, 0, 7, 15, 0, 32, 0, 224, 480, 1023, 2047]) (fresh := 0) (by kernel_rfl) (by simp only [jD, jO, jN, seval, vint, TyS, TyF, BdS, g1, Int.toNat_natCast, g2, g3, g4] <;> with_reducible rfl) (by decide) ?_
        repeat (refine awp_seq ?_)
        refine awp_cond rfl (by simp only [jN, seval, vint, TyS, TyF, BdS, g1, Int.toNat_natCast, g2, g3, g4] <;> with_reducible rfl) (fun bt44 => ?_) (fun bt44 => ?_)
        ·
          have hf : a.eqb b = false := by
            cases hq : a.eqb b with
            | false => rfl
            | true => have := (Ty.eqb_iff a b).1 hq; subst this; simp [Ty.eqb_self] at bt44
          repeat (refine awp_seq ?_)
          refine e_eval (by simp only [jA, jO, jN, seval, vint, TyS, TyF, BdS, g1, Int.toNat_natCast, g2, g3, g4] <;> with_reducible rfl) (by decide) ?_
          repeat (refine awp_seq ?_)
          refine awp_ret ⟨.inr rfl, _, rfl, ?_⟩
          first | (rw [hf]; rfl) | (rw [ht]; rfl)
        ·
          repeat (refine awp_seq ?_)
          refine awp_skip ?_
          have hgt : a.args[i].eqb b.args[i] = true := by simpa using bt44
          exact ⟨⟨rfl, rfl, trivial⟩, (), [], ⟨rfl, rfl, trivial⟩, by simp only [jN, seval, vint, TyS, TyF, BdS] <;> rfl, all_take_succ (by simp; omega) hg (by simpa using hgt)⟩
      · intro s hg
        rw [List.take_of_length_le (by simp; omega)] at hg
        have ht : a.eqb b = true := by
          rw [Ty.eqb_eq, eqbs_all2, decide_eq_true hq.1, decide_eq_true hq.2.1]
          simp [all2, hlen, hg]
        repeat (refine awp_seq ?_)
        refine e_eval (by simp only [jA, jO, jN, seval, vint, TyS, TyF, BdS] <;> with_reducible rfl) (by decide) ?_
        repeat (refine awp_seq ?_)
        refine awp_ret ⟨.inr rfl, _, rfl, ?_⟩
        first | (rw [hf]; rfl) | (rw [ht]; rfl)

theorem varsOf_k : ∀ (k : Nat) (t : Ty), t.size ≤ k → t.W → t.size * 8 ≤ 2 ^ 47 → PC Try.prog 44 [t.enc] (.slice ((varsT t).map vint) .none)
  | 0, t, h, _, _ => by cases t; simp [Ty.size] at h
  | k + 1, t, h, hw, hsz => by
    have hts : t.size = 1 + Ty.sizes t.args := by cases t; simp [Ty.size, Ty.args]
    have em : maxLen = 9223372036854775807 := by decide
    have heq := varsT_eq t
    refine pc_of (N := 39) Try.func44 rfl rfl (by simp) (by simp [Ty.bel]) (bel_ints0 _ _) ?_
    repeat (refine awp_seq ?_)
    refine e_eval (by simp only [jA, jO, jN, seval, y29, vint, TyS, TyF, BdS] <;> with_reducible rfl) (by decide) ?_
    repeat (refine awp_seq ?_)
    refine e_eval (by simp only [jA, jO, jN, seval, y3, y29, vint, TyS, TyF, BdS] <;> with_reducible rfl) (by decide) ?_
    repeat (refine awp_seq ?_)
    refine awp_cond rfl (by simp only [jN, seval, vint, TyS, TyF, BdS] <;> with_reducible rfl) (fun bt10 => ?_) (fun bt10 => ?_)
    ·
      rw [if_pos bt10] at heq
      repeat (refine awp_seq ?_)
      refine e_eval (by simp only [jA, jO, jN, seval, y3, y29, y50, vint, TyS, TyF, BdS] <;> with_reducible rfl) (by decide) ?_
      repeat (refine awp_seq ?_)
      refine awp_ret ⟨.inr rfl, _, rfl, ?_⟩
      rw [heq]; rfl
    ·
      rw [if_neg (by rw [bt10]; simp)] at heq
      repeat (refine awp_seq ?_)
      refine awp_skip ?_
      repeat (refine awp_seq ?_)
      refine e_eval (by simp only [jA, jO, jN, seval, vint, TyS, TyF, BdS] <;> with_reducible rfl) (by decide) ?_
      repeat (refine awp_seq ?_)
      refine e_eval (by simp only [jA, jO, jN, seval, y27, y29, vint, TyS, TyF, BdS] <;> with_reducible rfl) (by decide) ?_
      repeat (refine awp_seq ?_)
      refine awp_retok 3 1 (es := []) (by simp only [jN, seval, vint, TyS, TyF, BdS] <;> with_reducible rfl) ?_
      refine awp_forS (σ := List Int) (t.args.length) (fun (q : List Int) => [(3, .slice (q.map vint) (.tok 1)), (15, .slice (t.args.map Ty.enc) .none)]) [3, 15] ([]) (fun (q : List Int) => [.row t.enc.cells, .buf q.length 1]) (fun (i : Nat) (q : List Int) => q = ((t.args.take i).map varsT).foldl (fun a b => b.foldl addv a) [] ∧ q.length + Ty.sizes (t.args.drop i) + 1 ≤ t.size) ([]) ([]) rfl rfl rfl rfl rfl rfl rfl rfl rfl (by decide) (by decide) (by decide) (fun _ => rfl) (hw.lenMax) ⟨(by first | rfl | (simp only [jN, seval, vint, TyS, TyF, BdS] <;> first | done | with_reducible rfl)), (by first | rfl | (simp only [jN, seval, vint, TyS, TyF, BdS] <;> first | done | with_reducible rfl)), (by first | rfl | (simp only [jN, seval, vint, TyS, TyF, BdS] <;> first | done | with_reducible rfl)), (by first | rfl | (simp only [jN, seval, vint, TyS, TyF, BdS] <;> first | done | with_reducible rfl)), trivial⟩ (by first | rfl | (simp only [jN, seval, vint, TyS, TyF, BdS] <;> first | done | with_reducible rfl)) (⟨rfl, by simp; omega⟩) (fun _ _ _ => by first | exact Nat.zero_le _ | (simp only [List.length_append]; omega)) ?_ ?_ ?_
      · intro i q hg
        simp only [List.nil_append, TyS]
        refine ⟨?_, by repeat (first | exact BelL.nil | refine BelL.cons (by first | exact bel_Bd _ _ | exact Bd.bel _ _ | exact bel_int_tok _ (by simp) | exact bel_ints0 _ _ | exact bel_slice_ty _ _ | exact Ty.bel _ _ | exact bel_ty_tok _ (by simp) | exact Bel.int _ _ | exact Bel.bool _ | exact Bel.str _ | exact Bel.nilp | exact Bel.nilfn | exact Bel.optr _ _ (by simp) | exact bel_nil0 _ | exact bel_nil1 _ | exact bel_fn0 _ _ | assumption) ?_)⟩
        repeat (first | exact hbel_nil _ | exact trivial | exact obel_row_nil _ | (refine HBel.cons ?_ ?_) | (refine obel_row_cons (by first | exact bel_Bd _ _ | exact Bd.bel _ _ | exact bel_int_tok _ (by simp) | exact bel_ints0 _ _ | exact bel_slice_ty _ _ | exact Ty.bel _ _ | exact bel_ty_tok _ (by simp) | exact Bel.int _ _ | exact Bel.bool _ | exact Bel.str _ | exact Bel.nilp | exact Bel.nilfn | exact Bel.optr _ _ (by simp) | exact bel_nil0 _ | exact bel_nil1 _ | exact bel_fn0 _ _ | assumption) ?_))
      · intro i q hi hg
        obtain ⟨hqe, hql⟩ := hg
        have g1 := ix_nat hi
        have g2 := get_enc Ty.enc hi
        have hmem : t.args[i] ∈ t.args := List.getElem_mem hi
        have hsa := Ty.size_arg hmem
        have hvl := varsT_len t.args[i]
        have htk := List.take_succ_eq_append_getElem hi
        rw [List.drop_eq_getElem_cons hi, Ty.sizes] at hql
        obtain ⟨u, hu⟩ : ∃ u, u = t.args[i] := ⟨_, rfl⟩
        rw [← hu] at g2 hmem hsa hvl hql htk
        repeat (refine awp_seq ?_)
        refine e_eval (by simp only [jA, jO, jN, seval, y27, y29, vint, TyS, TyF, BdS, g1, g2, Int.toNat_natCast] <;> with_reducible rfl) (by decide) ?_
        repeat (refine awp_seq ?_)
        refine awp_region ?_
        refine e_take 1 (by simp only [jA, jO, jN, seval, y29, vint, TyS, TyF, BdS, g1, g2, Int.toNat_natCast] <;> with_reducible rfl) (by decide) ?_
        refine aops_pure (by simp only [jC, jN, seval, vint, TyS, TyF, BdS, g1, g2, Int.toNat_natCast] <;> with_reducible rfl) (by simp only [jC, jN, seval, vint, TyS, TyF, BdS, g1, g2, Int.toNat_natCast]) (by decide) Trygo44 (varsOf_k k u (by omega) (hw.arg hmem) (by omega) _) ?_
        refine e_end (by simp only [jA, jO, jN, seval, y3, y50, vint, TyS, TyF, BdS, g1, g2, Int.toNat_natCast] <;> with_reducible rfl) (by decide) ?_
        repeat (refine awp_seq ?_)
        refine awp_forS (σ := List Int) ((varsT u).length) (fun (p : List Int) => [(3, .slice (p.map vint) (.tok 1)), (22, .slice ((varsT u).map vint) .none), (15, .slice (t.args.map Ty.enc) .none), (16, vint (t.args.length : Int)), (17, vint (i : Int))]) [3, 22, 15, 16, 17] ([]) (fun (p : List Int) => [.row t.enc.cells, .buf p.length 1]) (fun (i : Nat) (p : List Int) => p = ((varsT u).take i).foldl addv q ∧ p.length ≤ q.length + i) (q) (_) rfl rfl rfl rfl rfl rfl rfl rfl rfl (by decide) (by decide) (by decide) (fun _ => rfl) ((by rw [em]; omega)) ⟨(by first | rfl | (simp only [jN, seval, vint, TyS, TyF, BdS, g1, g2, Int.toNat_natCast] <;> first | done | with_reducible rfl)), (by first | rfl | (simp only [jN, seval, vint, TyS, TyF, BdS, g1, g2, Int.toNat_natCast] <;> first | done | with_reducible rfl)), (by first | rfl | (simp only [jN, seval, vint, TyS, TyF, BdS, g1, g2, Int.toNat_natCast] <;> first | done | with_reducible rfl)), (by first | rfl | (simp only [jN, seval, vint, TyS, TyF, BdS, g1, g2, Int.toNat_natCast] <;> first | done | with_reducible rfl)), (by first | rfl | (simp only [jN, seval, vint, TyS, TyF, BdS, g1, g2, Int.toNat_natCast] <;> first | done | with_reducible rfl)), (by first | rfl | (simp only [jN, seval, vint, TyS, TyF, BdS, g1, g2, Int.toNat_natCast] <;> first | done | with_reducible rfl)), (by first | rfl | (simp only [jN, seval, vint, TyS, TyF, BdS, g1, g2, Int.toNat_natCast] <;> first | done | with_reducible rfl)), trivial⟩ (by first | rfl | (simp only [jN, seval, vint, TyS, TyF, BdS, g1, g2, Int.toNat_natCast] <;> first | done | with_reducible rfl)) (⟨rfl, by omega⟩) (fun _ _ _ => by first | exact Nat.zero_le _ | (simp only [List.length_append]; omega)) ?_ ?_ ?_
        · intro i p hg
          simp only [List.nil_append, TyS]
          refine ⟨?_, by repeat (first | exact BelL.nil | refine BelL.cons (by first | exact bel_Bd _ _ | exact Bd.bel _ _ | exact bel_int_tok _ (by simp) | exact bel_ints0 _ _ | exact bel_slice_ty _ _ | exact Ty.bel _ _ | exact bel_ty_tok _ (by simp) | exact Bel.int _ _ | exact Bel.bool _ | exact Bel.str _ | exact Bel.nilp | exact Bel.nilfn | exact Bel.optr _ _ (by simp) | exact bel_nil0 _ | exact bel_nil1 _ | exact bel_fn0 _ _ | assumption) ?_)⟩
          repeat (first | exact hbel_nil _ | exact trivial | exact obel_row_nil _ | (refine HBel.cons ?_ ?_) | (refine obel_row_cons (by first | exact bel_Bd _ _ | exact Bd.bel _ _ | exact bel_int_tok _ (by simp) | exact bel_ints0 _ _ | exact bel_slice_ty _ _ | exact Ty.bel _ _ | exact bel_ty_tok _ (by simp) | exact Bel.int _ _ | exact Bel.bool _ | exact Bel.str _ | exact Bel.nilp | exact Bel.nilfn | exact Bel.optr _ _ (by simp) | exact bel_nil0 _ | exact bel_nil1 _ | exact bel_fn0 _ _ | assumption) ?_))
        · intro i p hi hg
          obtain ⟨hp, hpl⟩ := hg
          have g3 := ix_nat hi
          have g4 := get_enc vint hi
          have htz := List.take_succ_eq_append_getElem hi
          obtain ⟨z, hz⟩ : ∃ z, z = (varsT u)[i] := ⟨_, rfl⟩
          rw [← hz] at g4 htz
          have happ := app_int (us := p) (u := z) (id := 1) (tl := .full) (by omega)
          repeat (refine awp_seq ?_)
          refine e_eval (by simp only [jA, jO, jN, seval, y3, y50, vint, TyS, TyF, BdS, g1, g2, Int.toNat_natCast, g3, g4] <;> with_reducible rfl) (by decide) ?_
          repeat (refine awp_seq ?_)
          refine awp_region ?_
          refine e_take 2 (by simp only [jA, jO, jN, seval, vint, TyS, TyF, BdS, g1, g2, Int.toNat_natCast, g3, g4] <;> with_reducible rfl) (by decide) ?_
          refine aops_pure (by simp only [jC, jN, seval, vint, TyS, TyF, BdS, g1, g2, Int.toNat_natCast, g3, g4] <;> with_reducible rfl) (by simp only [jC, jN, seval, vint, TyS, TyF, BdS, g1, g2, Int.toNat_natCast, g3, g4]) (by decide) Trygo43 (containsIntR p z (by rw [em]; omega) _) ?_
          refine e_end (by simp only [jA, jO, jN, seval, vint, TyS, TyF, BdS, g1, g2, Int.toNat_natCast, g3, g4] <;> with_reducible rfl) (by decide) ?_
          repeat (refine awp_seq ?_)
          refine awp_cond rfl (by simp only [jN, seval, vint, TyS, TyF, BdS, g1, g2, Int.toNat_natCast, g3, g4] <;> with_reducible rfl) (fun bt31 => ?_) (fun bt31 => ?_)
          ·
            have had : addv p z = p ++ [z] := by unfold addv; rw [if_neg]; intro q; rw [q] at bt31; cases bt31
            repeat (refine awp_seq ?_)
            refine e_eval (by simp only [jA, jO, jN, seval, y3, y50, vint, TyS, TyF, BdS, g1, g2, Int.toNat_natCast, g3, g4, happ] <;> with_reducible rfl) (by decide) ?_
            have hgd : ∀ r, addv p z = r → r = ((varsT u).take (i + 1)).foldl addv q := fun r hr => by rw [htz, List.foldl_append, ← hp, ← hr]; rfl
            first
              | exact ⟨⟨rfl, rfl, trivial⟩, p ++ [z], _, ⟨rfl, rfl, rfl, rfl, rfl, trivial⟩, by simp only [jN, seval, vint, TyS, TyF, BdS, List.length_append, List.length_singleton] <;> rfl, hgd _ had, by simp; omega⟩
              | exact ⟨⟨rfl, rfl, trivial⟩, p, _, ⟨rfl, rfl, rfl, rfl, rfl, trivial⟩, by simp only [jN, seval, vint, TyS, TyF, BdS] <;> rfl, hgd _ had, by omega⟩
          ·
            have had : addv p z = p := by unfold addv; rw [if_pos]; simpa using bt31
            repeat (refine awp_seq ?_)
            refine awp_skip ?_
            have hgd : ∀ r, addv p z = r → r = ((varsT u).take (i + 1)).foldl addv q := fun r hr => by rw [htz, List.foldl_append, ← hp, ← hr]; rfl
            first
              | exact ⟨⟨rfl, rfl, trivial⟩, p ++ [z], _, ⟨rfl, rfl, rfl, rfl, rfl, trivial⟩, by simp only [jN, seval, vint, TyS, TyF, BdS, List.length_append, List.length_singleton] <;> rfl, hgd _ had, by simp; omega⟩
              | exact ⟨⟨rfl, rfl, trivial⟩, p, _, ⟨rfl, rfl, rfl, rfl, rfl, trivial⟩, by simp only [jN, seval, vint, TyS, TyF, BdS] <;> rfl, hgd _ had, by omega⟩
        · intro p hg
          obtain ⟨hp, hpl⟩ := hg
          rw [List.take_length] at hp
          exact ⟨⟨rfl, rfl, trivial⟩, p, _, ⟨rfl, rfl, trivial⟩, by simp only [jN, seval, vint, TyS, TyF, BdS] <;> rfl, by rw [htk, List.map_append, List.foldl_append, ← hqe, hp]; rfl, by omega⟩
      · intro q hg
        rw [List.take_length] at hg
        rw [← hg.1] at heq
        repeat (refine awp_seq ?_)
        refine e_eval (by simp only [jA, jO, jN, seval, vint, TyS, TyF, BdS] <;> with_reducible rfl) (by decide) ?_
        repeat (refine awp_seq ?_)
        refine awp_ret ⟨.inr rfl, _, rfl, ?_⟩
        rw [heq]; rfl

theorem substV_k (s : List Bd) (hx : s.length ≤ maxLen) (hwb : ∀ b ∈ s, b.t.W) : ∀ (k : Nat) (t : Ty), t.size ≤ k → t.W → PC Try.prog 41 [t.enc, .slice (s.map Bd.enc) .none] (mapT (subG s) t).enc
  | 0, t, h, _ => by cases t; simp [Ty.size] at h
  | k + 1, t, h, hw => by
    have heq := mapT_eq (subG s) t
    refine pc_of (N := 44) Try.func41 rfl rfl (by simp) (by simp [Ty.bel, bel_Bd]) (Ty.bel _ _) ?_
    repeat (refine awp_seq ?_)
    refine e_eval (by simp only [jA, jO, jN, seval, y29, vint, TyS, TyF, BdS] <;> with_reducible rfl) (by decide) ?_
    repeat (refine awp_seq ?_)
    refine e_eval (by simp only [jA, jO, jN, seval, y3, y29, vint, TyS, TyF, BdS] <;> with_reducible rfl) (by decide) ?_
    repeat (refine awp_seq ?_)
    refine awp_cond rfl (by simp only [jN, seval, vint, TyS, TyF, BdS] <;> with_reducible rfl) (fun bt12 => ?_) (fun bt12 => ?_)
    ·
      repeat (refine awp_seq ?_)
      refine e_eval (by simp only [jA, jO, jN, seval, y24, y42, vint, TyS, TyF, BdS] <;> with_reducible rfl) (by decide) ?_
      repeat (refine awp_seq ?_)
      refine awp_forS (σ := Unit) (s.length) (fun (_u : Unit) => [(1, .slice (s.map Bd.enc) .none), (2, .optr 0 0), (4, .optr 1 0), (13, .slice (s.map Bd.enc) .none)]) [1, 2, 4, 13] ([]) (fun (_u : Unit) => [.row t.enc.cells, .row [.int .i64 0, .int .i64 0, .slice [] .full]]) (fun (i : Nat) (_u : Unit) => (s.take i).any (fun b => decide (b.v = t.id)) = false) (()) ([]) rfl rfl rfl rfl rfl rfl rfl rfl rfl (by decide) (by decide) (by decide) (fun _ => rfl) (hx) ⟨(by first | rfl | (simp only [jN, seval, vint, TyS, TyF, BdS] <;> first | done | with_reducible rfl)), (by first | rfl | (simp only [jN, seval, vint, TyS, TyF, BdS] <;> first | done | with_reducible rfl)), (by first | rfl | (simp only [jN, seval, vint, TyS, TyF, BdS] <;> first | done | with_reducible rfl)), (by first | rfl | (simp only [jN, seval, vint, TyS, TyF, BdS] <;> first | done | with_reducible rfl)), (by first | rfl | (simp only [jN, seval, vint, TyS, TyF, BdS] <;> first | done | with_reducible rfl)), (by first | rfl | (simp only [jN, seval, vint, TyS, TyF, BdS] <;> first | done | with_reducible rfl)), trivial⟩ (by first | rfl | (simp only [jN, seval, vint, TyS, TyF, BdS] <;> first | done | with_reducible rfl)) (by simp) (fun _ _ _ => by first | exact Nat.zero_le _ | (simp only [List.length_append]; omega)) ?_ ?_ ?_
      · intro i _ hg
        simp only [List.nil_append, TyS]
        refine ⟨?_, by repeat (first | exact BelL.nil | refine BelL.cons (by first | exact bel_Bd _ _ | exact Bd.bel _ _ | exact bel_int_tok _ (by simp) | exact bel_ints0 _ _ | exact bel_slice_ty _ _ | exact Ty.bel _ _ | exact bel_ty_tok _ (by simp) | exact Bel.int _ _ | exact Bel.bool _ | exact Bel.str _ | exact Bel.nilp | exact Bel.nilfn | exact Bel.optr _ _ (by simp) | exact bel_nil0 _ | exact bel_nil1 _ | exact bel_fn0 _ _ | assumption) ?_)⟩
        repeat (first | exact hbel_nil _ | exact trivial | exact obel_row_nil _ | (refine HBel.cons ?_ ?_) | (refine obel_row_cons (by first | exact bel_Bd _ _ | exact Bd.bel _ _ | exact bel_int_tok _ (by simp) | exact bel_ints0 _ _ | exact bel_slice_ty _ _ | exact Ty.bel _ _ | exact bel_ty_tok _ (by simp) | exact Bel.int _ _ | exact Bel.bool _ | exact Bel.str _ | exact Bel.nilp | exact Bel.nilfn | exact Bel.optr _ _ (by simp) | exact bel_nil0 _ | exact bel_nil1 _ | exact bel_fn0 _ _ | assumption) ?_))
      · intro i _u hi hg
        have g1 := ix_nat hi
        have g2 := get_enc Bd.enc hi
        repeat (refine awp_seq ?_)
        refine e_eval (by simp only [jA, jO, jN, seval, y24, y42, vint, TyS, TyF, BdS, g1, g2, Int.toNat_natCast] <;> with_reducible rfl) (by decide) ?_
        repeat (refine awp_seq ?_)
        refine e_eval (by simp only [jA, jO, jN, seval, y3, y29, y42, vint, TyS, TyF, BdS, g1, g2, Int.toNat_natCast] <;> with_reducible rfl) (by decide) ?_
        repeat (refine awp_seq ?_)
        refine awp_cond rfl (by simp only [jN, seval, vint, TyS, TyF, BdS, g1, g2, Int.toNat_natCast] <;> with_reducible rfl) (fun bt23 => ?_) (fun bt23 => ?_)
        ·
          have hhit := sub_hit (s := s) (u := t) (i := i) (of_decide_eq_true bt12) hi (of_decide_eq_true bt23) hg
          rw [hhit, if_pos rfl] at heq
          repeat (refine awp_seq ?_)
          refine e_eval (by simp only [jA, jO, jN, seval, y29, y42, vint, TyS, TyF, BdS, g1, g2, Int.toNat_natCast] <;> with_reducible rfl) (by decide) ?_
          repeat (refine awp_seq ?_)
          refine awp_ret ⟨.inr rfl, _, (ares_cell 4 29 rfl Tryti29 (by decide) (by simp only [jL, jN, seval, vint, TyS, TyF, BdS, g1, g2, Int.toNat_natCast] <;> with_reducible rfl)), ?_⟩
          rw [heq]
          exact Ty.enc_drop1 _
        ·
          repeat (refine awp_seq ?_)
          refine awp_skip ?_
          exact ⟨⟨rfl, rfl, trivial⟩, (), _, ⟨rfl, rfl, rfl, rfl, trivial⟩, by simp only [jN, seval, vint, TyS, TyF, BdS] <;> rfl, any_take_succ hi hg bt23⟩
      · intro _u hg
        rw [List.take_length] at hg
        have hmiss := sub_miss (s := s) (u := t) (fun _ => hg)
        repeat (refine awp_seq ?_)
        refine e_eval (by simp only [jA, jO, jN, seval, vint, TyS, TyF, BdS] <;> with_reducible rfl) (by decide) ?_
        repeat (refine awp_seq ?_)
        refine e_eval (by simp only [jA, jO, jN, seval, y27, y29, vint, TyS, TyF, BdS] <;> with_reducible rfl) (by decide) ?_
        repeat (refine awp_seq ?_)
        refine awp_retok 7 3 (es := []) (by simp only [jN, seval, vint, TyS, TyF, BdS] <;> with_reducible rfl) ?_
        refine awp_forS (σ := List Ty) (t.args.length) (fun (r : List Ty) => [(1, .slice (s.map Bd.enc) .none), (2, .optr 0 0), (4, .optr 1 0), (7, .slice (r.map Ty.enc) (.tok 2)), (28, .slice (t.args.map Ty.enc) .none)]) [1, 2, 4, 7, 28] ([]) (fun (r : List Ty) => [.row t.enc.cells, .row [.int .i64 0, .int .i64 0, .slice [] .full], .buf r.length 3]) (fun (i : Nat) (r : List Ty) => r = (t.args.take i).map (mapT (subG s))) ([]) ([]) rfl rfl rfl rfl rfl rfl rfl rfl rfl (by decide) (by decide) (by decide) (fun _ => rfl) (hw.lenMax) ⟨(by first | rfl | (simp only [jN, seval, vint, TyS, TyF, BdS] <;> first | done | with_reducible rfl)), (by first | rfl | (simp only [jN, seval, vint, TyS, TyF, BdS] <;> first | done | with_reducible rfl)), (by first | rfl | (simp only [jN, seval, vint, TyS, TyF, BdS] <;> first | done | with_reducible rfl)), (by first | rfl | (simp only [jN, seval, vint, TyS, TyF, BdS] <;> first | done | with_reducible rfl)), (by first | rfl | (simp only [jN, seval, vint, TyS, TyF, BdS] <;> first | done | with_reducible rfl)), (by first | rfl | (simp only [jN, seval, vint, TyS, TyF, BdS] <;> first | done | with_reducible rfl)), (by first | rfl | (simp only [jN, seval, vint, TyS, TyF, BdS] <;> first | done | with_reducible rfl)), trivial⟩ (by first | rfl | (simp only [jN, seval, vint, TyS, TyF, BdS] <;> first | done | with_reducible rfl)) (by simp) (fun _ _ _ => by first | exact Nat.zero_le _ | (simp only [List.length_append]; omega)) ?_ ?_ ?_
        · intro i r hg
          simp only [List.nil_append, TyS]
          refine ⟨?_, by repeat (first | exact BelL.nil | refine BelL.cons (by first | exact bel_Bd _ _ | exact Bd.bel _ _ | exact bel_int_tok _ (by simp) | exact bel_ints0 _ _ | exact bel_slice_ty _ _ | exact Ty.bel _ _ | exact bel_ty_tok _ (by simp) | exact Bel.int _ _ | exact Bel.bool _ | exact Bel.str _ | exact Bel.nilp | exact Bel.nilfn | exact Bel.optr _ _ (by simp) | exact bel_nil0 _ | exact bel_nil1 _ | exact bel_fn0 _ _ | assumption) ?_)⟩
          repeat (first | exact hbel_nil _ | exact trivial | exact obel_row_nil _ | (refine HBel.cons ?_ ?_) | (refine obel_row_cons (by first | exact bel_Bd _ _ | exact Bd.bel _ _ | exact bel_int_tok _ (by simp) | exact bel_ints0 _ _ | exact bel_slice_ty _ _ | exact Ty.bel _ _ | exact bel_ty_tok _ (by simp) | exact Bel.int _ _ | exact Bel.bool _ | exact Bel.str _ | exact Bel.nilp | exact Bel.nilfn | exact Bel.optr _ _ (by simp) | exact bel_nil0 _ | exact bel_nil1 _ | exact bel_fn0 _ _ | assumption) ?_))
        · intro i r hi hg
          have g1 := ix_nat hi
          have g2 := get_enc Ty.enc hi
          have hmem : t.args[i] ∈ t.args := List.getElem_mem hi
          have hsa := Ty.size_arg hmem
          have hlen := hw.len
          have hsl : r.length < t.args.length := by rw [hg, List.length_map, List.length_take]; omega
          have happ := app_ty (us := r) (u := mapT (subG s) t.args[i]) (id := 2) (tl := .full) (by omega)
          repeat (refine awp_seq ?_)
          refine e_eval (by simp only [jA, jO, jN, seval, y27, y29, vint, TyS, TyF, BdS, g1, g2, Int.toNat_natCast] <;> with_reducible rfl) (by decide) ?_
          repeat (refine awp_seq ?_)
          refine awp_region ?_
          refine e_take 3 (by simp only [jA, jO, jN, seval, y29, vint, TyS, TyF, BdS, g1, g2, Int.toNat_natCast, happ] <;> with_reducible rfl) (by decide) ?_
          refine aops_pure (by simp only [jC, jN, seval, vint, TyS, TyF, BdS, g1, g2, Int.toNat_natCast, happ] <;> with_reducible rfl) (by simp only [jC, jN, seval, vint, TyS, TyF, BdS, g1, g2, Int.toNat_natCast, happ]) (by decide) Trygo41 (substV_k s hx hwb k t.args[i] (by omega) (hw.arg hmem) _) ?_
          refine e_end (by simp only [jA, jO, jN, seval, y27, y29, vint, TyS, TyF, BdS, g1, g2, Int.toNat_natCast, happ] <;> with_reducible rfl) (by decide) ?_
          exact ⟨⟨rfl, rfl, trivial⟩, r ++ [mapT (subG s) t.args[i]], _, ⟨rfl, rfl, rfl, rfl, rfl, trivial⟩, by simp only [jN, seval, vint, TyS, TyF, BdS, List.length_append, List.length_singleton] <;> rfl, by rw [hg, map_take_succ _ hi]⟩
        · intro r hg
          rw [List.take_length] at hg
          rw [hmiss, if_neg (by simp), ← hg] at heq
          repeat (refine awp_seq ?_)
          refine e_eval (by simp only [jA, jO, jN, seval, y27, y29, vint, TyS, TyF, BdS] <;> with_reducible rfl) (by decide) ?_
          repeat (refine awp_seq ?_)
          refine e_eval (by simp only [jA, jO, jN, seval, y29, vint, TyS, TyF, BdS] <;> with_reducible rfl) (by decide) ?_
          repeat (refine awp_seq ?_)
          refine awp_ret ⟨.inr rfl, _, (ares_cell 4 29 rfl Tryti29 (by decide) (by simp only [jL, jN, seval, vint, TyS, TyF, BdS] <;> with_reducible rfl)), ?_⟩
          rw [heq]
          try simp only [TyF, d1_agg, LS]
          first | done | exact Ty.enc_drop1 _ | rfl
    ·
      have hmiss := sub_miss (s := s) (u := t) (fun h => absurd h (of_decide_eq_false bt12))
      repeat (refine awp_seq ?_)
      refine awp_skip ?_
      repeat (refine awp_seq ?_)
      refine e_eval (by simp only [jA, jO, jN, seval, vint, TyS, TyF, BdS] <;> with_reducible rfl) (by decide) ?_
      repeat (refine awp_seq ?_)
      refine e_eval (by simp only [jA, jO, jN, seval, y27, y29, vint, TyS, TyF, BdS] <;> with_reducible rfl) (by decide) ?_
      repeat (refine awp_seq ?_)
      refine awp_retok 7 3 (es := []) (by simp only [jN, seval, vint, TyS, TyF, BdS] <;> with_reducible rfl) ?_
      refine awp_forS (σ := List Ty) (t.args.length) (fun (r : List Ty) => [(1, .slice (s.map Bd.enc) .none), (2, .optr 0 0), (4, .optr 1 0), (7, .slice (r.map Ty.enc) (.tok 2)), (28, .slice (t.args.map Ty.enc) .none)]) [1, 2, 4, 7, 28] ([]) (fun (r : List Ty) => [.row t.enc.cells, .row [.int .i64 0, .int .i64 0, .slice [] .full], .buf r.length 3]) (fun (i : Nat) (r : List Ty) => r = (t.args.take i).map (mapT (subG s))) ([]) ([]) rfl rfl rfl rfl rfl rfl rfl rfl rfl (by decide) (by decide) (by decide) (fun _ => rfl) (hw.lenMax) ⟨(by first | rfl | (simp only [jN, seval, vint, TyS, TyF, BdS] <;> first | done | with_reducible rfl)), (by first | rfl | (simp only [jN, seval, vint, TyS, TyF, BdS] <;> first | done | with_reducible rfl)), (by first | rfl | (simp only [jN, seval, vint, TyS, TyF, BdS] <;> first | done | with_reducible rfl)), (by first | rfl | (simp only [jN, seval, vint, TyS, TyF, BdS] <;> first | done | with_reducible rfl)), (by first | rfl | (simp only [jN, seval, vint, TyS, TyF, BdS] <;> first | done | with_reducible rfl)), (by first | rfl | (simp only [jN, seval, vint, TyS, TyF, BdS] <;> first | done | with_reducible rfl)), (by first | rfl | (simp only [jN, seval, vint, TyS, TyF, BdS] <;> first | done | with_reducible rfl)), trivial⟩ (by first | rfl | (simp only [jN, seval, vint, TyS, TyF, BdS] <;> first | done | with_reducible rfl)) (by simp) (fun _ _ _ => by first | exact Nat.zero_le _ | (simp only [List.length_append]; omega)) ?_ ?_ ?_
      · intro i r hg
        simp only [List.nil_append, TyS]
        refine ⟨?_, by repeat (first | exact BelL.nil | refine BelL.cons (by first | exact bel_Bd _ _ | exact Bd.bel _ _ | exact bel_int_tok _ (by simp) | exact bel_ints0 _ _ | exact bel_slice_ty _ _ | exact Ty.bel _ _ | exact bel_ty_tok _ (by simp) | exact Bel.int _ _ | exact Bel.bool _ | exact Bel.str _ | exact Bel.nilp | exact Bel.nilfn | exact Bel.optr _ _ (by simp) | exact bel_nil0 _ | exact bel_nil1 _ | exact bel_fn0 _ _ | assumption) ?_)⟩
        repeat (first | exact hbel_nil _ | exact trivial | exact obel_row_nil _ | (refine HBel.cons ?_ ?_) | (refine obel_row_cons (by first | exact bel_Bd _ _ | exact Bd.bel _ _ | exact bel_int_tok _ (by simp) | exact bel_ints0 _ _ | exact bel_slice_ty _ _ | exact Ty.bel _ _ | exact bel_ty_tok _ (by simp) | exact Bel.int _ _ | exact Bel.bool _ | exact Bel.str _ | exact Bel.nilp | exact Bel.nilfn | exact Bel.optr _ _ (by simp) | exact bel_nil0 _ | exact bel_nil1 _ | exact bel_fn0 _ _ | assumption) ?_))
      · intro i r hi hg
        have g1 := ix_nat hi
        have g2 := get_enc Ty.enc hi
        have hmem : t.args[i] ∈ t.args := List.getElem_mem hi
        have hsa := Ty.size_arg hmem
        have hlen := hw.len
        have hsl : r.length < t.args.length := by rw [hg, List.length_map, List.length_take]; omega
        have happ := app_ty (us := r) (u := mapT (subG s) t.args[i]) (id := 2) (tl := .full) (by omega)
        repeat (refine awp_seq ?_)
        refine e_eval (by simp only [jA, jO, jN, seval, y27, y29, vint, TyS, TyF, BdS, g1, g2, Int.toNat_natCast] <;> with_reducible rfl) (by decide) ?_
        repeat (refine awp_seq ?_)
        refine awp_region ?_
        refine e_take 3 (by simp only [jA, jO, jN, seval, y29, vint, TyS, TyF, BdS, g1, g2, Int.toNat_natCast, happ] <;> with_reducible rfl) (by decide) ?_
        refine aops_pure (by simp only [jC, jN, seval, vint, TyS, TyF, BdS, g1, g2, Int.toNat_natCast, happ] <;> with_reducible rfl) (by simp only [jC, jN, seval, vint, TyS, TyF, BdS, g1, g2, Int.toNat_natCast, happ]) (by decide) Trygo41 (substV_k s hx hwb k t.args[i] (by omega) (hw.arg hmem) _) ?_
        refine e_end (by simp only [jA, jO, jN, seval, y27, y29, vint, TyS, TyF, BdS, g1, g2, Int.toNat_natCast, happ] <;> with_reducible rfl) (by decide) ?_
        exact ⟨⟨rfl, rfl, trivial⟩, r ++ [mapT (subG s) t.args[i]], _, ⟨rfl, rfl, rfl, rfl, rfl, trivial⟩, by simp only [jN, seval, vint, TyS, TyF, BdS, List.length_append, List.length_singleton] <;> rfl, by rw [hg, map_take_succ _ hi]⟩
      · intro r hg
        rw [List.take_length] at hg
        rw [hmiss, if_neg (by simp), ← hg] at heq
        repeat (refine awp_seq ?_)
        refine e_eval (by simp only [jA, jO, jN, seval, y27, y29, vint, TyS, TyF, BdS] <;> with_reducible rfl) (by decide) ?_
        repeat (refine awp_seq ?_)
        refine e_eval (by simp only [jA, jO, jN, seval, y29, vint, TyS, TyF, BdS] <;> with_reducible rfl) (by decide) ?_
        repeat (refine awp_seq ?_)
        refine awp_ret ⟨.inr rfl, _, (ares_cell 4 29 rfl Tryti29 (by decide) (by simp only [jL, jN, seval, vint, TyS, TyF, BdS] <;> with_reducible rfl)), ?_⟩
        rw [heq]
        try simp only [TyF, d1_agg, LS]
        first | done | exact Ty.enc_drop1 _ | rfl

end Go.Abs
namespace Go.Abs
open Go.Proofs
def ti : Ty := .mk 3 0 []
def eqW1 : List Eq2 := [⟨.mk 9 0 [vr 1, vr 2], .mk 9 0 [ti, vr 1]⟩]
def eqW2 : List Eq2 := [⟨vr 0, .mk 8 0 [vr 0]⟩]
def bW : Bs := [(1, ti), (2, ti)]
theorem solveW1 : solveF 12 eqW1 [] = some (true, bW) := by
  kernel_rfl
theorem solveW2 : solveF 12 eqW2 [] = some (false, []) := by
  kernel_rfl
theorem withinW : withinF 12 bW ti = some true := by
  simp [withinF, extF, extL, ti, Ty.kind, Ty.args, IntKind.wrap, IntKind.bits, IntKind.signed]
theorem okW : okR 12 bW ti := .mk (fun h => by cases h) nofun
theorem goodW : UGood 12 bW := by
  refine ⟨by simp [bW], by simp [bW], fun n t h => ?_, fun e he => ?_⟩
  · simp only [bW, lk] at h
    split at h
    · cases h; exact .mk (by simp) nofun
    · split at h
      · cases h; exact .mk (by simp) nofun
      · cases h
  · simp only [bW, List.mem_cons, List.not_mem_nil, or_false] at he
    rcases he with rfl | rfl <;> exact ⟨true, withinW, fun _ => okW⟩
theorem rsvW : rsvF 12 bW ti = ti := by
  show mapT _ ti = ti
  rw [mapT_eq]; simp [resG, ti, Ty.kind, Ty.id, Ty.args]
def ansW : List Bd := [⟨1, ti⟩, ⟨2, ti⟩]
theorem sortW : sortB ansW = ansW := (eq_sortB (.refl _) (by simp [ansW]) (by simp [ansW])).symm
theorem goodW1 : eqW1.any bad = false := by
  have h1 : valT (.mk 9 0 [vr 1, vr 2]) = 0 := by
    simp [valT, measT, measL, wfT, nwf, vr, Ty.kind, Ty.id, Ty.args] <;> omega
  have h2 : valT (.mk 9 0 [ti, vr 1]) = 0 := by
    simp [valT, measT, measL, wfT, nwf, vr, ti, Ty.kind, Ty.id, Ty.args] <;> omega
  simp [eqW1, bad, h1, h2]
theorem goodW2 : eqW2.any bad = false := by
  have h1 : valT (vr 0) = 0 := by
    simp [valT, measT, measL, wfT, nwf, vr, Ty.kind, Ty.id, Ty.args] <;> omega
  have h2 : valT (.mk 8 0 [vr 0]) = 0 := by
    simp [valT, measT, measL, wfT, nwf, vr, Ty.kind, Ty.id, Ty.args] <;> omega
  simp [eqW2, bad, h1, h2]
theorem uniW1 : uniR 12 eqW1 = (ansW, true) := by
  unfold uniR
  rw [if_neg (by rw [goodW1]; simp [eqW1]), solveW1]
  have e1 : bW.all (inB 12 bW) = true := by
    simp only [bW, List.all_cons, List.all_nil, Bool.and_true, Bool.and_eq_true]
    constructor <;> (show (withinF 12 bW ti).getD false = true; rw [withinW]; rfl)
  have e2 : bW.map (resB 12 bW) = ansW := by
    show [resB 12 bW (1, ti), resB 12 bW (2, ti)] = ansW
    simp only [resB, rsvW]; rfl
  simp only [e1, e2, if_true, sortW]
theorem uniW2 : uniR 12 eqW2 = ([], false) := by
  unfold uniR
  rw [if_neg (by rw [goodW2]; simp [eqW2]), solveW2]
theorem WvrW (x : Int) : (vr x).W := .mk (by simp) nofun
theorem W2W {k i : Int} {a b : Ty} (ha : a.W) (hb : b.W) : (Ty.mk k i [a, b]).W := .mk (by simp) (by simp [ha, hb])
theorem unifyW1 : PC Try.prog 9 [.slice (eqW1.map Eq2.enc) .none] (.tup [.slice (ansW.map Bd.enc) .none, .bool true]) := by
  have := unify_k (n := 12) (eqs := eqW1) sortsX sortsNil (fun e he => by
    simp only [eqW1, List.mem_singleton] at he; subst he
    exact ⟨W2W (WvrW 1) (WvrW 2), W2W (.mk (by simp) nofun) (WvrW 1)⟩) (by simp [eqW1, maxLen]) (fun _ => ⟨true, bW, solveW1, fun _ => goodW⟩)
  rw [uniW1] at this
  exact this
theorem unifyW2 : PC Try.prog 9 [.slice (eqW2.map Eq2.enc) .none] (.tup [.slice [] .none, .bool false]) := by
  have := unify_k (n := 12) (eqs := eqW2) sortsX sortsNil (fun e he => by
    simp only [eqW2, List.mem_singleton] at he; subst he
    exact ⟨WvrW 0, .mk (by simp) (by simp [WvrW])⟩) (by simp [eqW2, maxLen]) (fun _ => ⟨false, [], solveW2, nofun⟩)
  rw [uniW2] at this
  exact this
end Go.Abs
set_option maxRecDepth 4000
namespace Go.Abs
open Go.Proofs
def eqBd (a b : Bd) : Bool := decide (a.v = b.v) && a.t.eqb b.t
def eqBs (xs ys : List Bd) : Bool := xs.length == ys.length && (xs.zip ys).all fun p => eqBd p.1 p.2
theorem eqBd_iff (a b : Bd) : eqBd a b = true ↔ a = b := by
  unfold eqBd
  rw [Bool.and_eq_true, decide_eq_true_eq, Ty.eqb_iff]
  constructor
  · rintro ⟨h1, h2⟩; cases a; cases b; simp only at h1 h2; rw [h1, h2]
  · rintro rfl; exact ⟨rfl, rfl⟩
theorem eqBs_iff : ∀ (xs ys : List Bd), eqBs xs ys = true ↔ xs = ys
  | [], [] => by simp [eqBs]
  | [], y :: ys => by simp [eqBs]
  | x :: xs, [] => by simp [eqBs]
  | x :: xs, y :: ys => by
    have ih := eqBs_iff xs ys
    have hx := eqBd_iff x y
    unfold eqBs at ih ⊢
    simp only [List.length_cons, List.zip_cons_cons, List.all_cons, Bool.and_eq_true, beq_iff_eq, List.cons.injEq, Nat.add_right_cancel_iff] at ih ⊢
    rw [hx, ← ih]
    constructor
    · rintro ⟨h1, h2, h3⟩; exact ⟨h2, h1, h3⟩
    · rintro ⟨h2, h1, h3⟩; exact ⟨h1, h2, h3⟩

theorem bindingsEqual (us vs : List Bd) (hx : us.length ≤ maxLen) (hw : ∀ b ∈ us, b.t.W) : PC Try.prog 12 [.slice (us.map Bd.enc) .none, .slice (vs.map Bd.enc) .none] (.bool (eqBs us vs)) := by
  refine pc_of (N := 42) Try.func12 rfl rfl (by simp) (by simp [bel_Bd]) (.bool _) ?_
  repeat (refine awp_seq ?_)
  refine e_eval (by simp only [jA, jO, jN, seval, vint, TyS, TyF, MapS, EqS, BdS] <;> with_reducible rfl) (by decide) ?_
  repeat (refine awp_seq ?_)
  refine e_eval (by simp only [jA, jO, jN, seval, y3, y24, y42, vint, TyS, TyF, MapS, EqS, BdS] <;> with_reducible rfl) (by decide) ?_
  repeat (refine awp_seq ?_)
  refine awp_cond rfl (by simp only [jN, seval, vint, TyS, TyF, MapS, EqS, BdS] <;> with_reducible rfl) (fun bt10 => ?_) (fun bt10 => ?_)
  ·
    skip
    repeat (refine awp_seq ?_)
    refine e_eval (by simp only [jA, jO, jN, seval, vint, TyS, TyF, MapS, EqS, BdS] <;> with_reducible rfl) (by decide) ?_
    repeat (refine awp_seq ?_)
    refine awp_ret ⟨.inr rfl, _, rfl, ?_⟩
    simp only [jN, seval, vint, TyS, TyF, MapS, EqS, BdS]
    have : us.length ≠ vs.length := by simp at bt10; omega
    simp [eqBs, this]
  ·
    have hlen : us.length = vs.length := by simp at bt10; omega
    repeat (refine awp_seq ?_)
    refine awp_skip ?_
    repeat (refine awp_seq ?_)
    refine e_eval (by simp only [jA, jO, jN, seval, y24, y42, vint, TyS, TyF, MapS, EqS, BdS] <;> with_reducible rfl) (by decide) ?_
    repeat (refine awp_seq ?_)
    refine awp_forS (σ := Unit) (us.length) (fun (s : Unit) => [(0, .slice (us.map Bd.enc) .none), (1, .slice (vs.map Bd.enc) .none)]) [0, 1] ([]) (fun (s : Unit) => []) (fun (i : Nat) (s : Unit) => ((us.zip vs).take i).all (fun p => eqBd p.1 p.2) = true) (()) ([]) rfl rfl rfl rfl rfl rfl rfl rfl rfl (by decide) (by decide) (by decide) (fun _ => rfl) (hx) ⟨(by first | rfl | (simp only [jN, seval, vint, TyS, TyF, MapS, EqS, BdS] <;> first | done | with_reducible rfl)), (by first | rfl | (simp only [jN, seval, vint, TyS, TyF, MapS, EqS, BdS] <;> first | done | with_reducible rfl)), (by first | rfl | (simp only [jN, seval, vint, TyS, TyF, MapS, EqS, BdS] <;> first | done | with_reducible rfl)), (by first | rfl | (simp only [jN, seval, vint, TyS, TyF, MapS, EqS, BdS] <;> first | done | with_reducible rfl)), trivial⟩ (by first | rfl | (simp only [jN, seval, vint, TyS, TyF, MapS, EqS, BdS] <;> first | done | with_reducible rfl)) (by simp) (fun _ _ _ => by first | exact Nat.zero_le _ | (simp only [List.length_append]; omega)) ?_ ?_ ?_
    · exact fun i s hg => ⟨by first | exact hbel_nil _ | (simp only [List.append_nil]; assumption) | (refine hbel_app' hb' (by simp) ?_; repeat (first | exact hbel_nil _ | exact trivial | exact obel_row_nil _ | (refine HBel.cons ?_ ?_) | (refine obel_row_cons (by first | exact bel_Bd _ _ | exact bel_Eq2 _ _ | exact bel_ints0 _ _ | exact bel_slice_ty _ _ | exact Ty.bel _ _ | exact bel_ty_tok _ (by simp) | exact Bel.int _ _ | exact Bel.bool _ | exact Bel.str _ | exact Bel.nilp | exact Bel.nilfn | exact Bel.optr _ _ (by simp) | exact bel_nil0 _ | exact bel_nil1 _ | exact bel_fn0 _ _ | assumption) ?_))), by repeat (first | exact BelL.nil | refine BelL.cons (by first | exact bel_Bd _ _ | exact bel_Eq2 _ _ | exact bel_ints0 _ _ | exact bel_slice_ty _ _ | exact Ty.bel _ _ | exact bel_ty_tok _ (by simp) | exact Bel.int _ _ | exact Bel.bool _ | exact Bel.str _ | exact Bel.nilp | exact Bel.nilfn | exact Bel.optr _ _ (by simp) | exact bel_nil0 _ | exact bel_nil1 _ | exact bel_fn0 _ _ | assumption) ?_)⟩
    · intro i s hi hg
      have g1 := ix_nat hi
      have hi2 : i < vs.length := by omega
      have g3 := ix_nat hi2
      have g2 := get_enc Bd.enc hi
      have g4 := get_enc Bd.enc hi2
      have hwi := hw _ (List.getElem_mem hi)
      repeat (refine awp_seq ?_)
      refine e_eval (by simp only [jA, jO, jN, seval, vint, TyS, TyF, MapS, EqS, BdS, g1, Int.toNat_natCast, g2, g3, g4] <;> with_reducible rfl) (by decide) ?_
      repeat (refine awp_seq ?_)
      refine dp_draw (by kernel_rfl) ?_
      refine dp_take 22 (by simp only [jP, jO, jN, seval, y3, y24, y29, y42, vint, TyS, TyF, MapS, EqS, BdS, g1, Int.toNat_natCast, g2, g3, g4] <;> with_reducible rfl) (by decide) ?_
      refine dp_keep (by simp only [jE, jN, seval, vint, TyS, TyF, MapS, EqS, BdS, g1, Int.toNat_natCast, g2, g3, g4] <;> with_reducible rfl) (by simp only [jE, jN, seval, vint, TyS, TyF, MapS, EqS, BdS, g1, Int.toNat_natCast, g2, g3, g4] <;> with_reducible rfl) (by simp only [jE, jN, seval, vint, TyS, TyF, MapS, EqS, BdS, g1, Int.toNat_natCast, g2, g3, g4]) (by decide) Trygo45 (fun hc => typesEqual_k _ us[i].t vs[i].t (Nat.le_refl _) hwi _) ?_
      refine dp_end (by simp only [jP, jO, jN, seval, vint, TyS, TyF, MapS, EqS, BdS, g1, Int.toNat_natCast, g2, g3, g4] <;> with_reducible rfl) (by decide) (by repeat (first | exact Fin.base _ | with_reducible apply Fin.keep | apply Fin.drop)) ?_
      repeat (refine awp_seq ?_)
      refine awp_cond rfl (by simp only [jN, seval, vint, TyS, TyF, MapS, EqS, BdS, g1, Int.toNat_natCast, g2, g3, g4] <;> with_reducible rfl) (fun bt40 => ?_) (fun bt40 => ?_)
      ·
        skip
        refine awp_sel [0, 1, 12, 13] (by simp only [jN, seval, vint, TyS, TyF, MapS, EqS, BdS, g1, Int.toNat_natCast, g2, g3, g4] <;> with_reducible rfl) ?_
        repeat (refine awp_seq ?_)
        refine e_eval (by simp only [jA, jO, jN, seval, vint, TyS, TyF, MapS, EqS, BdS, g1, Int.toNat_natCast, g2, g3, g4] <;> with_reducible rfl) (by decide) ?_
        repeat (refine awp_seq ?_)
        refine awp_ret ⟨.inr rfl, _, rfl, ?_⟩
        simp only [jN, seval, vint, TyS, TyF, MapS, EqS, BdS]
        have hgf : eqBd us[i] vs[i] = false := by unfold eqBd; revert bt40; cases decide (us[i].v = vs[i].v) <;> cases us[i].t.eqb vs[i].t <;> simp
        have hmem : (us[i], vs[i]) ∈ us.zip vs := by
          rw [List.mem_iff_getElem]; exact ⟨i, by simp; omega, by simp⟩
        have : ((us.zip vs).all fun p => eqBd p.1 p.2) = false := by
          rw [List.all_eq_false]; exact ⟨_, hmem, by simp [hgf]⟩
        simp [eqBs, this]
      ·
        repeat (refine awp_seq ?_)
        refine awp_skip ?_
        have hgt : eqBd us[i] vs[i] = true := by unfold eqBd; revert bt40; cases decide (us[i].v = vs[i].v) <;> cases us[i].t.eqb vs[i].t <;> simp
        exact ⟨⟨rfl, rfl, trivial⟩, (), _, ⟨rfl, rfl, trivial⟩, rfl, all_take_succ (by simp; omega) hg (by simpa using hgt)⟩
    · intro s hg
      repeat (refine awp_seq ?_)
      refine e_eval (by simp only [jA, jO, jN, seval, vint, TyS, TyF, MapS, EqS, BdS] <;> with_reducible rfl) (by decide) ?_
      repeat (refine awp_seq ?_)
      refine awp_ret ⟨.inr rfl, _, rfl, ?_⟩
      simp only [jN, seval, vint, TyS, TyF, MapS, EqS, BdS]
      rw [List.take_of_length_le (by simp; omega)] at hg
      simp [eqBs, hlen, hg]

end Go.Abs
set_option maxRecDepth 4000
namespace Go.Abs
open Go.Proofs
theorem unifyW1' : PC Try.prog 9 [.slice [.agg [.int .i64 9, .int .i64 0, .slice [(Ty.mk 1 1 []).enc, (Ty.mk 1 2 []).enc] .none, .int .i64 9, .int .i64 0, .slice [(Ty.mk 3 0 []).enc, (Ty.mk 1 1 []).enc] .none]] .none] (.tup [.slice [(Bd.mk 1 (Ty.mk 3 0 [])).enc, (Bd.mk 2 (Ty.mk 3 0 [])).enc] .none, .bool true]) := unifyW1
theorem unifyW2' : PC Try.prog 9 [.slice [.agg [.int .i64 1, .int .i64 0, .slice [] .none, .int .i64 8, .int .i64 0, .slice [(Ty.mk 1 0 []).enc] .none]] .none] (.tup [.slice [] .none, .bool false]) := unifyW2
theorem bindW' : PC Try.prog 12 [.slice [(Bd.mk 1 (Ty.mk 3 0 [])).enc, (Bd.mk 2 (Ty.mk 3 0 [])).enc] .none, .slice [(Bd.mk 1 (Ty.mk 3 0 [])).enc, (Bd.mk 2 (Ty.mk 3 0 [])).enc] .none] (.bool true) := by
  have := bindingsEqual ansW ansW (by simp [ansW, maxLen]) (by simp [ansW, ti, Ty.W_iff])
  rw [(eqBs_iff _ _).2 rfl] at this
  exact this
theorem worksL : PC Try.prog 8 [] (.bool true) := by
  refine pc_of (N := 43) Try.func8 rfl rfl (by simp) (by simp) (.bool _) ?_
  repeat (refine awp_seq ?_)
  refine e_eval (by simp only [jA, jO, jN, seval, vint, TyS, TyF, MapS, EqS, BdS] <;> with_reducible rfl) (by decide) ?_
  repeat (refine awp_seq ?_)
  refine awp_region ?_
  refine aops_pure (by simp only [jC, jN, seval, vint, TyS, TyF, MapS, EqS, BdS] <;> with_reducible rfl) (by simp only [jC, jN, seval, vint, TyS, TyF, MapS, EqS, BdS]) (by decide) Trygo28 (typeVarL 1 _) ?_
  refine aops_pure (by simp only [jC, jN, seval, vint, TyS, TyF, MapS, EqS, BdS] <;> with_reducible rfl) (by simp only [jC, jN, seval, vint, TyS, TyF, MapS, EqS, BdS]) (by decide) Trygo28 (typeVarL 2 _) ?_
  refine e_take 1 (by simp only [jA, jO, jN, seval, y27, y29, vint, TyS, TyF, MapS, EqS, BdS] <;> with_reducible rfl) (by decide) ?_
  refine aops_pure (by simp only [jC, jN, seval, vint, TyS, TyF, MapS, EqS, BdS] <;> with_reducible rfl) (by simp only [jC, jN, seval, vint, TyS, TyF, MapS, EqS, BdS]) (by decide) Trygo27 (typL 9 0 [.mk 1 1 [], .mk 1 2 []] _) ?_
  refine aops_pure (by simp only [jC, jN, seval, vint, TyS, TyF, MapS, EqS, BdS] <;> with_reducible rfl) (by simp only [jC, jN, seval, vint, TyS, TyF, MapS, EqS, BdS]) (by decide) Trygo29 (intTypeL _) ?_
  refine aops_pure (by simp only [jC, jN, seval, vint, TyS, TyF, MapS, EqS, BdS] <;> with_reducible rfl) (by simp only [jC, jN, seval, vint, TyS, TyF, MapS, EqS, BdS]) (by decide) Trygo28 (typeVarL 1 _) ?_
  refine e_take 1 (by simp only [jA, jO, jN, seval, y27, y29, vint, TyS, TyF, MapS, EqS, BdS] <;> with_reducible rfl) (by decide) ?_
  refine aops_pure (by simp only [jC, jN, seval, vint, TyS, TyF, MapS, EqS, BdS] <;> with_reducible rfl) (by simp only [jC, jN, seval, vint, TyS, TyF, MapS, EqS, BdS]) (by decide) Trygo27 (typL 9 0 [.mk 3 0 [], .mk 1 1 []] _) ?_
  refine e_take 2 (by simp only [jA, jO, jN, seval, y22, y31, vint, TyS, TyF, MapS, EqS, BdS] <;> with_reducible rfl) (by decide) ?_
  refine aops_pure (by simp only [jC, jN, seval, vint, TyS, TyF, MapS, EqS, BdS] <;> with_reducible rfl) (by simp only [jC, jN, seval, vint, TyS, TyF, MapS, EqS, BdS]) (by decide) Trygo9 (unifyW1' _) ?_
  refine e_end (by simp only [jA, jO, jN, seval, vint, TyS, TyF, MapS, EqS, BdS] <;> with_reducible rfl) (by decide) ?_
  refine awp_sel [1, 2] (by simp only [jN, seval, vint, TyS, TyF, MapS, EqS, BdS] <;> with_reducible rfl) ?_
  repeat (refine awp_seq ?_)
  refine awp_region ?_
  refine aops_pure (by simp only [jC, jN, seval, vint, TyS, TyF, MapS, EqS, BdS] <;> with_reducible rfl) (by simp only [jC, jN, seval, vint, TyS, TyF, MapS, EqS, BdS]) (by decide) Trygo28 (typeVarL 0 _) ?_
  refine aops_pure (by simp only [jC, jN, seval, vint, TyS, TyF, MapS, EqS, BdS] <;> with_reducible rfl) (by simp only [jC, jN, seval, vint, TyS, TyF, MapS, EqS, BdS]) (by decide) Trygo28 (typeVarL 0 _) ?_
  refine e_take 1 (by simp only [jA, jO, jN, seval, y27, y29, vint, TyS, TyF, MapS, EqS, BdS] <;> with_reducible rfl) (by decide) ?_
  refine aops_pure (by simp only [jC, jN, seval, vint, TyS, TyF, MapS, EqS, BdS] <;> with_reducible rfl) (by simp only [jC, jN, seval, vint, TyS, TyF, MapS, EqS, BdS]) (by decide) Trygo27 (typL 8 0 [.mk 1 0 []] _) ?_
  refine e_take 2 (by simp only [jA, jO, jN, seval, y22, y31, vint, TyS, TyF, MapS, EqS, BdS] <;> with_reducible rfl) (by decide) ?_
  refine aops_pure (by simp only [jC, jN, seval, vint, TyS, TyF, MapS, EqS, BdS] <;> with_reducible rfl) (by simp only [jC, jN, seval, vint, TyS, TyF, MapS, EqS, BdS]) (by decide) Trygo9 (unifyW2' _) ?_
  refine e_end (by simp only [jA, jO, jN, seval, vint, TyS, TyF, MapS, EqS, BdS] <;> with_reducible rfl) (by decide) ?_
  repeat (refine awp_seq ?_)
  refine awp_region ?_
  refine aops_gstart ?_
  refine g_take 7 (by simp only [jG, jO, jN, seval, vint, TyS, TyF, MapS, EqS, BdS] <;> with_reducible rfl) (by decide) ?_
  refine aops_gpure (by simp only [jE, jN, seval, vint, TyS, TyF, MapS, EqS, BdS] <;> with_reducible rfl) (by simp only [jE, jN, seval, vint, TyS, TyF, MapS, EqS, BdS] <;> with_reducible rfl) (by simp only [jE, jN, seval, vint, TyS, TyF, MapS, EqS, BdS]) (by decide) Trygo29 (fun hc => intTypeL _) ?_
  refine g_take 1 (by simp only [jG, jO, jN, seval, y42, vint, TyS, TyF, MapS, EqS, BdS] <;> with_reducible rfl) (by decide) ?_
  refine aops_gpure (by simp only [jE, jN, seval, vint, TyS, TyF, MapS, EqS, BdS] <;> with_reducible rfl) (by simp only [jE, jN, seval, vint, TyS, TyF, MapS, EqS, BdS] <;> with_reducible rfl) (by simp only [jE, jN, seval, vint, TyS, TyF, MapS, EqS, BdS]) (by decide) Trygo29 (fun hc => intTypeL _) ?_
  refine g_take 2 (by simp only [jG, jO, jN, seval, y24, y42, vint, TyS, TyF, MapS, EqS, BdS] <;> with_reducible rfl) (by decide) ?_
  refine aops_gpure (by simp only [jE, jN, seval, vint, TyS, TyF, MapS, EqS, BdS] <;> with_reducible rfl) (by simp only [jE, jN, seval, vint, TyS, TyF, MapS, EqS, BdS] <;> with_reducible rfl) (by simp only [jE, jN, seval, vint, TyS, TyF, MapS, EqS, BdS]) (by decide) Trygo12 (fun hc => bindW' _) ?_
  refine g_end (by simp only [jG, jO, jN, seval, vint, TyS, TyF, MapS, EqS, BdS] <;> with_reducible rfl) (by decide) (by repeat (first | exact Fin.base _ | with_reducible apply Fin.keep | apply Fin.drop)) ?_
  repeat (refine awp_seq ?_)
  refine awp_ret ⟨.inr rfl, _, rfl, ?_⟩
  simp only [jN, seval, vint, TyS, TyF, MapS, EqS, BdS]

end Go.Abs
set_option maxRecDepth 4000
namespace Go.Abs
open Go.Proofs

end Go.Abs
