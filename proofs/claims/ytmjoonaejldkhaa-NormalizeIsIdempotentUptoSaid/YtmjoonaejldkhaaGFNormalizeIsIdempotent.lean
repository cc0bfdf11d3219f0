/- Part 6 of a proof of the law NormalizeIsIdempotent: Go data as trees, the walks of the functions that the law reaches, the plain laws. -/
import Derived.Test.YtmjoonaejldkhaaGENormalizeIsIdempotent
set_option linter.unusedVariables false
set_option linter.unusedSimpArgs false
set_option maxRecDepth 4000
namespace Go.Abs
open Go.Proofs

theorem containsInt (xs : List Int) (n : Int) (hx : xs.length ≤ maxLen) : PC Try.prog 33 [.slice (xs.map vint) .none, vint n] (.bool (xs.any fun x => decide (n = x))) := by
  refine pc_of (N := 9) Try.func33 rfl rfl (by simp) (by simp [bel_ints0, Bel.int]) (.bool _) ?_
  -- region 0
  repeat (refine awp_seq ?_)
  refine e_eval (by simp only [asq, as0, as1, as2, awanted, aop, LS, SS, SX, HS, mkS_cons, mkS_nil, ↓reduceIte, eq_self', List.map_nil, beq_self_eq_true, Nat.reduceEqDiff, Nat.reduceAdd, Nat.reduceMul, Nat.reduceLT, Nat.reduceLeDiff, Nat.reducePow, Nat.reduceDiv, Nat.reduceMod, Nat.succ_ne_self, Nat.reduceBEq, Nat.reduceBNe, vint, TyS, TyF, BdS] <;> with_reducible rfl) (by decide) ?_
  -- region 1
  repeat (refine awp_seq ?_)
  refine awp_region ?_
  refine e_take 2 (by simp only [asq, as0, as1, as2, awanted, aop, LS, SS, SX, HS, mkS_cons, mkS_nil, ↓reduceIte, eq_self', List.map_nil, beq_self_eq_true, Nat.reduceEqDiff, Nat.reduceAdd, Nat.reduceMul, Nat.reduceLT, Nat.reduceLeDiff, Nat.reducePow, Nat.reduceDiv, Nat.reduceMod, Nat.succ_ne_self, Nat.reduceBEq, Nat.reduceBNe, vint, TyS, TyF, BdS] <;> with_reducible rfl) (by decide) ?_
  refine aops_pure (by simp only [acall, awanted, LS, SS, SX, HS, mkS_cons, mkS_nil, ↓reduceIte, eq_self', List.map_nil, beq_self_eq_true, Nat.reduceEqDiff, Nat.reduceAdd, Nat.reduceMul, Nat.reduceLT, Nat.reduceLeDiff, Nat.reducePow, Nat.reduceDiv, Nat.reduceMod, Nat.succ_ne_self, Nat.reduceBEq, Nat.reduceBNe, vint, TyS, TyF, BdS] <;> with_reducible rfl) (by simp only [acall, awanted, LS, SS, SX, HS, mkS_cons, mkS_nil, ↓reduceIte, eq_self', List.map_nil, beq_self_eq_true, Nat.reduceEqDiff, Nat.reduceAdd, Nat.reduceMul, Nat.reduceLT, Nat.reduceLeDiff, Nat.reducePow, Nat.reduceDiv, Nat.reduceMod, Nat.succ_ne_self, Nat.reduceBEq, Nat.reduceBNe, vint, TyS, TyF, BdS]) (by decide) Trygo78 (index xs n hx _) ?_
  refine e_end (by simp only [asq, as0, as1, as2, awanted, aop, abin, ajust, LS, SS, SX, HS, mkS_cons, mkS_nil, ↓reduceIte, eq_self', List.map_nil, beq_self_eq_true, Nat.reduceEqDiff, Nat.reduceAdd, Nat.reduceMul, Nat.reduceLT, Nat.reduceLeDiff, Nat.reducePow, Nat.reduceDiv, Nat.reduceMod, Nat.succ_ne_self, Nat.reduceBEq, Nat.reduceBNe, Tryti3, Trytz3, Trytp3, Trytk3, vint, TyS, TyF, BdS] <;> with_reducible rfl) (by decide) ?_
  repeat (refine awp_seq ?_)
  -- leaf 0 ret
  refine awp_ret ⟨.inr rfl, _, rfl, ?_⟩
  rw [← idxI_nonneg]; rfl

theorem equalInts (us vs : List Int) (ha : us.length ≤ maxLen) : PC Try.prog 39 [.slice (us.map vint) .none, .slice (vs.map vint) .none] (.bool (decide (us = vs))) := by
  refine pc_of (N := 26) Try.func39 rfl rfl (by simp) (by simp [bel_ints0]) (.bool _) ?_
  -- region 0
  repeat (refine awp_seq ?_)
  refine e_eval (by simp only [asq, as0, as1, as2, awanted, aop, LS, SS, SX, HS, mkS_cons, mkS_nil, ↓reduceIte, eq_self', List.map_nil, beq_self_eq_true, Nat.reduceEqDiff, Nat.reduceAdd, Nat.reduceMul, Nat.reduceLT, Nat.reduceLeDiff, Nat.reducePow, Nat.reduceDiv, Nat.reduceMod, Nat.succ_ne_self, Nat.reduceBEq, Nat.reduceBNe, vint, TyS, TyF, BdS] <;> with_reducible rfl) (by decide) ?_
  -- region 1
  repeat (refine awp_seq ?_)
  refine e_eval (by simp only [asq, as0, as1, as2, awanted, aop, abuiltin, abin, ajust, LS, SS, SX, HS, mkS_cons, mkS_nil, ↓reduceIte, eq_self', List.map_nil, beq_self_eq_true, Nat.reduceEqDiff, Nat.reduceAdd, Nat.reduceMul, Nat.reduceLT, Nat.reduceLeDiff, Nat.reducePow, Nat.reduceDiv, Nat.reduceMod, Nat.succ_ne_self, Nat.reduceBEq, Nat.reduceBNe, Tryti3, Trytz3, Trytp3, Trytk3, Tryti25, Tryte25, Trytz25, Trytp25, vint, TyS, TyF, BdS] <;> with_reducible rfl) (by decide) ?_
  repeat (refine awp_seq ?_)
  refine awp_cond rfl (by simp only [LS, SS, SX, HS, mkS_cons, mkS_nil, ↓reduceIte, eq_self', List.map_nil, beq_self_eq_true, Nat.reduceEqDiff, Nat.reduceAdd, Nat.succ_ne_self, vint, TyS, TyF, BdS] <;> with_reducible rfl) (fun b0 => ?_) (fun b0 => ?_)
  · -- if t10
    -- region 2
    repeat (refine awp_seq ?_)
    refine e_eval (by simp only [asq, as0, as1, as2, awanted, aop, LS, SS, SX, HS, mkS_cons, mkS_nil, ↓reduceIte, eq_self', List.map_nil, beq_self_eq_true, Nat.reduceEqDiff, Nat.reduceAdd, Nat.reduceMul, Nat.reduceLT, Nat.reduceLeDiff, Nat.reducePow, Nat.reduceDiv, Nat.reduceMod, Nat.succ_ne_self, Nat.reduceBEq, Nat.reduceBNe, vint, TyS, TyF, BdS] <;> with_reducible rfl) (by decide) ?_
    repeat (refine awp_seq ?_)
    -- leaf 0 ret
    refine awp_ret ⟨.inr rfl, _, rfl, ?_⟩
    have : us ≠ vs := by rintro rfl; simp at b0
    simp [this, upd_apply, PV.drop1]
  · -- else t10
    have hlen : us.length = vs.length := by simp at b0; omega
    repeat (refine awp_seq ?_)
    refine awp_skip ?_
    -- region 3
    repeat (refine awp_seq ?_)
    refine e_eval (by simp only [asq, as0, as1, as2, awanted, aop, abuiltin, LS, SS, SX, HS, mkS_cons, mkS_nil, ↓reduceIte, eq_self', List.map_nil, beq_self_eq_true, Nat.reduceEqDiff, Nat.reduceAdd, Nat.reduceMul, Nat.reduceLT, Nat.reduceLeDiff, Nat.reducePow, Nat.reduceDiv, Nat.reduceMod, Nat.succ_ne_self, Nat.reduceBEq, Nat.reduceBNe, Tryti3, Trytz3, Trytp3, Trytk3, Tryti25, Tryte25, Trytz25, Trytp25, vint, TyS, TyF, BdS] <;> with_reducible rfl) (by decide) ?_
    repeat (refine awp_seq ?_)
    refine awp_forS (σ := Unit) (us.length) (fun (s : Unit) => [(0, .slice (us.map vint) .none), (1, .slice (vs.map vint) .none)]) [0, 1] ([]) (fun (s : Unit) => []) (fun (i : Nat) (s : Unit) => us.take i = vs.take i) (()) ([]) rfl rfl rfl rfl rfl rfl rfl rfl rfl (by decide) (by decide) (by decide) (fun _ => rfl) (ha) ⟨(by first | rfl | (simp only [LS, SS, SX, HS, mkS_cons, mkS_nil, ↓reduceIte, eq_self', List.map_nil, beq_self_eq_true, Nat.reduceEqDiff, Nat.reduceAdd, Nat.succ_ne_self, vint, TyS, TyF, BdS] <;> first | done | with_reducible rfl)), (by first | rfl | (simp only [LS, SS, SX, HS, mkS_cons, mkS_nil, ↓reduceIte, eq_self', List.map_nil, beq_self_eq_true, Nat.reduceEqDiff, Nat.reduceAdd, Nat.succ_ne_self, vint, TyS, TyF, BdS] <;> first | done | with_reducible rfl)), (by first | rfl | (simp only [LS, SS, SX, HS, mkS_cons, mkS_nil, ↓reduceIte, eq_self', List.map_nil, beq_self_eq_true, Nat.reduceEqDiff, Nat.reduceAdd, Nat.succ_ne_self, vint, TyS, TyF, BdS] <;> first | done | with_reducible rfl)), (by first | rfl | (simp only [LS, SS, SX, HS, mkS_cons, mkS_nil, ↓reduceIte, eq_self', List.map_nil, beq_self_eq_true, Nat.reduceEqDiff, Nat.reduceAdd, Nat.succ_ne_self, vint, TyS, TyF, BdS] <;> first | done | with_reducible rfl)), trivial⟩ (by first | rfl | (simp only [LS, SS, SX, HS, mkS_cons, mkS_nil, ↓reduceIte, eq_self', List.map_nil, beq_self_eq_true, Nat.reduceEqDiff, Nat.reduceAdd, Nat.succ_ne_self, vint, TyS, TyF, BdS] <;> first | done | with_reducible rfl)) (by simp) (fun _ _ _ => by first | exact Nat.zero_le _ | (simp only [List.length_append]; omega)) ?_ ?_ ?_
    · exact fun i s hg => ⟨by first | exact hbel_nil _ | (simp only [List.append_nil]; assumption) | (refine hbel_app' hb' (by simp) ?_; repeat (first | exact hbel_nil _ | exact trivial | exact obel_row_nil _ | (refine HBel.cons ?_ ?_) | (refine obel_row_cons (by first | exact bel_Bd _ _ | exact Bd.bel _ _ | exact bel_ints0 _ _ | exact bel_slice_ty _ _ | exact Ty.bel _ _ | exact bel_ty_tok _ (by simp) | exact Bel.int _ _ | exact Bel.bool _ | exact Bel.str _ | exact Bel.nilp | exact Bel.nilfn | exact Bel.optr _ _ (by simp) | exact bel_nil0 _ | exact bel_nil1 _ | exact bel_fn0 _ _ | assumption) ?_))), by repeat (first | exact BelL.nil | refine BelL.cons (by first | exact bel_Bd _ _ | exact Bd.bel _ _ | exact bel_ints0 _ _ | exact bel_slice_ty _ _ | exact Ty.bel _ _ | exact bel_ty_tok _ (by simp) | exact Bel.int _ _ | exact Bel.bool _ | exact Bel.str _ | exact Bel.nilp | exact Bel.nilfn | exact Bel.optr _ _ (by simp) | exact bel_nil0 _ | exact bel_nil1 _ | exact bel_fn0 _ _ | assumption) ?_)⟩
    · intro i s hi hg
      have g1 := ix_nat hi
      have hi2 : i < vs.length := by omega
      have g3 := ix_nat hi2
      have g2 := get_enc vint hi
      have g4 := get_enc vint hi2
      -- region 5
      repeat (refine awp_seq ?_)
      refine e_eval (by simp only [asq, as0, as1, as2, awanted, aop, LS, SS, SX, HS, mkS_cons, mkS_nil, ↓reduceIte, eq_self', List.map_nil, beq_self_eq_true, Nat.reduceEqDiff, Nat.reduceAdd, Nat.reduceMul, Nat.reduceLT, Nat.reduceLeDiff, Nat.reducePow, Nat.reduceDiv, Nat.reduceMod, Nat.succ_ne_self, Nat.reduceBEq, Nat.reduceBNe, vint, TyS, TyF, BdS, g1, Int.toNat_natCast, g2, g3, g4] <;> with_reducible rfl) (by decide) ?_
      -- region 6
      repeat (refine awp_seq ?_)
      refine awp_draw 0 (by kernel_rfl) ?_
      refine d_end (bm := [0, 0, 3, 7, 0, 0, 48, 112, 255]) (fresh := 0) (by kernel_rfl) (by simp only [dsq, ds0, ds1, ds2, ds3, awanted, hapB, effIds, effSet, nextFresh, ard, freshOk, isUnborn, aop, aidxAddr, aidx, ajust, aload, abin, LS, SS, SX, HS, mkS_cons, mkS_nil, ↓reduceIte, eq_self', List.map_nil, beq_self_eq_true, Nat.reduceEqDiff, Nat.reduceAdd, Nat.reduceMul, Nat.reduceLT, Nat.reduceLeDiff, Nat.reducePow, Nat.reduceDiv, Nat.reduceMod, Nat.succ_ne_self, Nat.reduceBEq, Nat.reduceBNe, Tryti3, Trytz3, Trytp3, Trytk3, Tryti25, Tryte25, Trytz25, Trytp25, vint, TyS, TyF, BdS, g1, Int.toNat_natCast, g2, g3, g4] <;> with_reducible rfl) (by decide) ?_
      repeat (refine awp_seq ?_)
      refine awp_cond rfl (by simp only [LS, SS, SX, HS, mkS_cons, mkS_nil, ↓reduceIte, eq_self', List.map_nil, beq_self_eq_true, Nat.reduceEqDiff, Nat.reduceAdd, Nat.succ_ne_self, vint, TyS, TyF, BdS, g1, Int.toNat_natCast, g2, g3, g4] <;> with_reducible rfl) (fun b1 => ?_) (fun b1 => ?_)
      · -- if t24
        -- region 7
        repeat (refine awp_seq ?_)
        refine e_eval (by simp only [asq, as0, as1, as2, awanted, aop, LS, SS, SX, HS, mkS_cons, mkS_nil, ↓reduceIte, eq_self', List.map_nil, beq_self_eq_true, Nat.reduceEqDiff, Nat.reduceAdd, Nat.reduceMul, Nat.reduceLT, Nat.reduceLeDiff, Nat.reducePow, Nat.reduceDiv, Nat.reduceMod, Nat.succ_ne_self, Nat.reduceBEq, Nat.reduceBNe, vint, TyS, TyF, BdS, g1, Int.toNat_natCast, g2, g3, g4] <;> with_reducible rfl) (by decide) ?_
        repeat (refine awp_seq ?_)
        -- leaf 1 ret
        refine awp_ret ⟨.inr rfl, _, rfl, ?_⟩
        have : us ≠ vs := by rintro rfl; simp at b1
        simp [this, upd_apply, PV.drop1]
      · -- else t24
        repeat (refine awp_seq ?_)
        refine awp_skip ?_
        -- leaf 2 next0
        have he : us[i] = vs[i] := by simpa using b1
        exact ⟨⟨rfl, rfl, trivial⟩, (), _, ⟨rfl, rfl, trivial⟩, rfl, by rw [List.take_succ_eq_append_getElem hi, List.take_succ_eq_append_getElem hi2, hg, he]⟩
    · intro s hg
      -- region 9
      repeat (refine awp_seq ?_)
      refine e_eval (by simp only [asq, as0, as1, as2, awanted, aop, LS, SS, SX, HS, mkS_cons, mkS_nil, ↓reduceIte, eq_self', List.map_nil, beq_self_eq_true, Nat.reduceEqDiff, Nat.reduceAdd, Nat.reduceMul, Nat.reduceLT, Nat.reduceLeDiff, Nat.reducePow, Nat.reduceDiv, Nat.reduceMod, Nat.succ_ne_self, Nat.reduceBEq, Nat.reduceBNe, vint, TyS, TyF, BdS] <;> with_reducible rfl) (by decide) ?_
      repeat (refine awp_seq ?_)
      -- leaf 3 ret
      refine awp_ret ⟨.inr rfl, _, rfl, ?_⟩
      rw [List.take_length, hlen, List.take_length] at hg
      simp [hg, upd_apply, PV.drop1]

theorem allOK_c (us : List Int) (ha : us.length ≤ maxLen) : PC Try.prog 30 [.slice (us.map vint) .none] (.bool (us.all fun c => decide (c = 0))) := by
  refine pc_of (N := 14) Try.func30 rfl rfl (by simp) (by simp [bel_ints0]) (.bool _) ?_
  -- region 0
  repeat (refine awp_seq ?_)
  refine e_eval (by simp only [asq, as0, as1, as2, awanted, aop, LS, SS, SX, HS, mkS_cons, mkS_nil, ↓reduceIte, eq_self', List.map_nil, beq_self_eq_true, Nat.reduceEqDiff, Nat.reduceAdd, Nat.reduceMul, Nat.reduceLT, Nat.reduceLeDiff, Nat.reducePow, Nat.reduceDiv, Nat.reduceMod, Nat.succ_ne_self, Nat.reduceBEq, Nat.reduceBNe, vint, TyS, TyF, BdS] <;> with_reducible rfl) (by decide) ?_
  -- region 1
  repeat (refine awp_seq ?_)
  refine e_eval (by simp only [asq, as0, as1, as2, awanted, aop, abuiltin, LS, SS, SX, HS, mkS_cons, mkS_nil, ↓reduceIte, eq_self', List.map_nil, beq_self_eq_true, Nat.reduceEqDiff, Nat.reduceAdd, Nat.reduceMul, Nat.reduceLT, Nat.reduceLeDiff, Nat.reducePow, Nat.reduceDiv, Nat.reduceMod, Nat.succ_ne_self, Nat.reduceBEq, Nat.reduceBNe, Tryti38, Trytz38, Trytp38, Trytk38, Tryti112, Tryte112, Trytz112, Trytp112, vint, TyS, TyF, BdS] <;> with_reducible rfl) (by decide) ?_
  repeat (refine awp_seq ?_)
  refine awp_forS (σ := Unit) (us.length) (fun (s : Unit) => [(5, .slice (us.map vint) .none)]) [5] ([]) (fun (s : Unit) => []) (fun (i : Nat) (s : Unit) => (us.take i).all (fun c => decide (c = 0)) = true) (()) ([]) rfl rfl rfl rfl rfl rfl rfl rfl rfl (by decide) (by decide) (by decide) (fun _ => rfl) (ha) ⟨(by first | rfl | (simp only [LS, SS, SX, HS, mkS_cons, mkS_nil, ↓reduceIte, eq_self', List.map_nil, beq_self_eq_true, Nat.reduceEqDiff, Nat.reduceAdd, Nat.succ_ne_self, vint, TyS, TyF, BdS] <;> first | done | with_reducible rfl)), (by first | rfl | (simp only [LS, SS, SX, HS, mkS_cons, mkS_nil, ↓reduceIte, eq_self', List.map_nil, beq_self_eq_true, Nat.reduceEqDiff, Nat.reduceAdd, Nat.succ_ne_self, vint, TyS, TyF, BdS] <;> first | done | with_reducible rfl)), (by first | rfl | (simp only [LS, SS, SX, HS, mkS_cons, mkS_nil, ↓reduceIte, eq_self', List.map_nil, beq_self_eq_true, Nat.reduceEqDiff, Nat.reduceAdd, Nat.succ_ne_self, vint, TyS, TyF, BdS] <;> first | done | with_reducible rfl)), trivial⟩ (by first | rfl | (simp only [LS, SS, SX, HS, mkS_cons, mkS_nil, ↓reduceIte, eq_self', List.map_nil, beq_self_eq_true, Nat.reduceEqDiff, Nat.reduceAdd, Nat.succ_ne_self, vint, TyS, TyF, BdS] <;> first | done | with_reducible rfl)) (by simp) (fun _ _ _ => by first | exact Nat.zero_le _ | (simp only [List.length_append]; omega)) ?_ ?_ ?_
  · exact fun i s hg => ⟨by first | exact hbel_nil _ | (simp only [List.append_nil]; assumption) | (refine hbel_app' hb' (by simp) ?_; repeat (first | exact hbel_nil _ | exact trivial | exact obel_row_nil _ | (refine HBel.cons ?_ ?_) | (refine obel_row_cons (by first | exact bel_Bd _ _ | exact Bd.bel _ _ | exact bel_ints0 _ _ | exact bel_slice_ty _ _ | exact Ty.bel _ _ | exact bel_ty_tok _ (by simp) | exact Bel.int _ _ | exact Bel.bool _ | exact Bel.str _ | exact Bel.nilp | exact Bel.nilfn | exact Bel.optr _ _ (by simp) | exact bel_nil0 _ | exact bel_nil1 _ | exact bel_fn0 _ _ | assumption) ?_))), by repeat (first | exact BelL.nil | refine BelL.cons (by first | exact bel_Bd _ _ | exact Bd.bel _ _ | exact bel_ints0 _ _ | exact bel_slice_ty _ _ | exact Ty.bel _ _ | exact bel_ty_tok _ (by simp) | exact Bel.int _ _ | exact Bel.bool _ | exact Bel.str _ | exact Bel.nilp | exact Bel.nilfn | exact Bel.optr _ _ (by simp) | exact bel_nil0 _ | exact bel_nil1 _ | exact bel_fn0 _ _ | assumption) ?_)⟩
  · intro i s hi hg
    have g1 := ix_nat hi
    have g2 := get_enc vint hi
    -- region 3
    repeat (refine awp_seq ?_)
    refine e_eval (by simp only [asq, as0, as1, as2, awanted, aop, aidxAddr, aidx, ajust, aload, LS, SS, SX, HS, mkS_cons, mkS_nil, ↓reduceIte, eq_self', List.map_nil, beq_self_eq_true, Nat.reduceEqDiff, Nat.reduceAdd, Nat.reduceMul, Nat.reduceLT, Nat.reduceLeDiff, Nat.reducePow, Nat.reduceDiv, Nat.reduceMod, Nat.succ_ne_self, Nat.reduceBEq, Nat.reduceBNe, Tryti38, Trytz38, Trytp38, Trytk38, Tryti112, Tryte112, Trytz112, Trytp112, vint, TyS, TyF, BdS, g1, Int.toNat_natCast, g2] <;> with_reducible rfl) (by decide) ?_
    -- region 4
    repeat (refine awp_seq ?_)
    refine e_eval (by simp only [asq, as0, as1, as2, awanted, aop, abin, ajust, LS, SS, SX, HS, mkS_cons, mkS_nil, ↓reduceIte, eq_self', List.map_nil, beq_self_eq_true, Nat.reduceEqDiff, Nat.reduceAdd, Nat.reduceMul, Nat.reduceLT, Nat.reduceLeDiff, Nat.reducePow, Nat.reduceDiv, Nat.reduceMod, Nat.succ_ne_self, Nat.reduceBEq, Nat.reduceBNe, Tryti38, Trytz38, Trytp38, Trytk38, vint, TyS, TyF, BdS, g1, Int.toNat_natCast, g2] <;> with_reducible rfl) (by decide) ?_
    repeat (refine awp_seq ?_)
    refine awp_cond rfl (by simp only [LS, SS, SX, HS, mkS_cons, mkS_nil, ↓reduceIte, eq_self', List.map_nil, beq_self_eq_true, Nat.reduceEqDiff, Nat.reduceAdd, Nat.succ_ne_self, vint, TyS, TyF, BdS, g1, Int.toNat_natCast, g2] <;> with_reducible rfl) (fun b0 => ?_) (fun b0 => ?_)
    · -- if t12
      -- region 5
      repeat (refine awp_seq ?_)
      refine e_eval (by simp only [asq, as0, as1, as2, awanted, aop, LS, SS, SX, HS, mkS_cons, mkS_nil, ↓reduceIte, eq_self', List.map_nil, beq_self_eq_true, Nat.reduceEqDiff, Nat.reduceAdd, Nat.reduceMul, Nat.reduceLT, Nat.reduceLeDiff, Nat.reducePow, Nat.reduceDiv, Nat.reduceMod, Nat.succ_ne_self, Nat.reduceBEq, Nat.reduceBNe, vint, TyS, TyF, BdS, g1, Int.toNat_natCast, g2] <;> with_reducible rfl) (by decide) ?_
      repeat (refine awp_seq ?_)
      -- leaf 0 ret
      refine awp_ret ⟨.inr rfl, _, rfl, ?_⟩
      have : us[i] ≠ 0 := by simpa using b0
      have : (us.all fun c => decide (c = 0)) = false := by rw [List.all_eq_false]; exact ⟨_, List.getElem_mem hi, by simpa using this⟩
      simp [this, upd_apply, PV.drop1]
    · -- else t12
      repeat (refine awp_seq ?_)
      refine awp_skip ?_
      -- leaf 1 next0
      exact ⟨⟨rfl, rfl, trivial⟩, (), _, ⟨rfl, trivial⟩, rfl, all_take_succ hi hg (by simpa using b0)⟩
  · intro s hg
    -- region 7
    repeat (refine awp_seq ?_)
    refine e_eval (by simp only [asq, as0, as1, as2, awanted, aop, LS, SS, SX, HS, mkS_cons, mkS_nil, ↓reduceIte, eq_self', List.map_nil, beq_self_eq_true, Nat.reduceEqDiff, Nat.reduceAdd, Nat.reduceMul, Nat.reduceLT, Nat.reduceLeDiff, Nat.reducePow, Nat.reduceDiv, Nat.reduceMod, Nat.succ_ne_self, Nat.reduceBEq, Nat.reduceBNe, vint, TyS, TyF, BdS] <;> with_reducible rfl) (by decide) ?_
    repeat (refine awp_seq ?_)
    -- leaf 2 ret
    refine awp_ret ⟨.inr rfl, _, rfl, ?_⟩
    rw [List.take_length] at hg
    simp [hg, upd_apply, PV.drop1]

theorem measure_k : ∀ (k : Nat) (t : Ty) (L : Int), t.size ≤ k → t.W → 0 ≤ L → L ≤ 1048576 → PC Try.prog 84 [t.enc, vint L] (.tup [vint (measT t L).1, vint (measT t L).2])
  | 0, t, L, h, _, _, _ => by cases t; simp [Ty.size] at h
  | k + 1, t, L, h, hw, hL0, hL => by
    have hbd := measT_bd t L hL0
    refine pc_of (N := 38) Try.func84 rfl rfl (by simp) (by simp [Ty.bel, Bel.int]) (.tup _ (by simp [Bel.int])) ?_
    -- region 0
    repeat (refine awp_seq ?_)
    refine e_eval (by simp only [asq, as0, as1, as2, awanted, aop, LS, SS, SX, HS, mkS_cons, mkS_nil, ↓reduceIte, eq_self', List.map_nil, beq_self_eq_true, Nat.reduceEqDiff, Nat.reduceAdd, Nat.reduceMul, Nat.reduceLT, Nat.reduceLeDiff, Nat.reducePow, Nat.reduceDiv, Nat.reduceMod, Nat.succ_ne_self, Nat.reduceBEq, Nat.reduceBNe, Tryti24, Trytf24, Trytz24, Trytp24, vint, TyS, TyF, BdS] <;> with_reducible rfl) (by decide) ?_
    -- region 1
    repeat (refine awp_seq ?_)
    refine e_eval (by simp only [asq, as0, as1, as2, awanted, aop, LS, SS, SX, HS, mkS_cons, mkS_nil, ↓reduceIte, eq_self', List.map_nil, beq_self_eq_true, Nat.reduceEqDiff, Nat.reduceAdd, Nat.reduceMul, Nat.reduceLT, Nat.reduceLeDiff, Nat.reducePow, Nat.reduceDiv, Nat.reduceMod, Nat.succ_ne_self, Nat.reduceBEq, Nat.reduceBNe, vint, TyS, TyF, BdS] <;> with_reducible rfl) (by decide) ?_
    -- region 2
    repeat (refine awp_seq ?_)
    refine e_eval (by simp only [asq, as0, as1, as2, awanted, aop, afldAddr, ajust, aload, abuiltin, LS, SS, SX, HS, mkS_cons, mkS_nil, ↓reduceIte, eq_self', List.map_nil, beq_self_eq_true, Nat.reduceEqDiff, Nat.reduceAdd, Nat.reduceMul, Nat.reduceLT, Nat.reduceLeDiff, Nat.reducePow, Nat.reduceDiv, Nat.reduceMod, Nat.succ_ne_self, Nat.reduceBEq, Nat.reduceBNe, Tryti22, Tryte22, Trytz22, Trytp22, Tryti24, Trytf24, Trytz24, Trytp24, vint, TyS, TyF, BdS] <;> with_reducible rfl) (by decide) ?_
    repeat (refine awp_seq ?_)
    refine awp_forS (σ := Int × Int) (t.args.length) (fun (q : Int × Int) => [(1, vint L), (4, vint q.1), (5, vint q.2), (11, .slice (t.args.map Ty.enc) .none)]) [1, 4, 5, 11] ([]) (fun (q : Int × Int) => []) (fun (i : Nat) (q : Int × Int) => (1 ≤ q.1 ∧ q.1 ≤ L + 1 ∧ 0 ≤ q.2 ∧ q.2 ≤ L) ∧ measL ((t.args.map measT).drop i) L q = measL (t.args.map measT) L (1, 0)) ((1, 0)) (_) rfl rfl rfl rfl rfl rfl rfl rfl rfl (by decide) (by decide) (by decide) (fun _ => rfl) (hw.lenMax) ⟨(by first | rfl | (simp only [LS, SS, SX, HS, mkS_cons, mkS_nil, ↓reduceIte, eq_self', List.map_nil, beq_self_eq_true, Nat.reduceEqDiff, Nat.reduceAdd, Nat.succ_ne_self, vint, TyS, TyF, BdS] <;> first | done | with_reducible rfl)), (by first | rfl | (simp only [LS, SS, SX, HS, mkS_cons, mkS_nil, ↓reduceIte, eq_self', List.map_nil, beq_self_eq_true, Nat.reduceEqDiff, Nat.reduceAdd, Nat.succ_ne_self, vint, TyS, TyF, BdS] <;> first | done | with_reducible rfl)), (by first | rfl | (simp only [LS, SS, SX, HS, mkS_cons, mkS_nil, ↓reduceIte, eq_self', List.map_nil, beq_self_eq_true, Nat.reduceEqDiff, Nat.reduceAdd, Nat.succ_ne_self, vint, TyS, TyF, BdS] <;> first | done | with_reducible rfl)), (by first | rfl | (simp only [LS, SS, SX, HS, mkS_cons, mkS_nil, ↓reduceIte, eq_self', List.map_nil, beq_self_eq_true, Nat.reduceEqDiff, Nat.reduceAdd, Nat.succ_ne_self, vint, TyS, TyF, BdS] <;> first | done | with_reducible rfl)), (by first | rfl | (simp only [LS, SS, SX, HS, mkS_cons, mkS_nil, ↓reduceIte, eq_self', List.map_nil, beq_self_eq_true, Nat.reduceEqDiff, Nat.reduceAdd, Nat.succ_ne_self, vint, TyS, TyF, BdS] <;> first | done | with_reducible rfl)), (by first | rfl | (simp only [LS, SS, SX, HS, mkS_cons, mkS_nil, ↓reduceIte, eq_self', List.map_nil, beq_self_eq_true, Nat.reduceEqDiff, Nat.reduceAdd, Nat.succ_ne_self, vint, TyS, TyF, BdS] <;> first | done | with_reducible rfl)), trivial⟩ (by first | rfl | (simp only [LS, SS, SX, HS, mkS_cons, mkS_nil, ↓reduceIte, eq_self', List.map_nil, beq_self_eq_true, Nat.reduceEqDiff, Nat.reduceAdd, Nat.succ_ne_self, vint, TyS, TyF, BdS] <;> first | done | with_reducible rfl)) (⟨by simp; omega, rfl⟩) (fun _ _ _ => by first | exact Nat.zero_le _ | (simp only [List.length_append]; omega)) ?_ ?_ ?_
    · exact fun i s hg => ⟨by first | exact hbel_nil _ | (simp only [List.append_nil]; assumption) | (refine hbel_app' hb' (by simp) ?_; repeat (first | exact hbel_nil _ | exact trivial | exact obel_row_nil _ | (refine HBel.cons ?_ ?_) | (refine obel_row_cons (by first | exact bel_Bd _ _ | exact Bd.bel _ _ | exact bel_ints0 _ _ | exact bel_slice_ty _ _ | exact Ty.bel _ _ | exact bel_ty_tok _ (by simp) | exact Bel.int _ _ | exact Bel.bool _ | exact Bel.str _ | exact Bel.nilp | exact Bel.nilfn | exact Bel.optr _ _ (by simp) | exact bel_nil0 _ | exact bel_nil1 _ | exact bel_fn0 _ _ | assumption) ?_))), by repeat (first | exact BelL.nil | refine BelL.cons (by first | exact bel_Bd _ _ | exact Bd.bel _ _ | exact bel_ints0 _ _ | exact bel_slice_ty _ _ | exact Ty.bel _ _ | exact bel_ty_tok _ (by simp) | exact Bel.int _ _ | exact Bel.bool _ | exact Bel.str _ | exact Bel.nilp | exact Bel.nilfn | exact Bel.optr _ _ (by simp) | exact bel_nil0 _ | exact bel_nil1 _ | exact bel_fn0 _ _ | assumption) ?_)⟩
    · intro i q hi hg
      obtain ⟨⟨q1, q2, q3, q4⟩, hg⟩ := hg
      have g1 := ix_nat hi
      have g2 := get_enc Ty.enc hi
      have hmem : t.args[i] ∈ t.args := List.getElem_mem hi
      rw [List.drop_eq_getElem_cons (by simpa using hi), List.getElem_map, measL_cons] at hg
      -- region 4
      repeat (refine awp_seq ?_)
      refine e_eval (by simp only [asq, as0, as1, as2, awanted, aop, aidxAddr, aidx, ajust, aload, astore, splice, LS, SS, SX, HS, mkS_cons, mkS_nil, ↓reduceIte, eq_self', List.map_nil, beq_self_eq_true, Nat.reduceEqDiff, Nat.reduceAdd, Nat.reduceMul, Nat.reduceLT, Nat.reduceLeDiff, Nat.reducePow, Nat.reduceDiv, Nat.reduceMod, Nat.succ_ne_self, Nat.reduceBEq, Nat.reduceBNe, Tryti22, Tryte22, Trytz22, Trytp22, Tryti24, Trytf24, Trytz24, Trytp24, vint, TyS, TyF, BdS, g1, g2, Int.toNat_natCast] <;> with_reducible rfl) (by decide) ?_
      -- region 5
      repeat (refine awp_seq ?_)
      refine e_eval (by simp only [asq, as0, as1, as2, awanted, aop, abin, ajust, LS, SS, SX, HS, mkS_cons, mkS_nil, ↓reduceIte, eq_self', List.map_nil, beq_self_eq_true, Nat.reduceEqDiff, Nat.reduceAdd, Nat.reduceMul, Nat.reduceLT, Nat.reduceLeDiff, Nat.reducePow, Nat.reduceDiv, Nat.reduceMod, Nat.succ_ne_self, Nat.reduceBEq, Nat.reduceBNe, Tryti3, Trytz3, Trytp3, Trytk3, vint, TyS, TyF, BdS, g1, g2, Int.toNat_natCast] <;> with_reducible rfl) (by decide) ?_
      repeat (refine awp_seq ?_)
      refine awp_cond rfl (by simp only [LS, SS, SX, HS, mkS_cons, mkS_nil, ↓reduceIte, eq_self', List.map_nil, beq_self_eq_true, Nat.reduceEqDiff, Nat.reduceAdd, Nat.succ_ne_self, vint, TyS, TyF, BdS, g1, g2, Int.toNat_natCast] <;> with_reducible rfl) (fun b0 => ?_) (fun b0 => ?_)
      · -- if t19
        rw [if_pos b0] at hg
        have hwr : IntKind.i64.wrap (q.2 + 1) = q.2 + 1 := wrap_id (by omega) (by omega)
        repeat (refine awp_seq ?_)
        refine awp_exit ?_
        simp only [thenQ, blockQ, reduceIte, Nat.reduceEqDiff, Nat.succ_ne_self, if_true, if_false]
        -- region 9
        repeat (refine awp_seq ?_)
        refine e_eval (by simp only [asq, as0, as1, as2, awanted, aop, abin, ajust, LS, SS, SX, HS, mkS_cons, mkS_nil, ↓reduceIte, eq_self', List.map_nil, beq_self_eq_true, Nat.reduceEqDiff, Nat.reduceAdd, Nat.reduceMul, Nat.reduceLT, Nat.reduceLeDiff, Nat.reducePow, Nat.reduceDiv, Nat.reduceMod, Nat.succ_ne_self, Nat.reduceBEq, Nat.reduceBNe, Tryti3, Trytz3, Trytp3, Trytk3, vint, TyS, TyF, BdS, g1, g2, Int.toNat_natCast, hwr] <;> with_reducible rfl) (by decide) ?_
        repeat (refine awp_seq ?_)
        -- leaf 0 ret
        refine awp_ret ⟨.inr rfl, _, (ares_two (.tmp 4) (.tmp 5) rfl (ares_tmp1 (by decide)) (ares_tmp1 (by decide))), ?_⟩
        rw [measT_eq t L, ← hg]; rfl
      · -- else t19
        rw [if_neg (by rw [b0]; simp)] at hg
        have hle : q.1 ≤ L := by have : ¬ q.1 > L := of_decide_eq_false b0; omega
        have hwr1 : IntKind.i64.wrap (L - q.1) = L - q.1 := wrap_id (by omega) (by omega)
        have hb2 := measT_bd t.args[i] (L - q.1) (by omega)
        have hwr2 : IntKind.i64.wrap (q.1 + (measT t.args[i] (L - q.1)).1) = q.1 + (measT t.args[i] (L - q.1)).1 := wrap_id (by omega) (by omega)
        repeat (refine awp_seq ?_)
        refine awp_skip ?_
        -- region 6
        repeat (refine awp_seq ?_)
        refine awp_region ?_
        refine e_take 4 (by simp only [asq, as0, as1, as2, awanted, aop, aload, ajust, abin, LS, SS, SX, HS, mkS_cons, mkS_nil, ↓reduceIte, eq_self', List.map_nil, beq_self_eq_true, Nat.reduceEqDiff, Nat.reduceAdd, Nat.reduceMul, Nat.reduceLT, Nat.reduceLeDiff, Nat.reducePow, Nat.reduceDiv, Nat.reduceMod, Nat.succ_ne_self, Nat.reduceBEq, Nat.reduceBNe, Tryti3, Trytz3, Trytp3, Trytk3, Tryti24, Trytf24, Trytz24, Trytp24, vint, TyS, TyF, BdS, g1, g2, Int.toNat_natCast, hwr1] <;> with_reducible rfl) (by decide) ?_
        refine aops_pure (by simp only [acall, awanted, LS, SS, SX, HS, mkS_cons, mkS_nil, ↓reduceIte, eq_self', List.map_nil, beq_self_eq_true, Nat.reduceEqDiff, Nat.reduceAdd, Nat.reduceMul, Nat.reduceLT, Nat.reduceLeDiff, Nat.reducePow, Nat.reduceDiv, Nat.reduceMod, Nat.succ_ne_self, Nat.reduceBEq, Nat.reduceBNe, vint, TyS, TyF, BdS, g1, g2, Int.toNat_natCast, hwr1] <;> with_reducible rfl) (by simp only [acall, awanted, LS, SS, SX, HS, mkS_cons, mkS_nil, ↓reduceIte, eq_self', List.map_nil, beq_self_eq_true, Nat.reduceEqDiff, Nat.reduceAdd, Nat.reduceMul, Nat.reduceLT, Nat.reduceLeDiff, Nat.reducePow, Nat.reduceDiv, Nat.reduceMod, Nat.succ_ne_self, Nat.reduceBEq, Nat.reduceBNe, vint, TyS, TyF, BdS, g1, g2, Int.toNat_natCast, hwr1]) (by decide) Trygo84 (measure_k k t.args[i] (L - q.1) (by have := Ty.size_arg hmem; omega) (hw.arg hmem) (by omega) (by omega) _) ?_
        refine e_end (by simp only [asq, as0, as1, as2, awanted, aop, ajust, LS, SS, SX, HS, mkS_cons, mkS_nil, ↓reduceIte, eq_self', List.map_nil, beq_self_eq_true, Nat.reduceEqDiff, Nat.reduceAdd, Nat.reduceMul, Nat.reduceLT, Nat.reduceLeDiff, Nat.reducePow, Nat.reduceDiv, Nat.reduceMod, Nat.succ_ne_self, Nat.reduceBEq, Nat.reduceBNe, vint, TyS, TyF, BdS, g1, g2, Int.toNat_natCast, hwr1] <;> with_reducible rfl) (by decide) ?_
        refine awp_sel [1, 4, 5, 8, 9, 11, 12, 13] (by simp only [LS, SS, SX, HS, mkS_cons, mkS_nil, ↓reduceIte, eq_self', List.map_nil, beq_self_eq_true, Nat.reduceEqDiff, Nat.reduceAdd, Nat.succ_ne_self, vint, TyS, TyF, BdS, g1, g2, Int.toNat_natCast] <;> with_reducible rfl) ?_
        -- region 7
        repeat (refine awp_seq ?_)
        refine e_eval (by simp only [asq, as0, as1, as2, awanted, aop, abin, ajust, abuiltin, LS, SS, SX, HS, mkS_cons, mkS_nil, ↓reduceIte, eq_self', List.map_nil, beq_self_eq_true, Nat.reduceEqDiff, Nat.reduceAdd, Nat.reduceMul, Nat.reduceLT, Nat.reduceLeDiff, Nat.reducePow, Nat.reduceDiv, Nat.reduceMod, Nat.succ_ne_self, Nat.reduceBEq, Nat.reduceBNe, Tryti3, Trytz3, Trytp3, Trytk3, vint, TyS, TyF, BdS, g1, g2, Int.toNat_natCast, hwr2] <;> with_reducible rfl) (by decide) ?_
        -- leaf 1 next0
        exact ⟨⟨rfl, rfl, trivial⟩, (q.1 + (measT t.args[i] (L - q.1)).1, max q.2 (measT t.args[i] (L - q.1)).2), _, ⟨rfl, rfl, rfl, rfl, trivial⟩, rfl, ⟨by simp only; omega, by simp only; omega, by simp only; omega, by simp only; omega⟩, hg⟩
    · intro q hg
      obtain ⟨⟨q1, q2, q3, q4⟩, hg⟩ := hg
      rw [List.drop_eq_nil_of_le (by simp), measL_nil] at hg
      have hwr : IntKind.i64.wrap (q.2 + 1) = q.2 + 1 := wrap_id (by omega) (by omega)
      -- region 9
      repeat (refine awp_seq ?_)
      refine e_eval (by simp only [asq, as0, as1, as2, awanted, aop, abin, ajust, LS, SS, SX, HS, mkS_cons, mkS_nil, ↓reduceIte, eq_self', List.map_nil, beq_self_eq_true, Nat.reduceEqDiff, Nat.reduceAdd, Nat.reduceMul, Nat.reduceLT, Nat.reduceLeDiff, Nat.reducePow, Nat.reduceDiv, Nat.reduceMod, Nat.succ_ne_self, Nat.reduceBEq, Nat.reduceBNe, Tryti3, Trytz3, Trytp3, Trytk3, vint, TyS, TyF, BdS, hwr] <;> with_reducible rfl) (by decide) ?_
      repeat (refine awp_seq ?_)
      -- leaf 2 ret
      refine awp_ret ⟨.inr rfl, _, (ares_two (.tmp 4) (.tmp 5) rfl (ares_tmp1 (by decide)) (ares_tmp1 (by decide))), ?_⟩
      rw [measT_eq t L, ← hg]; rfl

theorem nodeWellFormed (t : Ty) : PC Try.prog 124 [t.enc] (.bool (nwf t)) := by
  refine pc_of (N := 69) Try.func124 rfl rfl (by simp) (by simp [Ty.bel]) (.bool _) ?_
  -- region 0
  repeat (refine awp_seq ?_)
  refine e_eval (by simp only [asq, as0, as1, as2, awanted, aop, LS, SS, SX, HS, mkS_cons, mkS_nil, ↓reduceIte, eq_self', List.map_nil, beq_self_eq_true, Nat.reduceEqDiff, Nat.reduceAdd, Nat.reduceMul, Nat.reduceLT, Nat.reduceLeDiff, Nat.reducePow, Nat.reduceDiv, Nat.reduceMod, Nat.succ_ne_self, Nat.reduceBEq, Nat.reduceBNe, Tryti24, Trytf24, Trytz24, Trytp24, vint, TyS, TyF, BdS, Int.cast_ofNat_Int] <;> with_reducible rfl) (by decide) ?_
  -- region 1
  repeat (refine awp_seq ?_)
  refine e_eval (by simp only [asq, as0, as1, as2, awanted, aop, afldAddr, ajust, aload, abuiltin, LS, SS, SX, HS, mkS_cons, mkS_nil, ↓reduceIte, eq_self', List.map_nil, beq_self_eq_true, Nat.reduceEqDiff, Nat.reduceAdd, Nat.reduceMul, Nat.reduceLT, Nat.reduceLeDiff, Nat.reducePow, Nat.reduceDiv, Nat.reduceMod, Nat.succ_ne_self, Nat.reduceBEq, Nat.reduceBNe, Tryti22, Tryte22, Trytz22, Trytp22, Tryti24, Trytf24, Trytz24, Trytp24, vint, TyS, TyF, BdS, Int.cast_ofNat_Int] <;> with_reducible rfl) (by decide) ?_
  -- region 2
  repeat (refine awp_seq ?_)
  refine e_eval (by simp only [asq, as0, as1, as2, awanted, aop, afldAddr, ajust, aload, LS, SS, SX, HS, mkS_cons, mkS_nil, ↓reduceIte, eq_self', List.map_nil, beq_self_eq_true, Nat.reduceEqDiff, Nat.reduceAdd, Nat.reduceMul, Nat.reduceLT, Nat.reduceLeDiff, Nat.reducePow, Nat.reduceDiv, Nat.reduceMod, Nat.succ_ne_self, Nat.reduceBEq, Nat.reduceBNe, Tryti3, Trytz3, Trytp3, Trytk3, Tryti24, Trytf24, Trytz24, Trytp24, vint, TyS, TyF, BdS, Int.cast_ofNat_Int] <;> with_reducible rfl) (by decide) ?_
  repeat (refine awp_seq ?_)
  refine awp_block ?_
  -- region 3
  repeat (refine awp_seq ?_)
  refine e_eval (by simp only [asq, as0, as1, as2, awanted, aop, abin, ajust, LS, SS, SX, HS, mkS_cons, mkS_nil, ↓reduceIte, eq_self', List.map_nil, beq_self_eq_true, Nat.reduceEqDiff, Nat.reduceAdd, Nat.reduceMul, Nat.reduceLT, Nat.reduceLeDiff, Nat.reducePow, Nat.reduceDiv, Nat.reduceMod, Nat.succ_ne_self, Nat.reduceBEq, Nat.reduceBNe, Tryti3, Trytz3, Trytp3, Trytk3, vint, TyS, TyF, BdS, Int.cast_ofNat_Int] <;> with_reducible rfl) (by decide) ?_
  repeat (refine awp_seq ?_)
  refine awp_cond rfl (by simp only [LS, SS, SX, HS, mkS_cons, mkS_nil, ↓reduceIte, eq_self', List.map_nil, beq_self_eq_true, Nat.reduceEqDiff, Nat.reduceAdd, Nat.succ_ne_self, vint, TyS, TyF, BdS, Int.cast_ofNat_Int] <;> with_reducible rfl) (fun b0 => ?_) (fun b0 => ?_)
  · -- if t9
    repeat (refine awp_seq ?_)
    refine awp_skip ?_
    repeat (refine awp_seq ?_)
    refine awp_cond rfl (by simp only [LS, SS, SX, HS, mkS_cons, mkS_nil, ↓reduceIte, eq_self', List.map_nil, beq_self_eq_true, Nat.reduceEqDiff, Nat.reduceAdd, Nat.succ_ne_self, vint, TyS, TyF, BdS, Int.cast_ofNat_Int] <;> with_reducible rfl) (fun b1 => ?_) (fun b1 => ?_)
    · -- if t9
      -- region 8
      repeat (refine awp_seq ?_)
      refine g_eval (by simp only [gsq, gs0, gs1, gs2, gcond, gop, SG, Op.operands, Call.operands, Array.toList_append, aop, afldAddr, ajust, aload, abin, LS, SS, SX, HS, mkS_cons, mkS_nil, ↓reduceIte, eq_self', List.map_nil, beq_self_eq_true, Nat.reduceEqDiff, Nat.reduceAdd, Nat.reduceMul, Nat.reduceLT, Nat.reduceLeDiff, Nat.reducePow, Nat.reduceDiv, Nat.reduceMod, Nat.succ_ne_self, Nat.reduceBEq, Nat.reduceBNe, Tryti3, Trytz3, Trytp3, Trytk3, Tryti24, Trytf24, Trytz24, Trytp24, vint, TyS, TyF, BdS, Int.cast_ofNat_Int] <;> with_reducible rfl) (by decide) (by repeat (first | exact Fin.base _ | with_reducible apply Fin.keep | apply Fin.drop)) ?_
      repeat (refine awp_seq ?_)
      -- leaf 0 ret
      refine awp_ret ⟨.inr rfl, _, rfl, ?_⟩
      simp only [LS, SS, SX, HS, mkS_cons, mkS_nil, ↓reduceIte, eq_self', List.map_nil, beq_self_eq_true, Nat.reduceEqDiff, Nat.reduceAdd, Nat.succ_ne_self, vint, TyS, TyF, BdS]
      simp_all [nwf]
    · -- else t9
      -- region 9
      repeat (refine awp_seq ?_)
      refine e_eval (by simp only [asq, as0, as1, as2, awanted, aop, abin, ajust, LS, SS, SX, HS, mkS_cons, mkS_nil, ↓reduceIte, eq_self', List.map_nil, beq_self_eq_true, Nat.reduceEqDiff, Nat.reduceAdd, Nat.reduceMul, Nat.reduceLT, Nat.reduceLeDiff, Nat.reducePow, Nat.reduceDiv, Nat.reduceMod, Nat.succ_ne_self, Nat.reduceBEq, Nat.reduceBNe, Tryti3, Trytz3, Trytp3, Trytk3, vint, TyS, TyF, BdS, Int.cast_ofNat_Int] <;> with_reducible rfl) (by decide) ?_
      repeat (refine awp_seq ?_)
      refine awp_cond rfl (by simp only [LS, SS, SX, HS, mkS_cons, mkS_nil, ↓reduceIte, eq_self', List.map_nil, beq_self_eq_true, Nat.reduceEqDiff, Nat.reduceAdd, Nat.succ_ne_self, vint, TyS, TyF, BdS, Int.cast_ofNat_Int] <;> with_reducible rfl) (fun b2 => ?_) (fun b2 => ?_)
      · -- if t22
        repeat (refine awp_seq ?_)
        refine awp_skip ?_
        repeat (refine awp_seq ?_)
        refine awp_cond rfl (by simp only [LS, SS, SX, HS, mkS_cons, mkS_nil, ↓reduceIte, eq_self', List.map_nil, beq_self_eq_true, Nat.reduceEqDiff, Nat.reduceAdd, Nat.succ_ne_self, vint, TyS, TyF, BdS, Int.cast_ofNat_Int] <;> with_reducible rfl) (fun b3 => ?_) (fun b3 => ?_)
        · -- if t22
          -- region 11
          repeat (refine awp_seq ?_)
          refine g_eval (by simp only [gsq, gs0, gs1, gs2, gcond, gop, SG, Op.operands, Call.operands, Array.toList_append, aop, afldAddr, ajust, aload, abin, LS, SS, SX, HS, mkS_cons, mkS_nil, ↓reduceIte, eq_self', List.map_nil, beq_self_eq_true, Nat.reduceEqDiff, Nat.reduceAdd, Nat.reduceMul, Nat.reduceLT, Nat.reduceLeDiff, Nat.reducePow, Nat.reduceDiv, Nat.reduceMod, Nat.succ_ne_self, Nat.reduceBEq, Nat.reduceBNe, Tryti3, Trytz3, Trytp3, Trytk3, Tryti24, Trytf24, Trytz24, Trytp24, vint, TyS, TyF, BdS, Int.cast_ofNat_Int] <;> with_reducible rfl) (by decide) (by repeat (first | exact Fin.base _ | with_reducible apply Fin.keep | apply Fin.drop)) ?_
          repeat (refine awp_seq ?_)
          -- leaf 1 ret
          refine awp_ret ⟨.inr rfl, _, rfl, ?_⟩
          simp only [LS, SS, SX, HS, mkS_cons, mkS_nil, ↓reduceIte, eq_self', List.map_nil, beq_self_eq_true, Nat.reduceEqDiff, Nat.reduceAdd, Nat.succ_ne_self, vint, TyS, TyF, BdS]
          simp_all [nwf]
        · -- else t22
          -- region 12
          repeat (refine awp_seq ?_)
          refine e_eval (by simp only [asq, as0, as1, as2, awanted, aop, abin, ajust, LS, SS, SX, HS, mkS_cons, mkS_nil, ↓reduceIte, eq_self', List.map_nil, beq_self_eq_true, Nat.reduceEqDiff, Nat.reduceAdd, Nat.reduceMul, Nat.reduceLT, Nat.reduceLeDiff, Nat.reducePow, Nat.reduceDiv, Nat.reduceMod, Nat.succ_ne_self, Nat.reduceBEq, Nat.reduceBNe, Tryti3, Trytz3, Trytp3, Trytk3, vint, TyS, TyF, BdS, Int.cast_ofNat_Int] <;> with_reducible rfl) (by decide) ?_
          repeat (refine awp_seq ?_)
          refine awp_cond rfl (by simp only [LS, SS, SX, HS, mkS_cons, mkS_nil, ↓reduceIte, eq_self', List.map_nil, beq_self_eq_true, Nat.reduceEqDiff, Nat.reduceAdd, Nat.succ_ne_self, vint, TyS, TyF, BdS, Int.cast_ofNat_Int] <;> with_reducible rfl) (fun b4 => ?_) (fun b4 => ?_)
          · -- if t32
            -- region 13
            repeat (refine awp_seq ?_)
            refine e_eval (by simp only [asq, as0, as1, as2, awanted, aop, afldAddr, ajust, aload, abin, LS, SS, SX, HS, mkS_cons, mkS_nil, ↓reduceIte, eq_self', List.map_nil, beq_self_eq_true, Nat.reduceEqDiff, Nat.reduceAdd, Nat.reduceMul, Nat.reduceLT, Nat.reduceLeDiff, Nat.reducePow, Nat.reduceDiv, Nat.reduceMod, Nat.succ_ne_self, Nat.reduceBEq, Nat.reduceBNe, Tryti3, Trytz3, Trytp3, Trytk3, Tryti24, Trytf24, Trytz24, Trytp24, vint, TyS, TyF, BdS, Int.cast_ofNat_Int] <;> with_reducible rfl) (by decide) ?_
            repeat (refine awp_seq ?_)
            -- leaf 2 ret
            refine awp_ret ⟨.inr rfl, _, rfl, ?_⟩
            simp only [LS, SS, SX, HS, mkS_cons, mkS_nil, ↓reduceIte, eq_self', List.map_nil, beq_self_eq_true, Nat.reduceEqDiff, Nat.reduceAdd, Nat.succ_ne_self, vint, TyS, TyF, BdS]
            simp_all [nwf]
          · -- else t32
            -- region 14
            repeat (refine awp_seq ?_)
            refine e_eval (by simp only [asq, as0, as1, as2, awanted, aop, abin, ajust, LS, SS, SX, HS, mkS_cons, mkS_nil, ↓reduceIte, eq_self', List.map_nil, beq_self_eq_true, Nat.reduceEqDiff, Nat.reduceAdd, Nat.reduceMul, Nat.reduceLT, Nat.reduceLeDiff, Nat.reducePow, Nat.reduceDiv, Nat.reduceMod, Nat.succ_ne_self, Nat.reduceBEq, Nat.reduceBNe, Tryti3, Trytz3, Trytp3, Trytk3, vint, TyS, TyF, BdS, Int.cast_ofNat_Int] <;> with_reducible rfl) (by decide) ?_
            repeat (refine awp_seq ?_)
            refine awp_cond rfl (by simp only [LS, SS, SX, HS, mkS_cons, mkS_nil, ↓reduceIte, eq_self', List.map_nil, beq_self_eq_true, Nat.reduceEqDiff, Nat.reduceAdd, Nat.succ_ne_self, vint, TyS, TyF, BdS, Int.cast_ofNat_Int] <;> with_reducible rfl) (fun b5 => ?_) (fun b5 => ?_)
            · -- if t37
              refine awp_sel [1, 3] (by simp only [LS, SS, SX, HS, mkS_cons, mkS_nil, ↓reduceIte, eq_self', List.map_nil, beq_self_eq_true, Nat.reduceEqDiff, Nat.reduceAdd, Nat.succ_ne_self, vint, TyS, TyF, BdS, Int.cast_ofNat_Int] <;> with_reducible rfl) ?_
              -- region 15
              repeat (refine awp_seq ?_)
              refine g_eval (by simp only [gsq, gs0, gs1, gs2, gcond, gop, SG, Op.operands, Call.operands, Array.toList_append, aop, afldAddr, ajust, aload, abin, LS, SS, SX, HS, mkS_cons, mkS_nil, ↓reduceIte, eq_self', List.map_nil, beq_self_eq_true, Nat.reduceEqDiff, Nat.reduceAdd, Nat.reduceMul, Nat.reduceLT, Nat.reduceLeDiff, Nat.reducePow, Nat.reduceDiv, Nat.reduceMod, Nat.succ_ne_self, Nat.reduceBEq, Nat.reduceBNe, Tryti3, Trytz3, Trytp3, Trytk3, Tryti24, Trytf24, Trytz24, Trytp24, vint, TyS, TyF, BdS, Int.cast_ofNat_Int] <;> with_reducible rfl) (by decide) (by repeat (first | exact Fin.base _ | with_reducible apply Fin.keep | apply Fin.drop)) ?_
              repeat (refine awp_seq ?_)
              -- leaf 3 ret
              refine awp_ret ⟨.inr rfl, _, rfl, ?_⟩
              simp only [LS, SS, SX, HS, mkS_cons, mkS_nil, ↓reduceIte, eq_self', List.map_nil, beq_self_eq_true, Nat.reduceEqDiff, Nat.reduceAdd, Nat.succ_ne_self, vint, TyS, TyF, BdS]
              simp_all [nwf]
            · -- else t37
              refine awp_sel [1, 3, 8] (by simp only [LS, SS, SX, HS, mkS_cons, mkS_nil, ↓reduceIte, eq_self', List.map_nil, beq_self_eq_true, Nat.reduceEqDiff, Nat.reduceAdd, Nat.succ_ne_self, vint, TyS, TyF, BdS, Int.cast_ofNat_Int] <;> with_reducible rfl) ?_
              -- region 16
              repeat (refine awp_seq ?_)
              refine e_eval (by simp only [asq, as0, as1, as2, awanted, aop, abin, ajust, LS, SS, SX, HS, mkS_cons, mkS_nil, ↓reduceIte, eq_self', List.map_nil, beq_self_eq_true, Nat.reduceEqDiff, Nat.reduceAdd, Nat.reduceMul, Nat.reduceLT, Nat.reduceLeDiff, Nat.reducePow, Nat.reduceDiv, Nat.reduceMod, Nat.succ_ne_self, Nat.reduceBEq, Nat.reduceBNe, Tryti3, Trytz3, Trytp3, Trytk3, vint, TyS, TyF, BdS, Int.cast_ofNat_Int] <;> with_reducible rfl) (by decide) ?_
              repeat (refine awp_seq ?_)
              refine awp_cond rfl (by simp only [LS, SS, SX, HS, mkS_cons, mkS_nil, ↓reduceIte, eq_self', List.map_nil, beq_self_eq_true, Nat.reduceEqDiff, Nat.reduceAdd, Nat.succ_ne_self, vint, TyS, TyF, BdS, Int.cast_ofNat_Int] <;> with_reducible rfl) (fun b6 => ?_) (fun b6 => ?_)
              · -- if t51
                -- region 17
                repeat (refine awp_seq ?_)
                refine g_eval (by simp only [gsq, gs0, gs1, gs2, gcond, gop, SG, Op.operands, Call.operands, Array.toList_append, aop, afldAddr, ajust, aload, abin, LS, SS, SX, HS, mkS_cons, mkS_nil, ↓reduceIte, eq_self', List.map_nil, beq_self_eq_true, Nat.reduceEqDiff, Nat.reduceAdd, Nat.reduceMul, Nat.reduceLT, Nat.reduceLeDiff, Nat.reducePow, Nat.reduceDiv, Nat.reduceMod, Nat.succ_ne_self, Nat.reduceBEq, Nat.reduceBNe, Tryti3, Trytz3, Trytp3, Trytk3, Tryti24, Trytf24, Trytz24, Trytp24, vint, TyS, TyF, BdS, Int.cast_ofNat_Int] <;> with_reducible rfl) (by decide) (by repeat (first | exact Fin.base _ | with_reducible apply Fin.keep | apply Fin.drop)) ?_
                repeat (refine awp_seq ?_)
                -- leaf 4 ret
                refine awp_ret ⟨.inr rfl, _, rfl, ?_⟩
                simp only [LS, SS, SX, HS, mkS_cons, mkS_nil, ↓reduceIte, eq_self', List.map_nil, beq_self_eq_true, Nat.reduceEqDiff, Nat.reduceAdd, Nat.succ_ne_self, vint, TyS, TyF, BdS]
                simp_all [nwf]
              · -- else t51
                -- region 18
                repeat (refine awp_seq ?_)
                refine e_eval (by simp only [asq, as0, as1, as2, awanted, aop, abin, ajust, LS, SS, SX, HS, mkS_cons, mkS_nil, ↓reduceIte, eq_self', List.map_nil, beq_self_eq_true, Nat.reduceEqDiff, Nat.reduceAdd, Nat.reduceMul, Nat.reduceLT, Nat.reduceLeDiff, Nat.reducePow, Nat.reduceDiv, Nat.reduceMod, Nat.succ_ne_self, Nat.reduceBEq, Nat.reduceBNe, Tryti3, Trytz3, Trytp3, Trytk3, vint, TyS, TyF, BdS, Int.cast_ofNat_Int] <;> with_reducible rfl) (by decide) ?_
                repeat (refine awp_seq ?_)
                refine awp_cond rfl (by simp only [LS, SS, SX, HS, mkS_cons, mkS_nil, ↓reduceIte, eq_self', List.map_nil, beq_self_eq_true, Nat.reduceEqDiff, Nat.reduceAdd, Nat.succ_ne_self, vint, TyS, TyF, BdS, Int.cast_ofNat_Int] <;> with_reducible rfl) (fun b7 => ?_) (fun b7 => ?_)
                · -- if t60
                  -- region 19
                  repeat (refine awp_seq ?_)
                  refine g_eval (by simp only [gsq, gs0, gs1, gs2, gcond, gop, SG, Op.operands, Call.operands, Array.toList_append, aop, afldAddr, ajust, aload, abin, LS, SS, SX, HS, mkS_cons, mkS_nil, ↓reduceIte, eq_self', List.map_nil, beq_self_eq_true, Nat.reduceEqDiff, Nat.reduceAdd, Nat.reduceMul, Nat.reduceLT, Nat.reduceLeDiff, Nat.reducePow, Nat.reduceDiv, Nat.reduceMod, Nat.succ_ne_self, Nat.reduceBEq, Nat.reduceBNe, Tryti3, Trytz3, Trytp3, Trytk3, Tryti24, Trytf24, Trytz24, Trytp24, vint, TyS, TyF, BdS, Int.cast_ofNat_Int] <;> with_reducible rfl) (by decide) (by repeat (first | exact Fin.base _ | with_reducible apply Fin.keep | apply Fin.drop)) ?_
                  repeat (refine awp_seq ?_)
                  -- leaf 5 ret
                  refine awp_ret ⟨.inr rfl, _, rfl, ?_⟩
                  simp only [LS, SS, SX, HS, mkS_cons, mkS_nil, ↓reduceIte, eq_self', List.map_nil, beq_self_eq_true, Nat.reduceEqDiff, Nat.reduceAdd, Nat.succ_ne_self, vint, TyS, TyF, BdS]
                  simp_all [nwf]
                · -- else t60
                  repeat (refine awp_seq ?_)
                  refine awp_skip ?_
                  -- region 20
                  repeat (refine awp_seq ?_)
                  refine e_eval (by simp only [asq, as0, as1, as2, awanted, aop, LS, SS, SX, HS, mkS_cons, mkS_nil, ↓reduceIte, eq_self', List.map_nil, beq_self_eq_true, Nat.reduceEqDiff, Nat.reduceAdd, Nat.reduceMul, Nat.reduceLT, Nat.reduceLeDiff, Nat.reducePow, Nat.reduceDiv, Nat.reduceMod, Nat.succ_ne_self, Nat.reduceBEq, Nat.reduceBNe, vint, TyS, TyF, BdS, Int.cast_ofNat_Int] <;> with_reducible rfl) (by decide) ?_
                  repeat (refine awp_seq ?_)
                  -- leaf 6 ret
                  refine awp_ret ⟨.inr rfl, _, rfl, ?_⟩
                  simp only [LS, SS, SX, HS, mkS_cons, mkS_nil, ↓reduceIte, eq_self', List.map_nil, beq_self_eq_true, Nat.reduceEqDiff, Nat.reduceAdd, Nat.succ_ne_self, vint, TyS, TyF, BdS]
                  simp_all [nwf]
      · -- else t22
        -- region 10
        repeat (refine awp_seq ?_)
        refine e_eval (by simp only [asq, as0, as1, as2, awanted, aop, abin, ajust, LS, SS, SX, HS, mkS_cons, mkS_nil, ↓reduceIte, eq_self', List.map_nil, beq_self_eq_true, Nat.reduceEqDiff, Nat.reduceAdd, Nat.reduceMul, Nat.reduceLT, Nat.reduceLeDiff, Nat.reducePow, Nat.reduceDiv, Nat.reduceMod, Nat.succ_ne_self, Nat.reduceBEq, Nat.reduceBNe, Tryti3, Trytz3, Trytp3, Trytk3, vint, TyS, TyF, BdS, Int.cast_ofNat_Int] <;> with_reducible rfl) (by decide) ?_
        repeat (refine awp_seq ?_)
        refine awp_cond rfl (by simp only [LS, SS, SX, HS, mkS_cons, mkS_nil, ↓reduceIte, eq_self', List.map_nil, beq_self_eq_true, Nat.reduceEqDiff, Nat.reduceAdd, Nat.succ_ne_self, vint, TyS, TyF, BdS, Int.cast_ofNat_Int] <;> with_reducible rfl) (fun b8 => ?_) (fun b8 => ?_)
        · -- if t22
          -- region 11
          repeat (refine awp_seq ?_)
          refine g_eval (by simp only [gsq, gs0, gs1, gs2, gcond, gop, SG, Op.operands, Call.operands, Array.toList_append, aop, afldAddr, ajust, aload, abin, LS, SS, SX, HS, mkS_cons, mkS_nil, ↓reduceIte, eq_self', List.map_nil, beq_self_eq_true, Nat.reduceEqDiff, Nat.reduceAdd, Nat.reduceMul, Nat.reduceLT, Nat.reduceLeDiff, Nat.reducePow, Nat.reduceDiv, Nat.reduceMod, Nat.succ_ne_self, Nat.reduceBEq, Nat.reduceBNe, Tryti3, Trytz3, Trytp3, Trytk3, Tryti24, Trytf24, Trytz24, Trytp24, vint, TyS, TyF, BdS, Int.cast_ofNat_Int] <;> with_reducible rfl) (by decide) (by repeat (first | exact Fin.base _ | with_reducible apply Fin.keep | apply Fin.drop)) ?_
          repeat (refine awp_seq ?_)
          -- leaf 7 ret
          refine awp_ret ⟨.inr rfl, _, rfl, ?_⟩
          simp only [LS, SS, SX, HS, mkS_cons, mkS_nil, ↓reduceIte, eq_self', List.map_nil, beq_self_eq_true, Nat.reduceEqDiff, Nat.reduceAdd, Nat.succ_ne_self, vint, TyS, TyF, BdS]
          simp_all [nwf]
        · -- else t22
          -- region 12
          repeat (refine awp_seq ?_)
          refine e_eval (by simp only [asq, as0, as1, as2, awanted, aop, abin, ajust, LS, SS, SX, HS, mkS_cons, mkS_nil, ↓reduceIte, eq_self', List.map_nil, beq_self_eq_true, Nat.reduceEqDiff, Nat.reduceAdd, Nat.reduceMul, Nat.reduceLT, Nat.reduceLeDiff, Nat.reducePow, Nat.reduceDiv, Nat.reduceMod, Nat.succ_ne_self, Nat.reduceBEq, Nat.reduceBNe, Tryti3, Trytz3, Trytp3, Trytk3, vint, TyS, TyF, BdS, Int.cast_ofNat_Int] <;> with_reducible rfl) (by decide) ?_
          repeat (refine awp_seq ?_)
          refine awp_cond rfl (by simp only [LS, SS, SX, HS, mkS_cons, mkS_nil, ↓reduceIte, eq_self', List.map_nil, beq_self_eq_true, Nat.reduceEqDiff, Nat.reduceAdd, Nat.succ_ne_self, vint, TyS, TyF, BdS, Int.cast_ofNat_Int] <;> with_reducible rfl) (fun b9 => ?_) (fun b9 => ?_)
          · -- if t32
            refine awp_sel [1] (by simp only [LS, SS, SX, HS, mkS_cons, mkS_nil, ↓reduceIte, eq_self', List.map_nil, beq_self_eq_true, Nat.reduceEqDiff, Nat.reduceAdd, Nat.succ_ne_self, vint, TyS, TyF, BdS, Int.cast_ofNat_Int] <;> with_reducible rfl) ?_
            -- region 13
            repeat (refine awp_seq ?_)
            refine e_eval (by simp only [asq, as0, as1, as2, awanted, aop, afldAddr, ajust, aload, abin, LS, SS, SX, HS, mkS_cons, mkS_nil, ↓reduceIte, eq_self', List.map_nil, beq_self_eq_true, Nat.reduceEqDiff, Nat.reduceAdd, Nat.reduceMul, Nat.reduceLT, Nat.reduceLeDiff, Nat.reducePow, Nat.reduceDiv, Nat.reduceMod, Nat.succ_ne_self, Nat.reduceBEq, Nat.reduceBNe, Tryti3, Trytz3, Trytp3, Trytk3, Tryti24, Trytf24, Trytz24, Trytp24, vint, TyS, TyF, BdS, Int.cast_ofNat_Int] <;> with_reducible rfl) (by decide) ?_
            repeat (refine awp_seq ?_)
            -- leaf 8 ret
            refine awp_ret ⟨.inr rfl, _, rfl, ?_⟩
            simp only [LS, SS, SX, HS, mkS_cons, mkS_nil, ↓reduceIte, eq_self', List.map_nil, beq_self_eq_true, Nat.reduceEqDiff, Nat.reduceAdd, Nat.succ_ne_self, vint, TyS, TyF, BdS]
            simp_all [nwf]
          · -- else t32
            refine awp_sel [1, 3, 8] (by simp only [LS, SS, SX, HS, mkS_cons, mkS_nil, ↓reduceIte, eq_self', List.map_nil, beq_self_eq_true, Nat.reduceEqDiff, Nat.reduceAdd, Nat.succ_ne_self, vint, TyS, TyF, BdS, Int.cast_ofNat_Int] <;> with_reducible rfl) ?_
            -- region 14
            repeat (refine awp_seq ?_)
            refine e_eval (by simp only [asq, as0, as1, as2, awanted, aop, abin, ajust, LS, SS, SX, HS, mkS_cons, mkS_nil, ↓reduceIte, eq_self', List.map_nil, beq_self_eq_true, Nat.reduceEqDiff, Nat.reduceAdd, Nat.reduceMul, Nat.reduceLT, Nat.reduceLeDiff, Nat.reducePow, Nat.reduceDiv, Nat.reduceMod, Nat.succ_ne_self, Nat.reduceBEq, Nat.reduceBNe, Tryti3, Trytz3, Trytp3, Trytk3, vint, TyS, TyF, BdS, Int.cast_ofNat_Int] <;> with_reducible rfl) (by decide) ?_
            repeat (refine awp_seq ?_)
            refine awp_cond rfl (by simp only [LS, SS, SX, HS, mkS_cons, mkS_nil, ↓reduceIte, eq_self', List.map_nil, beq_self_eq_true, Nat.reduceEqDiff, Nat.reduceAdd, Nat.succ_ne_self, vint, TyS, TyF, BdS, Int.cast_ofNat_Int] <;> with_reducible rfl) (fun b10 => ?_) (fun b10 => ?_)
            · -- if t37
              -- region 15
              repeat (refine awp_seq ?_)
              refine g_eval (by simp only [gsq, gs0, gs1, gs2, gcond, gop, SG, Op.operands, Call.operands, Array.toList_append, aop, afldAddr, ajust, aload, abin, LS, SS, SX, HS, mkS_cons, mkS_nil, ↓reduceIte, eq_self', List.map_nil, beq_self_eq_true, Nat.reduceEqDiff, Nat.reduceAdd, Nat.reduceMul, Nat.reduceLT, Nat.reduceLeDiff, Nat.reducePow, Nat.reduceDiv, Nat.reduceMod, Nat.succ_ne_self, Nat.reduceBEq, Nat.reduceBNe, Tryti3, Trytz3, Trytp3, Trytk3, Tryti24, Trytf24, Trytz24, Trytp24, vint, TyS, TyF, BdS, Int.cast_ofNat_Int] <;> with_reducible rfl) (by decide) (by repeat (first | exact Fin.base _ | with_reducible apply Fin.keep | apply Fin.drop)) ?_
              repeat (refine awp_seq ?_)
              -- leaf 9 ret
              refine awp_ret ⟨.inr rfl, _, rfl, ?_⟩
              simp only [LS, SS, SX, HS, mkS_cons, mkS_nil, ↓reduceIte, eq_self', List.map_nil, beq_self_eq_true, Nat.reduceEqDiff, Nat.reduceAdd, Nat.succ_ne_self, vint, TyS, TyF, BdS]
              simp_all [nwf]
            · -- else t37
              -- region 16
              repeat (refine awp_seq ?_)
              refine e_eval (by simp only [asq, as0, as1, as2, awanted, aop, abin, ajust, LS, SS, SX, HS, mkS_cons, mkS_nil, ↓reduceIte, eq_self', List.map_nil, beq_self_eq_true, Nat.reduceEqDiff, Nat.reduceAdd, Nat.reduceMul, Nat.reduceLT, Nat.reduceLeDiff, Nat.reducePow, Nat.reduceDiv, Nat.reduceMod, Nat.succ_ne_self, Nat.reduceBEq, Nat.reduceBNe, Tryti3, Trytz3, Trytp3, Trytk3, vint, TyS, TyF, BdS, Int.cast_ofNat_Int] <;> with_reducible rfl) (by decide) ?_
              repeat (refine awp_seq ?_)
              refine awp_cond rfl (by simp only [LS, SS, SX, HS, mkS_cons, mkS_nil, ↓reduceIte, eq_self', List.map_nil, beq_self_eq_true, Nat.reduceEqDiff, Nat.reduceAdd, Nat.succ_ne_self, vint, TyS, TyF, BdS, Int.cast_ofNat_Int] <;> with_reducible rfl) (fun b11 => ?_) (fun b11 => ?_)
              · -- if t51
                -- region 17
                repeat (refine awp_seq ?_)
                refine g_eval (by simp only [gsq, gs0, gs1, gs2, gcond, gop, SG, Op.operands, Call.operands, Array.toList_append, aop, afldAddr, ajust, aload, abin, LS, SS, SX, HS, mkS_cons, mkS_nil, ↓reduceIte, eq_self', List.map_nil, beq_self_eq_true, Nat.reduceEqDiff, Nat.reduceAdd, Nat.reduceMul, Nat.reduceLT, Nat.reduceLeDiff, Nat.reducePow, Nat.reduceDiv, Nat.reduceMod, Nat.succ_ne_self, Nat.reduceBEq, Nat.reduceBNe, Tryti3, Trytz3, Trytp3, Trytk3, Tryti24, Trytf24, Trytz24, Trytp24, vint, TyS, TyF, BdS, Int.cast_ofNat_Int] <;> with_reducible rfl) (by decide) (by repeat (first | exact Fin.base _ | with_reducible apply Fin.keep | apply Fin.drop)) ?_
                repeat (refine awp_seq ?_)
                -- leaf 10 ret
                refine awp_ret ⟨.inr rfl, _, rfl, ?_⟩
                simp only [LS, SS, SX, HS, mkS_cons, mkS_nil, ↓reduceIte, eq_self', List.map_nil, beq_self_eq_true, Nat.reduceEqDiff, Nat.reduceAdd, Nat.succ_ne_self, vint, TyS, TyF, BdS]
                simp_all [nwf]
              · -- else t51
                -- region 18
                repeat (refine awp_seq ?_)
                refine e_eval (by simp only [asq, as0, as1, as2, awanted, aop, abin, ajust, LS, SS, SX, HS, mkS_cons, mkS_nil, ↓reduceIte, eq_self', List.map_nil, beq_self_eq_true, Nat.reduceEqDiff, Nat.reduceAdd, Nat.reduceMul, Nat.reduceLT, Nat.reduceLeDiff, Nat.reducePow, Nat.reduceDiv, Nat.reduceMod, Nat.succ_ne_self, Nat.reduceBEq, Nat.reduceBNe, Tryti3, Trytz3, Trytp3, Trytk3, vint, TyS, TyF, BdS, Int.cast_ofNat_Int] <;> with_reducible rfl) (by decide) ?_
                repeat (refine awp_seq ?_)
                refine awp_cond rfl (by simp only [LS, SS, SX, HS, mkS_cons, mkS_nil, ↓reduceIte, eq_self', List.map_nil, beq_self_eq_true, Nat.reduceEqDiff, Nat.reduceAdd, Nat.succ_ne_self, vint, TyS, TyF, BdS, Int.cast_ofNat_Int] <;> with_reducible rfl) (fun b12 => ?_) (fun b12 => ?_)
                · -- if t60
                  -- region 19
                  repeat (refine awp_seq ?_)
                  refine g_eval (by simp only [gsq, gs0, gs1, gs2, gcond, gop, SG, Op.operands, Call.operands, Array.toList_append, aop, afldAddr, ajust, aload, abin, LS, SS, SX, HS, mkS_cons, mkS_nil, ↓reduceIte, eq_self', List.map_nil, beq_self_eq_true, Nat.reduceEqDiff, Nat.reduceAdd, Nat.reduceMul, Nat.reduceLT, Nat.reduceLeDiff, Nat.reducePow, Nat.reduceDiv, Nat.reduceMod, Nat.succ_ne_self, Nat.reduceBEq, Nat.reduceBNe, Tryti3, Trytz3, Trytp3, Trytk3, Tryti24, Trytf24, Trytz24, Trytp24, vint, TyS, TyF, BdS, Int.cast_ofNat_Int] <;> with_reducible rfl) (by decide) (by repeat (first | exact Fin.base _ | with_reducible apply Fin.keep | apply Fin.drop)) ?_
                  repeat (refine awp_seq ?_)
                  -- leaf 11 ret
                  refine awp_ret ⟨.inr rfl, _, rfl, ?_⟩
                  simp only [LS, SS, SX, HS, mkS_cons, mkS_nil, ↓reduceIte, eq_self', List.map_nil, beq_self_eq_true, Nat.reduceEqDiff, Nat.reduceAdd, Nat.succ_ne_self, vint, TyS, TyF, BdS]
                  simp_all [nwf]
                · -- else t60
                  repeat (refine awp_seq ?_)
                  refine awp_skip ?_
                  -- region 20
                  repeat (refine awp_seq ?_)
                  refine e_eval (by simp only [asq, as0, as1, as2, awanted, aop, LS, SS, SX, HS, mkS_cons, mkS_nil, ↓reduceIte, eq_self', List.map_nil, beq_self_eq_true, Nat.reduceEqDiff, Nat.reduceAdd, Nat.reduceMul, Nat.reduceLT, Nat.reduceLeDiff, Nat.reducePow, Nat.reduceDiv, Nat.reduceMod, Nat.succ_ne_self, Nat.reduceBEq, Nat.reduceBNe, vint, TyS, TyF, BdS, Int.cast_ofNat_Int] <;> with_reducible rfl) (by decide) ?_
                  repeat (refine awp_seq ?_)
                  -- leaf 12 ret
                  refine awp_ret ⟨.inr rfl, _, rfl, ?_⟩
                  simp only [LS, SS, SX, HS, mkS_cons, mkS_nil, ↓reduceIte, eq_self', List.map_nil, beq_self_eq_true, Nat.reduceEqDiff, Nat.reduceAdd, Nat.succ_ne_self, vint, TyS, TyF, BdS]
                  simp_all [nwf]
  · -- else t9
    -- region 4
    repeat (refine awp_seq ?_)
    refine e_eval (by simp only [asq, as0, as1, as2, awanted, aop, abin, ajust, LS, SS, SX, HS, mkS_cons, mkS_nil, ↓reduceIte, eq_self', List.map_nil, beq_self_eq_true, Nat.reduceEqDiff, Nat.reduceAdd, Nat.reduceMul, Nat.reduceLT, Nat.reduceLeDiff, Nat.reducePow, Nat.reduceDiv, Nat.reduceMod, Nat.succ_ne_self, Nat.reduceBEq, Nat.reduceBNe, Tryti3, Trytz3, Trytp3, Trytk3, vint, TyS, TyF, BdS, Int.cast_ofNat_Int] <;> with_reducible rfl) (by decide) ?_
    repeat (refine awp_seq ?_)
    refine awp_cond rfl (by simp only [LS, SS, SX, HS, mkS_cons, mkS_nil, ↓reduceIte, eq_self', List.map_nil, beq_self_eq_true, Nat.reduceEqDiff, Nat.reduceAdd, Nat.succ_ne_self, vint, TyS, TyF, BdS, Int.cast_ofNat_Int] <;> with_reducible rfl) (fun b13 => ?_) (fun b13 => ?_)
    · -- if t9
      repeat (refine awp_seq ?_)
      refine awp_skip ?_
      repeat (refine awp_seq ?_)
      refine awp_cond rfl (by simp only [LS, SS, SX, HS, mkS_cons, mkS_nil, ↓reduceIte, eq_self', List.map_nil, beq_self_eq_true, Nat.reduceEqDiff, Nat.reduceAdd, Nat.succ_ne_self, vint, TyS, TyF, BdS, Int.cast_ofNat_Int] <;> with_reducible rfl) (fun b14 => ?_) (fun b14 => ?_)
      · -- if t9
        -- region 8
        repeat (refine awp_seq ?_)
        refine g_eval (by simp only [gsq, gs0, gs1, gs2, gcond, gop, SG, Op.operands, Call.operands, Array.toList_append, aop, afldAddr, ajust, aload, abin, LS, SS, SX, HS, mkS_cons, mkS_nil, ↓reduceIte, eq_self', List.map_nil, beq_self_eq_true, Nat.reduceEqDiff, Nat.reduceAdd, Nat.reduceMul, Nat.reduceLT, Nat.reduceLeDiff, Nat.reducePow, Nat.reduceDiv, Nat.reduceMod, Nat.succ_ne_self, Nat.reduceBEq, Nat.reduceBNe, Tryti3, Trytz3, Trytp3, Trytk3, Tryti24, Trytf24, Trytz24, Trytp24, vint, TyS, TyF, BdS, Int.cast_ofNat_Int] <;> with_reducible rfl) (by decide) (by repeat (first | exact Fin.base _ | with_reducible apply Fin.keep | apply Fin.drop)) ?_
        repeat (refine awp_seq ?_)
        -- leaf 13 ret
        refine awp_ret ⟨.inr rfl, _, rfl, ?_⟩
        simp only [LS, SS, SX, HS, mkS_cons, mkS_nil, ↓reduceIte, eq_self', List.map_nil, beq_self_eq_true, Nat.reduceEqDiff, Nat.reduceAdd, Nat.succ_ne_self, vint, TyS, TyF, BdS]
        simp_all [nwf]
      · -- else t9
        -- region 9
        repeat (refine awp_seq ?_)
        refine e_eval (by simp only [asq, as0, as1, as2, awanted, aop, abin, ajust, LS, SS, SX, HS, mkS_cons, mkS_nil, ↓reduceIte, eq_self', List.map_nil, beq_self_eq_true, Nat.reduceEqDiff, Nat.reduceAdd, Nat.reduceMul, Nat.reduceLT, Nat.reduceLeDiff, Nat.reducePow, Nat.reduceDiv, Nat.reduceMod, Nat.succ_ne_self, Nat.reduceBEq, Nat.reduceBNe, Tryti3, Trytz3, Trytp3, Trytk3, vint, TyS, TyF, BdS, Int.cast_ofNat_Int] <;> with_reducible rfl) (by decide) ?_
        repeat (refine awp_seq ?_)
        refine awp_cond rfl (by simp only [LS, SS, SX, HS, mkS_cons, mkS_nil, ↓reduceIte, eq_self', List.map_nil, beq_self_eq_true, Nat.reduceEqDiff, Nat.reduceAdd, Nat.succ_ne_self, vint, TyS, TyF, BdS, Int.cast_ofNat_Int] <;> with_reducible rfl) (fun b15 => ?_) (fun b15 => ?_)
        · -- if t22
          repeat (refine awp_seq ?_)
          refine awp_skip ?_
          repeat (refine awp_seq ?_)
          refine awp_cond rfl (by simp only [LS, SS, SX, HS, mkS_cons, mkS_nil, ↓reduceIte, eq_self', List.map_nil, beq_self_eq_true, Nat.reduceEqDiff, Nat.reduceAdd, Nat.succ_ne_self, vint, TyS, TyF, BdS, Int.cast_ofNat_Int] <;> with_reducible rfl) (fun b16 => ?_) (fun b16 => ?_)
          · -- if t22
            -- region 11
            repeat (refine awp_seq ?_)
            refine g_eval (by simp only [gsq, gs0, gs1, gs2, gcond, gop, SG, Op.operands, Call.operands, Array.toList_append, aop, afldAddr, ajust, aload, abin, LS, SS, SX, HS, mkS_cons, mkS_nil, ↓reduceIte, eq_self', List.map_nil, beq_self_eq_true, Nat.reduceEqDiff, Nat.reduceAdd, Nat.reduceMul, Nat.reduceLT, Nat.reduceLeDiff, Nat.reducePow, Nat.reduceDiv, Nat.reduceMod, Nat.succ_ne_self, Nat.reduceBEq, Nat.reduceBNe, Tryti3, Trytz3, Trytp3, Trytk3, Tryti24, Trytf24, Trytz24, Trytp24, vint, TyS, TyF, BdS, Int.cast_ofNat_Int] <;> with_reducible rfl) (by decide) (by repeat (first | exact Fin.base _ | with_reducible apply Fin.keep | apply Fin.drop)) ?_
            repeat (refine awp_seq ?_)
            -- leaf 14 ret
            refine awp_ret ⟨.inr rfl, _, rfl, ?_⟩
            simp only [LS, SS, SX, HS, mkS_cons, mkS_nil, ↓reduceIte, eq_self', List.map_nil, beq_self_eq_true, Nat.reduceEqDiff, Nat.reduceAdd, Nat.succ_ne_self, vint, TyS, TyF, BdS]
            simp_all [nwf]
          · -- else t22
            -- region 12
            repeat (refine awp_seq ?_)
            refine e_eval (by simp only [asq, as0, as1, as2, awanted, aop, abin, ajust, LS, SS, SX, HS, mkS_cons, mkS_nil, ↓reduceIte, eq_self', List.map_nil, beq_self_eq_true, Nat.reduceEqDiff, Nat.reduceAdd, Nat.reduceMul, Nat.reduceLT, Nat.reduceLeDiff, Nat.reducePow, Nat.reduceDiv, Nat.reduceMod, Nat.succ_ne_self, Nat.reduceBEq, Nat.reduceBNe, Tryti3, Trytz3, Trytp3, Trytk3, vint, TyS, TyF, BdS, Int.cast_ofNat_Int] <;> with_reducible rfl) (by decide) ?_
            repeat (refine awp_seq ?_)
            refine awp_cond rfl (by simp only [LS, SS, SX, HS, mkS_cons, mkS_nil, ↓reduceIte, eq_self', List.map_nil, beq_self_eq_true, Nat.reduceEqDiff, Nat.reduceAdd, Nat.succ_ne_self, vint, TyS, TyF, BdS, Int.cast_ofNat_Int] <;> with_reducible rfl) (fun b17 => ?_) (fun b17 => ?_)
            · -- if t32
              refine awp_sel [1] (by simp only [LS, SS, SX, HS, mkS_cons, mkS_nil, ↓reduceIte, eq_self', List.map_nil, beq_self_eq_true, Nat.reduceEqDiff, Nat.reduceAdd, Nat.succ_ne_self, vint, TyS, TyF, BdS, Int.cast_ofNat_Int] <;> with_reducible rfl) ?_
              -- region 13
              repeat (refine awp_seq ?_)
              refine e_eval (by simp only [asq, as0, as1, as2, awanted, aop, afldAddr, ajust, aload, abin, LS, SS, SX, HS, mkS_cons, mkS_nil, ↓reduceIte, eq_self', List.map_nil, beq_self_eq_true, Nat.reduceEqDiff, Nat.reduceAdd, Nat.reduceMul, Nat.reduceLT, Nat.reduceLeDiff, Nat.reducePow, Nat.reduceDiv, Nat.reduceMod, Nat.succ_ne_self, Nat.reduceBEq, Nat.reduceBNe, Tryti3, Trytz3, Trytp3, Trytk3, Tryti24, Trytf24, Trytz24, Trytp24, vint, TyS, TyF, BdS, Int.cast_ofNat_Int] <;> with_reducible rfl) (by decide) ?_
              repeat (refine awp_seq ?_)
              -- leaf 15 ret
              refine awp_ret ⟨.inr rfl, _, rfl, ?_⟩
              simp only [LS, SS, SX, HS, mkS_cons, mkS_nil, ↓reduceIte, eq_self', List.map_nil, beq_self_eq_true, Nat.reduceEqDiff, Nat.reduceAdd, Nat.succ_ne_self, vint, TyS, TyF, BdS]
              simp_all [nwf]
            · -- else t32
              refine awp_sel [1, 3, 8] (by simp only [LS, SS, SX, HS, mkS_cons, mkS_nil, ↓reduceIte, eq_self', List.map_nil, beq_self_eq_true, Nat.reduceEqDiff, Nat.reduceAdd, Nat.succ_ne_self, vint, TyS, TyF, BdS, Int.cast_ofNat_Int] <;> with_reducible rfl) ?_
              -- region 14
              repeat (refine awp_seq ?_)
              refine e_eval (by simp only [asq, as0, as1, as2, awanted, aop, abin, ajust, LS, SS, SX, HS, mkS_cons, mkS_nil, ↓reduceIte, eq_self', List.map_nil, beq_self_eq_true, Nat.reduceEqDiff, Nat.reduceAdd, Nat.reduceMul, Nat.reduceLT, Nat.reduceLeDiff, Nat.reducePow, Nat.reduceDiv, Nat.reduceMod, Nat.succ_ne_self, Nat.reduceBEq, Nat.reduceBNe, Tryti3, Trytz3, Trytp3, Trytk3, vint, TyS, TyF, BdS, Int.cast_ofNat_Int] <;> with_reducible rfl) (by decide) ?_
              repeat (refine awp_seq ?_)
              refine awp_cond rfl (by simp only [LS, SS, SX, HS, mkS_cons, mkS_nil, ↓reduceIte, eq_self', List.map_nil, beq_self_eq_true, Nat.reduceEqDiff, Nat.reduceAdd, Nat.succ_ne_self, vint, TyS, TyF, BdS, Int.cast_ofNat_Int] <;> with_reducible rfl) (fun b18 => ?_) (fun b18 => ?_)
              · -- if t37
                -- region 15
                repeat (refine awp_seq ?_)
                refine g_eval (by simp only [gsq, gs0, gs1, gs2, gcond, gop, SG, Op.operands, Call.operands, Array.toList_append, aop, afldAddr, ajust, aload, abin, LS, SS, SX, HS, mkS_cons, mkS_nil, ↓reduceIte, eq_self', List.map_nil, beq_self_eq_true, Nat.reduceEqDiff, Nat.reduceAdd, Nat.reduceMul, Nat.reduceLT, Nat.reduceLeDiff, Nat.reducePow, Nat.reduceDiv, Nat.reduceMod, Nat.succ_ne_self, Nat.reduceBEq, Nat.reduceBNe, Tryti3, Trytz3, Trytp3, Trytk3, Tryti24, Trytf24, Trytz24, Trytp24, vint, TyS, TyF, BdS, Int.cast_ofNat_Int] <;> with_reducible rfl) (by decide) (by repeat (first | exact Fin.base _ | with_reducible apply Fin.keep | apply Fin.drop)) ?_
                repeat (refine awp_seq ?_)
                -- leaf 16 ret
                refine awp_ret ⟨.inr rfl, _, rfl, ?_⟩
                simp only [LS, SS, SX, HS, mkS_cons, mkS_nil, ↓reduceIte, eq_self', List.map_nil, beq_self_eq_true, Nat.reduceEqDiff, Nat.reduceAdd, Nat.succ_ne_self, vint, TyS, TyF, BdS]
                simp_all [nwf]
              · -- else t37
                -- region 16
                repeat (refine awp_seq ?_)
                refine e_eval (by simp only [asq, as0, as1, as2, awanted, aop, abin, ajust, LS, SS, SX, HS, mkS_cons, mkS_nil, ↓reduceIte, eq_self', List.map_nil, beq_self_eq_true, Nat.reduceEqDiff, Nat.reduceAdd, Nat.reduceMul, Nat.reduceLT, Nat.reduceLeDiff, Nat.reducePow, Nat.reduceDiv, Nat.reduceMod, Nat.succ_ne_self, Nat.reduceBEq, Nat.reduceBNe, Tryti3, Trytz3, Trytp3, Trytk3, vint, TyS, TyF, BdS, Int.cast_ofNat_Int] <;> with_reducible rfl) (by decide) ?_
                repeat (refine awp_seq ?_)
                refine awp_cond rfl (by simp only [LS, SS, SX, HS, mkS_cons, mkS_nil, ↓reduceIte, eq_self', List.map_nil, beq_self_eq_true, Nat.reduceEqDiff, Nat.reduceAdd, Nat.succ_ne_self, vint, TyS, TyF, BdS, Int.cast_ofNat_Int] <;> with_reducible rfl) (fun b19 => ?_) (fun b19 => ?_)
                · -- if t51
                  -- region 17
                  repeat (refine awp_seq ?_)
                  refine g_eval (by simp only [gsq, gs0, gs1, gs2, gcond, gop, SG, Op.operands, Call.operands, Array.toList_append, aop, afldAddr, ajust, aload, abin, LS, SS, SX, HS, mkS_cons, mkS_nil, ↓reduceIte, eq_self', List.map_nil, beq_self_eq_true, Nat.reduceEqDiff, Nat.reduceAdd, Nat.reduceMul, Nat.reduceLT, Nat.reduceLeDiff, Nat.reducePow, Nat.reduceDiv, Nat.reduceMod, Nat.succ_ne_self, Nat.reduceBEq, Nat.reduceBNe, Tryti3, Trytz3, Trytp3, Trytk3, Tryti24, Trytf24, Trytz24, Trytp24, vint, TyS, TyF, BdS, Int.cast_ofNat_Int] <;> with_reducible rfl) (by decide) (by repeat (first | exact Fin.base _ | with_reducible apply Fin.keep | apply Fin.drop)) ?_
                  repeat (refine awp_seq ?_)
                  -- leaf 17 ret
                  refine awp_ret ⟨.inr rfl, _, rfl, ?_⟩
                  simp only [LS, SS, SX, HS, mkS_cons, mkS_nil, ↓reduceIte, eq_self', List.map_nil, beq_self_eq_true, Nat.reduceEqDiff, Nat.reduceAdd, Nat.succ_ne_self, vint, TyS, TyF, BdS]
                  simp_all [nwf]
                · -- else t51
                  -- region 18
                  repeat (refine awp_seq ?_)
                  refine e_eval (by simp only [asq, as0, as1, as2, awanted, aop, abin, ajust, LS, SS, SX, HS, mkS_cons, mkS_nil, ↓reduceIte, eq_self', List.map_nil, beq_self_eq_true, Nat.reduceEqDiff, Nat.reduceAdd, Nat.reduceMul, Nat.reduceLT, Nat.reduceLeDiff, Nat.reducePow, Nat.reduceDiv, Nat.reduceMod, Nat.succ_ne_self, Nat.reduceBEq, Nat.reduceBNe, Tryti3, Trytz3, Trytp3, Trytk3, vint, TyS, TyF, BdS, Int.cast_ofNat_Int] <;> with_reducible rfl) (by decide) ?_
                  repeat (refine awp_seq ?_)
                  refine awp_cond rfl (by simp only [LS, SS, SX, HS, mkS_cons, mkS_nil, ↓reduceIte, eq_self', List.map_nil, beq_self_eq_true, Nat.reduceEqDiff, Nat.reduceAdd, Nat.succ_ne_self, vint, TyS, TyF, BdS, Int.cast_ofNat_Int] <;> with_reducible rfl) (fun b20 => ?_) (fun b20 => ?_)
                  · -- if t60
                    -- region 19
                    repeat (refine awp_seq ?_)
                    refine g_eval (by simp only [gsq, gs0, gs1, gs2, gcond, gop, SG, Op.operands, Call.operands, Array.toList_append, aop, afldAddr, ajust, aload, abin, LS, SS, SX, HS, mkS_cons, mkS_nil, ↓reduceIte, eq_self', List.map_nil, beq_self_eq_true, Nat.reduceEqDiff, Nat.reduceAdd, Nat.reduceMul, Nat.reduceLT, Nat.reduceLeDiff, Nat.reducePow, Nat.reduceDiv, Nat.reduceMod, Nat.succ_ne_self, Nat.reduceBEq, Nat.reduceBNe, Tryti3, Trytz3, Trytp3, Trytk3, Tryti24, Trytf24, Trytz24, Trytp24, vint, TyS, TyF, BdS, Int.cast_ofNat_Int] <;> with_reducible rfl) (by decide) (by repeat (first | exact Fin.base _ | with_reducible apply Fin.keep | apply Fin.drop)) ?_
                    repeat (refine awp_seq ?_)
                    -- leaf 18 ret
                    refine awp_ret ⟨.inr rfl, _, rfl, ?_⟩
                    simp only [LS, SS, SX, HS, mkS_cons, mkS_nil, ↓reduceIte, eq_self', List.map_nil, beq_self_eq_true, Nat.reduceEqDiff, Nat.reduceAdd, Nat.succ_ne_self, vint, TyS, TyF, BdS]
                    simp_all [nwf]
                  · -- else t60
                    repeat (refine awp_seq ?_)
                    refine awp_skip ?_
                    -- region 20
                    repeat (refine awp_seq ?_)
                    refine e_eval (by simp only [asq, as0, as1, as2, awanted, aop, LS, SS, SX, HS, mkS_cons, mkS_nil, ↓reduceIte, eq_self', List.map_nil, beq_self_eq_true, Nat.reduceEqDiff, Nat.reduceAdd, Nat.reduceMul, Nat.reduceLT, Nat.reduceLeDiff, Nat.reducePow, Nat.reduceDiv, Nat.reduceMod, Nat.succ_ne_self, Nat.reduceBEq, Nat.reduceBNe, vint, TyS, TyF, BdS, Int.cast_ofNat_Int] <;> with_reducible rfl) (by decide) ?_
                    repeat (refine awp_seq ?_)
                    -- leaf 19 ret
                    refine awp_ret ⟨.inr rfl, _, rfl, ?_⟩
                    simp only [LS, SS, SX, HS, mkS_cons, mkS_nil, ↓reduceIte, eq_self', List.map_nil, beq_self_eq_true, Nat.reduceEqDiff, Nat.reduceAdd, Nat.succ_ne_self, vint, TyS, TyF, BdS]
                    simp_all [nwf]
        · -- else t22
          -- region 10
          repeat (refine awp_seq ?_)
          refine e_eval (by simp only [asq, as0, as1, as2, awanted, aop, abin, ajust, LS, SS, SX, HS, mkS_cons, mkS_nil, ↓reduceIte, eq_self', List.map_nil, beq_self_eq_true, Nat.reduceEqDiff, Nat.reduceAdd, Nat.reduceMul, Nat.reduceLT, Nat.reduceLeDiff, Nat.reducePow, Nat.reduceDiv, Nat.reduceMod, Nat.succ_ne_self, Nat.reduceBEq, Nat.reduceBNe, Tryti3, Trytz3, Trytp3, Trytk3, vint, TyS, TyF, BdS, Int.cast_ofNat_Int] <;> with_reducible rfl) (by decide) ?_
          repeat (refine awp_seq ?_)
          refine awp_cond rfl (by simp only [LS, SS, SX, HS, mkS_cons, mkS_nil, ↓reduceIte, eq_self', List.map_nil, beq_self_eq_true, Nat.reduceEqDiff, Nat.reduceAdd, Nat.succ_ne_self, vint, TyS, TyF, BdS, Int.cast_ofNat_Int] <;> with_reducible rfl) (fun b21 => ?_) (fun b21 => ?_)
          · -- if t22
            refine awp_sel [1, 3] (by simp only [LS, SS, SX, HS, mkS_cons, mkS_nil, ↓reduceIte, eq_self', List.map_nil, beq_self_eq_true, Nat.reduceEqDiff, Nat.reduceAdd, Nat.succ_ne_self, vint, TyS, TyF, BdS, Int.cast_ofNat_Int] <;> with_reducible rfl) ?_
            -- region 11
            repeat (refine awp_seq ?_)
            refine g_eval (by simp only [gsq, gs0, gs1, gs2, gcond, gop, SG, Op.operands, Call.operands, Array.toList_append, aop, afldAddr, ajust, aload, abin, LS, SS, SX, HS, mkS_cons, mkS_nil, ↓reduceIte, eq_self', List.map_nil, beq_self_eq_true, Nat.reduceEqDiff, Nat.reduceAdd, Nat.reduceMul, Nat.reduceLT, Nat.reduceLeDiff, Nat.reducePow, Nat.reduceDiv, Nat.reduceMod, Nat.succ_ne_self, Nat.reduceBEq, Nat.reduceBNe, Tryti3, Trytz3, Trytp3, Trytk3, Tryti24, Trytf24, Trytz24, Trytp24, vint, TyS, TyF, BdS, Int.cast_ofNat_Int] <;> with_reducible rfl) (by decide) (by repeat (first | exact Fin.base _ | with_reducible apply Fin.keep | apply Fin.drop)) ?_
            repeat (refine awp_seq ?_)
            -- leaf 20 ret
            refine awp_ret ⟨.inr rfl, _, rfl, ?_⟩
            simp only [LS, SS, SX, HS, mkS_cons, mkS_nil, ↓reduceIte, eq_self', List.map_nil, beq_self_eq_true, Nat.reduceEqDiff, Nat.reduceAdd, Nat.succ_ne_self, vint, TyS, TyF, BdS]
            simp_all [nwf]
          · -- else t22
            refine awp_sel [1, 3, 8] (by simp only [LS, SS, SX, HS, mkS_cons, mkS_nil, ↓reduceIte, eq_self', List.map_nil, beq_self_eq_true, Nat.reduceEqDiff, Nat.reduceAdd, Nat.succ_ne_self, vint, TyS, TyF, BdS, Int.cast_ofNat_Int] <;> with_reducible rfl) ?_
            -- region 12
            repeat (refine awp_seq ?_)
            refine e_eval (by simp only [asq, as0, as1, as2, awanted, aop, abin, ajust, LS, SS, SX, HS, mkS_cons, mkS_nil, ↓reduceIte, eq_self', List.map_nil, beq_self_eq_true, Nat.reduceEqDiff, Nat.reduceAdd, Nat.reduceMul, Nat.reduceLT, Nat.reduceLeDiff, Nat.reducePow, Nat.reduceDiv, Nat.reduceMod, Nat.succ_ne_self, Nat.reduceBEq, Nat.reduceBNe, Tryti3, Trytz3, Trytp3, Trytk3, vint, TyS, TyF, BdS, Int.cast_ofNat_Int] <;> with_reducible rfl) (by decide) ?_
            repeat (refine awp_seq ?_)
            refine awp_cond rfl (by simp only [LS, SS, SX, HS, mkS_cons, mkS_nil, ↓reduceIte, eq_self', List.map_nil, beq_self_eq_true, Nat.reduceEqDiff, Nat.reduceAdd, Nat.succ_ne_self, vint, TyS, TyF, BdS, Int.cast_ofNat_Int] <;> with_reducible rfl) (fun b22 => ?_) (fun b22 => ?_)
            · -- if t32
              -- region 13
              repeat (refine awp_seq ?_)
              refine e_eval (by simp only [asq, as0, as1, as2, awanted, aop, afldAddr, ajust, aload, abin, LS, SS, SX, HS, mkS_cons, mkS_nil, ↓reduceIte, eq_self', List.map_nil, beq_self_eq_true, Nat.reduceEqDiff, Nat.reduceAdd, Nat.reduceMul, Nat.reduceLT, Nat.reduceLeDiff, Nat.reducePow, Nat.reduceDiv, Nat.reduceMod, Nat.succ_ne_self, Nat.reduceBEq, Nat.reduceBNe, Tryti3, Trytz3, Trytp3, Trytk3, Tryti24, Trytf24, Trytz24, Trytp24, vint, TyS, TyF, BdS, Int.cast_ofNat_Int] <;> with_reducible rfl) (by decide) ?_
              repeat (refine awp_seq ?_)
              -- leaf 21 ret
              refine awp_ret ⟨.inr rfl, _, rfl, ?_⟩
              simp only [LS, SS, SX, HS, mkS_cons, mkS_nil, ↓reduceIte, eq_self', List.map_nil, beq_self_eq_true, Nat.reduceEqDiff, Nat.reduceAdd, Nat.succ_ne_self, vint, TyS, TyF, BdS]
              simp_all [nwf]
            · -- else t32
              -- region 14
              repeat (refine awp_seq ?_)
              refine e_eval (by simp only [asq, as0, as1, as2, awanted, aop, abin, ajust, LS, SS, SX, HS, mkS_cons, mkS_nil, ↓reduceIte, eq_self', List.map_nil, beq_self_eq_true, Nat.reduceEqDiff, Nat.reduceAdd, Nat.reduceMul, Nat.reduceLT, Nat.reduceLeDiff, Nat.reducePow, Nat.reduceDiv, Nat.reduceMod, Nat.succ_ne_self, Nat.reduceBEq, Nat.reduceBNe, Tryti3, Trytz3, Trytp3, Trytk3, vint, TyS, TyF, BdS, Int.cast_ofNat_Int] <;> with_reducible rfl) (by decide) ?_
              repeat (refine awp_seq ?_)
              refine awp_cond rfl (by simp only [LS, SS, SX, HS, mkS_cons, mkS_nil, ↓reduceIte, eq_self', List.map_nil, beq_self_eq_true, Nat.reduceEqDiff, Nat.reduceAdd, Nat.succ_ne_self, vint, TyS, TyF, BdS, Int.cast_ofNat_Int] <;> with_reducible rfl) (fun b23 => ?_) (fun b23 => ?_)
              · -- if t37
                -- region 15
                repeat (refine awp_seq ?_)
                refine g_eval (by simp only [gsq, gs0, gs1, gs2, gcond, gop, SG, Op.operands, Call.operands, Array.toList_append, aop, afldAddr, ajust, aload, abin, LS, SS, SX, HS, mkS_cons, mkS_nil, ↓reduceIte, eq_self', List.map_nil, beq_self_eq_true, Nat.reduceEqDiff, Nat.reduceAdd, Nat.reduceMul, Nat.reduceLT, Nat.reduceLeDiff, Nat.reducePow, Nat.reduceDiv, Nat.reduceMod, Nat.succ_ne_self, Nat.reduceBEq, Nat.reduceBNe, Tryti3, Trytz3, Trytp3, Trytk3, Tryti24, Trytf24, Trytz24, Trytp24, vint, TyS, TyF, BdS, Int.cast_ofNat_Int] <;> with_reducible rfl) (by decide) (by repeat (first | exact Fin.base _ | with_reducible apply Fin.keep | apply Fin.drop)) ?_
                repeat (refine awp_seq ?_)
                -- leaf 22 ret
                refine awp_ret ⟨.inr rfl, _, rfl, ?_⟩
                simp only [LS, SS, SX, HS, mkS_cons, mkS_nil, ↓reduceIte, eq_self', List.map_nil, beq_self_eq_true, Nat.reduceEqDiff, Nat.reduceAdd, Nat.succ_ne_self, vint, TyS, TyF, BdS]
                simp_all [nwf]
              · -- else t37
                -- region 16
                repeat (refine awp_seq ?_)
                refine e_eval (by simp only [asq, as0, as1, as2, awanted, aop, abin, ajust, LS, SS, SX, HS, mkS_cons, mkS_nil, ↓reduceIte, eq_self', List.map_nil, beq_self_eq_true, Nat.reduceEqDiff, Nat.reduceAdd, Nat.reduceMul, Nat.reduceLT, Nat.reduceLeDiff, Nat.reducePow, Nat.reduceDiv, Nat.reduceMod, Nat.succ_ne_self, Nat.reduceBEq, Nat.reduceBNe, Tryti3, Trytz3, Trytp3, Trytk3, vint, TyS, TyF, BdS, Int.cast_ofNat_Int] <;> with_reducible rfl) (by decide) ?_
                repeat (refine awp_seq ?_)
                refine awp_cond rfl (by simp only [LS, SS, SX, HS, mkS_cons, mkS_nil, ↓reduceIte, eq_self', List.map_nil, beq_self_eq_true, Nat.reduceEqDiff, Nat.reduceAdd, Nat.succ_ne_self, vint, TyS, TyF, BdS, Int.cast_ofNat_Int] <;> with_reducible rfl) (fun b24 => ?_) (fun b24 => ?_)
                · -- if t51
                  -- region 17
                  repeat (refine awp_seq ?_)
                  refine g_eval (by simp only [gsq, gs0, gs1, gs2, gcond, gop, SG, Op.operands, Call.operands, Array.toList_append, aop, afldAddr, ajust, aload, abin, LS, SS, SX, HS, mkS_cons, mkS_nil, ↓reduceIte, eq_self', List.map_nil, beq_self_eq_true, Nat.reduceEqDiff, Nat.reduceAdd, Nat.reduceMul, Nat.reduceLT, Nat.reduceLeDiff, Nat.reducePow, Nat.reduceDiv, Nat.reduceMod, Nat.succ_ne_self, Nat.reduceBEq, Nat.reduceBNe, Tryti3, Trytz3, Trytp3, Trytk3, Tryti24, Trytf24, Trytz24, Trytp24, vint, TyS, TyF, BdS, Int.cast_ofNat_Int] <;> with_reducible rfl) (by decide) (by repeat (first | exact Fin.base _ | with_reducible apply Fin.keep | apply Fin.drop)) ?_
                  repeat (refine awp_seq ?_)
                  -- leaf 23 ret
                  refine awp_ret ⟨.inr rfl, _, rfl, ?_⟩
                  simp only [LS, SS, SX, HS, mkS_cons, mkS_nil, ↓reduceIte, eq_self', List.map_nil, beq_self_eq_true, Nat.reduceEqDiff, Nat.reduceAdd, Nat.succ_ne_self, vint, TyS, TyF, BdS]
                  simp_all [nwf]
                · -- else t51
                  -- region 18
                  repeat (refine awp_seq ?_)
                  refine e_eval (by simp only [asq, as0, as1, as2, awanted, aop, abin, ajust, LS, SS, SX, HS, mkS_cons, mkS_nil, ↓reduceIte, eq_self', List.map_nil, beq_self_eq_true, Nat.reduceEqDiff, Nat.reduceAdd, Nat.reduceMul, Nat.reduceLT, Nat.reduceLeDiff, Nat.reducePow, Nat.reduceDiv, Nat.reduceMod, Nat.succ_ne_self, Nat.reduceBEq, Nat.reduceBNe, Tryti3, Trytz3, Trytp3, Trytk3, vint, TyS, TyF, BdS, Int.cast_ofNat_Int] <;> with_reducible rfl) (by decide) ?_
                  repeat (refine awp_seq ?_)
                  refine awp_cond rfl (by simp only [LS, SS, SX, HS, mkS_cons, mkS_nil, ↓reduceIte, eq_self', List.map_nil, beq_self_eq_true, Nat.reduceEqDiff, Nat.reduceAdd, Nat.succ_ne_self, vint, TyS, TyF, BdS, Int.cast_ofNat_Int] <;> with_reducible rfl) (fun b25 => ?_) (fun b25 => ?_)
                  · -- if t60
                    -- region 19
                    repeat (refine awp_seq ?_)
                    refine g_eval (by simp only [gsq, gs0, gs1, gs2, gcond, gop, SG, Op.operands, Call.operands, Array.toList_append, aop, afldAddr, ajust, aload, abin, LS, SS, SX, HS, mkS_cons, mkS_nil, ↓reduceIte, eq_self', List.map_nil, beq_self_eq_true, Nat.reduceEqDiff, Nat.reduceAdd, Nat.reduceMul, Nat.reduceLT, Nat.reduceLeDiff, Nat.reducePow, Nat.reduceDiv, Nat.reduceMod, Nat.succ_ne_self, Nat.reduceBEq, Nat.reduceBNe, Tryti3, Trytz3, Trytp3, Trytk3, Tryti24, Trytf24, Trytz24, Trytp24, vint, TyS, TyF, BdS, Int.cast_ofNat_Int] <;> with_reducible rfl) (by decide) (by repeat (first | exact Fin.base _ | with_reducible apply Fin.keep | apply Fin.drop)) ?_
                    repeat (refine awp_seq ?_)
                    -- leaf 24 ret
                    refine awp_ret ⟨.inr rfl, _, rfl, ?_⟩
                    simp only [LS, SS, SX, HS, mkS_cons, mkS_nil, ↓reduceIte, eq_self', List.map_nil, beq_self_eq_true, Nat.reduceEqDiff, Nat.reduceAdd, Nat.succ_ne_self, vint, TyS, TyF, BdS]
                    simp_all [nwf]
                  · -- else t60
                    repeat (refine awp_seq ?_)
                    refine awp_skip ?_
                    -- region 20
                    repeat (refine awp_seq ?_)
                    refine e_eval (by simp only [asq, as0, as1, as2, awanted, aop, LS, SS, SX, HS, mkS_cons, mkS_nil, ↓reduceIte, eq_self', List.map_nil, beq_self_eq_true, Nat.reduceEqDiff, Nat.reduceAdd, Nat.reduceMul, Nat.reduceLT, Nat.reduceLeDiff, Nat.reducePow, Nat.reduceDiv, Nat.reduceMod, Nat.succ_ne_self, Nat.reduceBEq, Nat.reduceBNe, vint, TyS, TyF, BdS, Int.cast_ofNat_Int] <;> with_reducible rfl) (by decide) ?_
                    repeat (refine awp_seq ?_)
                    -- leaf 25 ret
                    refine awp_ret ⟨.inr rfl, _, rfl, ?_⟩
                    simp only [LS, SS, SX, HS, mkS_cons, mkS_nil, ↓reduceIte, eq_self', List.map_nil, beq_self_eq_true, Nat.reduceEqDiff, Nat.reduceAdd, Nat.succ_ne_self, vint, TyS, TyF, BdS]
                    simp_all [nwf]
    · -- else t9
      -- region 5
      repeat (refine awp_seq ?_)
      refine e_eval (by simp only [asq, as0, as1, as2, awanted, aop, abin, ajust, LS, SS, SX, HS, mkS_cons, mkS_nil, ↓reduceIte, eq_self', List.map_nil, beq_self_eq_true, Nat.reduceEqDiff, Nat.reduceAdd, Nat.reduceMul, Nat.reduceLT, Nat.reduceLeDiff, Nat.reducePow, Nat.reduceDiv, Nat.reduceMod, Nat.succ_ne_self, Nat.reduceBEq, Nat.reduceBNe, Tryti3, Trytz3, Trytp3, Trytk3, vint, TyS, TyF, BdS, Int.cast_ofNat_Int] <;> with_reducible rfl) (by decide) ?_
      repeat (refine awp_seq ?_)
      refine awp_cond rfl (by simp only [LS, SS, SX, HS, mkS_cons, mkS_nil, ↓reduceIte, eq_self', List.map_nil, beq_self_eq_true, Nat.reduceEqDiff, Nat.reduceAdd, Nat.succ_ne_self, vint, TyS, TyF, BdS, Int.cast_ofNat_Int] <;> with_reducible rfl) (fun b26 => ?_) (fun b26 => ?_)
      · -- if t9
        repeat (refine awp_seq ?_)
        refine awp_skip ?_
        repeat (refine awp_seq ?_)
        refine awp_cond rfl (by simp only [LS, SS, SX, HS, mkS_cons, mkS_nil, ↓reduceIte, eq_self', List.map_nil, beq_self_eq_true, Nat.reduceEqDiff, Nat.reduceAdd, Nat.succ_ne_self, vint, TyS, TyF, BdS, Int.cast_ofNat_Int] <;> with_reducible rfl) (fun b27 => ?_) (fun b27 => ?_)
        · -- if t9
          -- region 8
          repeat (refine awp_seq ?_)
          refine g_eval (by simp only [gsq, gs0, gs1, gs2, gcond, gop, SG, Op.operands, Call.operands, Array.toList_append, aop, afldAddr, ajust, aload, abin, LS, SS, SX, HS, mkS_cons, mkS_nil, ↓reduceIte, eq_self', List.map_nil, beq_self_eq_true, Nat.reduceEqDiff, Nat.reduceAdd, Nat.reduceMul, Nat.reduceLT, Nat.reduceLeDiff, Nat.reducePow, Nat.reduceDiv, Nat.reduceMod, Nat.succ_ne_self, Nat.reduceBEq, Nat.reduceBNe, Tryti3, Trytz3, Trytp3, Trytk3, Tryti24, Trytf24, Trytz24, Trytp24, vint, TyS, TyF, BdS, Int.cast_ofNat_Int] <;> with_reducible rfl) (by decide) (by repeat (first | exact Fin.base _ | with_reducible apply Fin.keep | apply Fin.drop)) ?_
          repeat (refine awp_seq ?_)
          -- leaf 26 ret
          refine awp_ret ⟨.inr rfl, _, rfl, ?_⟩
          simp only [LS, SS, SX, HS, mkS_cons, mkS_nil, ↓reduceIte, eq_self', List.map_nil, beq_self_eq_true, Nat.reduceEqDiff, Nat.reduceAdd, Nat.succ_ne_self, vint, TyS, TyF, BdS]
          simp_all [nwf]
        · -- else t9
          -- region 9
          repeat (refine awp_seq ?_)
          refine e_eval (by simp only [asq, as0, as1, as2, awanted, aop, abin, ajust, LS, SS, SX, HS, mkS_cons, mkS_nil, ↓reduceIte, eq_self', List.map_nil, beq_self_eq_true, Nat.reduceEqDiff, Nat.reduceAdd, Nat.reduceMul, Nat.reduceLT, Nat.reduceLeDiff, Nat.reducePow, Nat.reduceDiv, Nat.reduceMod, Nat.succ_ne_self, Nat.reduceBEq, Nat.reduceBNe, Tryti3, Trytz3, Trytp3, Trytk3, vint, TyS, TyF, BdS, Int.cast_ofNat_Int] <;> with_reducible rfl) (by decide) ?_
          repeat (refine awp_seq ?_)
          refine awp_cond rfl (by simp only [LS, SS, SX, HS, mkS_cons, mkS_nil, ↓reduceIte, eq_self', List.map_nil, beq_self_eq_true, Nat.reduceEqDiff, Nat.reduceAdd, Nat.succ_ne_self, vint, TyS, TyF, BdS, Int.cast_ofNat_Int] <;> with_reducible rfl) (fun b28 => ?_) (fun b28 => ?_)
          · -- if t22
            repeat (refine awp_seq ?_)
            refine awp_skip ?_
            repeat (refine awp_seq ?_)
            refine awp_cond rfl (by simp only [LS, SS, SX, HS, mkS_cons, mkS_nil, ↓reduceIte, eq_self', List.map_nil, beq_self_eq_true, Nat.reduceEqDiff, Nat.reduceAdd, Nat.succ_ne_self, vint, TyS, TyF, BdS, Int.cast_ofNat_Int] <;> with_reducible rfl) (fun b29 => ?_) (fun b29 => ?_)
            · -- if t22
              refine awp_sel [1, 3] (by simp only [LS, SS, SX, HS, mkS_cons, mkS_nil, ↓reduceIte, eq_self', List.map_nil, beq_self_eq_true, Nat.reduceEqDiff, Nat.reduceAdd, Nat.succ_ne_self, vint, TyS, TyF, BdS, Int.cast_ofNat_Int] <;> with_reducible rfl) ?_
              -- region 11
              repeat (refine awp_seq ?_)
              refine g_eval (by simp only [gsq, gs0, gs1, gs2, gcond, gop, SG, Op.operands, Call.operands, Array.toList_append, aop, afldAddr, ajust, aload, abin, LS, SS, SX, HS, mkS_cons, mkS_nil, ↓reduceIte, eq_self', List.map_nil, beq_self_eq_true, Nat.reduceEqDiff, Nat.reduceAdd, Nat.reduceMul, Nat.reduceLT, Nat.reduceLeDiff, Nat.reducePow, Nat.reduceDiv, Nat.reduceMod, Nat.succ_ne_self, Nat.reduceBEq, Nat.reduceBNe, Tryti3, Trytz3, Trytp3, Trytk3, Tryti24, Trytf24, Trytz24, Trytp24, vint, TyS, TyF, BdS, Int.cast_ofNat_Int] <;> with_reducible rfl) (by decide) (by repeat (first | exact Fin.base _ | with_reducible apply Fin.keep | apply Fin.drop)) ?_
              repeat (refine awp_seq ?_)
              -- leaf 27 ret
              refine awp_ret ⟨.inr rfl, _, rfl, ?_⟩
              simp only [LS, SS, SX, HS, mkS_cons, mkS_nil, ↓reduceIte, eq_self', List.map_nil, beq_self_eq_true, Nat.reduceEqDiff, Nat.reduceAdd, Nat.succ_ne_self, vint, TyS, TyF, BdS]
              simp_all [nwf]
            · -- else t22
              refine awp_sel [1, 3, 8] (by simp only [LS, SS, SX, HS, mkS_cons, mkS_nil, ↓reduceIte, eq_self', List.map_nil, beq_self_eq_true, Nat.reduceEqDiff, Nat.reduceAdd, Nat.succ_ne_self, vint, TyS, TyF, BdS, Int.cast_ofNat_Int] <;> with_reducible rfl) ?_
              -- region 12
              repeat (refine awp_seq ?_)
              refine e_eval (by simp only [asq, as0, as1, as2, awanted, aop, abin, ajust, LS, SS, SX, HS, mkS_cons, mkS_nil, ↓reduceIte, eq_self', List.map_nil, beq_self_eq_true, Nat.reduceEqDiff, Nat.reduceAdd, Nat.reduceMul, Nat.reduceLT, Nat.reduceLeDiff, Nat.reducePow, Nat.reduceDiv, Nat.reduceMod, Nat.succ_ne_self, Nat.reduceBEq, Nat.reduceBNe, Tryti3, Trytz3, Trytp3, Trytk3, vint, TyS, TyF, BdS, Int.cast_ofNat_Int] <;> with_reducible rfl) (by decide) ?_
              repeat (refine awp_seq ?_)
              refine awp_cond rfl (by simp only [LS, SS, SX, HS, mkS_cons, mkS_nil, ↓reduceIte, eq_self', List.map_nil, beq_self_eq_true, Nat.reduceEqDiff, Nat.reduceAdd, Nat.succ_ne_self, vint, TyS, TyF, BdS, Int.cast_ofNat_Int] <;> with_reducible rfl) (fun b30 => ?_) (fun b30 => ?_)
              · -- if t32
                -- region 13
                repeat (refine awp_seq ?_)
                refine e_eval (by simp only [asq, as0, as1, as2, awanted, aop, afldAddr, ajust, aload, abin, LS, SS, SX, HS, mkS_cons, mkS_nil, ↓reduceIte, eq_self', List.map_nil, beq_self_eq_true, Nat.reduceEqDiff, Nat.reduceAdd, Nat.reduceMul, Nat.reduceLT, Nat.reduceLeDiff, Nat.reducePow, Nat.reduceDiv, Nat.reduceMod, Nat.succ_ne_self, Nat.reduceBEq, Nat.reduceBNe, Tryti3, Trytz3, Trytp3, Trytk3, Tryti24, Trytf24, Trytz24, Trytp24, vint, TyS, TyF, BdS, Int.cast_ofNat_Int] <;> with_reducible rfl) (by decide) ?_
                repeat (refine awp_seq ?_)
                -- leaf 28 ret
                refine awp_ret ⟨.inr rfl, _, rfl, ?_⟩
                simp only [LS, SS, SX, HS, mkS_cons, mkS_nil, ↓reduceIte, eq_self', List.map_nil, beq_self_eq_true, Nat.reduceEqDiff, Nat.reduceAdd, Nat.succ_ne_self, vint, TyS, TyF, BdS]
                simp_all [nwf]
              · -- else t32
                -- region 14
                repeat (refine awp_seq ?_)
                refine e_eval (by simp only [asq, as0, as1, as2, awanted, aop, abin, ajust, LS, SS, SX, HS, mkS_cons, mkS_nil, ↓reduceIte, eq_self', List.map_nil, beq_self_eq_true, Nat.reduceEqDiff, Nat.reduceAdd, Nat.reduceMul, Nat.reduceLT, Nat.reduceLeDiff, Nat.reducePow, Nat.reduceDiv, Nat.reduceMod, Nat.succ_ne_self, Nat.reduceBEq, Nat.reduceBNe, Tryti3, Trytz3, Trytp3, Trytk3, vint, TyS, TyF, BdS, Int.cast_ofNat_Int] <;> with_reducible rfl) (by decide) ?_
                repeat (refine awp_seq ?_)
                refine awp_cond rfl (by simp only [LS, SS, SX, HS, mkS_cons, mkS_nil, ↓reduceIte, eq_self', List.map_nil, beq_self_eq_true, Nat.reduceEqDiff, Nat.reduceAdd, Nat.succ_ne_self, vint, TyS, TyF, BdS, Int.cast_ofNat_Int] <;> with_reducible rfl) (fun b31 => ?_) (fun b31 => ?_)
                · -- if t37
                  -- region 15
                  repeat (refine awp_seq ?_)
                  refine g_eval (by simp only [gsq, gs0, gs1, gs2, gcond, gop, SG, Op.operands, Call.operands, Array.toList_append, aop, afldAddr, ajust, aload, abin, LS, SS, SX, HS, mkS_cons, mkS_nil, ↓reduceIte, eq_self', List.map_nil, beq_self_eq_true, Nat.reduceEqDiff, Nat.reduceAdd, Nat.reduceMul, Nat.reduceLT, Nat.reduceLeDiff, Nat.reducePow, Nat.reduceDiv, Nat.reduceMod, Nat.succ_ne_self, Nat.reduceBEq, Nat.reduceBNe, Tryti3, Trytz3, Trytp3, Trytk3, Tryti24, Trytf24, Trytz24, Trytp24, vint, TyS, TyF, BdS, Int.cast_ofNat_Int] <;> with_reducible rfl) (by decide) (by repeat (first | exact Fin.base _ | with_reducible apply Fin.keep | apply Fin.drop)) ?_
                  repeat (refine awp_seq ?_)
                  -- leaf 29 ret
                  refine awp_ret ⟨.inr rfl, _, rfl, ?_⟩
                  simp only [LS, SS, SX, HS, mkS_cons, mkS_nil, ↓reduceIte, eq_self', List.map_nil, beq_self_eq_true, Nat.reduceEqDiff, Nat.reduceAdd, Nat.succ_ne_self, vint, TyS, TyF, BdS]
                  simp_all [nwf]
                · -- else t37
                  -- region 16
                  repeat (refine awp_seq ?_)
                  refine e_eval (by simp only [asq, as0, as1, as2, awanted, aop, abin, ajust, LS, SS, SX, HS, mkS_cons, mkS_nil, ↓reduceIte, eq_self', List.map_nil, beq_self_eq_true, Nat.reduceEqDiff, Nat.reduceAdd, Nat.reduceMul, Nat.reduceLT, Nat.reduceLeDiff, Nat.reducePow, Nat.reduceDiv, Nat.reduceMod, Nat.succ_ne_self, Nat.reduceBEq, Nat.reduceBNe, Tryti3, Trytz3, Trytp3, Trytk3, vint, TyS, TyF, BdS, Int.cast_ofNat_Int] <;> with_reducible rfl) (by decide) ?_
                  repeat (refine awp_seq ?_)
                  refine awp_cond rfl (by simp only [LS, SS, SX, HS, mkS_cons, mkS_nil, ↓reduceIte, eq_self', List.map_nil, beq_self_eq_true, Nat.reduceEqDiff, Nat.reduceAdd, Nat.succ_ne_self, vint, TyS, TyF, BdS, Int.cast_ofNat_Int] <;> with_reducible rfl) (fun b32 => ?_) (fun b32 => ?_)
                  · -- if t51
                    -- region 17
                    repeat (refine awp_seq ?_)
                    refine g_eval (by simp only [gsq, gs0, gs1, gs2, gcond, gop, SG, Op.operands, Call.operands, Array.toList_append, aop, afldAddr, ajust, aload, abin, LS, SS, SX, HS, mkS_cons, mkS_nil, ↓reduceIte, eq_self', List.map_nil, beq_self_eq_true, Nat.reduceEqDiff, Nat.reduceAdd, Nat.reduceMul, Nat.reduceLT, Nat.reduceLeDiff, Nat.reducePow, Nat.reduceDiv, Nat.reduceMod, Nat.succ_ne_self, Nat.reduceBEq, Nat.reduceBNe, Tryti3, Trytz3, Trytp3, Trytk3, Tryti24, Trytf24, Trytz24, Trytp24, vint, TyS, TyF, BdS, Int.cast_ofNat_Int] <;> with_reducible rfl) (by decide) (by repeat (first | exact Fin.base _ | with_reducible apply Fin.keep | apply Fin.drop)) ?_
                    repeat (refine awp_seq ?_)
                    -- leaf 30 ret
                    refine awp_ret ⟨.inr rfl, _, rfl, ?_⟩
                    simp only [LS, SS, SX, HS, mkS_cons, mkS_nil, ↓reduceIte, eq_self', List.map_nil, beq_self_eq_true, Nat.reduceEqDiff, Nat.reduceAdd, Nat.succ_ne_self, vint, TyS, TyF, BdS]
                    simp_all [nwf]
                  · -- else t51
                    -- region 18
                    repeat (refine awp_seq ?_)
                    refine e_eval (by simp only [asq, as0, as1, as2, awanted, aop, abin, ajust, LS, SS, SX, HS, mkS_cons, mkS_nil, ↓reduceIte, eq_self', List.map_nil, beq_self_eq_true, Nat.reduceEqDiff, Nat.reduceAdd, Nat.reduceMul, Nat.reduceLT, Nat.reduceLeDiff, Nat.reducePow, Nat.reduceDiv, Nat.reduceMod, Nat.succ_ne_self, Nat.reduceBEq, Nat.reduceBNe, Tryti3, Trytz3, Trytp3, Trytk3, vint, TyS, TyF, BdS, Int.cast_ofNat_Int] <;> with_reducible rfl) (by decide) ?_
                    repeat (refine awp_seq ?_)
                    refine awp_cond rfl (by simp only [LS, SS, SX, HS, mkS_cons, mkS_nil, ↓reduceIte, eq_self', List.map_nil, beq_self_eq_true, Nat.reduceEqDiff, Nat.reduceAdd, Nat.succ_ne_self, vint, TyS, TyF, BdS, Int.cast_ofNat_Int] <;> with_reducible rfl) (fun b33 => ?_) (fun b33 => ?_)
                    · -- if t60
                      -- region 19
                      repeat (refine awp_seq ?_)
                      refine g_eval (by simp only [gsq, gs0, gs1, gs2, gcond, gop, SG, Op.operands, Call.operands, Array.toList_append, aop, afldAddr, ajust, aload, abin, LS, SS, SX, HS, mkS_cons, mkS_nil, ↓reduceIte, eq_self', List.map_nil, beq_self_eq_true, Nat.reduceEqDiff, Nat.reduceAdd, Nat.reduceMul, Nat.reduceLT, Nat.reduceLeDiff, Nat.reducePow, Nat.reduceDiv, Nat.reduceMod, Nat.succ_ne_self, Nat.reduceBEq, Nat.reduceBNe, Tryti3, Trytz3, Trytp3, Trytk3, Tryti24, Trytf24, Trytz24, Trytp24, vint, TyS, TyF, BdS, Int.cast_ofNat_Int] <;> with_reducible rfl) (by decide) (by repeat (first | exact Fin.base _ | with_reducible apply Fin.keep | apply Fin.drop)) ?_
                      repeat (refine awp_seq ?_)
                      -- leaf 31 ret
                      refine awp_ret ⟨.inr rfl, _, rfl, ?_⟩
                      simp only [LS, SS, SX, HS, mkS_cons, mkS_nil, ↓reduceIte, eq_self', List.map_nil, beq_self_eq_true, Nat.reduceEqDiff, Nat.reduceAdd, Nat.succ_ne_self, vint, TyS, TyF, BdS]
                      simp_all [nwf]
                    · -- else t60
                      repeat (refine awp_seq ?_)
                      refine awp_skip ?_
                      -- region 20
                      repeat (refine awp_seq ?_)
                      refine e_eval (by simp only [asq, as0, as1, as2, awanted, aop, LS, SS, SX, HS, mkS_cons, mkS_nil, ↓reduceIte, eq_self', List.map_nil, beq_self_eq_true, Nat.reduceEqDiff, Nat.reduceAdd, Nat.reduceMul, Nat.reduceLT, Nat.reduceLeDiff, Nat.reducePow, Nat.reduceDiv, Nat.reduceMod, Nat.succ_ne_self, Nat.reduceBEq, Nat.reduceBNe, vint, TyS, TyF, BdS, Int.cast_ofNat_Int] <;> with_reducible rfl) (by decide) ?_
                      repeat (refine awp_seq ?_)
                      -- leaf 32 ret
                      refine awp_ret ⟨.inr rfl, _, rfl, ?_⟩
                      simp only [LS, SS, SX, HS, mkS_cons, mkS_nil, ↓reduceIte, eq_self', List.map_nil, beq_self_eq_true, Nat.reduceEqDiff, Nat.reduceAdd, Nat.succ_ne_self, vint, TyS, TyF, BdS]
                      simp_all [nwf]
          · -- else t22
            refine awp_sel [1, 3, 8] (by simp only [LS, SS, SX, HS, mkS_cons, mkS_nil, ↓reduceIte, eq_self', List.map_nil, beq_self_eq_true, Nat.reduceEqDiff, Nat.reduceAdd, Nat.succ_ne_self, vint, TyS, TyF, BdS, Int.cast_ofNat_Int] <;> with_reducible rfl) ?_
            -- region 10
            repeat (refine awp_seq ?_)
            refine e_eval (by simp only [asq, as0, as1, as2, awanted, aop, abin, ajust, LS, SS, SX, HS, mkS_cons, mkS_nil, ↓reduceIte, eq_self', List.map_nil, beq_self_eq_true, Nat.reduceEqDiff, Nat.reduceAdd, Nat.reduceMul, Nat.reduceLT, Nat.reduceLeDiff, Nat.reducePow, Nat.reduceDiv, Nat.reduceMod, Nat.succ_ne_self, Nat.reduceBEq, Nat.reduceBNe, Tryti3, Trytz3, Trytp3, Trytk3, vint, TyS, TyF, BdS, Int.cast_ofNat_Int] <;> with_reducible rfl) (by decide) ?_
            repeat (refine awp_seq ?_)
            refine awp_cond rfl (by simp only [LS, SS, SX, HS, mkS_cons, mkS_nil, ↓reduceIte, eq_self', List.map_nil, beq_self_eq_true, Nat.reduceEqDiff, Nat.reduceAdd, Nat.succ_ne_self, vint, TyS, TyF, BdS, Int.cast_ofNat_Int] <;> with_reducible rfl) (fun b34 => ?_) (fun b34 => ?_)
            · -- if t22
              -- region 11
              repeat (refine awp_seq ?_)
              refine g_eval (by simp only [gsq, gs0, gs1, gs2, gcond, gop, SG, Op.operands, Call.operands, Array.toList_append, aop, afldAddr, ajust, aload, abin, LS, SS, SX, HS, mkS_cons, mkS_nil, ↓reduceIte, eq_self', List.map_nil, beq_self_eq_true, Nat.reduceEqDiff, Nat.reduceAdd, Nat.reduceMul, Nat.reduceLT, Nat.reduceLeDiff, Nat.reducePow, Nat.reduceDiv, Nat.reduceMod, Nat.succ_ne_self, Nat.reduceBEq, Nat.reduceBNe, Tryti3, Trytz3, Trytp3, Trytk3, Tryti24, Trytf24, Trytz24, Trytp24, vint, TyS, TyF, BdS, Int.cast_ofNat_Int] <;> with_reducible rfl) (by decide) (by repeat (first | exact Fin.base _ | with_reducible apply Fin.keep | apply Fin.drop)) ?_
              repeat (refine awp_seq ?_)
              -- leaf 33 ret
              refine awp_ret ⟨.inr rfl, _, rfl, ?_⟩
              simp only [LS, SS, SX, HS, mkS_cons, mkS_nil, ↓reduceIte, eq_self', List.map_nil, beq_self_eq_true, Nat.reduceEqDiff, Nat.reduceAdd, Nat.succ_ne_self, vint, TyS, TyF, BdS]
              simp_all [nwf]
            · -- else t22
              -- region 12
              repeat (refine awp_seq ?_)
              refine e_eval (by simp only [asq, as0, as1, as2, awanted, aop, abin, ajust, LS, SS, SX, HS, mkS_cons, mkS_nil, ↓reduceIte, eq_self', List.map_nil, beq_self_eq_true, Nat.reduceEqDiff, Nat.reduceAdd, Nat.reduceMul, Nat.reduceLT, Nat.reduceLeDiff, Nat.reducePow, Nat.reduceDiv, Nat.reduceMod, Nat.succ_ne_self, Nat.reduceBEq, Nat.reduceBNe, Tryti3, Trytz3, Trytp3, Trytk3, vint, TyS, TyF, BdS, Int.cast_ofNat_Int] <;> with_reducible rfl) (by decide) ?_
              repeat (refine awp_seq ?_)
              refine awp_cond rfl (by simp only [LS, SS, SX, HS, mkS_cons, mkS_nil, ↓reduceIte, eq_self', List.map_nil, beq_self_eq_true, Nat.reduceEqDiff, Nat.reduceAdd, Nat.succ_ne_self, vint, TyS, TyF, BdS, Int.cast_ofNat_Int] <;> with_reducible rfl) (fun b35 => ?_) (fun b35 => ?_)
              · -- if t32
                -- region 13
                repeat (refine awp_seq ?_)
                refine e_eval (by simp only [asq, as0, as1, as2, awanted, aop, afldAddr, ajust, aload, abin, LS, SS, SX, HS, mkS_cons, mkS_nil, ↓reduceIte, eq_self', List.map_nil, beq_self_eq_true, Nat.reduceEqDiff, Nat.reduceAdd, Nat.reduceMul, Nat.reduceLT, Nat.reduceLeDiff, Nat.reducePow, Nat.reduceDiv, Nat.reduceMod, Nat.succ_ne_self, Nat.reduceBEq, Nat.reduceBNe, Tryti3, Trytz3, Trytp3, Trytk3, Tryti24, Trytf24, Trytz24, Trytp24, vint, TyS, TyF, BdS, Int.cast_ofNat_Int] <;> with_reducible rfl) (by decide) ?_
                repeat (refine awp_seq ?_)
                -- leaf 34 ret
                refine awp_ret ⟨.inr rfl, _, rfl, ?_⟩
                simp only [LS, SS, SX, HS, mkS_cons, mkS_nil, ↓reduceIte, eq_self', List.map_nil, beq_self_eq_true, Nat.reduceEqDiff, Nat.reduceAdd, Nat.succ_ne_self, vint, TyS, TyF, BdS]
                simp_all [nwf]
              · -- else t32
                -- region 14
                repeat (refine awp_seq ?_)
                refine e_eval (by simp only [asq, as0, as1, as2, awanted, aop, abin, ajust, LS, SS, SX, HS, mkS_cons, mkS_nil, ↓reduceIte, eq_self', List.map_nil, beq_self_eq_true, Nat.reduceEqDiff, Nat.reduceAdd, Nat.reduceMul, Nat.reduceLT, Nat.reduceLeDiff, Nat.reducePow, Nat.reduceDiv, Nat.reduceMod, Nat.succ_ne_self, Nat.reduceBEq, Nat.reduceBNe, Tryti3, Trytz3, Trytp3, Trytk3, vint, TyS, TyF, BdS, Int.cast_ofNat_Int] <;> with_reducible rfl) (by decide) ?_
                repeat (refine awp_seq ?_)
                refine awp_cond rfl (by simp only [LS, SS, SX, HS, mkS_cons, mkS_nil, ↓reduceIte, eq_self', List.map_nil, beq_self_eq_true, Nat.reduceEqDiff, Nat.reduceAdd, Nat.succ_ne_self, vint, TyS, TyF, BdS, Int.cast_ofNat_Int] <;> with_reducible rfl) (fun b36 => ?_) (fun b36 => ?_)
                · -- if t37
                  -- region 15
                  repeat (refine awp_seq ?_)
                  refine g_eval (by simp only [gsq, gs0, gs1, gs2, gcond, gop, SG, Op.operands, Call.operands, Array.toList_append, aop, afldAddr, ajust, aload, abin, LS, SS, SX, HS, mkS_cons, mkS_nil, ↓reduceIte, eq_self', List.map_nil, beq_self_eq_true, Nat.reduceEqDiff, Nat.reduceAdd, Nat.reduceMul, Nat.reduceLT, Nat.reduceLeDiff, Nat.reducePow, Nat.reduceDiv, Nat.reduceMod, Nat.succ_ne_self, Nat.reduceBEq, Nat.reduceBNe, Tryti3, Trytz3, Trytp3, Trytk3, Tryti24, Trytf24, Trytz24, Trytp24, vint, TyS, TyF, BdS, Int.cast_ofNat_Int] <;> with_reducible rfl) (by decide) (by repeat (first | exact Fin.base _ | with_reducible apply Fin.keep | apply Fin.drop)) ?_
                  repeat (refine awp_seq ?_)
                  -- leaf 35 ret
                  refine awp_ret ⟨.inr rfl, _, rfl, ?_⟩
                  simp only [LS, SS, SX, HS, mkS_cons, mkS_nil, ↓reduceIte, eq_self', List.map_nil, beq_self_eq_true, Nat.reduceEqDiff, Nat.reduceAdd, Nat.succ_ne_self, vint, TyS, TyF, BdS]
                  simp_all [nwf]
                · -- else t37
                  -- region 16
                  repeat (refine awp_seq ?_)
                  refine e_eval (by simp only [asq, as0, as1, as2, awanted, aop, abin, ajust, LS, SS, SX, HS, mkS_cons, mkS_nil, ↓reduceIte, eq_self', List.map_nil, beq_self_eq_true, Nat.reduceEqDiff, Nat.reduceAdd, Nat.reduceMul, Nat.reduceLT, Nat.reduceLeDiff, Nat.reducePow, Nat.reduceDiv, Nat.reduceMod, Nat.succ_ne_self, Nat.reduceBEq, Nat.reduceBNe, Tryti3, Trytz3, Trytp3, Trytk3, vint, TyS, TyF, BdS, Int.cast_ofNat_Int] <;> with_reducible rfl) (by decide) ?_
                  repeat (refine awp_seq ?_)
                  refine awp_cond rfl (by simp only [LS, SS, SX, HS, mkS_cons, mkS_nil, ↓reduceIte, eq_self', List.map_nil, beq_self_eq_true, Nat.reduceEqDiff, Nat.reduceAdd, Nat.succ_ne_self, vint, TyS, TyF, BdS, Int.cast_ofNat_Int] <;> with_reducible rfl) (fun b37 => ?_) (fun b37 => ?_)
                  · -- if t51
                    -- region 17
                    repeat (refine awp_seq ?_)
                    refine g_eval (by simp only [gsq, gs0, gs1, gs2, gcond, gop, SG, Op.operands, Call.operands, Array.toList_append, aop, afldAddr, ajust, aload, abin, LS, SS, SX, HS, mkS_cons, mkS_nil, ↓reduceIte, eq_self', List.map_nil, beq_self_eq_true, Nat.reduceEqDiff, Nat.reduceAdd, Nat.reduceMul, Nat.reduceLT, Nat.reduceLeDiff, Nat.reducePow, Nat.reduceDiv, Nat.reduceMod, Nat.succ_ne_self, Nat.reduceBEq, Nat.reduceBNe, Tryti3, Trytz3, Trytp3, Trytk3, Tryti24, Trytf24, Trytz24, Trytp24, vint, TyS, TyF, BdS, Int.cast_ofNat_Int] <;> with_reducible rfl) (by decide) (by repeat (first | exact Fin.base _ | with_reducible apply Fin.keep | apply Fin.drop)) ?_
                    repeat (refine awp_seq ?_)
                    -- leaf 36 ret
                    refine awp_ret ⟨.inr rfl, _, rfl, ?_⟩
                    simp only [LS, SS, SX, HS, mkS_cons, mkS_nil, ↓reduceIte, eq_self', List.map_nil, beq_self_eq_true, Nat.reduceEqDiff, Nat.reduceAdd, Nat.succ_ne_self, vint, TyS, TyF, BdS]
                    simp_all [nwf]
                  · -- else t51
                    -- region 18
                    repeat (refine awp_seq ?_)
                    refine e_eval (by simp only [asq, as0, as1, as2, awanted, aop, abin, ajust, LS, SS, SX, HS, mkS_cons, mkS_nil, ↓reduceIte, eq_self', List.map_nil, beq_self_eq_true, Nat.reduceEqDiff, Nat.reduceAdd, Nat.reduceMul, Nat.reduceLT, Nat.reduceLeDiff, Nat.reducePow, Nat.reduceDiv, Nat.reduceMod, Nat.succ_ne_self, Nat.reduceBEq, Nat.reduceBNe, Tryti3, Trytz3, Trytp3, Trytk3, vint, TyS, TyF, BdS, Int.cast_ofNat_Int] <;> with_reducible rfl) (by decide) ?_
                    repeat (refine awp_seq ?_)
                    refine awp_cond rfl (by simp only [LS, SS, SX, HS, mkS_cons, mkS_nil, ↓reduceIte, eq_self', List.map_nil, beq_self_eq_true, Nat.reduceEqDiff, Nat.reduceAdd, Nat.succ_ne_self, vint, TyS, TyF, BdS, Int.cast_ofNat_Int] <;> with_reducible rfl) (fun b38 => ?_) (fun b38 => ?_)
                    · -- if t60
                      -- region 19
                      repeat (refine awp_seq ?_)
                      refine g_eval (by simp only [gsq, gs0, gs1, gs2, gcond, gop, SG, Op.operands, Call.operands, Array.toList_append, aop, afldAddr, ajust, aload, abin, LS, SS, SX, HS, mkS_cons, mkS_nil, ↓reduceIte, eq_self', List.map_nil, beq_self_eq_true, Nat.reduceEqDiff, Nat.reduceAdd, Nat.reduceMul, Nat.reduceLT, Nat.reduceLeDiff, Nat.reducePow, Nat.reduceDiv, Nat.reduceMod, Nat.succ_ne_self, Nat.reduceBEq, Nat.reduceBNe, Tryti3, Trytz3, Trytp3, Trytk3, Tryti24, Trytf24, Trytz24, Trytp24, vint, TyS, TyF, BdS, Int.cast_ofNat_Int] <;> with_reducible rfl) (by decide) (by repeat (first | exact Fin.base _ | with_reducible apply Fin.keep | apply Fin.drop)) ?_
                      repeat (refine awp_seq ?_)
                      -- leaf 37 ret
                      refine awp_ret ⟨.inr rfl, _, rfl, ?_⟩
                      simp only [LS, SS, SX, HS, mkS_cons, mkS_nil, ↓reduceIte, eq_self', List.map_nil, beq_self_eq_true, Nat.reduceEqDiff, Nat.reduceAdd, Nat.succ_ne_self, vint, TyS, TyF, BdS]
                      simp_all [nwf]
                    · -- else t60
                      repeat (refine awp_seq ?_)
                      refine awp_skip ?_
                      -- region 20
                      repeat (refine awp_seq ?_)
                      refine e_eval (by simp only [asq, as0, as1, as2, awanted, aop, LS, SS, SX, HS, mkS_cons, mkS_nil, ↓reduceIte, eq_self', List.map_nil, beq_self_eq_true, Nat.reduceEqDiff, Nat.reduceAdd, Nat.reduceMul, Nat.reduceLT, Nat.reduceLeDiff, Nat.reducePow, Nat.reduceDiv, Nat.reduceMod, Nat.succ_ne_self, Nat.reduceBEq, Nat.reduceBNe, vint, TyS, TyF, BdS, Int.cast_ofNat_Int] <;> with_reducible rfl) (by decide) ?_
                      repeat (refine awp_seq ?_)
                      -- leaf 38 ret
                      refine awp_ret ⟨.inr rfl, _, rfl, ?_⟩
                      simp only [LS, SS, SX, HS, mkS_cons, mkS_nil, ↓reduceIte, eq_self', List.map_nil, beq_self_eq_true, Nat.reduceEqDiff, Nat.reduceAdd, Nat.succ_ne_self, vint, TyS, TyF, BdS]
                      simp_all [nwf]
      · -- else t9
        -- region 6
        repeat (refine awp_seq ?_)
        refine e_eval (by simp only [asq, as0, as1, as2, awanted, aop, abin, ajust, LS, SS, SX, HS, mkS_cons, mkS_nil, ↓reduceIte, eq_self', List.map_nil, beq_self_eq_true, Nat.reduceEqDiff, Nat.reduceAdd, Nat.reduceMul, Nat.reduceLT, Nat.reduceLeDiff, Nat.reducePow, Nat.reduceDiv, Nat.reduceMod, Nat.succ_ne_self, Nat.reduceBEq, Nat.reduceBNe, Tryti3, Trytz3, Trytp3, Trytk3, vint, TyS, TyF, BdS, Int.cast_ofNat_Int] <;> with_reducible rfl) (by decide) ?_
        repeat (refine awp_seq ?_)
        refine awp_cond rfl (by simp only [LS, SS, SX, HS, mkS_cons, mkS_nil, ↓reduceIte, eq_self', List.map_nil, beq_self_eq_true, Nat.reduceEqDiff, Nat.reduceAdd, Nat.succ_ne_self, vint, TyS, TyF, BdS, Int.cast_ofNat_Int] <;> with_reducible rfl) (fun b39 => ?_) (fun b39 => ?_)
        · -- if t9
          repeat (refine awp_seq ?_)
          refine awp_skip ?_
          repeat (refine awp_seq ?_)
          refine awp_cond rfl (by simp only [LS, SS, SX, HS, mkS_cons, mkS_nil, ↓reduceIte, eq_self', List.map_nil, beq_self_eq_true, Nat.reduceEqDiff, Nat.reduceAdd, Nat.succ_ne_self, vint, TyS, TyF, BdS, Int.cast_ofNat_Int] <;> with_reducible rfl) (fun b40 => ?_) (fun b40 => ?_)
          · -- if t9
            refine awp_sel [1, 3] (by simp only [LS, SS, SX, HS, mkS_cons, mkS_nil, ↓reduceIte, eq_self', List.map_nil, beq_self_eq_true, Nat.reduceEqDiff, Nat.reduceAdd, Nat.succ_ne_self, vint, TyS, TyF, BdS, Int.cast_ofNat_Int] <;> with_reducible rfl) ?_
            -- region 8
            repeat (refine awp_seq ?_)
            refine g_eval (by simp only [gsq, gs0, gs1, gs2, gcond, gop, SG, Op.operands, Call.operands, Array.toList_append, aop, afldAddr, ajust, aload, abin, LS, SS, SX, HS, mkS_cons, mkS_nil, ↓reduceIte, eq_self', List.map_nil, beq_self_eq_true, Nat.reduceEqDiff, Nat.reduceAdd, Nat.reduceMul, Nat.reduceLT, Nat.reduceLeDiff, Nat.reducePow, Nat.reduceDiv, Nat.reduceMod, Nat.succ_ne_self, Nat.reduceBEq, Nat.reduceBNe, Tryti3, Trytz3, Trytp3, Trytk3, Tryti24, Trytf24, Trytz24, Trytp24, vint, TyS, TyF, BdS, Int.cast_ofNat_Int] <;> with_reducible rfl) (by decide) (by repeat (first | exact Fin.base _ | with_reducible apply Fin.keep | apply Fin.drop)) ?_
            repeat (refine awp_seq ?_)
            -- leaf 39 ret
            refine awp_ret ⟨.inr rfl, _, rfl, ?_⟩
            simp only [LS, SS, SX, HS, mkS_cons, mkS_nil, ↓reduceIte, eq_self', List.map_nil, beq_self_eq_true, Nat.reduceEqDiff, Nat.reduceAdd, Nat.succ_ne_self, vint, TyS, TyF, BdS]
            simp_all [nwf]
          · -- else t9
            refine awp_sel [1, 3, 8] (by simp only [LS, SS, SX, HS, mkS_cons, mkS_nil, ↓reduceIte, eq_self', List.map_nil, beq_self_eq_true, Nat.reduceEqDiff, Nat.reduceAdd, Nat.succ_ne_self, vint, TyS, TyF, BdS, Int.cast_ofNat_Int] <;> with_reducible rfl) ?_
            -- region 9
            repeat (refine awp_seq ?_)
            refine e_eval (by simp only [asq, as0, as1, as2, awanted, aop, abin, ajust, LS, SS, SX, HS, mkS_cons, mkS_nil, ↓reduceIte, eq_self', List.map_nil, beq_self_eq_true, Nat.reduceEqDiff, Nat.reduceAdd, Nat.reduceMul, Nat.reduceLT, Nat.reduceLeDiff, Nat.reducePow, Nat.reduceDiv, Nat.reduceMod, Nat.succ_ne_self, Nat.reduceBEq, Nat.reduceBNe, Tryti3, Trytz3, Trytp3, Trytk3, vint, TyS, TyF, BdS, Int.cast_ofNat_Int] <;> with_reducible rfl) (by decide) ?_
            repeat (refine awp_seq ?_)
            refine awp_cond rfl (by simp only [LS, SS, SX, HS, mkS_cons, mkS_nil, ↓reduceIte, eq_self', List.map_nil, beq_self_eq_true, Nat.reduceEqDiff, Nat.reduceAdd, Nat.succ_ne_self, vint, TyS, TyF, BdS, Int.cast_ofNat_Int] <;> with_reducible rfl) (fun b41 => ?_) (fun b41 => ?_)
            · -- if t22
              repeat (refine awp_seq ?_)
              refine awp_skip ?_
              repeat (refine awp_seq ?_)
              refine awp_cond rfl (by simp only [LS, SS, SX, HS, mkS_cons, mkS_nil, ↓reduceIte, eq_self', List.map_nil, beq_self_eq_true, Nat.reduceEqDiff, Nat.reduceAdd, Nat.succ_ne_self, vint, TyS, TyF, BdS, Int.cast_ofNat_Int] <;> with_reducible rfl) (fun b42 => ?_) (fun b42 => ?_)
              · -- if t22
                -- region 11
                repeat (refine awp_seq ?_)
                refine g_eval (by simp only [gsq, gs0, gs1, gs2, gcond, gop, SG, Op.operands, Call.operands, Array.toList_append, aop, afldAddr, ajust, aload, abin, LS, SS, SX, HS, mkS_cons, mkS_nil, ↓reduceIte, eq_self', List.map_nil, beq_self_eq_true, Nat.reduceEqDiff, Nat.reduceAdd, Nat.reduceMul, Nat.reduceLT, Nat.reduceLeDiff, Nat.reducePow, Nat.reduceDiv, Nat.reduceMod, Nat.succ_ne_self, Nat.reduceBEq, Nat.reduceBNe, Tryti3, Trytz3, Trytp3, Trytk3, Tryti24, Trytf24, Trytz24, Trytp24, vint, TyS, TyF, BdS, Int.cast_ofNat_Int] <;> with_reducible rfl) (by decide) (by repeat (first | exact Fin.base _ | with_reducible apply Fin.keep | apply Fin.drop)) ?_
                repeat (refine awp_seq ?_)
                -- leaf 40 ret
                refine awp_ret ⟨.inr rfl, _, rfl, ?_⟩
                simp only [LS, SS, SX, HS, mkS_cons, mkS_nil, ↓reduceIte, eq_self', List.map_nil, beq_self_eq_true, Nat.reduceEqDiff, Nat.reduceAdd, Nat.succ_ne_self, vint, TyS, TyF, BdS]
                simp_all [nwf]
              · -- else t22
                -- region 12
                repeat (refine awp_seq ?_)
                refine e_eval (by simp only [asq, as0, as1, as2, awanted, aop, abin, ajust, LS, SS, SX, HS, mkS_cons, mkS_nil, ↓reduceIte, eq_self', List.map_nil, beq_self_eq_true, Nat.reduceEqDiff, Nat.reduceAdd, Nat.reduceMul, Nat.reduceLT, Nat.reduceLeDiff, Nat.reducePow, Nat.reduceDiv, Nat.reduceMod, Nat.succ_ne_self, Nat.reduceBEq, Nat.reduceBNe, Tryti3, Trytz3, Trytp3, Trytk3, vint, TyS, TyF, BdS, Int.cast_ofNat_Int] <;> with_reducible rfl) (by decide) ?_
                repeat (refine awp_seq ?_)
                refine awp_cond rfl (by simp only [LS, SS, SX, HS, mkS_cons, mkS_nil, ↓reduceIte, eq_self', List.map_nil, beq_self_eq_true, Nat.reduceEqDiff, Nat.reduceAdd, Nat.succ_ne_self, vint, TyS, TyF, BdS, Int.cast_ofNat_Int] <;> with_reducible rfl) (fun b43 => ?_) (fun b43 => ?_)
                · -- if t32
                  -- region 13
                  repeat (refine awp_seq ?_)
                  refine e_eval (by simp only [asq, as0, as1, as2, awanted, aop, afldAddr, ajust, aload, abin, LS, SS, SX, HS, mkS_cons, mkS_nil, ↓reduceIte, eq_self', List.map_nil, beq_self_eq_true, Nat.reduceEqDiff, Nat.reduceAdd, Nat.reduceMul, Nat.reduceLT, Nat.reduceLeDiff, Nat.reducePow, Nat.reduceDiv, Nat.reduceMod, Nat.succ_ne_self, Nat.reduceBEq, Nat.reduceBNe, Tryti3, Trytz3, Trytp3, Trytk3, Tryti24, Trytf24, Trytz24, Trytp24, vint, TyS, TyF, BdS, Int.cast_ofNat_Int] <;> with_reducible rfl) (by decide) ?_
                  repeat (refine awp_seq ?_)
                  -- leaf 41 ret
                  refine awp_ret ⟨.inr rfl, _, rfl, ?_⟩
                  simp only [LS, SS, SX, HS, mkS_cons, mkS_nil, ↓reduceIte, eq_self', List.map_nil, beq_self_eq_true, Nat.reduceEqDiff, Nat.reduceAdd, Nat.succ_ne_self, vint, TyS, TyF, BdS]
                  simp_all [nwf]
                · -- else t32
                  -- region 14
                  repeat (refine awp_seq ?_)
                  refine e_eval (by simp only [asq, as0, as1, as2, awanted, aop, abin, ajust, LS, SS, SX, HS, mkS_cons, mkS_nil, ↓reduceIte, eq_self', List.map_nil, beq_self_eq_true, Nat.reduceEqDiff, Nat.reduceAdd, Nat.reduceMul, Nat.reduceLT, Nat.reduceLeDiff, Nat.reducePow, Nat.reduceDiv, Nat.reduceMod, Nat.succ_ne_self, Nat.reduceBEq, Nat.reduceBNe, Tryti3, Trytz3, Trytp3, Trytk3, vint, TyS, TyF, BdS, Int.cast_ofNat_Int] <;> with_reducible rfl) (by decide) ?_
                  repeat (refine awp_seq ?_)
                  refine awp_cond rfl (by simp only [LS, SS, SX, HS, mkS_cons, mkS_nil, ↓reduceIte, eq_self', List.map_nil, beq_self_eq_true, Nat.reduceEqDiff, Nat.reduceAdd, Nat.succ_ne_self, vint, TyS, TyF, BdS, Int.cast_ofNat_Int] <;> with_reducible rfl) (fun b44 => ?_) (fun b44 => ?_)
                  · -- if t37
                    -- region 15
                    repeat (refine awp_seq ?_)
                    refine g_eval (by simp only [gsq, gs0, gs1, gs2, gcond, gop, SG, Op.operands, Call.operands, Array.toList_append, aop, afldAddr, ajust, aload, abin, LS, SS, SX, HS, mkS_cons, mkS_nil, ↓reduceIte, eq_self', List.map_nil, beq_self_eq_true, Nat.reduceEqDiff, Nat.reduceAdd, Nat.reduceMul, Nat.reduceLT, Nat.reduceLeDiff, Nat.reducePow, Nat.reduceDiv, Nat.reduceMod, Nat.succ_ne_self, Nat.reduceBEq, Nat.reduceBNe, Tryti3, Trytz3, Trytp3, Trytk3, Tryti24, Trytf24, Trytz24, Trytp24, vint, TyS, TyF, BdS, Int.cast_ofNat_Int] <;> with_reducible rfl) (by decide) (by repeat (first | exact Fin.base _ | with_reducible apply Fin.keep | apply Fin.drop)) ?_
                    repeat (refine awp_seq ?_)
                    -- leaf 42 ret
                    refine awp_ret ⟨.inr rfl, _, rfl, ?_⟩
                    simp only [LS, SS, SX, HS, mkS_cons, mkS_nil, ↓reduceIte, eq_self', List.map_nil, beq_self_eq_true, Nat.reduceEqDiff, Nat.reduceAdd, Nat.succ_ne_self, vint, TyS, TyF, BdS]
                    simp_all [nwf]
                  · -- else t37
                    -- region 16
                    repeat (refine awp_seq ?_)
                    refine e_eval (by simp only [asq, as0, as1, as2, awanted, aop, abin, ajust, LS, SS, SX, HS, mkS_cons, mkS_nil, ↓reduceIte, eq_self', List.map_nil, beq_self_eq_true, Nat.reduceEqDiff, Nat.reduceAdd, Nat.reduceMul, Nat.reduceLT, Nat.reduceLeDiff, Nat.reducePow, Nat.reduceDiv, Nat.reduceMod, Nat.succ_ne_self, Nat.reduceBEq, Nat.reduceBNe, Tryti3, Trytz3, Trytp3, Trytk3, vint, TyS, TyF, BdS, Int.cast_ofNat_Int] <;> with_reducible rfl) (by decide) ?_
                    repeat (refine awp_seq ?_)
                    refine awp_cond rfl (by simp only [LS, SS, SX, HS, mkS_cons, mkS_nil, ↓reduceIte, eq_self', List.map_nil, beq_self_eq_true, Nat.reduceEqDiff, Nat.reduceAdd, Nat.succ_ne_self, vint, TyS, TyF, BdS, Int.cast_ofNat_Int] <;> with_reducible rfl) (fun b45 => ?_) (fun b45 => ?_)
                    · -- if t51
                      -- region 17
                      repeat (refine awp_seq ?_)
                      refine g_eval (by simp only [gsq, gs0, gs1, gs2, gcond, gop, SG, Op.operands, Call.operands, Array.toList_append, aop, afldAddr, ajust, aload, abin, LS, SS, SX, HS, mkS_cons, mkS_nil, ↓reduceIte, eq_self', List.map_nil, beq_self_eq_true, Nat.reduceEqDiff, Nat.reduceAdd, Nat.reduceMul, Nat.reduceLT, Nat.reduceLeDiff, Nat.reducePow, Nat.reduceDiv, Nat.reduceMod, Nat.succ_ne_self, Nat.reduceBEq, Nat.reduceBNe, Tryti3, Trytz3, Trytp3, Trytk3, Tryti24, Trytf24, Trytz24, Trytp24, vint, TyS, TyF, BdS, Int.cast_ofNat_Int] <;> with_reducible rfl) (by decide) (by repeat (first | exact Fin.base _ | with_reducible apply Fin.keep | apply Fin.drop)) ?_
                      repeat (refine awp_seq ?_)
                      -- leaf 43 ret
                      refine awp_ret ⟨.inr rfl, _, rfl, ?_⟩
                      simp only [LS, SS, SX, HS, mkS_cons, mkS_nil, ↓reduceIte, eq_self', List.map_nil, beq_self_eq_true, Nat.reduceEqDiff, Nat.reduceAdd, Nat.succ_ne_self, vint, TyS, TyF, BdS]
                      simp_all [nwf]
                    · -- else t51
                      -- region 18
                      repeat (refine awp_seq ?_)
                      refine e_eval (by simp only [asq, as0, as1, as2, awanted, aop, abin, ajust, LS, SS, SX, HS, mkS_cons, mkS_nil, ↓reduceIte, eq_self', List.map_nil, beq_self_eq_true, Nat.reduceEqDiff, Nat.reduceAdd, Nat.reduceMul, Nat.reduceLT, Nat.reduceLeDiff, Nat.reducePow, Nat.reduceDiv, Nat.reduceMod, Nat.succ_ne_self, Nat.reduceBEq, Nat.reduceBNe, Tryti3, Trytz3, Trytp3, Trytk3, vint, TyS, TyF, BdS, Int.cast_ofNat_Int] <;> with_reducible rfl) (by decide) ?_
                      repeat (refine awp_seq ?_)
                      refine awp_cond rfl (by simp only [LS, SS, SX, HS, mkS_cons, mkS_nil, ↓reduceIte, eq_self', List.map_nil, beq_self_eq_true, Nat.reduceEqDiff, Nat.reduceAdd, Nat.succ_ne_self, vint, TyS, TyF, BdS, Int.cast_ofNat_Int] <;> with_reducible rfl) (fun b46 => ?_) (fun b46 => ?_)
                      · -- if t60
                        -- region 19
                        repeat (refine awp_seq ?_)
                        refine g_eval (by simp only [gsq, gs0, gs1, gs2, gcond, gop, SG, Op.operands, Call.operands, Array.toList_append, aop, afldAddr, ajust, aload, abin, LS, SS, SX, HS, mkS_cons, mkS_nil, ↓reduceIte, eq_self', List.map_nil, beq_self_eq_true, Nat.reduceEqDiff, Nat.reduceAdd, Nat.reduceMul, Nat.reduceLT, Nat.reduceLeDiff, Nat.reducePow, Nat.reduceDiv, Nat.reduceMod, Nat.succ_ne_self, Nat.reduceBEq, Nat.reduceBNe, Tryti3, Trytz3, Trytp3, Trytk3, Tryti24, Trytf24, Trytz24, Trytp24, vint, TyS, TyF, BdS, Int.cast_ofNat_Int] <;> with_reducible rfl) (by decide) (by repeat (first | exact Fin.base _ | with_reducible apply Fin.keep | apply Fin.drop)) ?_
                        repeat (refine awp_seq ?_)
                        -- leaf 44 ret
                        refine awp_ret ⟨.inr rfl, _, rfl, ?_⟩
                        simp only [LS, SS, SX, HS, mkS_cons, mkS_nil, ↓reduceIte, eq_self', List.map_nil, beq_self_eq_true, Nat.reduceEqDiff, Nat.reduceAdd, Nat.succ_ne_self, vint, TyS, TyF, BdS]
                        simp_all [nwf]
                      · -- else t60
                        repeat (refine awp_seq ?_)
                        refine awp_skip ?_
                        -- region 20
                        repeat (refine awp_seq ?_)
                        refine e_eval (by simp only [asq, as0, as1, as2, awanted, aop, LS, SS, SX, HS, mkS_cons, mkS_nil, ↓reduceIte, eq_self', List.map_nil, beq_self_eq_true, Nat.reduceEqDiff, Nat.reduceAdd, Nat.reduceMul, Nat.reduceLT, Nat.reduceLeDiff, Nat.reducePow, Nat.reduceDiv, Nat.reduceMod, Nat.succ_ne_self, Nat.reduceBEq, Nat.reduceBNe, vint, TyS, TyF, BdS, Int.cast_ofNat_Int] <;> with_reducible rfl) (by decide) ?_
                        repeat (refine awp_seq ?_)
                        -- leaf 45 ret
                        refine awp_ret ⟨.inr rfl, _, rfl, ?_⟩
                        simp only [LS, SS, SX, HS, mkS_cons, mkS_nil, ↓reduceIte, eq_self', List.map_nil, beq_self_eq_true, Nat.reduceEqDiff, Nat.reduceAdd, Nat.succ_ne_self, vint, TyS, TyF, BdS]
                        simp_all [nwf]
            · -- else t22
              -- region 10
              repeat (refine awp_seq ?_)
              refine e_eval (by simp only [asq, as0, as1, as2, awanted, aop, abin, ajust, LS, SS, SX, HS, mkS_cons, mkS_nil, ↓reduceIte, eq_self', List.map_nil, beq_self_eq_true, Nat.reduceEqDiff, Nat.reduceAdd, Nat.reduceMul, Nat.reduceLT, Nat.reduceLeDiff, Nat.reducePow, Nat.reduceDiv, Nat.reduceMod, Nat.succ_ne_self, Nat.reduceBEq, Nat.reduceBNe, Tryti3, Trytz3, Trytp3, Trytk3, vint, TyS, TyF, BdS, Int.cast_ofNat_Int] <;> with_reducible rfl) (by decide) ?_
              repeat (refine awp_seq ?_)
              refine awp_cond rfl (by simp only [LS, SS, SX, HS, mkS_cons, mkS_nil, ↓reduceIte, eq_self', List.map_nil, beq_self_eq_true, Nat.reduceEqDiff, Nat.reduceAdd, Nat.succ_ne_self, vint, TyS, TyF, BdS, Int.cast_ofNat_Int] <;> with_reducible rfl) (fun b47 => ?_) (fun b47 => ?_)
              · -- if t22
                -- region 11
                repeat (refine awp_seq ?_)
                refine g_eval (by simp only [gsq, gs0, gs1, gs2, gcond, gop, SG, Op.operands, Call.operands, Array.toList_append, aop, afldAddr, ajust, aload, abin, LS, SS, SX, HS, mkS_cons, mkS_nil, ↓reduceIte, eq_self', List.map_nil, beq_self_eq_true, Nat.reduceEqDiff, Nat.reduceAdd, Nat.reduceMul, Nat.reduceLT, Nat.reduceLeDiff, Nat.reducePow, Nat.reduceDiv, Nat.reduceMod, Nat.succ_ne_self, Nat.reduceBEq, Nat.reduceBNe, Tryti3, Trytz3, Trytp3, Trytk3, Tryti24, Trytf24, Trytz24, Trytp24, vint, TyS, TyF, BdS, Int.cast_ofNat_Int] <;> with_reducible rfl) (by decide) (by repeat (first | exact Fin.base _ | with_reducible apply Fin.keep | apply Fin.drop)) ?_
                repeat (refine awp_seq ?_)
                -- leaf 46 ret
                refine awp_ret ⟨.inr rfl, _, rfl, ?_⟩
                simp only [LS, SS, SX, HS, mkS_cons, mkS_nil, ↓reduceIte, eq_self', List.map_nil, beq_self_eq_true, Nat.reduceEqDiff, Nat.reduceAdd, Nat.succ_ne_self, vint, TyS, TyF, BdS]
                simp_all [nwf]
              · -- else t22
                -- region 12
                repeat (refine awp_seq ?_)
                refine e_eval (by simp only [asq, as0, as1, as2, awanted, aop, abin, ajust, LS, SS, SX, HS, mkS_cons, mkS_nil, ↓reduceIte, eq_self', List.map_nil, beq_self_eq_true, Nat.reduceEqDiff, Nat.reduceAdd, Nat.reduceMul, Nat.reduceLT, Nat.reduceLeDiff, Nat.reducePow, Nat.reduceDiv, Nat.reduceMod, Nat.succ_ne_self, Nat.reduceBEq, Nat.reduceBNe, Tryti3, Trytz3, Trytp3, Trytk3, vint, TyS, TyF, BdS, Int.cast_ofNat_Int] <;> with_reducible rfl) (by decide) ?_
                repeat (refine awp_seq ?_)
                refine awp_cond rfl (by simp only [LS, SS, SX, HS, mkS_cons, mkS_nil, ↓reduceIte, eq_self', List.map_nil, beq_self_eq_true, Nat.reduceEqDiff, Nat.reduceAdd, Nat.succ_ne_self, vint, TyS, TyF, BdS, Int.cast_ofNat_Int] <;> with_reducible rfl) (fun b48 => ?_) (fun b48 => ?_)
                · -- if t32
                  -- region 13
                  repeat (refine awp_seq ?_)
                  refine e_eval (by simp only [asq, as0, as1, as2, awanted, aop, afldAddr, ajust, aload, abin, LS, SS, SX, HS, mkS_cons, mkS_nil, ↓reduceIte, eq_self', List.map_nil, beq_self_eq_true, Nat.reduceEqDiff, Nat.reduceAdd, Nat.reduceMul, Nat.reduceLT, Nat.reduceLeDiff, Nat.reducePow, Nat.reduceDiv, Nat.reduceMod, Nat.succ_ne_self, Nat.reduceBEq, Nat.reduceBNe, Tryti3, Trytz3, Trytp3, Trytk3, Tryti24, Trytf24, Trytz24, Trytp24, vint, TyS, TyF, BdS, Int.cast_ofNat_Int] <;> with_reducible rfl) (by decide) ?_
                  repeat (refine awp_seq ?_)
                  -- leaf 47 ret
                  refine awp_ret ⟨.inr rfl, _, rfl, ?_⟩
                  simp only [LS, SS, SX, HS, mkS_cons, mkS_nil, ↓reduceIte, eq_self', List.map_nil, beq_self_eq_true, Nat.reduceEqDiff, Nat.reduceAdd, Nat.succ_ne_self, vint, TyS, TyF, BdS]
                  simp_all [nwf]
                · -- else t32
                  -- region 14
                  repeat (refine awp_seq ?_)
                  refine e_eval (by simp only [asq, as0, as1, as2, awanted, aop, abin, ajust, LS, SS, SX, HS, mkS_cons, mkS_nil, ↓reduceIte, eq_self', List.map_nil, beq_self_eq_true, Nat.reduceEqDiff, Nat.reduceAdd, Nat.reduceMul, Nat.reduceLT, Nat.reduceLeDiff, Nat.reducePow, Nat.reduceDiv, Nat.reduceMod, Nat.succ_ne_self, Nat.reduceBEq, Nat.reduceBNe, Tryti3, Trytz3, Trytp3, Trytk3, vint, TyS, TyF, BdS, Int.cast_ofNat_Int] <;> with_reducible rfl) (by decide) ?_
                  repeat (refine awp_seq ?_)
                  refine awp_cond rfl (by simp only [LS, SS, SX, HS, mkS_cons, mkS_nil, ↓reduceIte, eq_self', List.map_nil, beq_self_eq_true, Nat.reduceEqDiff, Nat.reduceAdd, Nat.succ_ne_self, vint, TyS, TyF, BdS, Int.cast_ofNat_Int] <;> with_reducible rfl) (fun b49 => ?_) (fun b49 => ?_)
                  · -- if t37
                    -- region 15
                    repeat (refine awp_seq ?_)
                    refine g_eval (by simp only [gsq, gs0, gs1, gs2, gcond, gop, SG, Op.operands, Call.operands, Array.toList_append, aop, afldAddr, ajust, aload, abin, LS, SS, SX, HS, mkS_cons, mkS_nil, ↓reduceIte, eq_self', List.map_nil, beq_self_eq_true, Nat.reduceEqDiff, Nat.reduceAdd, Nat.reduceMul, Nat.reduceLT, Nat.reduceLeDiff, Nat.reducePow, Nat.reduceDiv, Nat.reduceMod, Nat.succ_ne_self, Nat.reduceBEq, Nat.reduceBNe, Tryti3, Trytz3, Trytp3, Trytk3, Tryti24, Trytf24, Trytz24, Trytp24, vint, TyS, TyF, BdS, Int.cast_ofNat_Int] <;> with_reducible rfl) (by decide) (by repeat (first | exact Fin.base _ | with_reducible apply Fin.keep | apply Fin.drop)) ?_
                    repeat (refine awp_seq ?_)
                    -- leaf 48 ret
                    refine awp_ret ⟨.inr rfl, _, rfl, ?_⟩
                    simp only [LS, SS, SX, HS, mkS_cons, mkS_nil, ↓reduceIte, eq_self', List.map_nil, beq_self_eq_true, Nat.reduceEqDiff, Nat.reduceAdd, Nat.succ_ne_self, vint, TyS, TyF, BdS]
                    simp_all [nwf]
                  · -- else t37
                    -- region 16
                    repeat (refine awp_seq ?_)
                    refine e_eval (by simp only [asq, as0, as1, as2, awanted, aop, abin, ajust, LS, SS, SX, HS, mkS_cons, mkS_nil, ↓reduceIte, eq_self', List.map_nil, beq_self_eq_true, Nat.reduceEqDiff, Nat.reduceAdd, Nat.reduceMul, Nat.reduceLT, Nat.reduceLeDiff, Nat.reducePow, Nat.reduceDiv, Nat.reduceMod, Nat.succ_ne_self, Nat.reduceBEq, Nat.reduceBNe, Tryti3, Trytz3, Trytp3, Trytk3, vint, TyS, TyF, BdS, Int.cast_ofNat_Int] <;> with_reducible rfl) (by decide) ?_
                    repeat (refine awp_seq ?_)
                    refine awp_cond rfl (by simp only [LS, SS, SX, HS, mkS_cons, mkS_nil, ↓reduceIte, eq_self', List.map_nil, beq_self_eq_true, Nat.reduceEqDiff, Nat.reduceAdd, Nat.succ_ne_self, vint, TyS, TyF, BdS, Int.cast_ofNat_Int] <;> with_reducible rfl) (fun b50 => ?_) (fun b50 => ?_)
                    · -- if t51
                      -- region 17
                      repeat (refine awp_seq ?_)
                      refine g_eval (by simp only [gsq, gs0, gs1, gs2, gcond, gop, SG, Op.operands, Call.operands, Array.toList_append, aop, afldAddr, ajust, aload, abin, LS, SS, SX, HS, mkS_cons, mkS_nil, ↓reduceIte, eq_self', List.map_nil, beq_self_eq_true, Nat.reduceEqDiff, Nat.reduceAdd, Nat.reduceMul, Nat.reduceLT, Nat.reduceLeDiff, Nat.reducePow, Nat.reduceDiv, Nat.reduceMod, Nat.succ_ne_self, Nat.reduceBEq, Nat.reduceBNe, Tryti3, Trytz3, Trytp3, Trytk3, Tryti24, Trytf24, Trytz24, Trytp24, vint, TyS, TyF, BdS, Int.cast_ofNat_Int] <;> with_reducible rfl) (by decide) (by repeat (first | exact Fin.base _ | with_reducible apply Fin.keep | apply Fin.drop)) ?_
                      repeat (refine awp_seq ?_)
                      -- leaf 49 ret
                      refine awp_ret ⟨.inr rfl, _, rfl, ?_⟩
                      simp only [LS, SS, SX, HS, mkS_cons, mkS_nil, ↓reduceIte, eq_self', List.map_nil, beq_self_eq_true, Nat.reduceEqDiff, Nat.reduceAdd, Nat.succ_ne_self, vint, TyS, TyF, BdS]
                      simp_all [nwf]
                    · -- else t51
                      -- region 18
                      repeat (refine awp_seq ?_)
                      refine e_eval (by simp only [asq, as0, as1, as2, awanted, aop, abin, ajust, LS, SS, SX, HS, mkS_cons, mkS_nil, ↓reduceIte, eq_self', List.map_nil, beq_self_eq_true, Nat.reduceEqDiff, Nat.reduceAdd, Nat.reduceMul, Nat.reduceLT, Nat.reduceLeDiff, Nat.reducePow, Nat.reduceDiv, Nat.reduceMod, Nat.succ_ne_self, Nat.reduceBEq, Nat.reduceBNe, Tryti3, Trytz3, Trytp3, Trytk3, vint, TyS, TyF, BdS, Int.cast_ofNat_Int] <;> with_reducible rfl) (by decide) ?_
                      repeat (refine awp_seq ?_)
                      refine awp_cond rfl (by simp only [LS, SS, SX, HS, mkS_cons, mkS_nil, ↓reduceIte, eq_self', List.map_nil, beq_self_eq_true, Nat.reduceEqDiff, Nat.reduceAdd, Nat.succ_ne_self, vint, TyS, TyF, BdS, Int.cast_ofNat_Int] <;> with_reducible rfl) (fun b51 => ?_) (fun b51 => ?_)
                      · -- if t60
                        -- region 19
                        repeat (refine awp_seq ?_)
                        refine g_eval (by simp only [gsq, gs0, gs1, gs2, gcond, gop, SG, Op.operands, Call.operands, Array.toList_append, aop, afldAddr, ajust, aload, abin, LS, SS, SX, HS, mkS_cons, mkS_nil, ↓reduceIte, eq_self', List.map_nil, beq_self_eq_true, Nat.reduceEqDiff, Nat.reduceAdd, Nat.reduceMul, Nat.reduceLT, Nat.reduceLeDiff, Nat.reducePow, Nat.reduceDiv, Nat.reduceMod, Nat.succ_ne_self, Nat.reduceBEq, Nat.reduceBNe, Tryti3, Trytz3, Trytp3, Trytk3, Tryti24, Trytf24, Trytz24, Trytp24, vint, TyS, TyF, BdS, Int.cast_ofNat_Int] <;> with_reducible rfl) (by decide) (by repeat (first | exact Fin.base _ | with_reducible apply Fin.keep | apply Fin.drop)) ?_
                        repeat (refine awp_seq ?_)
                        -- leaf 50 ret
                        refine awp_ret ⟨.inr rfl, _, rfl, ?_⟩
                        simp only [LS, SS, SX, HS, mkS_cons, mkS_nil, ↓reduceIte, eq_self', List.map_nil, beq_self_eq_true, Nat.reduceEqDiff, Nat.reduceAdd, Nat.succ_ne_self, vint, TyS, TyF, BdS]
                        simp_all [nwf]
                      · -- else t60
                        repeat (refine awp_seq ?_)
                        refine awp_skip ?_
                        -- region 20
                        repeat (refine awp_seq ?_)
                        refine e_eval (by simp only [asq, as0, as1, as2, awanted, aop, LS, SS, SX, HS, mkS_cons, mkS_nil, ↓reduceIte, eq_self', List.map_nil, beq_self_eq_true, Nat.reduceEqDiff, Nat.reduceAdd, Nat.reduceMul, Nat.reduceLT, Nat.reduceLeDiff, Nat.reducePow, Nat.reduceDiv, Nat.reduceMod, Nat.succ_ne_self, Nat.reduceBEq, Nat.reduceBNe, vint, TyS, TyF, BdS, Int.cast_ofNat_Int] <;> with_reducible rfl) (by decide) ?_
                        repeat (refine awp_seq ?_)
                        -- leaf 51 ret
                        refine awp_ret ⟨.inr rfl, _, rfl, ?_⟩
                        simp only [LS, SS, SX, HS, mkS_cons, mkS_nil, ↓reduceIte, eq_self', List.map_nil, beq_self_eq_true, Nat.reduceEqDiff, Nat.reduceAdd, Nat.succ_ne_self, vint, TyS, TyF, BdS]
                        simp_all [nwf]
        · -- else t9
          refine awp_sel [1, 3, 8] (by simp only [LS, SS, SX, HS, mkS_cons, mkS_nil, ↓reduceIte, eq_self', List.map_nil, beq_self_eq_true, Nat.reduceEqDiff, Nat.reduceAdd, Nat.succ_ne_self, vint, TyS, TyF, BdS, Int.cast_ofNat_Int] <;> with_reducible rfl) ?_
          -- region 7
          repeat (refine awp_seq ?_)
          refine e_eval (by simp only [asq, as0, as1, as2, awanted, aop, abin, ajust, LS, SS, SX, HS, mkS_cons, mkS_nil, ↓reduceIte, eq_self', List.map_nil, beq_self_eq_true, Nat.reduceEqDiff, Nat.reduceAdd, Nat.reduceMul, Nat.reduceLT, Nat.reduceLeDiff, Nat.reducePow, Nat.reduceDiv, Nat.reduceMod, Nat.succ_ne_self, Nat.reduceBEq, Nat.reduceBNe, Tryti3, Trytz3, Trytp3, Trytk3, vint, TyS, TyF, BdS, Int.cast_ofNat_Int] <;> with_reducible rfl) (by decide) ?_
          repeat (refine awp_seq ?_)
          refine awp_cond rfl (by simp only [LS, SS, SX, HS, mkS_cons, mkS_nil, ↓reduceIte, eq_self', List.map_nil, beq_self_eq_true, Nat.reduceEqDiff, Nat.reduceAdd, Nat.succ_ne_self, vint, TyS, TyF, BdS, Int.cast_ofNat_Int] <;> with_reducible rfl) (fun b52 => ?_) (fun b52 => ?_)
          · -- if t9
            -- region 8
            repeat (refine awp_seq ?_)
            refine g_eval (by simp only [gsq, gs0, gs1, gs2, gcond, gop, SG, Op.operands, Call.operands, Array.toList_append, aop, afldAddr, ajust, aload, abin, LS, SS, SX, HS, mkS_cons, mkS_nil, ↓reduceIte, eq_self', List.map_nil, beq_self_eq_true, Nat.reduceEqDiff, Nat.reduceAdd, Nat.reduceMul, Nat.reduceLT, Nat.reduceLeDiff, Nat.reducePow, Nat.reduceDiv, Nat.reduceMod, Nat.succ_ne_self, Nat.reduceBEq, Nat.reduceBNe, Tryti3, Trytz3, Trytp3, Trytk3, Tryti24, Trytf24, Trytz24, Trytp24, vint, TyS, TyF, BdS, Int.cast_ofNat_Int] <;> with_reducible rfl) (by decide) (by repeat (first | exact Fin.base _ | with_reducible apply Fin.keep | apply Fin.drop)) ?_
            repeat (refine awp_seq ?_)
            -- leaf 52 ret
            refine awp_ret ⟨.inr rfl, _, rfl, ?_⟩
            simp only [LS, SS, SX, HS, mkS_cons, mkS_nil, ↓reduceIte, eq_self', List.map_nil, beq_self_eq_true, Nat.reduceEqDiff, Nat.reduceAdd, Nat.succ_ne_self, vint, TyS, TyF, BdS]
            simp_all [nwf]
          · -- else t9
            -- region 9
            repeat (refine awp_seq ?_)
            refine e_eval (by simp only [asq, as0, as1, as2, awanted, aop, abin, ajust, LS, SS, SX, HS, mkS_cons, mkS_nil, ↓reduceIte, eq_self', List.map_nil, beq_self_eq_true, Nat.reduceEqDiff, Nat.reduceAdd, Nat.reduceMul, Nat.reduceLT, Nat.reduceLeDiff, Nat.reducePow, Nat.reduceDiv, Nat.reduceMod, Nat.succ_ne_self, Nat.reduceBEq, Nat.reduceBNe, Tryti3, Trytz3, Trytp3, Trytk3, vint, TyS, TyF, BdS, Int.cast_ofNat_Int] <;> with_reducible rfl) (by decide) ?_
            repeat (refine awp_seq ?_)
            refine awp_cond rfl (by simp only [LS, SS, SX, HS, mkS_cons, mkS_nil, ↓reduceIte, eq_self', List.map_nil, beq_self_eq_true, Nat.reduceEqDiff, Nat.reduceAdd, Nat.succ_ne_self, vint, TyS, TyF, BdS, Int.cast_ofNat_Int] <;> with_reducible rfl) (fun b53 => ?_) (fun b53 => ?_)
            · -- if t22
              repeat (refine awp_seq ?_)
              refine awp_skip ?_
              repeat (refine awp_seq ?_)
              refine awp_cond rfl (by simp only [LS, SS, SX, HS, mkS_cons, mkS_nil, ↓reduceIte, eq_self', List.map_nil, beq_self_eq_true, Nat.reduceEqDiff, Nat.reduceAdd, Nat.succ_ne_self, vint, TyS, TyF, BdS, Int.cast_ofNat_Int] <;> with_reducible rfl) (fun b54 => ?_) (fun b54 => ?_)
              · -- if t22
                -- region 11
                repeat (refine awp_seq ?_)
                refine g_eval (by simp only [gsq, gs0, gs1, gs2, gcond, gop, SG, Op.operands, Call.operands, Array.toList_append, aop, afldAddr, ajust, aload, abin, LS, SS, SX, HS, mkS_cons, mkS_nil, ↓reduceIte, eq_self', List.map_nil, beq_self_eq_true, Nat.reduceEqDiff, Nat.reduceAdd, Nat.reduceMul, Nat.reduceLT, Nat.reduceLeDiff, Nat.reducePow, Nat.reduceDiv, Nat.reduceMod, Nat.succ_ne_self, Nat.reduceBEq, Nat.reduceBNe, Tryti3, Trytz3, Trytp3, Trytk3, Tryti24, Trytf24, Trytz24, Trytp24, vint, TyS, TyF, BdS, Int.cast_ofNat_Int] <;> with_reducible rfl) (by decide) (by repeat (first | exact Fin.base _ | with_reducible apply Fin.keep | apply Fin.drop)) ?_
                repeat (refine awp_seq ?_)
                -- leaf 53 ret
                refine awp_ret ⟨.inr rfl, _, rfl, ?_⟩
                simp only [LS, SS, SX, HS, mkS_cons, mkS_nil, ↓reduceIte, eq_self', List.map_nil, beq_self_eq_true, Nat.reduceEqDiff, Nat.reduceAdd, Nat.succ_ne_self, vint, TyS, TyF, BdS]
                simp_all [nwf]
              · -- else t22
                -- region 12
                repeat (refine awp_seq ?_)
                refine e_eval (by simp only [asq, as0, as1, as2, awanted, aop, abin, ajust, LS, SS, SX, HS, mkS_cons, mkS_nil, ↓reduceIte, eq_self', List.map_nil, beq_self_eq_true, Nat.reduceEqDiff, Nat.reduceAdd, Nat.reduceMul, Nat.reduceLT, Nat.reduceLeDiff, Nat.reducePow, Nat.reduceDiv, Nat.reduceMod, Nat.succ_ne_self, Nat.reduceBEq, Nat.reduceBNe, Tryti3, Trytz3, Trytp3, Trytk3, vint, TyS, TyF, BdS, Int.cast_ofNat_Int] <;> with_reducible rfl) (by decide) ?_
                repeat (refine awp_seq ?_)
                refine awp_cond rfl (by simp only [LS, SS, SX, HS, mkS_cons, mkS_nil, ↓reduceIte, eq_self', List.map_nil, beq_self_eq_true, Nat.reduceEqDiff, Nat.reduceAdd, Nat.succ_ne_self, vint, TyS, TyF, BdS, Int.cast_ofNat_Int] <;> with_reducible rfl) (fun b55 => ?_) (fun b55 => ?_)
                · -- if t32
                  -- region 13
                  repeat (refine awp_seq ?_)
                  refine e_eval (by simp only [asq, as0, as1, as2, awanted, aop, afldAddr, ajust, aload, abin, LS, SS, SX, HS, mkS_cons, mkS_nil, ↓reduceIte, eq_self', List.map_nil, beq_self_eq_true, Nat.reduceEqDiff, Nat.reduceAdd, Nat.reduceMul, Nat.reduceLT, Nat.reduceLeDiff, Nat.reducePow, Nat.reduceDiv, Nat.reduceMod, Nat.succ_ne_self, Nat.reduceBEq, Nat.reduceBNe, Tryti3, Trytz3, Trytp3, Trytk3, Tryti24, Trytf24, Trytz24, Trytp24, vint, TyS, TyF, BdS, Int.cast_ofNat_Int] <;> with_reducible rfl) (by decide) ?_
                  repeat (refine awp_seq ?_)
                  -- leaf 54 ret
                  refine awp_ret ⟨.inr rfl, _, rfl, ?_⟩
                  simp only [LS, SS, SX, HS, mkS_cons, mkS_nil, ↓reduceIte, eq_self', List.map_nil, beq_self_eq_true, Nat.reduceEqDiff, Nat.reduceAdd, Nat.succ_ne_self, vint, TyS, TyF, BdS]
                  simp_all [nwf]
                · -- else t32
                  -- region 14
                  repeat (refine awp_seq ?_)
                  refine e_eval (by simp only [asq, as0, as1, as2, awanted, aop, abin, ajust, LS, SS, SX, HS, mkS_cons, mkS_nil, ↓reduceIte, eq_self', List.map_nil, beq_self_eq_true, Nat.reduceEqDiff, Nat.reduceAdd, Nat.reduceMul, Nat.reduceLT, Nat.reduceLeDiff, Nat.reducePow, Nat.reduceDiv, Nat.reduceMod, Nat.succ_ne_self, Nat.reduceBEq, Nat.reduceBNe, Tryti3, Trytz3, Trytp3, Trytk3, vint, TyS, TyF, BdS, Int.cast_ofNat_Int] <;> with_reducible rfl) (by decide) ?_
                  repeat (refine awp_seq ?_)
                  refine awp_cond rfl (by simp only [LS, SS, SX, HS, mkS_cons, mkS_nil, ↓reduceIte, eq_self', List.map_nil, beq_self_eq_true, Nat.reduceEqDiff, Nat.reduceAdd, Nat.succ_ne_self, vint, TyS, TyF, BdS, Int.cast_ofNat_Int] <;> with_reducible rfl) (fun b56 => ?_) (fun b56 => ?_)
                  · -- if t37
                    -- region 15
                    repeat (refine awp_seq ?_)
                    refine g_eval (by simp only [gsq, gs0, gs1, gs2, gcond, gop, SG, Op.operands, Call.operands, Array.toList_append, aop, afldAddr, ajust, aload, abin, LS, SS, SX, HS, mkS_cons, mkS_nil, ↓reduceIte, eq_self', List.map_nil, beq_self_eq_true, Nat.reduceEqDiff, Nat.reduceAdd, Nat.reduceMul, Nat.reduceLT, Nat.reduceLeDiff, Nat.reducePow, Nat.reduceDiv, Nat.reduceMod, Nat.succ_ne_self, Nat.reduceBEq, Nat.reduceBNe, Tryti3, Trytz3, Trytp3, Trytk3, Tryti24, Trytf24, Trytz24, Trytp24, vint, TyS, TyF, BdS, Int.cast_ofNat_Int] <;> with_reducible rfl) (by decide) (by repeat (first | exact Fin.base _ | with_reducible apply Fin.keep | apply Fin.drop)) ?_
                    repeat (refine awp_seq ?_)
                    -- leaf 55 ret
                    refine awp_ret ⟨.inr rfl, _, rfl, ?_⟩
                    simp only [LS, SS, SX, HS, mkS_cons, mkS_nil, ↓reduceIte, eq_self', List.map_nil, beq_self_eq_true, Nat.reduceEqDiff, Nat.reduceAdd, Nat.succ_ne_self, vint, TyS, TyF, BdS]
                    simp_all [nwf]
                  · -- else t37
                    -- region 16
                    repeat (refine awp_seq ?_)
                    refine e_eval (by simp only [asq, as0, as1, as2, awanted, aop, abin, ajust, LS, SS, SX, HS, mkS_cons, mkS_nil, ↓reduceIte, eq_self', List.map_nil, beq_self_eq_true, Nat.reduceEqDiff, Nat.reduceAdd, Nat.reduceMul, Nat.reduceLT, Nat.reduceLeDiff, Nat.reducePow, Nat.reduceDiv, Nat.reduceMod, Nat.succ_ne_self, Nat.reduceBEq, Nat.reduceBNe, Tryti3, Trytz3, Trytp3, Trytk3, vint, TyS, TyF, BdS, Int.cast_ofNat_Int] <;> with_reducible rfl) (by decide) ?_
                    repeat (refine awp_seq ?_)
                    refine awp_cond rfl (by simp only [LS, SS, SX, HS, mkS_cons, mkS_nil, ↓reduceIte, eq_self', List.map_nil, beq_self_eq_true, Nat.reduceEqDiff, Nat.reduceAdd, Nat.succ_ne_self, vint, TyS, TyF, BdS, Int.cast_ofNat_Int] <;> with_reducible rfl) (fun b57 => ?_) (fun b57 => ?_)
                    · -- if t51
                      -- region 17
                      repeat (refine awp_seq ?_)
                      refine g_eval (by simp only [gsq, gs0, gs1, gs2, gcond, gop, SG, Op.operands, Call.operands, Array.toList_append, aop, afldAddr, ajust, aload, abin, LS, SS, SX, HS, mkS_cons, mkS_nil, ↓reduceIte, eq_self', List.map_nil, beq_self_eq_true, Nat.reduceEqDiff, Nat.reduceAdd, Nat.reduceMul, Nat.reduceLT, Nat.reduceLeDiff, Nat.reducePow, Nat.reduceDiv, Nat.reduceMod, Nat.succ_ne_self, Nat.reduceBEq, Nat.reduceBNe, Tryti3, Trytz3, Trytp3, Trytk3, Tryti24, Trytf24, Trytz24, Trytp24, vint, TyS, TyF, BdS, Int.cast_ofNat_Int] <;> with_reducible rfl) (by decide) (by repeat (first | exact Fin.base _ | with_reducible apply Fin.keep | apply Fin.drop)) ?_
                      repeat (refine awp_seq ?_)
                      -- leaf 56 ret
                      refine awp_ret ⟨.inr rfl, _, rfl, ?_⟩
                      simp only [LS, SS, SX, HS, mkS_cons, mkS_nil, ↓reduceIte, eq_self', List.map_nil, beq_self_eq_true, Nat.reduceEqDiff, Nat.reduceAdd, Nat.succ_ne_self, vint, TyS, TyF, BdS]
                      simp_all [nwf]
                    · -- else t51
                      -- region 18
                      repeat (refine awp_seq ?_)
                      refine e_eval (by simp only [asq, as0, as1, as2, awanted, aop, abin, ajust, LS, SS, SX, HS, mkS_cons, mkS_nil, ↓reduceIte, eq_self', List.map_nil, beq_self_eq_true, Nat.reduceEqDiff, Nat.reduceAdd, Nat.reduceMul, Nat.reduceLT, Nat.reduceLeDiff, Nat.reducePow, Nat.reduceDiv, Nat.reduceMod, Nat.succ_ne_self, Nat.reduceBEq, Nat.reduceBNe, Tryti3, Trytz3, Trytp3, Trytk3, vint, TyS, TyF, BdS, Int.cast_ofNat_Int] <;> with_reducible rfl) (by decide) ?_
                      repeat (refine awp_seq ?_)
                      refine awp_cond rfl (by simp only [LS, SS, SX, HS, mkS_cons, mkS_nil, ↓reduceIte, eq_self', List.map_nil, beq_self_eq_true, Nat.reduceEqDiff, Nat.reduceAdd, Nat.succ_ne_self, vint, TyS, TyF, BdS, Int.cast_ofNat_Int] <;> with_reducible rfl) (fun b58 => ?_) (fun b58 => ?_)
                      · -- if t60
                        -- region 19
                        repeat (refine awp_seq ?_)
                        refine g_eval (by simp only [gsq, gs0, gs1, gs2, gcond, gop, SG, Op.operands, Call.operands, Array.toList_append, aop, afldAddr, ajust, aload, abin, LS, SS, SX, HS, mkS_cons, mkS_nil, ↓reduceIte, eq_self', List.map_nil, beq_self_eq_true, Nat.reduceEqDiff, Nat.reduceAdd, Nat.reduceMul, Nat.reduceLT, Nat.reduceLeDiff, Nat.reducePow, Nat.reduceDiv, Nat.reduceMod, Nat.succ_ne_self, Nat.reduceBEq, Nat.reduceBNe, Tryti3, Trytz3, Trytp3, Trytk3, Tryti24, Trytf24, Trytz24, Trytp24, vint, TyS, TyF, BdS, Int.cast_ofNat_Int] <;> with_reducible rfl) (by decide) (by repeat (first | exact Fin.base _ | with_reducible apply Fin.keep | apply Fin.drop)) ?_
                        repeat (refine awp_seq ?_)
                        -- leaf 57 ret
                        refine awp_ret ⟨.inr rfl, _, rfl, ?_⟩
                        simp only [LS, SS, SX, HS, mkS_cons, mkS_nil, ↓reduceIte, eq_self', List.map_nil, beq_self_eq_true, Nat.reduceEqDiff, Nat.reduceAdd, Nat.succ_ne_self, vint, TyS, TyF, BdS]
                        simp_all [nwf]
                      · -- else t60
                        repeat (refine awp_seq ?_)
                        refine awp_skip ?_
                        -- region 20
                        repeat (refine awp_seq ?_)
                        refine e_eval (by simp only [asq, as0, as1, as2, awanted, aop, LS, SS, SX, HS, mkS_cons, mkS_nil, ↓reduceIte, eq_self', List.map_nil, beq_self_eq_true, Nat.reduceEqDiff, Nat.reduceAdd, Nat.reduceMul, Nat.reduceLT, Nat.reduceLeDiff, Nat.reducePow, Nat.reduceDiv, Nat.reduceMod, Nat.succ_ne_self, Nat.reduceBEq, Nat.reduceBNe, vint, TyS, TyF, BdS, Int.cast_ofNat_Int] <;> with_reducible rfl) (by decide) ?_
                        repeat (refine awp_seq ?_)
                        -- leaf 58 ret
                        refine awp_ret ⟨.inr rfl, _, rfl, ?_⟩
                        simp only [LS, SS, SX, HS, mkS_cons, mkS_nil, ↓reduceIte, eq_self', List.map_nil, beq_self_eq_true, Nat.reduceEqDiff, Nat.reduceAdd, Nat.succ_ne_self, vint, TyS, TyF, BdS]
                        simp_all [nwf]
            · -- else t22
              -- region 10
              repeat (refine awp_seq ?_)
              refine e_eval (by simp only [asq, as0, as1, as2, awanted, aop, abin, ajust, LS, SS, SX, HS, mkS_cons, mkS_nil, ↓reduceIte, eq_self', List.map_nil, beq_self_eq_true, Nat.reduceEqDiff, Nat.reduceAdd, Nat.reduceMul, Nat.reduceLT, Nat.reduceLeDiff, Nat.reducePow, Nat.reduceDiv, Nat.reduceMod, Nat.succ_ne_self, Nat.reduceBEq, Nat.reduceBNe, Tryti3, Trytz3, Trytp3, Trytk3, vint, TyS, TyF, BdS, Int.cast_ofNat_Int] <;> with_reducible rfl) (by decide) ?_
              repeat (refine awp_seq ?_)
              refine awp_cond rfl (by simp only [LS, SS, SX, HS, mkS_cons, mkS_nil, ↓reduceIte, eq_self', List.map_nil, beq_self_eq_true, Nat.reduceEqDiff, Nat.reduceAdd, Nat.succ_ne_self, vint, TyS, TyF, BdS, Int.cast_ofNat_Int] <;> with_reducible rfl) (fun b59 => ?_) (fun b59 => ?_)
              · -- if t22
                -- region 11
                repeat (refine awp_seq ?_)
                refine g_eval (by simp only [gsq, gs0, gs1, gs2, gcond, gop, SG, Op.operands, Call.operands, Array.toList_append, aop, afldAddr, ajust, aload, abin, LS, SS, SX, HS, mkS_cons, mkS_nil, ↓reduceIte, eq_self', List.map_nil, beq_self_eq_true, Nat.reduceEqDiff, Nat.reduceAdd, Nat.reduceMul, Nat.reduceLT, Nat.reduceLeDiff, Nat.reducePow, Nat.reduceDiv, Nat.reduceMod, Nat.succ_ne_self, Nat.reduceBEq, Nat.reduceBNe, Tryti3, Trytz3, Trytp3, Trytk3, Tryti24, Trytf24, Trytz24, Trytp24, vint, TyS, TyF, BdS, Int.cast_ofNat_Int] <;> with_reducible rfl) (by decide) (by repeat (first | exact Fin.base _ | with_reducible apply Fin.keep | apply Fin.drop)) ?_
                repeat (refine awp_seq ?_)
                -- leaf 59 ret
                refine awp_ret ⟨.inr rfl, _, rfl, ?_⟩
                simp only [LS, SS, SX, HS, mkS_cons, mkS_nil, ↓reduceIte, eq_self', List.map_nil, beq_self_eq_true, Nat.reduceEqDiff, Nat.reduceAdd, Nat.succ_ne_self, vint, TyS, TyF, BdS]
                simp_all [nwf]
              · -- else t22
                -- region 12
                repeat (refine awp_seq ?_)
                refine e_eval (by simp only [asq, as0, as1, as2, awanted, aop, abin, ajust, LS, SS, SX, HS, mkS_cons, mkS_nil, ↓reduceIte, eq_self', List.map_nil, beq_self_eq_true, Nat.reduceEqDiff, Nat.reduceAdd, Nat.reduceMul, Nat.reduceLT, Nat.reduceLeDiff, Nat.reducePow, Nat.reduceDiv, Nat.reduceMod, Nat.succ_ne_self, Nat.reduceBEq, Nat.reduceBNe, Tryti3, Trytz3, Trytp3, Trytk3, vint, TyS, TyF, BdS, Int.cast_ofNat_Int] <;> with_reducible rfl) (by decide) ?_
                repeat (refine awp_seq ?_)
                refine awp_cond rfl (by simp only [LS, SS, SX, HS, mkS_cons, mkS_nil, ↓reduceIte, eq_self', List.map_nil, beq_self_eq_true, Nat.reduceEqDiff, Nat.reduceAdd, Nat.succ_ne_self, vint, TyS, TyF, BdS, Int.cast_ofNat_Int] <;> with_reducible rfl) (fun b60 => ?_) (fun b60 => ?_)
                · -- if t32
                  -- region 13
                  repeat (refine awp_seq ?_)
                  refine e_eval (by simp only [asq, as0, as1, as2, awanted, aop, afldAddr, ajust, aload, abin, LS, SS, SX, HS, mkS_cons, mkS_nil, ↓reduceIte, eq_self', List.map_nil, beq_self_eq_true, Nat.reduceEqDiff, Nat.reduceAdd, Nat.reduceMul, Nat.reduceLT, Nat.reduceLeDiff, Nat.reducePow, Nat.reduceDiv, Nat.reduceMod, Nat.succ_ne_self, Nat.reduceBEq, Nat.reduceBNe, Tryti3, Trytz3, Trytp3, Trytk3, Tryti24, Trytf24, Trytz24, Trytp24, vint, TyS, TyF, BdS, Int.cast_ofNat_Int] <;> with_reducible rfl) (by decide) ?_
                  repeat (refine awp_seq ?_)
                  -- leaf 60 ret
                  refine awp_ret ⟨.inr rfl, _, rfl, ?_⟩
                  simp only [LS, SS, SX, HS, mkS_cons, mkS_nil, ↓reduceIte, eq_self', List.map_nil, beq_self_eq_true, Nat.reduceEqDiff, Nat.reduceAdd, Nat.succ_ne_self, vint, TyS, TyF, BdS]
                  simp_all [nwf]
                · -- else t32
                  -- region 14
                  repeat (refine awp_seq ?_)
                  refine e_eval (by simp only [asq, as0, as1, as2, awanted, aop, abin, ajust, LS, SS, SX, HS, mkS_cons, mkS_nil, ↓reduceIte, eq_self', List.map_nil, beq_self_eq_true, Nat.reduceEqDiff, Nat.reduceAdd, Nat.reduceMul, Nat.reduceLT, Nat.reduceLeDiff, Nat.reducePow, Nat.reduceDiv, Nat.reduceMod, Nat.succ_ne_self, Nat.reduceBEq, Nat.reduceBNe, Tryti3, Trytz3, Trytp3, Trytk3, vint, TyS, TyF, BdS, Int.cast_ofNat_Int] <;> with_reducible rfl) (by decide) ?_
                  repeat (refine awp_seq ?_)
                  refine awp_cond rfl (by simp only [LS, SS, SX, HS, mkS_cons, mkS_nil, ↓reduceIte, eq_self', List.map_nil, beq_self_eq_true, Nat.reduceEqDiff, Nat.reduceAdd, Nat.succ_ne_self, vint, TyS, TyF, BdS, Int.cast_ofNat_Int] <;> with_reducible rfl) (fun b61 => ?_) (fun b61 => ?_)
                  · -- if t37
                    -- region 15
                    repeat (refine awp_seq ?_)
                    refine g_eval (by simp only [gsq, gs0, gs1, gs2, gcond, gop, SG, Op.operands, Call.operands, Array.toList_append, aop, afldAddr, ajust, aload, abin, LS, SS, SX, HS, mkS_cons, mkS_nil, ↓reduceIte, eq_self', List.map_nil, beq_self_eq_true, Nat.reduceEqDiff, Nat.reduceAdd, Nat.reduceMul, Nat.reduceLT, Nat.reduceLeDiff, Nat.reducePow, Nat.reduceDiv, Nat.reduceMod, Nat.succ_ne_self, Nat.reduceBEq, Nat.reduceBNe, Tryti3, Trytz3, Trytp3, Trytk3, Tryti24, Trytf24, Trytz24, Trytp24, vint, TyS, TyF, BdS, Int.cast_ofNat_Int] <;> with_reducible rfl) (by decide) (by repeat (first | exact Fin.base _ | with_reducible apply Fin.keep | apply Fin.drop)) ?_
                    repeat (refine awp_seq ?_)
                    -- leaf 61 ret
                    refine awp_ret ⟨.inr rfl, _, rfl, ?_⟩
                    simp only [LS, SS, SX, HS, mkS_cons, mkS_nil, ↓reduceIte, eq_self', List.map_nil, beq_self_eq_true, Nat.reduceEqDiff, Nat.reduceAdd, Nat.succ_ne_self, vint, TyS, TyF, BdS]
                    simp_all [nwf]
                  · -- else t37
                    -- region 16
                    repeat (refine awp_seq ?_)
                    refine e_eval (by simp only [asq, as0, as1, as2, awanted, aop, abin, ajust, LS, SS, SX, HS, mkS_cons, mkS_nil, ↓reduceIte, eq_self', List.map_nil, beq_self_eq_true, Nat.reduceEqDiff, Nat.reduceAdd, Nat.reduceMul, Nat.reduceLT, Nat.reduceLeDiff, Nat.reducePow, Nat.reduceDiv, Nat.reduceMod, Nat.succ_ne_self, Nat.reduceBEq, Nat.reduceBNe, Tryti3, Trytz3, Trytp3, Trytk3, vint, TyS, TyF, BdS, Int.cast_ofNat_Int] <;> with_reducible rfl) (by decide) ?_
                    repeat (refine awp_seq ?_)
                    refine awp_cond rfl (by simp only [LS, SS, SX, HS, mkS_cons, mkS_nil, ↓reduceIte, eq_self', List.map_nil, beq_self_eq_true, Nat.reduceEqDiff, Nat.reduceAdd, Nat.succ_ne_self, vint, TyS, TyF, BdS, Int.cast_ofNat_Int] <;> with_reducible rfl) (fun b62 => ?_) (fun b62 => ?_)
                    · -- if t51
                      -- region 17
                      repeat (refine awp_seq ?_)
                      refine g_eval (by simp only [gsq, gs0, gs1, gs2, gcond, gop, SG, Op.operands, Call.operands, Array.toList_append, aop, afldAddr, ajust, aload, abin, LS, SS, SX, HS, mkS_cons, mkS_nil, ↓reduceIte, eq_self', List.map_nil, beq_self_eq_true, Nat.reduceEqDiff, Nat.reduceAdd, Nat.reduceMul, Nat.reduceLT, Nat.reduceLeDiff, Nat.reducePow, Nat.reduceDiv, Nat.reduceMod, Nat.succ_ne_self, Nat.reduceBEq, Nat.reduceBNe, Tryti3, Trytz3, Trytp3, Trytk3, Tryti24, Trytf24, Trytz24, Trytp24, vint, TyS, TyF, BdS, Int.cast_ofNat_Int] <;> with_reducible rfl) (by decide) (by repeat (first | exact Fin.base _ | with_reducible apply Fin.keep | apply Fin.drop)) ?_
                      repeat (refine awp_seq ?_)
                      -- leaf 62 ret
                      refine awp_ret ⟨.inr rfl, _, rfl, ?_⟩
                      simp only [LS, SS, SX, HS, mkS_cons, mkS_nil, ↓reduceIte, eq_self', List.map_nil, beq_self_eq_true, Nat.reduceEqDiff, Nat.reduceAdd, Nat.succ_ne_self, vint, TyS, TyF, BdS]
                      simp_all [nwf]
                    · -- else t51
                      -- region 18
                      repeat (refine awp_seq ?_)
                      refine e_eval (by simp only [asq, as0, as1, as2, awanted, aop, abin, ajust, LS, SS, SX, HS, mkS_cons, mkS_nil, ↓reduceIte, eq_self', List.map_nil, beq_self_eq_true, Nat.reduceEqDiff, Nat.reduceAdd, Nat.reduceMul, Nat.reduceLT, Nat.reduceLeDiff, Nat.reducePow, Nat.reduceDiv, Nat.reduceMod, Nat.succ_ne_self, Nat.reduceBEq, Nat.reduceBNe, Tryti3, Trytz3, Trytp3, Trytk3, vint, TyS, TyF, BdS, Int.cast_ofNat_Int] <;> with_reducible rfl) (by decide) ?_
                      repeat (refine awp_seq ?_)
                      refine awp_cond rfl (by simp only [LS, SS, SX, HS, mkS_cons, mkS_nil, ↓reduceIte, eq_self', List.map_nil, beq_self_eq_true, Nat.reduceEqDiff, Nat.reduceAdd, Nat.succ_ne_self, vint, TyS, TyF, BdS, Int.cast_ofNat_Int] <;> with_reducible rfl) (fun b63 => ?_) (fun b63 => ?_)
                      · -- if t60
                        -- region 19
                        repeat (refine awp_seq ?_)
                        refine g_eval (by simp only [gsq, gs0, gs1, gs2, gcond, gop, SG, Op.operands, Call.operands, Array.toList_append, aop, afldAddr, ajust, aload, abin, LS, SS, SX, HS, mkS_cons, mkS_nil, ↓reduceIte, eq_self', List.map_nil, beq_self_eq_true, Nat.reduceEqDiff, Nat.reduceAdd, Nat.reduceMul, Nat.reduceLT, Nat.reduceLeDiff, Nat.reducePow, Nat.reduceDiv, Nat.reduceMod, Nat.succ_ne_self, Nat.reduceBEq, Nat.reduceBNe, Tryti3, Trytz3, Trytp3, Trytk3, Tryti24, Trytf24, Trytz24, Trytp24, vint, TyS, TyF, BdS, Int.cast_ofNat_Int] <;> with_reducible rfl) (by decide) (by repeat (first | exact Fin.base _ | with_reducible apply Fin.keep | apply Fin.drop)) ?_
                        repeat (refine awp_seq ?_)
                        -- leaf 63 ret
                        refine awp_ret ⟨.inr rfl, _, rfl, ?_⟩
                        simp only [LS, SS, SX, HS, mkS_cons, mkS_nil, ↓reduceIte, eq_self', List.map_nil, beq_self_eq_true, Nat.reduceEqDiff, Nat.reduceAdd, Nat.succ_ne_self, vint, TyS, TyF, BdS]
                        simp_all [nwf]
                      · -- else t60
                        repeat (refine awp_seq ?_)
                        refine awp_skip ?_
                        -- region 20
                        repeat (refine awp_seq ?_)
                        refine e_eval (by simp only [asq, as0, as1, as2, awanted, aop, LS, SS, SX, HS, mkS_cons, mkS_nil, ↓reduceIte, eq_self', List.map_nil, beq_self_eq_true, Nat.reduceEqDiff, Nat.reduceAdd, Nat.reduceMul, Nat.reduceLT, Nat.reduceLeDiff, Nat.reducePow, Nat.reduceDiv, Nat.reduceMod, Nat.succ_ne_self, Nat.reduceBEq, Nat.reduceBNe, vint, TyS, TyF, BdS, Int.cast_ofNat_Int] <;> with_reducible rfl) (by decide) ?_
                        repeat (refine awp_seq ?_)
                        -- leaf 64 ret
                        refine awp_ret ⟨.inr rfl, _, rfl, ?_⟩
                        simp only [LS, SS, SX, HS, mkS_cons, mkS_nil, ↓reduceIte, eq_self', List.map_nil, beq_self_eq_true, Nat.reduceEqDiff, Nat.reduceAdd, Nat.succ_ne_self, vint, TyS, TyF, BdS]
                        simp_all [nwf]

theorem wellFormed1 (H : Heap) (u : Ty) (b : Bool) (ih : PC Try.prog 85 [u.enc] (.bool b)) : ACalls Try.prog 125 [u.enc] H fun r' H' => r' = .bool (!b) ∧ H' = H := by
  refine keeps_of (N := 6) Try.func125 rfl rfl (by simp) (.bool _) fun hb' => ?_
  -- region 0
  repeat (refine awp_seq ?_)
  refine e_eval (by simp only [asq, as0, as1, as2, awanted, aop, LS, SS, SX, HS, mkS_cons, mkS_nil, ↓reduceIte, eq_self', List.map_nil, beq_self_eq_true, Nat.reduceEqDiff, Nat.reduceAdd, Nat.reduceMul, Nat.reduceLT, Nat.reduceLeDiff, Nat.reducePow, Nat.reduceDiv, Nat.reduceMod, Nat.succ_ne_self, Nat.reduceBEq, Nat.reduceBNe, Tryti24, Trytf24, Trytz24, Trytp24, vint, TyS, TyF, BdS] <;> with_reducible rfl) (by decide) ?_
  -- region 1
  repeat (refine awp_seq ?_)
  refine awp_region ?_
  refine e_take 1 (by simp only [asq, as0, as1, as2, awanted, aop, aload, ajust, LS, SS, SX, HS, mkS_cons, mkS_nil, ↓reduceIte, eq_self', List.map_nil, beq_self_eq_true, Nat.reduceEqDiff, Nat.reduceAdd, Nat.reduceMul, Nat.reduceLT, Nat.reduceLeDiff, Nat.reducePow, Nat.reduceDiv, Nat.reduceMod, Nat.succ_ne_self, Nat.reduceBEq, Nat.reduceBNe, Tryti24, Trytf24, Trytz24, Trytp24, vint, TyS, TyF, BdS] <;> with_reducible rfl) (by decide) ?_
  refine aops_pure (by simp only [acall, awanted, LS, SS, SX, HS, mkS_cons, mkS_nil, ↓reduceIte, eq_self', List.map_nil, beq_self_eq_true, Nat.reduceEqDiff, Nat.reduceAdd, Nat.reduceMul, Nat.reduceLT, Nat.reduceLeDiff, Nat.reducePow, Nat.reduceDiv, Nat.reduceMod, Nat.succ_ne_self, Nat.reduceBEq, Nat.reduceBNe, vint, TyS, TyF, BdS] <;> with_reducible rfl) (by simp only [acall, awanted, LS, SS, SX, HS, mkS_cons, mkS_nil, ↓reduceIte, eq_self', List.map_nil, beq_self_eq_true, Nat.reduceEqDiff, Nat.reduceAdd, Nat.reduceMul, Nat.reduceLT, Nat.reduceLeDiff, Nat.reducePow, Nat.reduceDiv, Nat.reduceMod, Nat.succ_ne_self, Nat.reduceBEq, Nat.reduceBNe, vint, TyS, TyF, BdS]) (by decide) Trygo85 (ih _) ?_
  refine e_end (by simp only [asq, as0, as1, as2, awanted, aop, aun, ajust, LS, SS, SX, HS, mkS_cons, mkS_nil, ↓reduceIte, eq_self', List.map_nil, beq_self_eq_true, Nat.reduceEqDiff, Nat.reduceAdd, Nat.reduceMul, Nat.reduceLT, Nat.reduceLeDiff, Nat.reducePow, Nat.reduceDiv, Nat.reduceMod, Nat.succ_ne_self, Nat.reduceBEq, Nat.reduceBNe, vint, TyS, TyF, BdS] <;> with_reducible rfl) (by decide) ?_
  repeat (refine awp_seq ?_)
  -- leaf 0 ret
  refine awp_ret ⟨.inr rfl, _, _, rfl, ?_, (by first | exact (List.append_nil _).symm | rfl)⟩
  simp only [LS, SS, SX, HS, mkS_cons, mkS_nil, ↓reduceIte, eq_self', List.map_nil, beq_self_eq_true, Nat.reduceEqDiff, Nat.reduceAdd, Nat.succ_ne_self, vint, TyS, TyF, BdS]

theorem wellFormed_k : ∀ (k : Nat) (t : Ty), t.size ≤ k → t.W → PC Try.prog 85 [t.enc] (.bool (wfT t))
  | 0, t, h, _ => by cases t; simp [Ty.size] at h
  | k + 1, t, h, hw => by
    refine pc_of (N := 11) Try.func85 rfl rfl (by simp) (by simp [Ty.bel]) (.bool _) ?_
    -- region 0
    repeat (refine awp_seq ?_)
    refine e_eval (by simp only [asq, as0, as1, as2, awanted, aop, LS, SS, SX, HS, mkS_cons, mkS_nil, ↓reduceIte, eq_self', List.map_nil, beq_self_eq_true, Nat.reduceEqDiff, Nat.reduceAdd, Nat.reduceMul, Nat.reduceLT, Nat.reduceLeDiff, Nat.reducePow, Nat.reduceDiv, Nat.reduceMod, Nat.succ_ne_self, Nat.reduceBEq, Nat.reduceBNe, Tryti24, Trytf24, Trytz24, Trytp24, vint, TyS, TyF, BdS] <;> with_reducible rfl) (by decide) ?_
    -- region 1
    repeat (refine awp_seq ?_)
    refine awp_region ?_
    refine aops_gstart ?_
    refine g_take 1 (by simp only [gsq, gs0, gs1, gs2, gcond, gop, SG, Op.operands, Call.operands, Array.toList_append, aop, aload, ajust, LS, SS, SX, HS, mkS_cons, mkS_nil, ↓reduceIte, eq_self', List.map_nil, beq_self_eq_true, Nat.reduceEqDiff, Nat.reduceAdd, Nat.reduceMul, Nat.reduceLT, Nat.reduceLeDiff, Nat.reducePow, Nat.reduceDiv, Nat.reduceMod, Nat.succ_ne_self, Nat.reduceBEq, Nat.reduceBNe, Tryti24, Trytf24, Trytz24, Trytp24, vint, TyS, TyF, BdS] <;> with_reducible rfl) (by decide) ?_
    refine aops_gpure (by simp only [acall, gcond, SG, Op.operands, Call.operands, Array.toList_append, LS, SS, SX, HS, mkS_cons, mkS_nil, ↓reduceIte, eq_self', List.map_nil, beq_self_eq_true, Nat.reduceEqDiff, Nat.reduceAdd, Nat.reduceMul, Nat.reduceLT, Nat.reduceLeDiff, Nat.reducePow, Nat.reduceDiv, Nat.reduceMod, Nat.succ_ne_self, Nat.reduceBEq, Nat.reduceBNe, vint, TyS, TyF, BdS] <;> with_reducible rfl) (by simp only [acall, gcond, SG, Op.operands, Call.operands, Array.toList_append, LS, SS, SX, HS, mkS_cons, mkS_nil, ↓reduceIte, eq_self', List.map_nil, beq_self_eq_true, Nat.reduceEqDiff, Nat.reduceAdd, Nat.reduceMul, Nat.reduceLT, Nat.reduceLeDiff, Nat.reducePow, Nat.reduceDiv, Nat.reduceMod, Nat.succ_ne_self, Nat.reduceBEq, Nat.reduceBNe, vint, TyS, TyF, BdS] <;> with_reducible rfl) (by simp only [acall, gcond, SG, Op.operands, Call.operands, Array.toList_append, LS, SS, SX, HS, mkS_cons, mkS_nil, ↓reduceIte, eq_self', List.map_nil, beq_self_eq_true, Nat.reduceEqDiff, Nat.reduceAdd, Nat.reduceMul, Nat.reduceLT, Nat.reduceLeDiff, Nat.reducePow, Nat.reduceDiv, Nat.reduceMod, Nat.succ_ne_self, Nat.reduceBEq, Nat.reduceBNe, vint, TyS, TyF, BdS]) (by decide) Trygo124 (fun hc => nodeWellFormed t _) ?_
    refine g_take 3 (by simp only [gsq, gs0, gs1, gs2, gcond, gop, SG, Op.operands, Call.operands, Array.toList_append, aop, afldAddr, ajust, aload, LS, SS, SX, HS, mkS_cons, mkS_nil, ↓reduceIte, eq_self', List.map_nil, beq_self_eq_true, Nat.reduceEqDiff, Nat.reduceAdd, Nat.reduceMul, Nat.reduceLT, Nat.reduceLeDiff, Nat.reducePow, Nat.reduceDiv, Nat.reduceMod, Nat.succ_ne_self, Nat.reduceBEq, Nat.reduceBNe, Tryti22, Tryte22, Trytz22, Trytp22, Tryti24, Trytf24, Trytz24, Trytp24, vint, TyS, TyF, BdS] <;> with_reducible rfl) (by decide) ?_
    refine aops_gpure (by simp only [acall, gcond, SG, Op.operands, Call.operands, Array.toList_append, LS, SS, SX, HS, mkS_cons, mkS_nil, ↓reduceIte, eq_self', List.map_nil, beq_self_eq_true, Nat.reduceEqDiff, Nat.reduceAdd, Nat.reduceMul, Nat.reduceLT, Nat.reduceLeDiff, Nat.reducePow, Nat.reduceDiv, Nat.reduceMod, Nat.succ_ne_self, Nat.reduceBEq, Nat.reduceBNe, vint, TyS, TyF, BdS] <;> with_reducible rfl) (by simp only [acall, gcond, SG, Op.operands, Call.operands, Array.toList_append, LS, SS, SX, HS, mkS_cons, mkS_nil, ↓reduceIte, eq_self', List.map_nil, beq_self_eq_true, Nat.reduceEqDiff, Nat.reduceAdd, Nat.reduceMul, Nat.reduceLT, Nat.reduceLeDiff, Nat.reducePow, Nat.reduceDiv, Nat.reduceMod, Nat.succ_ne_self, Nat.reduceBEq, Nat.reduceBNe, vint, TyS, TyF, BdS] <;> with_reducible rfl) (by simp only [acall, gcond, SG, Op.operands, Call.operands, Array.toList_append, LS, SS, SX, HS, mkS_cons, mkS_nil, ↓reduceIte, eq_self', List.map_nil, beq_self_eq_true, Nat.reduceEqDiff, Nat.reduceAdd, Nat.reduceMul, Nat.reduceLT, Nat.reduceLeDiff, Nat.reducePow, Nat.reduceDiv, Nat.reduceMod, Nat.succ_ne_self, Nat.reduceBEq, Nat.reduceBNe, vint, TyS, TyF, BdS]) (by decide) Trygo81 (fun hc => containsFuncTy (p := fun u => !wfT u) ⟨Trygo125, by simp, fun u hu => wellFormed1 _ u _ (wellFormed_k k u (by have := Ty.size_arg hu; omega) (hw.arg hu))⟩ hw.lenMax) ?_
    refine g_end (by simp only [gsq, gs0, gs1, gs2, gcond, gop, SG, Op.operands, Call.operands, Array.toList_append, aop, aun, ajust, LS, SS, SX, HS, mkS_cons, mkS_nil, ↓reduceIte, eq_self', List.map_nil, beq_self_eq_true, Nat.reduceEqDiff, Nat.reduceAdd, Nat.reduceMul, Nat.reduceLT, Nat.reduceLeDiff, Nat.reducePow, Nat.reduceDiv, Nat.reduceMod, Nat.succ_ne_self, Nat.reduceBEq, Nat.reduceBNe, vint, TyS, TyF, BdS] <;> with_reducible rfl) (by decide) (by repeat (first | exact Fin.base _ | with_reducible apply Fin.keep | apply Fin.drop)) ?_
    repeat (refine awp_seq ?_)
    -- leaf 0 ret
    refine awp_ret ⟨.inr rfl, _, rfl, ?_⟩
    simp only [LS, SS, SX, HS, mkS_cons, mkS_nil, ↓reduceIte, eq_self', List.map_nil, beq_self_eq_true, Nat.reduceEqDiff, Nat.reduceAdd, Nat.succ_ne_self, vint, TyS, TyF, BdS]
    rw [wfT_eq]

theorem wellFormed_c (t : Ty) (hw : t.W) : PC Try.prog 85 [t.enc] (.bool (wfT t)) := wellFormed_k t.size t (Nat.le_refl _) hw

theorem validate (t : Ty) (hw : t.W) : PC Try.prog 31 [t.enc] (vint (valT t)) := by
  refine pc_of (N := 19) Try.func31 rfl rfl (by simp) (by simp [Ty.bel]) (.int _ _) ?_
  -- region 0
  repeat (refine awp_seq ?_)
  refine e_eval (by simp only [asq, as0, as1, as2, awanted, aop, LS, SS, SX, HS, mkS_cons, mkS_nil, ↓reduceIte, eq_self', List.map_nil, beq_self_eq_true, Nat.reduceEqDiff, Nat.reduceAdd, Nat.reduceMul, Nat.reduceLT, Nat.reduceLeDiff, Nat.reducePow, Nat.reduceDiv, Nat.reduceMod, Nat.succ_ne_self, Nat.reduceBEq, Nat.reduceBNe, Tryti24, Trytf24, Trytz24, Trytp24, vint, TyS, TyF, BdS] <;> with_reducible rfl) (by decide) ?_
  -- region 1
  repeat (refine awp_seq ?_)
  refine awp_region ?_
  refine e_take 1 (by simp only [asq, as0, as1, as2, awanted, aop, aload, ajust, LS, SS, SX, HS, mkS_cons, mkS_nil, ↓reduceIte, eq_self', List.map_nil, beq_self_eq_true, Nat.reduceEqDiff, Nat.reduceAdd, Nat.reduceMul, Nat.reduceLT, Nat.reduceLeDiff, Nat.reducePow, Nat.reduceDiv, Nat.reduceMod, Nat.succ_ne_self, Nat.reduceBEq, Nat.reduceBNe, Tryti24, Trytf24, Trytz24, Trytp24, vint, TyS, TyF, BdS] <;> with_reducible rfl) (by decide) ?_
  refine aops_pure (by simp only [acall, awanted, LS, SS, SX, HS, mkS_cons, mkS_nil, ↓reduceIte, eq_self', List.map_nil, beq_self_eq_true, Nat.reduceEqDiff, Nat.reduceAdd, Nat.reduceMul, Nat.reduceLT, Nat.reduceLeDiff, Nat.reducePow, Nat.reduceDiv, Nat.reduceMod, Nat.succ_ne_self, Nat.reduceBEq, Nat.reduceBNe, vint, TyS, TyF, BdS] <;> with_reducible rfl) (by simp only [acall, awanted, LS, SS, SX, HS, mkS_cons, mkS_nil, ↓reduceIte, eq_self', List.map_nil, beq_self_eq_true, Nat.reduceEqDiff, Nat.reduceAdd, Nat.reduceMul, Nat.reduceLT, Nat.reduceLeDiff, Nat.reducePow, Nat.reduceDiv, Nat.reduceMod, Nat.succ_ne_self, Nat.reduceBEq, Nat.reduceBNe, vint, TyS, TyF, BdS]) (by decide) Trygo84 (measure_k t.size t 100 (Nat.le_refl _) hw (by decide) (by decide) _) ?_
  refine e_end (by simp only [asq, as0, as1, as2, awanted, aop, ajust, LS, SS, SX, HS, mkS_cons, mkS_nil, ↓reduceIte, eq_self', List.map_nil, beq_self_eq_true, Nat.reduceEqDiff, Nat.reduceAdd, Nat.reduceMul, Nat.reduceLT, Nat.reduceLeDiff, Nat.reducePow, Nat.reduceDiv, Nat.reduceMod, Nat.succ_ne_self, Nat.reduceBEq, Nat.reduceBNe, vint, TyS, TyF, BdS] <;> with_reducible rfl) (by decide) ?_
  -- region 2
  repeat (refine awp_seq ?_)
  refine g_eval (by simp only [gsq, gs0, gs1, gs2, gcond, gop, SG, Op.operands, Call.operands, Array.toList_append, aop, abin, ajust, LS, SS, SX, HS, mkS_cons, mkS_nil, ↓reduceIte, eq_self', List.map_nil, beq_self_eq_true, Nat.reduceEqDiff, Nat.reduceAdd, Nat.reduceMul, Nat.reduceLT, Nat.reduceLeDiff, Nat.reducePow, Nat.reduceDiv, Nat.reduceMod, Nat.succ_ne_self, Nat.reduceBEq, Nat.reduceBNe, Tryti3, Trytz3, Trytp3, Trytk3, vint, TyS, TyF, BdS] <;> with_reducible rfl) (by decide) (by repeat (first | exact Fin.base _ | with_reducible apply Fin.keep | apply Fin.drop)) ?_
  repeat (refine awp_seq ?_)
  refine awp_cond rfl (by simp only [LS, SS, SX, HS, mkS_cons, mkS_nil, ↓reduceIte, eq_self', List.map_nil, beq_self_eq_true, Nat.reduceEqDiff, Nat.reduceAdd, Nat.succ_ne_self, vint, TyS, TyF, BdS] <;> with_reducible rfl) (fun b0 => ?_) (fun b0 => ?_)
  · -- if t15
    refine awp_sel [] (by simp only [LS, SS, SX, HS, mkS_cons, mkS_nil, ↓reduceIte, eq_self', List.map_nil, beq_self_eq_true, Nat.reduceEqDiff, Nat.reduceAdd, Nat.succ_ne_self, vint, TyS, TyF, BdS] <;> with_reducible rfl) ?_
    -- region 3
    repeat (refine awp_seq ?_)
    refine e_eval (by simp only [asq, as0, as1, as2, awanted, aop, LS, SS, SX, HS, mkS_cons, mkS_nil, ↓reduceIte, eq_self', List.map_nil, beq_self_eq_true, Nat.reduceEqDiff, Nat.reduceAdd, Nat.reduceMul, Nat.reduceLT, Nat.reduceLeDiff, Nat.reducePow, Nat.reduceDiv, Nat.reduceMod, Nat.succ_ne_self, Nat.reduceBEq, Nat.reduceBNe, vint, TyS, TyF, BdS] <;> with_reducible rfl) (by decide) ?_
    repeat (refine awp_seq ?_)
    -- leaf 0 ret
    refine awp_ret ⟨.inr rfl, _, rfl, ?_⟩
    simp only [LS, SS, SX, HS, mkS_cons, mkS_nil, ↓reduceIte, eq_self', List.map_nil, beq_self_eq_true, Nat.reduceEqDiff, Nat.reduceAdd, Nat.succ_ne_self, vint, TyS, TyF, BdS]
    simp_all [valT]
  · -- else t15
    repeat (refine awp_seq ?_)
    refine awp_skip ?_
    refine awp_sel [1] (by simp only [LS, SS, SX, HS, mkS_cons, mkS_nil, ↓reduceIte, eq_self', List.map_nil, beq_self_eq_true, Nat.reduceEqDiff, Nat.reduceAdd, Nat.succ_ne_self, vint, TyS, TyF, BdS] <;> with_reducible rfl) ?_
    -- region 4
    repeat (refine awp_seq ?_)
    refine awp_region ?_
    refine e_take 1 (by simp only [asq, as0, as1, as2, awanted, aop, aload, ajust, LS, SS, SX, HS, mkS_cons, mkS_nil, ↓reduceIte, eq_self', List.map_nil, beq_self_eq_true, Nat.reduceEqDiff, Nat.reduceAdd, Nat.reduceMul, Nat.reduceLT, Nat.reduceLeDiff, Nat.reducePow, Nat.reduceDiv, Nat.reduceMod, Nat.succ_ne_self, Nat.reduceBEq, Nat.reduceBNe, Tryti24, Trytf24, Trytz24, Trytp24, vint, TyS, TyF, BdS] <;> with_reducible rfl) (by decide) ?_
    refine aops_pure (by simp only [acall, awanted, LS, SS, SX, HS, mkS_cons, mkS_nil, ↓reduceIte, eq_self', List.map_nil, beq_self_eq_true, Nat.reduceEqDiff, Nat.reduceAdd, Nat.reduceMul, Nat.reduceLT, Nat.reduceLeDiff, Nat.reducePow, Nat.reduceDiv, Nat.reduceMod, Nat.succ_ne_self, Nat.reduceBEq, Nat.reduceBNe, vint, TyS, TyF, BdS] <;> with_reducible rfl) (by simp only [acall, awanted, LS, SS, SX, HS, mkS_cons, mkS_nil, ↓reduceIte, eq_self', List.map_nil, beq_self_eq_true, Nat.reduceEqDiff, Nat.reduceAdd, Nat.reduceMul, Nat.reduceLT, Nat.reduceLeDiff, Nat.reducePow, Nat.reduceDiv, Nat.reduceMod, Nat.succ_ne_self, Nat.reduceBEq, Nat.reduceBNe, vint, TyS, TyF, BdS]) (by decide) Trygo85 (wellFormed_c t hw _) ?_
    refine e_end (by simp only [asq, as0, as1, as2, awanted, aop, aun, ajust, LS, SS, SX, HS, mkS_cons, mkS_nil, ↓reduceIte, eq_self', List.map_nil, beq_self_eq_true, Nat.reduceEqDiff, Nat.reduceAdd, Nat.reduceMul, Nat.reduceLT, Nat.reduceLeDiff, Nat.reducePow, Nat.reduceDiv, Nat.reduceMod, Nat.succ_ne_self, Nat.reduceBEq, Nat.reduceBNe, vint, TyS, TyF, BdS] <;> with_reducible rfl) (by decide) ?_
    repeat (refine awp_seq ?_)
    refine awp_cond rfl (by simp only [LS, SS, SX, HS, mkS_cons, mkS_nil, ↓reduceIte, eq_self', List.map_nil, beq_self_eq_true, Nat.reduceEqDiff, Nat.reduceAdd, Nat.succ_ne_self, vint, TyS, TyF, BdS] <;> with_reducible rfl) (fun b1 => ?_) (fun b1 => ?_)
    · -- if t18
      -- region 5
      repeat (refine awp_seq ?_)
      refine e_eval (by simp only [asq, as0, as1, as2, awanted, aop, LS, SS, SX, HS, mkS_cons, mkS_nil, ↓reduceIte, eq_self', List.map_nil, beq_self_eq_true, Nat.reduceEqDiff, Nat.reduceAdd, Nat.reduceMul, Nat.reduceLT, Nat.reduceLeDiff, Nat.reducePow, Nat.reduceDiv, Nat.reduceMod, Nat.succ_ne_self, Nat.reduceBEq, Nat.reduceBNe, vint, TyS, TyF, BdS] <;> with_reducible rfl) (by decide) ?_
      repeat (refine awp_seq ?_)
      -- leaf 1 ret
      refine awp_ret ⟨.inr rfl, _, rfl, ?_⟩
      simp only [LS, SS, SX, HS, mkS_cons, mkS_nil, ↓reduceIte, eq_self', List.map_nil, beq_self_eq_true, Nat.reduceEqDiff, Nat.reduceAdd, Nat.succ_ne_self, vint, TyS, TyF, BdS]
      simp_all [valT]
    · -- else t18
      repeat (refine awp_seq ?_)
      refine awp_skip ?_
      -- region 6
      repeat (refine awp_seq ?_)
      refine e_eval (by simp only [asq, as0, as1, as2, awanted, aop, LS, SS, SX, HS, mkS_cons, mkS_nil, ↓reduceIte, eq_self', List.map_nil, beq_self_eq_true, Nat.reduceEqDiff, Nat.reduceAdd, Nat.reduceMul, Nat.reduceLT, Nat.reduceLeDiff, Nat.reducePow, Nat.reduceDiv, Nat.reduceMod, Nat.succ_ne_self, Nat.reduceBEq, Nat.reduceBNe, vint, TyS, TyF, BdS] <;> with_reducible rfl) (by decide) ?_
      repeat (refine awp_seq ?_)
      -- leaf 2 ret
      refine awp_ret ⟨.inr rfl, _, rfl, ?_⟩
      simp only [LS, SS, SX, HS, mkS_cons, mkS_nil, ↓reduceIte, eq_self', List.map_nil, beq_self_eq_true, Nat.reduceEqDiff, Nat.reduceAdd, Nat.succ_ne_self, vint, TyS, TyF, BdS]
      simp_all [valT]

theorem afv_k : ∀ (k : Nat) (t : Ty) (vs : List Int) (H : Heap) (id : Nat), t.size ≤ k → t.W → (vs.length + t.size) * 8 ≤ 2 ^ 47 → id < H.length →
    ACalls Try.prog 89 [.slice (vs.map vint) (.tok id), t.enc] (bH H id vs.length 1) fun r' H' => r' = .slice ((afv t vs).map vint) (.tok id) ∧ H' = bH H id (afv t vs).length 1
  | 0, t, vs, H, id, h, _, _, _ => by cases t; simp [Ty.size] at h
  | k + 1, t, vs, H, id, h, hw, hsz, hid => by
    have BH := bH_rules (sz := 1) hid
    have hts : t.size = 1 + Ty.sizes t.args := by cases t; simp [Ty.size, Ty.args]
    have em : maxLen = 9223372036854775807 := by decide
    have heq := afv_eq t vs
    refine muts_raw (N := 34) Try.func89 rfl rfl (by simp) (bel_int_tok _ (by rw [bH_len]; exact hid)) (by simp only [bH_len]) (fun hb => bH_bel hb) fun hb' => ?_
    rw [bH_len] at hb' ⊢
    -- region 0
    repeat (refine awp_seq ?_)
    refine e_eval (by simp only [asq, as0, as1, as2, awanted, aop, LS, SS, SX, HS, mkS_cons, mkS_nil, ↓reduceIte, eq_self', List.map_nil, beq_self_eq_true, Nat.reduceEqDiff, Nat.reduceAdd, Nat.reduceMul, Nat.reduceLT, Nat.reduceLeDiff, Nat.reducePow, Nat.reduceDiv, Nat.reduceMod, Nat.succ_ne_self, Nat.reduceBEq, Nat.reduceBNe, Tryti24, Trytf24, Trytz24, Trytp24, vint, TyS, TyF, BdS, BH] <;> with_reducible rfl) (by decide) ?_
    -- region 1
    repeat (refine awp_seq ?_)
    refine awp_region ?_
    refine aops_gstart ?_
    refine g_take 7 (by simp only [gsq, gs0, gs1, gs2, gcond, gop, SG, Op.operands, Call.operands, Array.toList_append, aop, afldAddr, ajust, aload, abin, LS, SS, SX, HS, mkS_cons, mkS_nil, ↓reduceIte, eq_self', List.map_nil, beq_self_eq_true, Nat.reduceEqDiff, Nat.reduceAdd, Nat.reduceMul, Nat.reduceLT, Nat.reduceLeDiff, Nat.reducePow, Nat.reduceDiv, Nat.reduceMod, Nat.succ_ne_self, Nat.reduceBEq, Nat.reduceBNe, Tryti3, Trytz3, Trytp3, Trytk3, Tryti24, Trytf24, Trytz24, Trytp24, vint, TyS, TyF, BdS, BH] <;> with_reducible rfl) (by decide) ?_
    refine aops_gpure (by simp only [acall, gcond, SG, Op.operands, Call.operands, Array.toList_append, LS, SS, SX, HS, mkS_cons, mkS_nil, ↓reduceIte, eq_self', List.map_nil, beq_self_eq_true, Nat.reduceEqDiff, Nat.reduceAdd, Nat.reduceMul, Nat.reduceLT, Nat.reduceLeDiff, Nat.reducePow, Nat.reduceDiv, Nat.reduceMod, Nat.succ_ne_self, Nat.reduceBEq, Nat.reduceBNe, vint, TyS, TyF, BdS, BH] <;> with_reducible rfl) (by simp only [acall, gcond, SG, Op.operands, Call.operands, Array.toList_append, LS, SS, SX, HS, mkS_cons, mkS_nil, ↓reduceIte, eq_self', List.map_nil, beq_self_eq_true, Nat.reduceEqDiff, Nat.reduceAdd, Nat.reduceMul, Nat.reduceLT, Nat.reduceLeDiff, Nat.reducePow, Nat.reduceDiv, Nat.reduceMod, Nat.succ_ne_self, Nat.reduceBEq, Nat.reduceBNe, vint, TyS, TyF, BdS, BH] <;> with_reducible rfl) (by simp only [acall, gcond, SG, Op.operands, Call.operands, Array.toList_append, LS, SS, SX, HS, mkS_cons, mkS_nil, ↓reduceIte, eq_self', List.map_nil, beq_self_eq_true, Nat.reduceEqDiff, Nat.reduceAdd, Nat.reduceMul, Nat.reduceLT, Nat.reduceLeDiff, Nat.reducePow, Nat.reduceDiv, Nat.reduceMod, Nat.succ_ne_self, Nat.reduceBEq, Nat.reduceBNe, vint, TyS, TyF, BdS, BH]) (by decide) Trygo33 (fun hc => containsInt vs t.id (by rw [em]; omega) _) ?_
    refine g_end (by simp only [gsq, gs0, gs1, gs2, gcond, gop, SG, Op.operands, Call.operands, Array.toList_append, aop, aun, ajust, LS, SS, SX, HS, mkS_cons, mkS_nil, ↓reduceIte, eq_self', List.map_nil, beq_self_eq_true, Nat.reduceEqDiff, Nat.reduceAdd, Nat.reduceMul, Nat.reduceLT, Nat.reduceLeDiff, Nat.reducePow, Nat.reduceDiv, Nat.reduceMod, Nat.succ_ne_self, Nat.reduceBEq, Nat.reduceBNe, vint, TyS, TyF, BdS, BH] <;> with_reducible rfl) (by decide) (by repeat (first | exact Fin.base _ | with_reducible apply Fin.keep | apply Fin.drop)) ?_
    repeat (refine awp_seq ?_)
    refine awp_cond rfl (by simp only [LS, SS, SX, HS, mkS_cons, mkS_nil, ↓reduceIte, eq_self', List.map_nil, beq_self_eq_true, Nat.reduceEqDiff, Nat.reduceAdd, Nat.succ_ne_self, vint, TyS, TyF, BdS, BH] <;> with_reducible rfl) (fun b0 => ?_) (fun b0 => ?_)
    · -- if t16
      have happ := fun fresh L => app_int (us := vs) (u := t.id) (id := id) (tl := .full) (by omega) fresh (bH H id vs.length 1 ++ L) (BH.1 _ _)
      rw [if_pos b0] at heq
      have hq0 : ((vs ++ [t.id]).length + Ty.sizes t.args) * 8 ≤ 2 ^ 47 := by simp; omega
      -- region 2
      repeat (refine awp_seq ?_)
      refine e_eval (by simp only [asq, as0, as1, as2, awanted, aop, afldAddr, ajust, aload, abuildS, abuiltin, LS, SS, SX, HS, mkS_cons, mkS_nil, ↓reduceIte, eq_self', List.map_nil, beq_self_eq_true, Nat.reduceEqDiff, Nat.reduceAdd, Nat.reduceMul, Nat.reduceLT, Nat.reduceLeDiff, Nat.reducePow, Nat.reduceDiv, Nat.reduceMod, Nat.succ_ne_self, Nat.reduceBEq, Nat.reduceBNe, Tryti3, Trytz3, Trytp3, Trytk3, Tryti24, Trytf24, Trytz24, Trytp24, Tryti25, Tryte25, Trytz25, Trytp25, vint, TyS, TyF, BdS, BH, happ] <;> with_reducible rfl) (by decide) ?_
      refine awp_sel [0, 3] (by simp only [LS, SS, SX, HS, mkS_cons, mkS_nil, ↓reduceIte, eq_self', List.map_nil, beq_self_eq_true, Nat.reduceEqDiff, Nat.reduceAdd, Nat.succ_ne_self, vint, TyS, TyF, BdS, BH] <;> with_reducible rfl) ?_
      -- region 3
      repeat (refine awp_seq ?_)
      refine e_eval (by simp only [asq, as0, as1, as2, awanted, aop, afldAddr, ajust, aload, abuiltin, LS, SS, SX, HS, mkS_cons, mkS_nil, ↓reduceIte, eq_self', List.map_nil, beq_self_eq_true, Nat.reduceEqDiff, Nat.reduceAdd, Nat.reduceMul, Nat.reduceLT, Nat.reduceLeDiff, Nat.reducePow, Nat.reduceDiv, Nat.reduceMod, Nat.succ_ne_self, Nat.reduceBEq, Nat.reduceBNe, Tryti22, Tryte22, Trytz22, Trytp22, Tryti24, Trytf24, Trytz24, Trytp24, vint, TyS, TyF, BdS, BH] <;> with_reducible rfl) (by decide) ?_
      repeat (refine awp_seq ?_)
      refine awp_forS (σ := List Int) (t.args.length) (fun (q : List Int) => [(0, .slice (q.map vint) (.tok id)), (23, .slice (t.args.map Ty.enc) .none)]) [0, 23] ([]) (fun (q : List Int) => bH H id q.length 1 ++ [.row t.enc.cells]) (fun (i : Nat) (q : List Int) => (q.length + Ty.sizes (t.args.drop i)) * 8 ≤ 2 ^ 47 ∧ afvL ((t.args.map afv).drop i) q = afv t vs) (_) ([]) rfl rfl rfl rfl rfl rfl rfl rfl rfl (by decide) (by decide) (by decide) (fun _ => rfl) (hw.lenMax) ⟨(by first | rfl | (simp only [LS, SS, SX, HS, mkS_cons, mkS_nil, ↓reduceIte, eq_self', List.map_nil, beq_self_eq_true, Nat.reduceEqDiff, Nat.reduceAdd, Nat.succ_ne_self, vint, TyS, TyF, BdS, BH] <;> first | done | with_reducible rfl)), (by first | rfl | (simp only [LS, SS, SX, HS, mkS_cons, mkS_nil, ↓reduceIte, eq_self', List.map_nil, beq_self_eq_true, Nat.reduceEqDiff, Nat.reduceAdd, Nat.succ_ne_self, vint, TyS, TyF, BdS, BH] <;> first | done | with_reducible rfl)), (by first | rfl | (simp only [LS, SS, SX, HS, mkS_cons, mkS_nil, ↓reduceIte, eq_self', List.map_nil, beq_self_eq_true, Nat.reduceEqDiff, Nat.reduceAdd, Nat.succ_ne_self, vint, TyS, TyF, BdS, BH] <;> first | done | with_reducible rfl)), (by first | rfl | (simp only [LS, SS, SX, HS, mkS_cons, mkS_nil, ↓reduceIte, eq_self', List.map_nil, beq_self_eq_true, Nat.reduceEqDiff, Nat.reduceAdd, Nat.succ_ne_self, vint, TyS, TyF, BdS, BH] <;> first | done | with_reducible rfl)), trivial⟩ (by first | rfl | (simp only [LS, SS, SX, HS, mkS_cons, mkS_nil, ↓reduceIte, eq_self', List.map_nil, beq_self_eq_true, Nat.reduceEqDiff, Nat.reduceAdd, Nat.succ_ne_self, vint, TyS, TyF, BdS, BH] <;> first | done | with_reducible rfl)) (⟨hq0, heq.symm⟩) (fun i q hg => by simp only [List.nil_append, List.length_append, bH_len]; omega) ?_ ?_ ?_
      · intro i q hg
        refine ⟨?_, .cons (bel_int_tok _ (by simp [bH_len]; omega)) (.cons (bel_slice_ty _ _) .nil)⟩
        simp only [List.nil_append, TyS]
        refine hbel_app' (bH_bel hb') (by simp [bH_len]) ?_
        repeat (first | exact hbel_nil _ | exact trivial | exact obel_row_nil _ | (refine HBel.cons ?_ ?_) | (refine obel_row_cons (by first | exact bel_Bd _ _ | exact Bd.bel _ _ | exact bel_ints0 _ _ | exact bel_slice_ty _ _ | exact Ty.bel _ _ | exact bel_ty_tok _ (by simp) | exact Bel.int _ _ | exact Bel.bool _ | exact Bel.str _ | exact Bel.nilp | exact Bel.nilfn | exact Bel.optr _ _ (by simp) | exact bel_nil0 _ | exact bel_nil1 _ | exact bel_fn0 _ _ | assumption) ?_))
      · intro i q hi hg
        obtain ⟨hq, hg⟩ := hg
        have g1 := ix_nat hi
        have g2 := get_enc Ty.enc hi
        have hmem : t.args[i] ∈ t.args := List.getElem_mem hi
        rw [List.drop_eq_getElem_cons hi, Ty.sizes] at hq
        rw [List.drop_eq_getElem_cons (by simpa using hi), List.getElem_map, afvL_cons] at hg
        have hal := afv_len t.args[i] q
        have ih := afv_k k t.args[i] q (bH H id q.length 1 ++ [.row [.int .i64 t.kind, .int .i64 t.id, .slice (t.args.map Ty.enc) .none], .row [.int .i64 t.args[i].kind, .int .i64 t.args[i].id, .slice (t.args[i].args.map Ty.enc) .none]]) id (by have := Ty.size_arg hmem; omega) (hw.arg hmem) (by omega) (by simp [bH_len]; omega)
        simp only [BH] at ih
        -- region 5
        repeat (refine awp_seq ?_)
        refine e_eval (by simp only [asq, as0, as1, as2, awanted, aop, aidxAddr, aidx, ajust, aload, astore, splice, LS, SS, SX, HS, mkS_cons, mkS_nil, ↓reduceIte, eq_self', List.map_nil, beq_self_eq_true, Nat.reduceEqDiff, Nat.reduceAdd, Nat.reduceMul, Nat.reduceLT, Nat.reduceLeDiff, Nat.reducePow, Nat.reduceDiv, Nat.reduceMod, Nat.succ_ne_self, Nat.reduceBEq, Nat.reduceBNe, Tryti22, Tryte22, Trytz22, Trytp22, Tryti24, Trytf24, Trytz24, Trytp24, vint, TyS, TyF, BdS, BH, g1, g2, Int.toNat_natCast] <;> with_reducible rfl) (by decide) ?_
        -- region 6
        repeat (refine awp_seq ?_)
        refine awp_region ?_
        refine e_take 2 (by simp only [asq, as0, as1, as2, awanted, aop, aload, ajust, LS, SS, SX, HS, mkS_cons, mkS_nil, ↓reduceIte, eq_self', List.map_nil, beq_self_eq_true, Nat.reduceEqDiff, Nat.reduceAdd, Nat.reduceMul, Nat.reduceLT, Nat.reduceLeDiff, Nat.reducePow, Nat.reduceDiv, Nat.reduceMod, Nat.succ_ne_self, Nat.reduceBEq, Nat.reduceBNe, Tryti24, Trytf24, Trytz24, Trytp24, vint, TyS, TyF, BdS, BH, g1, g2, Int.toNat_natCast] <;> with_reducible rfl) (by decide) ?_
        refine aops_callR (by simp only [acallR, awanted, LS, SS, SX, HS, mkS_cons, mkS_nil, ↓reduceIte, eq_self', List.map_nil, beq_self_eq_true, Nat.reduceEqDiff, Nat.reduceAdd, Nat.reduceMul, Nat.reduceLT, Nat.reduceLeDiff, Nat.reducePow, Nat.reduceDiv, Nat.reduceMod, Nat.succ_ne_self, Nat.reduceBEq, Nat.reduceBNe, vint, TyS, TyF, BdS, BH, g1, g2, Int.toNat_natCast] <;> with_reducible rfl) (by simp only [acall, awanted, LS, SS, SX, HS, mkS_cons, mkS_nil, ↓reduceIte, eq_self', List.map_nil, beq_self_eq_true, Nat.reduceEqDiff, Nat.reduceAdd, Nat.reduceMul, Nat.reduceLT, Nat.reduceLeDiff, Nat.reducePow, Nat.reduceDiv, Nat.reduceMod, Nat.succ_ne_self, Nat.reduceBEq, Nat.reduceBNe, vint, TyS, TyF, BdS, BH, g1, g2, Int.toNat_natCast]) (by decide) Trygo89 (ih) ?_
        rintro _ _ ⟨rfl, rfl⟩
        refine e_end (by simp only [asq, as0, as1, as2, awanted, aop, LS, SS, SX, HS, mkS_cons, mkS_nil, ↓reduceIte, eq_self', List.map_nil, beq_self_eq_true, Nat.reduceEqDiff, Nat.reduceAdd, Nat.reduceMul, Nat.reduceLT, Nat.reduceLeDiff, Nat.reducePow, Nat.reduceDiv, Nat.reduceMod, Nat.succ_ne_self, Nat.reduceBEq, Nat.reduceBNe, vint, TyS, TyF, BdS, BH, g1, g2, Int.toNat_natCast] <;> with_reducible rfl) (by decide) ?_
        -- leaf 0 next0
        exact ⟨⟨rfl, rfl, trivial⟩, afv t.args[i] q, _, ⟨rfl, rfl, trivial⟩, by simp only [LS, SS, SX, HS, mkS_cons, mkS_nil, ↓reduceIte, eq_self', List.map_nil, beq_self_eq_true, Nat.reduceEqDiff, Nat.reduceAdd, Nat.succ_ne_self, vint, TyS, TyF, BdS] <;> rfl, ⟨by omega, hg⟩⟩
      · intro q hg
        obtain ⟨hq, hg⟩ := hg
        rw [List.drop_eq_nil_of_le (by simp), afvL_nil] at hg
        subst hg
        -- region 8
        repeat (refine awp_seq ?_)
        refine e_eval (by simp only [asq, as0, as1, as2, awanted, aop, LS, SS, SX, HS, mkS_cons, mkS_nil, ↓reduceIte, eq_self', List.map_nil, beq_self_eq_true, Nat.reduceEqDiff, Nat.reduceAdd, Nat.reduceMul, Nat.reduceLT, Nat.reduceLeDiff, Nat.reducePow, Nat.reduceDiv, Nat.reduceMod, Nat.succ_ne_self, Nat.reduceBEq, Nat.reduceBNe, vint, TyS, TyF, BdS, BH] <;> with_reducible rfl) (by decide) ?_
        repeat (refine awp_seq ?_)
        -- leaf 1 ret
        refine awp_ret ⟨.inr rfl, _, _, rfl, ?_, rfl⟩
        rfl
    · -- else t16
      rw [if_neg (by rw [b0]; simp)] at heq
      have hq0 : (vs.length + Ty.sizes t.args) * 8 ≤ 2 ^ 47 := by omega
      repeat (refine awp_seq ?_)
      refine awp_skip ?_
      -- region 3
      repeat (refine awp_seq ?_)
      refine e_eval (by simp only [asq, as0, as1, as2, awanted, aop, afldAddr, ajust, aload, abuiltin, LS, SS, SX, HS, mkS_cons, mkS_nil, ↓reduceIte, eq_self', List.map_nil, beq_self_eq_true, Nat.reduceEqDiff, Nat.reduceAdd, Nat.reduceMul, Nat.reduceLT, Nat.reduceLeDiff, Nat.reducePow, Nat.reduceDiv, Nat.reduceMod, Nat.succ_ne_self, Nat.reduceBEq, Nat.reduceBNe, Tryti22, Tryte22, Trytz22, Trytp22, Tryti24, Trytf24, Trytz24, Trytp24, vint, TyS, TyF, BdS, BH] <;> with_reducible rfl) (by decide) ?_
      repeat (refine awp_seq ?_)
      refine awp_forS (σ := List Int) (t.args.length) (fun (q : List Int) => [(0, .slice (q.map vint) (.tok id)), (23, .slice (t.args.map Ty.enc) .none)]) [0, 23] ([]) (fun (q : List Int) => bH H id q.length 1 ++ [.row t.enc.cells]) (fun (i : Nat) (q : List Int) => (q.length + Ty.sizes (t.args.drop i)) * 8 ≤ 2 ^ 47 ∧ afvL ((t.args.map afv).drop i) q = afv t vs) (_) ([]) rfl rfl rfl rfl rfl rfl rfl rfl rfl (by decide) (by decide) (by decide) (fun _ => rfl) (hw.lenMax) ⟨(by first | rfl | (simp only [LS, SS, SX, HS, mkS_cons, mkS_nil, ↓reduceIte, eq_self', List.map_nil, beq_self_eq_true, Nat.reduceEqDiff, Nat.reduceAdd, Nat.succ_ne_self, vint, TyS, TyF, BdS, BH] <;> first | done | with_reducible rfl)), (by first | rfl | (simp only [LS, SS, SX, HS, mkS_cons, mkS_nil, ↓reduceIte, eq_self', List.map_nil, beq_self_eq_true, Nat.reduceEqDiff, Nat.reduceAdd, Nat.succ_ne_self, vint, TyS, TyF, BdS, BH] <;> first | done | with_reducible rfl)), (by first | rfl | (simp only [LS, SS, SX, HS, mkS_cons, mkS_nil, ↓reduceIte, eq_self', List.map_nil, beq_self_eq_true, Nat.reduceEqDiff, Nat.reduceAdd, Nat.succ_ne_self, vint, TyS, TyF, BdS, BH] <;> first | done | with_reducible rfl)), (by first | rfl | (simp only [LS, SS, SX, HS, mkS_cons, mkS_nil, ↓reduceIte, eq_self', List.map_nil, beq_self_eq_true, Nat.reduceEqDiff, Nat.reduceAdd, Nat.succ_ne_self, vint, TyS, TyF, BdS, BH] <;> first | done | with_reducible rfl)), trivial⟩ (by first | rfl | (simp only [LS, SS, SX, HS, mkS_cons, mkS_nil, ↓reduceIte, eq_self', List.map_nil, beq_self_eq_true, Nat.reduceEqDiff, Nat.reduceAdd, Nat.succ_ne_self, vint, TyS, TyF, BdS, BH] <;> first | done | with_reducible rfl)) (⟨hq0, heq.symm⟩) (fun i q hg => by simp only [List.nil_append, List.length_append, bH_len]; omega) ?_ ?_ ?_
      · intro i q hg
        refine ⟨?_, .cons (bel_int_tok _ (by simp [bH_len]; omega)) (.cons (bel_slice_ty _ _) .nil)⟩
        simp only [List.nil_append, TyS]
        refine hbel_app' (bH_bel hb') (by simp [bH_len]) ?_
        repeat (first | exact hbel_nil _ | exact trivial | exact obel_row_nil _ | (refine HBel.cons ?_ ?_) | (refine obel_row_cons (by first | exact bel_Bd _ _ | exact Bd.bel _ _ | exact bel_ints0 _ _ | exact bel_slice_ty _ _ | exact Ty.bel _ _ | exact bel_ty_tok _ (by simp) | exact Bel.int _ _ | exact Bel.bool _ | exact Bel.str _ | exact Bel.nilp | exact Bel.nilfn | exact Bel.optr _ _ (by simp) | exact bel_nil0 _ | exact bel_nil1 _ | exact bel_fn0 _ _ | assumption) ?_))
      · intro i q hi hg
        obtain ⟨hq, hg⟩ := hg
        have g1 := ix_nat hi
        have g2 := get_enc Ty.enc hi
        have hmem : t.args[i] ∈ t.args := List.getElem_mem hi
        rw [List.drop_eq_getElem_cons hi, Ty.sizes] at hq
        rw [List.drop_eq_getElem_cons (by simpa using hi), List.getElem_map, afvL_cons] at hg
        have hal := afv_len t.args[i] q
        have ih := afv_k k t.args[i] q (bH H id q.length 1 ++ [.row [.int .i64 t.kind, .int .i64 t.id, .slice (t.args.map Ty.enc) .none], .row [.int .i64 t.args[i].kind, .int .i64 t.args[i].id, .slice (t.args[i].args.map Ty.enc) .none]]) id (by have := Ty.size_arg hmem; omega) (hw.arg hmem) (by omega) (by simp [bH_len]; omega)
        simp only [BH] at ih
        -- region 5
        repeat (refine awp_seq ?_)
        refine e_eval (by simp only [asq, as0, as1, as2, awanted, aop, aidxAddr, aidx, ajust, aload, astore, splice, LS, SS, SX, HS, mkS_cons, mkS_nil, ↓reduceIte, eq_self', List.map_nil, beq_self_eq_true, Nat.reduceEqDiff, Nat.reduceAdd, Nat.reduceMul, Nat.reduceLT, Nat.reduceLeDiff, Nat.reducePow, Nat.reduceDiv, Nat.reduceMod, Nat.succ_ne_self, Nat.reduceBEq, Nat.reduceBNe, Tryti22, Tryte22, Trytz22, Trytp22, Tryti24, Trytf24, Trytz24, Trytp24, vint, TyS, TyF, BdS, BH, g1, g2, Int.toNat_natCast] <;> with_reducible rfl) (by decide) ?_
        -- region 6
        repeat (refine awp_seq ?_)
        refine awp_region ?_
        refine e_take 2 (by simp only [asq, as0, as1, as2, awanted, aop, aload, ajust, LS, SS, SX, HS, mkS_cons, mkS_nil, ↓reduceIte, eq_self', List.map_nil, beq_self_eq_true, Nat.reduceEqDiff, Nat.reduceAdd, Nat.reduceMul, Nat.reduceLT, Nat.reduceLeDiff, Nat.reducePow, Nat.reduceDiv, Nat.reduceMod, Nat.succ_ne_self, Nat.reduceBEq, Nat.reduceBNe, Tryti24, Trytf24, Trytz24, Trytp24, vint, TyS, TyF, BdS, BH, g1, g2, Int.toNat_natCast] <;> with_reducible rfl) (by decide) ?_
        refine aops_callR (by simp only [acallR, awanted, LS, SS, SX, HS, mkS_cons, mkS_nil, ↓reduceIte, eq_self', List.map_nil, beq_self_eq_true, Nat.reduceEqDiff, Nat.reduceAdd, Nat.reduceMul, Nat.reduceLT, Nat.reduceLeDiff, Nat.reducePow, Nat.reduceDiv, Nat.reduceMod, Nat.succ_ne_self, Nat.reduceBEq, Nat.reduceBNe, vint, TyS, TyF, BdS, BH, g1, g2, Int.toNat_natCast] <;> with_reducible rfl) (by simp only [acall, awanted, LS, SS, SX, HS, mkS_cons, mkS_nil, ↓reduceIte, eq_self', List.map_nil, beq_self_eq_true, Nat.reduceEqDiff, Nat.reduceAdd, Nat.reduceMul, Nat.reduceLT, Nat.reduceLeDiff, Nat.reducePow, Nat.reduceDiv, Nat.reduceMod, Nat.succ_ne_self, Nat.reduceBEq, Nat.reduceBNe, vint, TyS, TyF, BdS, BH, g1, g2, Int.toNat_natCast]) (by decide) Trygo89 (ih) ?_
        rintro _ _ ⟨rfl, rfl⟩
        refine e_end (by simp only [asq, as0, as1, as2, awanted, aop, LS, SS, SX, HS, mkS_cons, mkS_nil, ↓reduceIte, eq_self', List.map_nil, beq_self_eq_true, Nat.reduceEqDiff, Nat.reduceAdd, Nat.reduceMul, Nat.reduceLT, Nat.reduceLeDiff, Nat.reducePow, Nat.reduceDiv, Nat.reduceMod, Nat.succ_ne_self, Nat.reduceBEq, Nat.reduceBNe, vint, TyS, TyF, BdS, BH, g1, g2, Int.toNat_natCast] <;> with_reducible rfl) (by decide) ?_
        -- leaf 2 next0
        exact ⟨⟨rfl, rfl, trivial⟩, afv t.args[i] q, _, ⟨rfl, rfl, trivial⟩, by simp only [LS, SS, SX, HS, mkS_cons, mkS_nil, ↓reduceIte, eq_self', List.map_nil, beq_self_eq_true, Nat.reduceEqDiff, Nat.reduceAdd, Nat.succ_ne_self, vint, TyS, TyF, BdS] <;> rfl, ⟨by omega, hg⟩⟩
      · intro q hg
        obtain ⟨hq, hg⟩ := hg
        rw [List.drop_eq_nil_of_le (by simp), afvL_nil] at hg
        subst hg
        -- region 8
        repeat (refine awp_seq ?_)
        refine e_eval (by simp only [asq, as0, as1, as2, awanted, aop, LS, SS, SX, HS, mkS_cons, mkS_nil, ↓reduceIte, eq_self', List.map_nil, beq_self_eq_true, Nat.reduceEqDiff, Nat.reduceAdd, Nat.reduceMul, Nat.reduceLT, Nat.reduceLeDiff, Nat.reducePow, Nat.reduceDiv, Nat.reduceMod, Nat.succ_ne_self, Nat.reduceBEq, Nat.reduceBNe, vint, TyS, TyF, BdS, BH] <;> with_reducible rfl) (by decide) ?_
        repeat (refine awp_seq ?_)
        -- leaf 3 ret
        refine awp_ret ⟨.inr rfl, _, _, rfl, ?_, rfl⟩
        rfl

theorem freeVars (t : Ty) (hw : t.W) (hs : t.size * 8 ≤ 2 ^ 47) : PC Try.prog 34 [t.enc] (.slice ((afv t []).map vint) .none) := by
  refine pc_of (N := 5) Try.func34 rfl rfl (by simp) (by simp [Ty.bel]) (bel_ints0 _ _) ?_
  -- region 0
  repeat (refine awp_seq ?_)
  refine e_eval (by simp only [asq, as0, as1, as2, awanted, aop, LS, SS, SX, HS, mkS_cons, mkS_nil, ↓reduceIte, eq_self', List.map_nil, beq_self_eq_true, Nat.reduceEqDiff, Nat.reduceAdd, Nat.reduceMul, Nat.reduceLT, Nat.reduceLeDiff, Nat.reducePow, Nat.reduceDiv, Nat.reduceMod, Nat.succ_ne_self, Nat.reduceBEq, Nat.reduceBNe, Tryti24, Trytf24, Trytz24, Trytp24, vint, TyS, TyF, BdS] <;> with_reducible rfl) (by decide) ?_
  -- region 1
  repeat (refine awp_seq ?_)
  refine awp_region ?_
  refine e_take 1 (by simp only [asq, as0, as1, as2, awanted, aop, aload, ajust, LS, SS, SX, HS, mkS_cons, mkS_nil, ↓reduceIte, eq_self', List.map_nil, beq_self_eq_true, Nat.reduceEqDiff, Nat.reduceAdd, Nat.reduceMul, Nat.reduceLT, Nat.reduceLeDiff, Nat.reducePow, Nat.reduceDiv, Nat.reduceMod, Nat.succ_ne_self, Nat.reduceBEq, Nat.reduceBNe, Tryti24, Trytf24, Trytz24, Trytp24, vint, TyS, TyF, BdS] <;> with_reducible rfl) (by decide) ?_
  refine aops_callR (by simp only [acallR, awanted, LS, SS, SX, HS, mkS_cons, mkS_nil, ↓reduceIte, eq_self', List.map_nil, beq_self_eq_true, Nat.reduceEqDiff, Nat.reduceAdd, Nat.reduceMul, Nat.reduceLT, Nat.reduceLeDiff, Nat.reducePow, Nat.reduceDiv, Nat.reduceMod, Nat.succ_ne_self, Nat.reduceBEq, Nat.reduceBNe, vint, TyS, TyF, BdS] <;> with_reducible rfl) (by simp only [acall, awanted, LS, SS, SX, HS, mkS_cons, mkS_nil, ↓reduceIte, eq_self', List.map_nil, beq_self_eq_true, Nat.reduceEqDiff, Nat.reduceAdd, Nat.reduceMul, Nat.reduceLT, Nat.reduceLeDiff, Nat.reducePow, Nat.reduceDiv, Nat.reduceMod, Nat.succ_ne_self, Nat.reduceBEq, Nat.reduceBNe, vint, TyS, TyF, BdS]) (by decide) Trygo89 (ACalls.retok (es := []) 1 (by have := afv_k t.size t [] [.row [.int .i64 t.kind, .int .i64 t.id, .slice (t.args.map Ty.enc) .none], .buf 0 1] 1 (Nat.le_refl _) hw (by simp; omega) (by simp); exact this)) ?_
  rintro _ _ ⟨rfl, rfl⟩
  refine e_end (by simp only [asq, as0, as1, as2, awanted, aop, LS, SS, SX, HS, mkS_cons, mkS_nil, ↓reduceIte, eq_self', List.map_nil, beq_self_eq_true, Nat.reduceEqDiff, Nat.reduceAdd, Nat.reduceMul, Nat.reduceLT, Nat.reduceLeDiff, Nat.reducePow, Nat.reduceDiv, Nat.reduceMod, Nat.succ_ne_self, Nat.reduceBEq, Nat.reduceBNe, vint, TyS, TyF, BdS] <;> with_reducible rfl) (by decide) ?_
  repeat (refine awp_seq ?_)
  -- leaf 0 ret
  refine awp_ret ⟨.inr rfl, _, rfl, ?_⟩
  rfl

end Go.Abs
set_option linter.unusedVariables false
set_option linter.unusedSimpArgs false
namespace Go.Abs
/-- What Normalize answers. -/
def normF (r : Rs) (ds : List Dc) (sas : List TB) (t : Ty) : Ty := if ds.length = r.syms.length then normalT r.syms ds sas t else .zero
def iterR : Rs := ⟨[⟨5, 0, 0, -1, [73, 116, 101, 114], false⟩, ⟨13, 0, 0, 0, [73, 116, 101, 109], false⟩, ⟨6, 0, 0, -1, [], false⟩, ⟨13, 0, 0, 2, [73, 116, 101, 109], false⟩], [], []⟩
def iterD : List Dc := [⟨[], .mk 0 0 [], -1, [], []⟩, ⟨[], .mk 0 0 [], -1, [], []⟩, ⟨[], .mk 3 0 [], 0, [], []⟩, ⟨[], .mk 4 0 [], -1, [], []⟩]
theorem iter_impl : implIx iterD (.mk 3 0 []) 0 = 2 := by
  simp [implIx, iterD, idxI, List.findIdx?_cons, implP, matchP, matchT, Ty.kind, Ty.id, Ty.args, mS0, matchL, cpar]
theorem iter_args : implAs iterD (.mk 3 0 []) 0 = [] := by
  unfold implAs implD; rw [iter_impl]; simp [iterD, matchP, matchT, Ty.kind, Ty.id, Ty.args, mS0, matchL]
theorem iter_solve : solveT iterD [] 8 (.mk 3 0 []) 0 = (.mk (.mk 3 0 []) 0 2 (-1) [] [], true) := by
  rw [solveT]; simp [iter_impl, iter_args, idx_none, Ty.kind, implD]; simp [iterD]
theorem iter_solve2 : solveT iterD [⟨.mk 2 7 [], 0⟩] 8 (.mk 2 7 []) 0 = (.mk (.mk 2 7 []) 0 (-1) 0 [] [], true) := by
  rw [solveT]; simp [idxI, List.findIdx?_cons, boundP, Ty.kind, Ty.eqb_self]
theorem iter_tr : traitIx iterR.syms 1 = 0 := by simp [traitIx, iterR]
theorem iter_mem : memIx iterR.syms iterD [] 1 (.mk 3 0 []) = 3 := by
  unfold memIx; rw [iter_tr, iter_solve]; simp [iterR, Pf.im, idxI, List.findIdx?_cons, memP]
theorem iter_X : projX iterR.syms iterD [] 1 (.mk 3 0 []) = .mk 4 0 [] := by
  unfold projX; rw [iter_mem, iter_tr, iter_solve]; simp [iterD, Pf.im, Pf.args, mapT_eq, appG, Ty.kind, Ty.id, Ty.args]
theorem nf0 (P : Ty → Ty × Bool) (k i : Int) (hk : k ≠ 10) : normD P (.mk k i []) = (.mk k i [], false) := by simp [normD_mk, hk]
theorem nf1 (P : Ty → Ty × Bool) (k i : Int) (u : Ty) : normD P (.mk k i [u]) = if k = 10 then ((P (.mk k i [(normD P u).1])).1, (normD P u).2 || (P (.mk k i [(normD P u).1])).2) else (.mk k i [(normD P u).1], (normD P u).2) := by simp [normD_mk]
theorem iter_pa : projN iterR.syms iterD [] 8 (.mk 10 1 [.mk 3 0 []]) = (.mk 4 0 [], false) := by
  rw [projN, projT_one, if_neg (by rw [iter_tr]; omega), if_neg (by rw [iter_tr, iter_solve]; simp [Pf.im])]
  simp only
  rw [if_neg (by rw [iter_mem]; omega), iter_X, nf0 _ _ _ (by omega)]
theorem work_a : normF iterR iterD [] (.mk 8 0 [.mk 10 1 [.mk 3 0 []]]) = .mk 8 0 [.mk 4 0 []] := by
  have e : normD (projN iterR.syms iterD [] 8) (.mk 8 0 [.mk 10 1 [.mk 3 0 []]]) = (.mk 8 0 [.mk 4 0 []], false) := by
    rw [nf1, nf1, nf0 _ _ _ (by omega), iter_pa]; simp
  unfold normF normalT
  rw [e, if_pos (by simp [iterD, iterR]), if_neg]
  simp [valT, measT, measL, wfT, nwf, Ty.kind, Ty.id, Ty.args]
  omega
theorem work_b : normF iterR iterD [⟨.mk 2 7 [], 0⟩] (.mk 10 1 [.mk 2 7 []]) = .mk 10 1 [.mk 2 7 []] := by
  have hr : rigid iterR.syms iterD [⟨.mk 2 7 [], 0⟩] 1 (.mk 2 7 []) := ⟨by rw [iter_tr]; omega, .inr (by rw [iter_tr, iter_solve2]; simp [Pf.im])⟩
  have e : normD (projN iterR.syms iterD [⟨.mk 2 7 [], 0⟩] 8) (.mk 10 1 [.mk 2 7 []]) = (.mk 10 1 [.mk 2 7 []], false) := by
    rw [nf1, nf0 _ _ _ (by omega), projN_rigid hr]; simp
  unfold normF normalT
  rw [e, if_pos (by simp [iterD, iterR]), if_neg]
  simp [valT, measT, measL, wfT, nwf, Ty.kind, Ty.id, Ty.args]
  omega
end Go.Abs
