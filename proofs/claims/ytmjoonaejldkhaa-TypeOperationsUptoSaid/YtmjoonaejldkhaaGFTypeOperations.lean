/- Part 6 of a proof of the law TypeOperations: Go data as trees, the walks of the functions that the law reaches, the plain laws. -/
import Derived.Test.YtmjoonaejldkhaaGETypeOperations
set_option linter.unusedVariables false
set_option linter.unusedSimpArgs false
set_option maxRecDepth 4000
namespace Go.Abs
open Go.Proofs

theorem containsIntR (xs : List Int) (n : Int) (hx : xs.length ≤ maxLen) : PC Try.prog 94 [.slice (xs.map vint) .none, vint n] (.bool (xs.any fun x => decide (x = n))) := by
  refine pc_of (N := 17) Try.func94 rfl rfl (by simp) (by simp [bel_ints0, Bel.int]) (.bool _) ?_
  -- region 0
  repeat (refine awp_seq ?_)
  refine e_eval (by simp only [asq, as0, as1, as2, awanted, aop, LS, SS, SX, HS, mkS_cons, mkS_nil, ↓reduceIte, eq_self', List.map_nil, beq_self_eq_true, Nat.reduceEqDiff, Nat.reduceAdd, Nat.reduceMul, Nat.reduceLT, Nat.reduceLeDiff, Nat.reducePow, Nat.reduceDiv, Nat.reduceMod, Nat.succ_ne_self, Nat.reduceBEq, Nat.reduceBNe, vint, TyS, TyF, BdS] <;> with_reducible rfl) (by decide) ?_
  -- region 1
  repeat (refine awp_seq ?_)
  refine e_eval (by simp only [asq, as0, as1, as2, awanted, aop, abuiltin, LS, SS, SX, HS, mkS_cons, mkS_nil, ↓reduceIte, eq_self', List.map_nil, beq_self_eq_true, Nat.reduceEqDiff, Nat.reduceAdd, Nat.reduceMul, Nat.reduceLT, Nat.reduceLeDiff, Nat.reducePow, Nat.reduceDiv, Nat.reduceMod, Nat.succ_ne_self, Nat.reduceBEq, Nat.reduceBNe, Tryti3, Trytz3, Trytp3, Trytk3, Tryti25, Tryte25, Trytz25, Trytp25, vint, TyS, TyF, BdS] <;> with_reducible rfl) (by decide) ?_
  repeat (refine awp_seq ?_)
  refine awp_forS (σ := Unit) (xs.length) (fun (s : Unit) => [(7, .slice (xs.map vint) .none), (1, vint n)]) [7, 1] ([]) (fun (s : Unit) => []) (fun (i : Nat) (s : Unit) => (xs.take i).any (fun x => decide (x = n)) = false) (()) ([]) rfl rfl rfl rfl rfl rfl rfl rfl rfl (by decide) (by decide) (by decide) (fun _ => rfl) (hx) ⟨(by first | rfl | (simp only [LS, SS, SX, HS, mkS_cons, mkS_nil, ↓reduceIte, eq_self', List.map_nil, beq_self_eq_true, Nat.reduceEqDiff, Nat.reduceAdd, Nat.succ_ne_self, vint, TyS, TyF, BdS] <;> first | done | with_reducible rfl)), (by first | rfl | (simp only [LS, SS, SX, HS, mkS_cons, mkS_nil, ↓reduceIte, eq_self', List.map_nil, beq_self_eq_true, Nat.reduceEqDiff, Nat.reduceAdd, Nat.succ_ne_self, vint, TyS, TyF, BdS] <;> first | done | with_reducible rfl)), (by first | rfl | (simp only [LS, SS, SX, HS, mkS_cons, mkS_nil, ↓reduceIte, eq_self', List.map_nil, beq_self_eq_true, Nat.reduceEqDiff, Nat.reduceAdd, Nat.succ_ne_self, vint, TyS, TyF, BdS] <;> first | done | with_reducible rfl)), (by first | rfl | (simp only [LS, SS, SX, HS, mkS_cons, mkS_nil, ↓reduceIte, eq_self', List.map_nil, beq_self_eq_true, Nat.reduceEqDiff, Nat.reduceAdd, Nat.succ_ne_self, vint, TyS, TyF, BdS] <;> first | done | with_reducible rfl)), trivial⟩ (by first | rfl | (simp only [LS, SS, SX, HS, mkS_cons, mkS_nil, ↓reduceIte, eq_self', List.map_nil, beq_self_eq_true, Nat.reduceEqDiff, Nat.reduceAdd, Nat.succ_ne_self, vint, TyS, TyF, BdS] <;> first | done | with_reducible rfl)) (by simp) (fun _ _ _ => by first | exact Nat.zero_le _ | (simp only [List.length_append]; omega)) ?_ ?_ ?_
  · exact fun i s hg => ⟨by first | exact hbel_nil _ | (simp only [List.append_nil]; assumption) | (refine hbel_app' hb' (by simp) ?_; repeat (first | exact hbel_nil _ | exact trivial | exact obel_row_nil _ | (refine HBel.cons ?_ ?_) | (refine obel_row_cons (by first | exact bel_Bd _ _ | exact Bd.bel _ _ | exact bel_int_tok _ (by simp) | exact bel_ints0 _ _ | exact bel_slice_ty _ _ | exact Ty.bel _ _ | exact bel_ty_tok _ (by simp) | exact Bel.int _ _ | exact Bel.bool _ | exact Bel.str _ | exact Bel.nilp | exact Bel.nilfn | exact Bel.optr _ _ (by simp) | exact bel_nil0 _ | exact bel_nil1 _ | exact bel_fn0 _ _ | assumption) ?_))), by repeat (first | exact BelL.nil | refine BelL.cons (by first | exact bel_Bd _ _ | exact Bd.bel _ _ | exact bel_int_tok _ (by simp) | exact bel_ints0 _ _ | exact bel_slice_ty _ _ | exact Ty.bel _ _ | exact bel_ty_tok _ (by simp) | exact Bel.int _ _ | exact Bel.bool _ | exact Bel.str _ | exact Bel.nilp | exact Bel.nilfn | exact Bel.optr _ _ (by simp) | exact bel_nil0 _ | exact bel_nil1 _ | exact bel_fn0 _ _ | assumption) ?_)⟩
  · intro i s hi hg
    have g1 := ix_nat hi
    have g2 := get_enc vint hi
    -- region 3
    repeat (refine awp_seq ?_)
    refine e_eval (by simp only [asq, as0, as1, as2, awanted, aop, aidxAddr, aidx, ajust, aload, LS, SS, SX, HS, mkS_cons, mkS_nil, ↓reduceIte, eq_self', List.map_nil, beq_self_eq_true, Nat.reduceEqDiff, Nat.reduceAdd, Nat.reduceMul, Nat.reduceLT, Nat.reduceLeDiff, Nat.reducePow, Nat.reduceDiv, Nat.reduceMod, Nat.succ_ne_self, Nat.reduceBEq, Nat.reduceBNe, Tryti3, Trytz3, Trytp3, Trytk3, Tryti25, Tryte25, Trytz25, Trytp25, vint, TyS, TyF, BdS, g1, Int.toNat_natCast, g2] <;> with_reducible rfl) (by decide) ?_
    -- region 4
    repeat (refine awp_seq ?_)
    refine e_eval (by simp only [asq, as0, as1, as2, awanted, aop, abin, ajust, LS, SS, SX, HS, mkS_cons, mkS_nil, ↓reduceIte, eq_self', List.map_nil, beq_self_eq_true, Nat.reduceEqDiff, Nat.reduceAdd, Nat.reduceMul, Nat.reduceLT, Nat.reduceLeDiff, Nat.reducePow, Nat.reduceDiv, Nat.reduceMod, Nat.succ_ne_self, Nat.reduceBEq, Nat.reduceBNe, Tryti3, Trytz3, Trytp3, Trytk3, vint, TyS, TyF, BdS, g1, Int.toNat_natCast, g2] <;> with_reducible rfl) (by decide) ?_
    repeat (refine awp_seq ?_)
    refine awp_cond rfl (by simp only [LS, SS, SX, HS, mkS_cons, mkS_nil, ↓reduceIte, eq_self', List.map_nil, beq_self_eq_true, Nat.reduceEqDiff, Nat.reduceAdd, Nat.succ_ne_self, vint, TyS, TyF, BdS, g1, Int.toNat_natCast, g2] <;> with_reducible rfl) (fun b0 => ?_) (fun b0 => ?_)
    · -- if t15
      -- region 5
      repeat (refine awp_seq ?_)
      refine e_eval (by simp only [asq, as0, as1, as2, awanted, aop, LS, SS, SX, HS, mkS_cons, mkS_nil, ↓reduceIte, eq_self', List.map_nil, beq_self_eq_true, Nat.reduceEqDiff, Nat.reduceAdd, Nat.reduceMul, Nat.reduceLT, Nat.reduceLeDiff, Nat.reducePow, Nat.reduceDiv, Nat.reduceMod, Nat.succ_ne_self, Nat.reduceBEq, Nat.reduceBNe, vint, TyS, TyF, BdS, g1, Int.toNat_natCast, g2] <;> with_reducible rfl) (by decide) ?_
      repeat (refine awp_seq ?_)
      -- leaf 0 ret
      refine awp_ret ⟨.inr rfl, _, rfl, ?_⟩
      have : (xs.any fun x => decide (x = n)) = true := List.any_eq_true.2 ⟨_, List.getElem_mem hi, b0⟩
      rw [this]; rfl
    · -- else t15
      repeat (refine awp_seq ?_)
      refine awp_skip ?_
      -- leaf 1 next0
      exact ⟨⟨rfl, rfl, trivial⟩, (), [], ⟨rfl, rfl, trivial⟩, rfl, any_take_succ hi hg b0⟩
  · intro s hg
    rw [List.take_length] at hg
    -- region 7
    repeat (refine awp_seq ?_)
    refine e_eval (by simp only [asq, as0, as1, as2, awanted, aop, LS, SS, SX, HS, mkS_cons, mkS_nil, ↓reduceIte, eq_self', List.map_nil, beq_self_eq_true, Nat.reduceEqDiff, Nat.reduceAdd, Nat.reduceMul, Nat.reduceLT, Nat.reduceLeDiff, Nat.reducePow, Nat.reduceDiv, Nat.reduceMod, Nat.succ_ne_self, Nat.reduceBEq, Nat.reduceBNe, vint, TyS, TyF, BdS] <;> with_reducible rfl) (by decide) ?_
    repeat (refine awp_seq ?_)
    -- leaf 2 ret
    refine awp_ret ⟨.inr rfl, _, rfl, ?_⟩
    rw [hg]; rfl

theorem inRange (n lo hi : Int) : PC Try.prog 98 [vint n, vint lo, vint hi] (.bool (decide (lo ≤ n) && decide (n ≤ hi))) := by
  refine pc_of (N := 15) Try.func98 rfl rfl (by simp) (by simp [Bel.int]) (.bool _) ?_
  -- region 0
  repeat (refine awp_seq ?_)
  refine e_eval (by simp only [asq, as0, as1, as2, awanted, aop, LS, SS, SX, HS, mkS_cons, mkS_nil, ↓reduceIte, eq_self', List.map_nil, beq_self_eq_true, Nat.reduceEqDiff, Nat.reduceAdd, Nat.reduceMul, Nat.reduceLT, Nat.reduceLeDiff, Nat.reducePow, Nat.reduceDiv, Nat.reduceMod, Nat.succ_ne_self, Nat.reduceBEq, Nat.reduceBNe, vint, TyS, TyF, BdS] <;> with_reducible rfl) (by decide) ?_
  -- region 1
  repeat (refine awp_seq ?_)
  refine g_eval (by simp only [gsq, gs0, gs1, gs2, gcond, gop, SG, Op.operands, Call.operands, Array.toList_append, aop, abin, ajust, LS, SS, SX, HS, mkS_cons, mkS_nil, ↓reduceIte, eq_self', List.map_nil, beq_self_eq_true, Nat.reduceEqDiff, Nat.reduceAdd, Nat.reduceMul, Nat.reduceLT, Nat.reduceLeDiff, Nat.reducePow, Nat.reduceDiv, Nat.reduceMod, Nat.succ_ne_self, Nat.reduceBEq, Nat.reduceBNe, Tryti3, Trytz3, Trytp3, Trytk3, vint, TyS, TyF, BdS] <;> with_reducible rfl) (by decide) (by repeat (first | exact Fin.base _ | with_reducible apply Fin.keep | apply Fin.drop)) ?_
  repeat (refine awp_seq ?_)
  -- leaf 0 ret
  refine awp_ret ⟨.inr rfl, _, rfl, ?_⟩
  simp only [LS, SS, SX, HS, mkS_cons, mkS_nil, ↓reduceIte, eq_self', List.map_nil, beq_self_eq_true, Nat.reduceEqDiff, Nat.reduceAdd, Nat.succ_ne_self, vint, TyS, TyF, BdS]

theorem typeSize_k : ∀ (k : Nat) (t : Ty), t.size ≤ k → t.W → (t.size : Int) ≤ 4294967296 → PC Try.prog 36 [t.enc] (.tup [vint t.size, vint (dep t)])
  | 0, t, h, _, _ => by cases t; simp [Ty.size] at h
  | k + 1, t, h, hw, hb => by
    have hts : t.size = 1 + Ty.sizes t.args := by cases t; simp [Ty.size, Ty.args]
    refine pc_of (N := 30) Try.func36 rfl rfl (by simp) (by simp [Ty.bel]) (.tup _ (by simp [Bel.int])) ?_
    -- region 0
    repeat (refine awp_seq ?_)
    refine e_eval (by simp only [asq, as0, as1, as2, awanted, aop, LS, SS, SX, HS, mkS_cons, mkS_nil, ↓reduceIte, eq_self', List.map_nil, beq_self_eq_true, Nat.reduceEqDiff, Nat.reduceAdd, Nat.reduceMul, Nat.reduceLT, Nat.reduceLeDiff, Nat.reducePow, Nat.reduceDiv, Nat.reduceMod, Nat.succ_ne_self, Nat.reduceBEq, Nat.reduceBNe, Tryti24, Trytf24, Trytz24, Trytp24, vint, TyS, TyF, BdS] <;> with_reducible rfl) (by decide) ?_
    -- region 1
    repeat (refine awp_seq ?_)
    refine e_eval (by simp only [asq, as0, as1, as2, awanted, aop, LS, SS, SX, HS, mkS_cons, mkS_nil, ↓reduceIte, eq_self', List.map_nil, beq_self_eq_true, Nat.reduceEqDiff, Nat.reduceAdd, Nat.reduceMul, Nat.reduceLT, Nat.reduceLeDiff, Nat.reducePow, Nat.reduceDiv, Nat.reduceMod, Nat.succ_ne_self, Nat.reduceBEq, Nat.reduceBNe, vint, TyS, TyF, BdS] <;> with_reducible rfl) (by decide) ?_
    -- region 2
    repeat (refine awp_seq ?_)
    refine e_eval (by simp only [asq, as0, as1, as2, awanted, aop, afldAddr, ajust, aload, abuiltin, LS, SS, SX, HS, mkS_cons, mkS_nil, ↓reduceIte, eq_self', List.map_nil, beq_self_eq_true, Nat.reduceEqDiff, Nat.reduceAdd, Nat.reduceMul, Nat.reduceLT, Nat.reduceLeDiff, Nat.reducePow, Nat.reduceDiv, Nat.reduceMod, Nat.succ_ne_self, Nat.reduceBEq, Nat.reduceBNe, Tryti22, Tryte22, Trytz22, Trytp22, Tryti24, Trytf24, Trytz24, Trytp24, vint, TyS, TyF, BdS] <;> with_reducible rfl) (by decide) ?_
    repeat (refine awp_seq ?_)
    refine awp_forS (σ := Int × Int) (t.args.length) (fun (q : Int × Int) => [(2, vint q.1), (3, vint q.2), (9, .slice (t.args.map Ty.enc) .none)]) [2, 3, 9] ([]) (fun (q : Int × Int) => []) (fun (i : Nat) (q : Int × Int) => (1 ≤ q.1 ∧ 1 ≤ q.2 ∧ q.2 ≤ q.1) ∧ q.1 + (Ty.sizes (t.args.drop i) : Int) = t.size ∧ depL ((t.args.map dep).drop i) q.2 = dep t) ((1, 1)) (_) rfl rfl rfl rfl rfl rfl rfl rfl rfl (by decide) (by decide) (by decide) (fun _ => rfl) (hw.lenMax) ⟨(by first | rfl | (simp only [LS, SS, SX, HS, mkS_cons, mkS_nil, ↓reduceIte, eq_self', List.map_nil, beq_self_eq_true, Nat.reduceEqDiff, Nat.reduceAdd, Nat.succ_ne_self, vint, TyS, TyF, BdS] <;> first | done | with_reducible rfl)), (by first | rfl | (simp only [LS, SS, SX, HS, mkS_cons, mkS_nil, ↓reduceIte, eq_self', List.map_nil, beq_self_eq_true, Nat.reduceEqDiff, Nat.reduceAdd, Nat.succ_ne_self, vint, TyS, TyF, BdS] <;> first | done | with_reducible rfl)), (by first | rfl | (simp only [LS, SS, SX, HS, mkS_cons, mkS_nil, ↓reduceIte, eq_self', List.map_nil, beq_self_eq_true, Nat.reduceEqDiff, Nat.reduceAdd, Nat.succ_ne_self, vint, TyS, TyF, BdS] <;> first | done | with_reducible rfl)), (by first | rfl | (simp only [LS, SS, SX, HS, mkS_cons, mkS_nil, ↓reduceIte, eq_self', List.map_nil, beq_self_eq_true, Nat.reduceEqDiff, Nat.reduceAdd, Nat.succ_ne_self, vint, TyS, TyF, BdS] <;> first | done | with_reducible rfl)), (by first | rfl | (simp only [LS, SS, SX, HS, mkS_cons, mkS_nil, ↓reduceIte, eq_self', List.map_nil, beq_self_eq_true, Nat.reduceEqDiff, Nat.reduceAdd, Nat.succ_ne_self, vint, TyS, TyF, BdS] <;> first | done | with_reducible rfl)), trivial⟩ (by first | rfl | (simp only [LS, SS, SX, HS, mkS_cons, mkS_nil, ↓reduceIte, eq_self', List.map_nil, beq_self_eq_true, Nat.reduceEqDiff, Nat.reduceAdd, Nat.succ_ne_self, vint, TyS, TyF, BdS] <;> first | done | with_reducible rfl)) (⟨by decide, by simp only [List.drop_zero]; omega, by rw [dep_eq]; rfl⟩) (fun _ _ _ => by first | exact Nat.zero_le _ | (simp only [List.length_append]; omega)) ?_ ?_ ?_
    · exact fun i s hg => ⟨by first | exact hbel_nil _ | (simp only [List.append_nil]; assumption) | (refine hbel_app' hb' (by simp) ?_; repeat (first | exact hbel_nil _ | exact trivial | exact obel_row_nil _ | (refine HBel.cons ?_ ?_) | (refine obel_row_cons (by first | exact bel_Bd _ _ | exact Bd.bel _ _ | exact bel_int_tok _ (by simp) | exact bel_ints0 _ _ | exact bel_slice_ty _ _ | exact Ty.bel _ _ | exact bel_ty_tok _ (by simp) | exact Bel.int _ _ | exact Bel.bool _ | exact Bel.str _ | exact Bel.nilp | exact Bel.nilfn | exact Bel.optr _ _ (by simp) | exact bel_nil0 _ | exact bel_nil1 _ | exact bel_fn0 _ _ | assumption) ?_))), by repeat (first | exact BelL.nil | refine BelL.cons (by first | exact bel_Bd _ _ | exact Bd.bel _ _ | exact bel_int_tok _ (by simp) | exact bel_ints0 _ _ | exact bel_slice_ty _ _ | exact Ty.bel _ _ | exact bel_ty_tok _ (by simp) | exact Bel.int _ _ | exact Bel.bool _ | exact Bel.str _ | exact Bel.nilp | exact Bel.nilfn | exact Bel.optr _ _ (by simp) | exact bel_nil0 _ | exact bel_nil1 _ | exact bel_fn0 _ _ | assumption) ?_)⟩
    · intro i q hi hg
      obtain ⟨⟨q1, q2, q3⟩, hg1, hg2⟩ := hg
      have g1 := ix_nat hi
      have g2 := get_enc Ty.enc hi
      have hmem : t.args[i] ∈ t.args := List.getElem_mem hi
      have hsa := Ty.size_arg hmem
      rw [List.drop_eq_getElem_cons hi, Ty.sizes] at hg1
      rw [List.drop_eq_getElem_cons (by simpa using hi), List.getElem_map, depL_cons] at hg2
      have hdu := dep_bd t.args[i]
      have hwr1 : IntKind.i64.wrap (q.1 + (t.args[i].size : Int)) = q.1 + (t.args[i].size : Int) := wrap_id (by omega) (by omega)
      have hwr2 : IntKind.i64.wrap (dep t.args[i] + 1) = dep t.args[i] + 1 := wrap_id (by omega) (by omega)
      -- region 4
      repeat (refine awp_seq ?_)
      refine e_eval (by simp only [asq, as0, as1, as2, awanted, aop, aidxAddr, aidx, ajust, aload, astore, splice, LS, SS, SX, HS, mkS_cons, mkS_nil, ↓reduceIte, eq_self', List.map_nil, beq_self_eq_true, Nat.reduceEqDiff, Nat.reduceAdd, Nat.reduceMul, Nat.reduceLT, Nat.reduceLeDiff, Nat.reducePow, Nat.reduceDiv, Nat.reduceMod, Nat.succ_ne_self, Nat.reduceBEq, Nat.reduceBNe, Tryti22, Tryte22, Trytz22, Trytp22, Tryti24, Trytf24, Trytz24, Trytp24, vint, TyS, TyF, BdS, g1, g2, Int.toNat_natCast] <;> with_reducible rfl) (by decide) ?_
      -- region 5
      repeat (refine awp_seq ?_)
      refine awp_region ?_
      refine e_take 1 (by simp only [asq, as0, as1, as2, awanted, aop, aload, ajust, LS, SS, SX, HS, mkS_cons, mkS_nil, ↓reduceIte, eq_self', List.map_nil, beq_self_eq_true, Nat.reduceEqDiff, Nat.reduceAdd, Nat.reduceMul, Nat.reduceLT, Nat.reduceLeDiff, Nat.reducePow, Nat.reduceDiv, Nat.reduceMod, Nat.succ_ne_self, Nat.reduceBEq, Nat.reduceBNe, Tryti24, Trytf24, Trytz24, Trytp24, vint, TyS, TyF, BdS, g1, g2, Int.toNat_natCast] <;> with_reducible rfl) (by decide) ?_
      refine aops_pure (by simp only [acall, awanted, LS, SS, SX, HS, mkS_cons, mkS_nil, ↓reduceIte, eq_self', List.map_nil, beq_self_eq_true, Nat.reduceEqDiff, Nat.reduceAdd, Nat.reduceMul, Nat.reduceLT, Nat.reduceLeDiff, Nat.reducePow, Nat.reduceDiv, Nat.reduceMod, Nat.succ_ne_self, Nat.reduceBEq, Nat.reduceBNe, vint, TyS, TyF, BdS, g1, g2, Int.toNat_natCast] <;> with_reducible rfl) (by simp only [acall, awanted, LS, SS, SX, HS, mkS_cons, mkS_nil, ↓reduceIte, eq_self', List.map_nil, beq_self_eq_true, Nat.reduceEqDiff, Nat.reduceAdd, Nat.reduceMul, Nat.reduceLT, Nat.reduceLeDiff, Nat.reducePow, Nat.reduceDiv, Nat.reduceMod, Nat.succ_ne_self, Nat.reduceBEq, Nat.reduceBNe, vint, TyS, TyF, BdS, g1, g2, Int.toNat_natCast]) (by decide) Trygo36 (typeSize_k k t.args[i] (by omega) (hw.arg hmem) (by omega) _) ?_
      refine e_end (by simp only [asq, as0, as1, as2, awanted, aop, ajust, LS, SS, SX, HS, mkS_cons, mkS_nil, ↓reduceIte, eq_self', List.map_nil, beq_self_eq_true, Nat.reduceEqDiff, Nat.reduceAdd, Nat.reduceMul, Nat.reduceLT, Nat.reduceLeDiff, Nat.reducePow, Nat.reduceDiv, Nat.reduceMod, Nat.succ_ne_self, Nat.reduceBEq, Nat.reduceBNe, vint, TyS, TyF, BdS, g1, g2, Int.toNat_natCast] <;> with_reducible rfl) (by decide) ?_
      -- region 6
      repeat (refine awp_seq ?_)
      refine e_eval (by simp only [asq, as0, as1, as2, awanted, aop, abin, ajust, LS, SS, SX, HS, mkS_cons, mkS_nil, ↓reduceIte, eq_self', List.map_nil, beq_self_eq_true, Nat.reduceEqDiff, Nat.reduceAdd, Nat.reduceMul, Nat.reduceLT, Nat.reduceLeDiff, Nat.reducePow, Nat.reduceDiv, Nat.reduceMod, Nat.succ_ne_self, Nat.reduceBEq, Nat.reduceBNe, Tryti3, Trytz3, Trytp3, Trytk3, vint, TyS, TyF, BdS, g1, g2, Int.toNat_natCast, hwr1] <;> with_reducible rfl) (by decide) ?_
      -- region 7
      repeat (refine awp_seq ?_)
      refine e_eval (by simp only [asq, as0, as1, as2, awanted, aop, abin, ajust, abuiltin, LS, SS, SX, HS, mkS_cons, mkS_nil, ↓reduceIte, eq_self', List.map_nil, beq_self_eq_true, Nat.reduceEqDiff, Nat.reduceAdd, Nat.reduceMul, Nat.reduceLT, Nat.reduceLeDiff, Nat.reducePow, Nat.reduceDiv, Nat.reduceMod, Nat.succ_ne_self, Nat.reduceBEq, Nat.reduceBNe, Tryti3, Trytz3, Trytp3, Trytk3, vint, TyS, TyF, BdS, g1, g2, Int.toNat_natCast, hwr2] <;> with_reducible rfl) (by decide) ?_
      -- leaf 0 next0
      exact ⟨⟨rfl, rfl, trivial⟩, (q.1 + (t.args[i].size : Int), max q.2 (dep t.args[i] + 1)), _, ⟨rfl, rfl, rfl, trivial⟩, rfl, ⟨by simp only; omega, by simp only; omega, by simp only; omega⟩, by simp only; omega, hg2⟩
    · intro q hg
      obtain ⟨_, hg1, hg2⟩ := hg
      rw [List.drop_eq_nil_of_le (by simp)] at hg1 hg2
      have e1 : q.1 = t.size := by simpa [Ty.sizes] using hg1
      have e2 : q.2 = dep t := hg2
      -- region 9
      repeat (refine awp_seq ?_)
      refine e_eval (by simp only [asq, as0, as1, as2, awanted, aop, LS, SS, SX, HS, mkS_cons, mkS_nil, ↓reduceIte, eq_self', List.map_nil, beq_self_eq_true, Nat.reduceEqDiff, Nat.reduceAdd, Nat.reduceMul, Nat.reduceLT, Nat.reduceLeDiff, Nat.reducePow, Nat.reduceDiv, Nat.reduceMod, Nat.succ_ne_self, Nat.reduceBEq, Nat.reduceBNe, vint, TyS, TyF, BdS] <;> with_reducible rfl) (by decide) ?_
      repeat (refine awp_seq ?_)
      -- leaf 1 ret
      refine awp_ret ⟨.inr rfl, _, (ares_two (.tmp 2) (.tmp 3) rfl (ares_tmp1 (by decide)) (ares_tmp1 (by decide))), ?_⟩
      rw [← e1, ← e2]; rfl

theorem typeWF_0 (t : Ty) (hk : t.kind = 0) (hw : t.W) (ih : ∀ u ∈ t.args, PC Try.prog 93 [u.enc] (.bool (wfT u))) : PC Try.prog 93 [t.enc] (.bool (wfT t)) := by
  have hlen0 : (0 : Int) ≤ (t.args.length : Int) := by omega
  have d0 : decide (t.kind = 0) = true := decide_eq_true hk
  have d1 : decide (t.kind = 1) = false := decide_eq_false (by omega)
  have d2 : decide (t.kind = 2) = false := decide_eq_false (by omega)
  have d3 : decide (t.kind = 3) = false := decide_eq_false (by omega)
  have d4 : decide (t.kind = 4) = false := decide_eq_false (by omega)
  have d5 : decide (t.kind = 5) = false := decide_eq_false (by omega)
  have d6 : decide (t.kind = 6) = false := decide_eq_false (by omega)
  have d7 : decide (t.kind = 7) = false := decide_eq_false (by omega)
  have d8 : decide (t.kind = 8) = false := decide_eq_false (by omega)
  have d9 : decide (t.kind = 9) = false := decide_eq_false (by omega)
  have d10 : decide (t.kind = 10) = false := decide_eq_false (by omega)
  refine pc_of (N := 66) Try.func93 rfl rfl (by simp) (by simp [Ty.bel]) (.bool _) ?_
  -- region 0
  repeat (refine awp_seq ?_)
  refine e_eval (by simp only [asq, as0, as1, as2, awanted, aop, LS, SS, SX, HS, mkS_cons, mkS_nil, ↓reduceIte, eq_self', List.map_nil, beq_self_eq_true, Nat.reduceEqDiff, Nat.reduceAdd, Nat.reduceMul, Nat.reduceLT, Nat.reduceLeDiff, Nat.reducePow, Nat.reduceDiv, Nat.reduceMod, Nat.succ_ne_self, Nat.reduceBEq, Nat.reduceBNe, Tryti24, Trytf24, Trytz24, Trytp24, vint, TyS, TyF, BdS, Int.cast_ofNat_Int, d0, d1, d2, d3, d4, d5, d6, d7, d8, d9, d10] <;> with_reducible rfl) (by decide) ?_
  -- region 1
  repeat (refine awp_seq ?_)
  refine e_eval (by simp only [asq, as0, as1, as2, awanted, aop, LS, SS, SX, HS, mkS_cons, mkS_nil, ↓reduceIte, eq_self', List.map_nil, beq_self_eq_true, Nat.reduceEqDiff, Nat.reduceAdd, Nat.reduceMul, Nat.reduceLT, Nat.reduceLeDiff, Nat.reducePow, Nat.reduceDiv, Nat.reduceMod, Nat.succ_ne_self, Nat.reduceBEq, Nat.reduceBNe, vint, TyS, TyF, BdS, Int.cast_ofNat_Int, d0, d1, d2, d3, d4, d5, d6, d7, d8, d9, d10] <;> with_reducible rfl) (by decide) ?_
  -- region 2
  repeat (refine awp_seq ?_)
  refine e_eval (by simp only [asq, as0, as1, as2, awanted, aop, afldAddr, ajust, aload, LS, SS, SX, HS, mkS_cons, mkS_nil, ↓reduceIte, eq_self', List.map_nil, beq_self_eq_true, Nat.reduceEqDiff, Nat.reduceAdd, Nat.reduceMul, Nat.reduceLT, Nat.reduceLeDiff, Nat.reducePow, Nat.reduceDiv, Nat.reduceMod, Nat.succ_ne_self, Nat.reduceBEq, Nat.reduceBNe, Tryti3, Trytz3, Trytp3, Trytk3, Tryti24, Trytf24, Trytz24, Trytp24, vint, TyS, TyF, BdS, Int.cast_ofNat_Int, d0, d1, d2, d3, d4, d5, d6, d7, d8, d9, d10] <;> with_reducible rfl) (by decide) ?_
  repeat (refine awp_seq ?_)
  refine awp_block ?_
  -- region 4
  repeat (refine awp_seq ?_)
  refine e_eval (by simp only [asq, as0, as1, as2, awanted, aop, abin, ajust, LS, SS, SX, HS, mkS_cons, mkS_nil, ↓reduceIte, eq_self', List.map_nil, beq_self_eq_true, Nat.reduceEqDiff, Nat.reduceAdd, Nat.reduceMul, Nat.reduceLT, Nat.reduceLeDiff, Nat.reducePow, Nat.reduceDiv, Nat.reduceMod, Nat.succ_ne_self, Nat.reduceBEq, Nat.reduceBNe, Tryti3, Trytz3, Trytp3, Trytk3, vint, TyS, TyF, BdS, Int.cast_ofNat_Int, d0, d1, d2, d3, d4, d5, d6, d7, d8, d9, d10] <;> with_reducible rfl) (by decide) ?_
  repeat (refine awp_seq ?_)
  refine awp_cond_true rfl (by simp only [LS, SS, SX, HS, mkS_cons, mkS_nil, ↓reduceIte, eq_self', List.map_nil, beq_self_eq_true, Nat.reduceEqDiff, Nat.reduceAdd, Nat.succ_ne_self, vint, TyS, TyF, BdS, Int.cast_ofNat_Int, d0, d1, d2, d3, d4, d5, d6, d7, d8, d9, d10] <;> with_reducible rfl) ?_
  repeat (refine awp_seq ?_)
  refine awp_skip ?_
  repeat (refine awp_seq ?_)
  refine awp_cond_true rfl (by simp only [LS, SS, SX, HS, mkS_cons, mkS_nil, ↓reduceIte, eq_self', List.map_nil, beq_self_eq_true, Nat.reduceEqDiff, Nat.reduceAdd, Nat.succ_ne_self, vint, TyS, TyF, BdS, Int.cast_ofNat_Int, d0, d1, d2, d3, d4, d5, d6, d7, d8, d9, d10] <;> with_reducible rfl) ?_
  repeat (refine awp_seq ?_)
  refine awp_skip ?_
  -- region 20
  repeat (refine awp_seq ?_)
  refine awp_region ?_
  refine aops_gstart ?_
  refine g_take 5 (by simp only [gsq, gs0, gs1, gs2, gcond, gop, SG, Op.operands, Call.operands, Array.toList_append, aop, afldAddr, ajust, aload, abuiltin, LS, SS, SX, HS, mkS_cons, mkS_nil, ↓reduceIte, eq_self', List.map_nil, beq_self_eq_true, Nat.reduceEqDiff, Nat.reduceAdd, Nat.reduceMul, Nat.reduceLT, Nat.reduceLeDiff, Nat.reducePow, Nat.reduceDiv, Nat.reduceMod, Nat.succ_ne_self, Nat.reduceBEq, Nat.reduceBNe, Tryti22, Tryte22, Trytz22, Trytp22, Tryti24, Trytf24, Trytz24, Trytp24, vint, TyS, TyF, BdS, Int.cast_ofNat_Int, d0, d1, d2, d3, d4, d5, d6, d7, d8, d9, d10] <;> with_reducible rfl) (by decide) ?_
  refine aops_gpure (by simp only [acall, gcond, SG, Op.operands, Call.operands, Array.toList_append, LS, SS, SX, HS, mkS_cons, mkS_nil, ↓reduceIte, eq_self', List.map_nil, beq_self_eq_true, Nat.reduceEqDiff, Nat.reduceAdd, Nat.reduceMul, Nat.reduceLT, Nat.reduceLeDiff, Nat.reducePow, Nat.reduceDiv, Nat.reduceMod, Nat.succ_ne_self, Nat.reduceBEq, Nat.reduceBNe, vint, TyS, TyF, BdS, Int.cast_ofNat_Int, d0, d1, d2, d3, d4, d5, d6, d7, d8, d9, d10] <;> with_reducible rfl) (by simp only [acall, gcond, SG, Op.operands, Call.operands, Array.toList_append, LS, SS, SX, HS, mkS_cons, mkS_nil, ↓reduceIte, eq_self', List.map_nil, beq_self_eq_true, Nat.reduceEqDiff, Nat.reduceAdd, Nat.reduceMul, Nat.reduceLT, Nat.reduceLeDiff, Nat.reducePow, Nat.reduceDiv, Nat.reduceMod, Nat.succ_ne_self, Nat.reduceBEq, Nat.reduceBNe, vint, TyS, TyF, BdS, Int.cast_ofNat_Int, d0, d1, d2, d3, d4, d5, d6, d7, d8, d9, d10] <;> with_reducible rfl) (by simp only [acall, gcond, SG, Op.operands, Call.operands, Array.toList_append, LS, SS, SX, HS, mkS_cons, mkS_nil, ↓reduceIte, eq_self', List.map_nil, beq_self_eq_true, Nat.reduceEqDiff, Nat.reduceAdd, Nat.reduceMul, Nat.reduceLT, Nat.reduceLeDiff, Nat.reducePow, Nat.reduceDiv, Nat.reduceMod, Nat.succ_ne_self, Nat.reduceBEq, Nat.reduceBNe, vint, TyS, TyF, BdS, Int.cast_ofNat_Int, d0, d1, d2, d3, d4, d5, d6, d7, d8, d9, d10]) (by decide) Trygo98 (fun hc => inRange _ _ _ _) ?_
  refine g_end (by simp only [gsq, gs0, gs1, gs2, gcond, gop, SG, Op.operands, Call.operands, Array.toList_append, aop, aun, ajust, afldAddr, aload, abin, LS, SS, SX, HS, mkS_cons, mkS_nil, ↓reduceIte, eq_self', List.map_nil, beq_self_eq_true, Nat.reduceEqDiff, Nat.reduceAdd, Nat.reduceMul, Nat.reduceLT, Nat.reduceLeDiff, Nat.reducePow, Nat.reduceDiv, Nat.reduceMod, Nat.succ_ne_self, Nat.reduceBEq, Nat.reduceBNe, Tryti3, Trytz3, Trytp3, Trytk3, Tryti24, Trytf24, Trytz24, Trytp24, vint, TyS, TyF, BdS, Int.cast_ofNat_Int, d0, d1, d2, d3, d4, d5, d6, d7, d8, d9, d10] <;> with_reducible rfl) (by decide) (by repeat (first | exact Fin.base _ | with_reducible apply Fin.keep | apply Fin.drop)) ?_
  repeat (refine awp_seq ?_)
  refine awp_cond rfl (by simp only [LS, SS, SX, HS, mkS_cons, mkS_nil, ↓reduceIte, eq_self', List.map_nil, beq_self_eq_true, Nat.reduceEqDiff, Nat.reduceAdd, Nat.succ_ne_self, vint, TyS, TyF, BdS, Int.cast_ofNat_Int, d0, d1, d2, d3, d4, d5, d6, d7, d8, d9, d10] <;> with_reducible rfl) (fun bt54 => ?_) (fun bt54 => ?_)
  · -- if t54
    have hn : nwf t = false := by
      unfold nwf
      simp only [d0, d1, d2, d3, d4, d5, d6, d7, d8, d9, d10, Bool.or_false, Bool.or_true, Bool.false_or, Bool.true_or, if_true, if_false, Bool.false_eq_true]
      rw [Bool.eq_false_iff]
      intro hh
      simp only [Bool.or_eq_true, Bool.and_eq_true, Bool.not_eq_true', Bool.and_eq_false_iff, Bool.or_eq_false_iff, Bool.not_eq_false', decide_eq_true_eq, decide_eq_false_iff_not] at hh bt54
      omega
    have hwf : wfT t = false := by rw [wfT_eq, hn]; rfl
    refine awp_sel [] (by simp only [LS, SS, SX, HS, mkS_cons, mkS_nil, ↓reduceIte, eq_self', List.map_nil, beq_self_eq_true, Nat.reduceEqDiff, Nat.reduceAdd, Nat.succ_ne_self, vint, TyS, TyF, BdS, Int.cast_ofNat_Int, d0, d1, d2, d3, d4, d5, d6, d7, d8, d9, d10] <;> with_reducible rfl) ?_
    -- region 21
    repeat (refine awp_seq ?_)
    refine e_eval (by simp only [asq, as0, as1, as2, awanted, aop, LS, SS, SX, HS, mkS_cons, mkS_nil, ↓reduceIte, eq_self', List.map_nil, beq_self_eq_true, Nat.reduceEqDiff, Nat.reduceAdd, Nat.reduceMul, Nat.reduceLT, Nat.reduceLeDiff, Nat.reducePow, Nat.reduceDiv, Nat.reduceMod, Nat.succ_ne_self, Nat.reduceBEq, Nat.reduceBNe, vint, TyS, TyF, BdS, Int.cast_ofNat_Int, d0, d1, d2, d3, d4, d5, d6, d7, d8, d9, d10] <;> with_reducible rfl) (by decide) ?_
    repeat (refine awp_seq ?_)
    -- leaf 0 ret
    refine awp_ret ⟨.inr rfl, _, rfl, ?_⟩
    rw [hwf]; rfl
  · -- else t54
    have hn : nwf t = true := by
      unfold nwf
      simp only [d0, d1, d2, d3, d4, d5, d6, d7, d8, d9, d10, Bool.or_false, Bool.or_true, Bool.false_or, Bool.true_or, if_true, if_false, Bool.false_eq_true]
      simp only [Bool.or_eq_true, Bool.and_eq_true, Bool.not_eq_true', Bool.and_eq_false_iff, Bool.or_eq_false_iff, Bool.not_eq_false', decide_eq_true_eq, decide_eq_false_iff_not] at bt54 ⊢
      omega
    repeat (refine awp_seq ?_)
    refine awp_skip ?_
    refine awp_sel [1] (by simp only [LS, SS, SX, HS, mkS_cons, mkS_nil, ↓reduceIte, eq_self', List.map_nil, beq_self_eq_true, Nat.reduceEqDiff, Nat.reduceAdd, Nat.succ_ne_self, vint, TyS, TyF, BdS, Int.cast_ofNat_Int, d0, d1, d2, d3, d4, d5, d6, d7, d8, d9, d10] <;> with_reducible rfl) ?_
    -- region 22
    repeat (refine awp_seq ?_)
    refine e_eval (by simp only [asq, as0, as1, as2, awanted, aop, afldAddr, ajust, aload, abuiltin, LS, SS, SX, HS, mkS_cons, mkS_nil, ↓reduceIte, eq_self', List.map_nil, beq_self_eq_true, Nat.reduceEqDiff, Nat.reduceAdd, Nat.reduceMul, Nat.reduceLT, Nat.reduceLeDiff, Nat.reducePow, Nat.reduceDiv, Nat.reduceMod, Nat.succ_ne_self, Nat.reduceBEq, Nat.reduceBNe, Tryti22, Tryte22, Trytz22, Trytp22, Tryti24, Trytf24, Trytz24, Trytp24, vint, TyS, TyF, BdS, Int.cast_ofNat_Int, d0, d1, d2, d3, d4, d5, d6, d7, d8, d9, d10] <;> with_reducible rfl) (by decide) ?_
    repeat (refine awp_seq ?_)
    refine awp_forS (σ := Unit) (t.args.length) (fun (s : Unit) => [(56, .slice (t.args.map Ty.enc) .none)]) [56] ([]) (fun (s : Unit) => []) (fun (i : Nat) (s : Unit) => (t.args.take i).any (fun u => !wfT u) = false) (()) (_) rfl rfl rfl rfl rfl rfl rfl rfl rfl (by decide) (by decide) (by decide) (fun _ => rfl) (hw.lenMax) ⟨(by first | rfl | (simp only [LS, SS, SX, HS, mkS_cons, mkS_nil, ↓reduceIte, eq_self', List.map_nil, beq_self_eq_true, Nat.reduceEqDiff, Nat.reduceAdd, Nat.succ_ne_self, vint, TyS, TyF, BdS, Int.cast_ofNat_Int, d0, d1, d2, d3, d4, d5, d6, d7, d8, d9, d10] <;> first | done | with_reducible rfl)), (by first | rfl | (simp only [LS, SS, SX, HS, mkS_cons, mkS_nil, ↓reduceIte, eq_self', List.map_nil, beq_self_eq_true, Nat.reduceEqDiff, Nat.reduceAdd, Nat.succ_ne_self, vint, TyS, TyF, BdS, Int.cast_ofNat_Int, d0, d1, d2, d3, d4, d5, d6, d7, d8, d9, d10] <;> first | done | with_reducible rfl)), (by first | rfl | (simp only [LS, SS, SX, HS, mkS_cons, mkS_nil, ↓reduceIte, eq_self', List.map_nil, beq_self_eq_true, Nat.reduceEqDiff, Nat.reduceAdd, Nat.succ_ne_self, vint, TyS, TyF, BdS, Int.cast_ofNat_Int, d0, d1, d2, d3, d4, d5, d6, d7, d8, d9, d10] <;> first | done | with_reducible rfl)), trivial⟩ (by first | rfl | (simp only [LS, SS, SX, HS, mkS_cons, mkS_nil, ↓reduceIte, eq_self', List.map_nil, beq_self_eq_true, Nat.reduceEqDiff, Nat.reduceAdd, Nat.succ_ne_self, vint, TyS, TyF, BdS, Int.cast_ofNat_Int, d0, d1, d2, d3, d4, d5, d6, d7, d8, d9, d10] <;> first | done | with_reducible rfl)) (by simp) (fun _ _ _ => by first | exact Nat.zero_le _ | (simp only [List.length_append]; omega)) ?_ ?_ ?_
    · exact fun i s hg => ⟨by first | exact hbel_nil _ | (simp only [List.append_nil]; assumption) | (refine hbel_app' hb' (by simp) ?_; repeat (first | exact hbel_nil _ | exact trivial | exact obel_row_nil _ | (refine HBel.cons ?_ ?_) | (refine obel_row_cons (by first | exact bel_Bd _ _ | exact Bd.bel _ _ | exact bel_int_tok _ (by simp) | exact bel_ints0 _ _ | exact bel_slice_ty _ _ | exact Ty.bel _ _ | exact bel_ty_tok _ (by simp) | exact Bel.int _ _ | exact Bel.bool _ | exact Bel.str _ | exact Bel.nilp | exact Bel.nilfn | exact Bel.optr _ _ (by simp) | exact bel_nil0 _ | exact bel_nil1 _ | exact bel_fn0 _ _ | assumption) ?_))), by repeat (first | exact BelL.nil | refine BelL.cons (by first | exact bel_Bd _ _ | exact Bd.bel _ _ | exact bel_int_tok _ (by simp) | exact bel_ints0 _ _ | exact bel_slice_ty _ _ | exact Ty.bel _ _ | exact bel_ty_tok _ (by simp) | exact Bel.int _ _ | exact Bel.bool _ | exact Bel.str _ | exact Bel.nilp | exact Bel.nilfn | exact Bel.optr _ _ (by simp) | exact bel_nil0 _ | exact bel_nil1 _ | exact bel_fn0 _ _ | assumption) ?_)⟩
    · intro i s hi hg
      have g1 := ix_nat hi
      have g2 := get_enc Ty.enc hi
      have hmem : t.args[i] ∈ t.args := List.getElem_mem hi
      -- region 24
      repeat (refine awp_seq ?_)
      refine e_eval (by simp only [asq, as0, as1, as2, awanted, aop, aidxAddr, aidx, ajust, aload, astore, splice, LS, SS, SX, HS, mkS_cons, mkS_nil, ↓reduceIte, eq_self', List.map_nil, beq_self_eq_true, Nat.reduceEqDiff, Nat.reduceAdd, Nat.reduceMul, Nat.reduceLT, Nat.reduceLeDiff, Nat.reducePow, Nat.reduceDiv, Nat.reduceMod, Nat.succ_ne_self, Nat.reduceBEq, Nat.reduceBNe, Tryti22, Tryte22, Trytz22, Trytp22, Tryti24, Trytf24, Trytz24, Trytp24, vint, TyS, TyF, BdS, Int.cast_ofNat_Int, d0, d1, d2, d3, d4, d5, d6, d7, d8, d9, d10, g1, g2, Int.toNat_natCast] <;> with_reducible rfl) (by decide) ?_
      -- region 25
      repeat (refine awp_seq ?_)
      refine awp_region ?_
      refine e_take 1 (by simp only [asq, as0, as1, as2, awanted, aop, aload, ajust, LS, SS, SX, HS, mkS_cons, mkS_nil, ↓reduceIte, eq_self', List.map_nil, beq_self_eq_true, Nat.reduceEqDiff, Nat.reduceAdd, Nat.reduceMul, Nat.reduceLT, Nat.reduceLeDiff, Nat.reducePow, Nat.reduceDiv, Nat.reduceMod, Nat.succ_ne_self, Nat.reduceBEq, Nat.reduceBNe, Tryti24, Trytf24, Trytz24, Trytp24, vint, TyS, TyF, BdS, Int.cast_ofNat_Int, d0, d1, d2, d3, d4, d5, d6, d7, d8, d9, d10, g1, g2, Int.toNat_natCast] <;> with_reducible rfl) (by decide) ?_
      refine aops_pure (by simp only [acall, awanted, LS, SS, SX, HS, mkS_cons, mkS_nil, ↓reduceIte, eq_self', List.map_nil, beq_self_eq_true, Nat.reduceEqDiff, Nat.reduceAdd, Nat.reduceMul, Nat.reduceLT, Nat.reduceLeDiff, Nat.reducePow, Nat.reduceDiv, Nat.reduceMod, Nat.succ_ne_self, Nat.reduceBEq, Nat.reduceBNe, vint, TyS, TyF, BdS, Int.cast_ofNat_Int, d0, d1, d2, d3, d4, d5, d6, d7, d8, d9, d10, g1, g2, Int.toNat_natCast] <;> with_reducible rfl) (by simp only [acall, awanted, LS, SS, SX, HS, mkS_cons, mkS_nil, ↓reduceIte, eq_self', List.map_nil, beq_self_eq_true, Nat.reduceEqDiff, Nat.reduceAdd, Nat.reduceMul, Nat.reduceLT, Nat.reduceLeDiff, Nat.reducePow, Nat.reduceDiv, Nat.reduceMod, Nat.succ_ne_self, Nat.reduceBEq, Nat.reduceBNe, vint, TyS, TyF, BdS, Int.cast_ofNat_Int, d0, d1, d2, d3, d4, d5, d6, d7, d8, d9, d10, g1, g2, Int.toNat_natCast]) (by decide) Trygo93 (ih t.args[i] hmem _) ?_
      refine e_end (by simp only [asq, as0, as1, as2, awanted, aop, aun, ajust, LS, SS, SX, HS, mkS_cons, mkS_nil, ↓reduceIte, eq_self', List.map_nil, beq_self_eq_true, Nat.reduceEqDiff, Nat.reduceAdd, Nat.reduceMul, Nat.reduceLT, Nat.reduceLeDiff, Nat.reducePow, Nat.reduceDiv, Nat.reduceMod, Nat.succ_ne_self, Nat.reduceBEq, Nat.reduceBNe, vint, TyS, TyF, BdS, Int.cast_ofNat_Int, d0, d1, d2, d3, d4, d5, d6, d7, d8, d9, d10, g1, g2, Int.toNat_natCast] <;> with_reducible rfl) (by decide) ?_
      repeat (refine awp_seq ?_)
      refine awp_cond rfl (by simp only [LS, SS, SX, HS, mkS_cons, mkS_nil, ↓reduceIte, eq_self', List.map_nil, beq_self_eq_true, Nat.reduceEqDiff, Nat.reduceAdd, Nat.succ_ne_self, vint, TyS, TyF, BdS, Int.cast_ofNat_Int, d0, d1, d2, d3, d4, d5, d6, d7, d8, d9, d10, g1, g2, Int.toNat_natCast] <;> with_reducible rfl) (fun bt64 => ?_) (fun bt64 => ?_)
      · -- if t64
        have hbad : (t.args.any fun u => !wfT u) = true := List.any_eq_true.2 ⟨_, hmem, bt64⟩
        have hwf : wfT t = false := by rw [wfT_eq, hn, hbad]; rfl
        -- region 26
        repeat (refine awp_seq ?_)
        refine e_eval (by simp only [asq, as0, as1, as2, awanted, aop, LS, SS, SX, HS, mkS_cons, mkS_nil, ↓reduceIte, eq_self', List.map_nil, beq_self_eq_true, Nat.reduceEqDiff, Nat.reduceAdd, Nat.reduceMul, Nat.reduceLT, Nat.reduceLeDiff, Nat.reducePow, Nat.reduceDiv, Nat.reduceMod, Nat.succ_ne_self, Nat.reduceBEq, Nat.reduceBNe, vint, TyS, TyF, BdS, Int.cast_ofNat_Int, d0, d1, d2, d3, d4, d5, d6, d7, d8, d9, d10, g1, g2, Int.toNat_natCast] <;> with_reducible rfl) (by decide) ?_
        repeat (refine awp_seq ?_)
        -- leaf 1 ret
        refine awp_ret ⟨.inr rfl, _, rfl, ?_⟩
        rw [hwf]; rfl
      · -- else t64
        repeat (refine awp_seq ?_)
        refine awp_skip ?_
        -- leaf 2 next1
        exact ⟨⟨rfl, rfl, trivial⟩, (), _, ⟨rfl, trivial⟩, rfl, any_take_succ hi hg bt64⟩
    · intro s hg
      rw [List.take_length] at hg
      have hwf : wfT t = true := by rw [wfT_eq, hn, hg]; rfl
      -- region 28
      repeat (refine awp_seq ?_)
      refine e_eval (by simp only [asq, as0, as1, as2, awanted, aop, LS, SS, SX, HS, mkS_cons, mkS_nil, ↓reduceIte, eq_self', List.map_nil, beq_self_eq_true, Nat.reduceEqDiff, Nat.reduceAdd, Nat.reduceMul, Nat.reduceLT, Nat.reduceLeDiff, Nat.reducePow, Nat.reduceDiv, Nat.reduceMod, Nat.succ_ne_self, Nat.reduceBEq, Nat.reduceBNe, vint, TyS, TyF, BdS, Int.cast_ofNat_Int, d0, d1, d2, d3, d4, d5, d6, d7, d8, d9, d10] <;> with_reducible rfl) (by decide) ?_
      repeat (refine awp_seq ?_)
      -- leaf 3 ret
      refine awp_ret ⟨.inr rfl, _, rfl, ?_⟩
      rw [hwf]; rfl

theorem typeWF_1 (t : Ty) (hk : t.kind = 1) (hw : t.W) (ih : ∀ u ∈ t.args, PC Try.prog 93 [u.enc] (.bool (wfT u))) : PC Try.prog 93 [t.enc] (.bool (wfT t)) := by
  have hlen0 : (0 : Int) ≤ (t.args.length : Int) := by omega
  have d0 : decide (t.kind = 0) = false := decide_eq_false (by omega)
  have d1 : decide (t.kind = 1) = true := decide_eq_true hk
  have d2 : decide (t.kind = 2) = false := decide_eq_false (by omega)
  have d3 : decide (t.kind = 3) = false := decide_eq_false (by omega)
  have d4 : decide (t.kind = 4) = false := decide_eq_false (by omega)
  have d5 : decide (t.kind = 5) = false := decide_eq_false (by omega)
  have d6 : decide (t.kind = 6) = false := decide_eq_false (by omega)
  have d7 : decide (t.kind = 7) = false := decide_eq_false (by omega)
  have d8 : decide (t.kind = 8) = false := decide_eq_false (by omega)
  have d9 : decide (t.kind = 9) = false := decide_eq_false (by omega)
  have d10 : decide (t.kind = 10) = false := decide_eq_false (by omega)
  refine pc_of (N := 66) Try.func93 rfl rfl (by simp) (by simp [Ty.bel]) (.bool _) ?_
  -- region 0
  repeat (refine awp_seq ?_)
  refine e_eval (by simp only [asq, as0, as1, as2, awanted, aop, LS, SS, SX, HS, mkS_cons, mkS_nil, ↓reduceIte, eq_self', List.map_nil, beq_self_eq_true, Nat.reduceEqDiff, Nat.reduceAdd, Nat.reduceMul, Nat.reduceLT, Nat.reduceLeDiff, Nat.reducePow, Nat.reduceDiv, Nat.reduceMod, Nat.succ_ne_self, Nat.reduceBEq, Nat.reduceBNe, Tryti24, Trytf24, Trytz24, Trytp24, vint, TyS, TyF, BdS, Int.cast_ofNat_Int, d0, d1, d2, d3, d4, d5, d6, d7, d8, d9, d10] <;> with_reducible rfl) (by decide) ?_
  -- region 1
  repeat (refine awp_seq ?_)
  refine e_eval (by simp only [asq, as0, as1, as2, awanted, aop, LS, SS, SX, HS, mkS_cons, mkS_nil, ↓reduceIte, eq_self', List.map_nil, beq_self_eq_true, Nat.reduceEqDiff, Nat.reduceAdd, Nat.reduceMul, Nat.reduceLT, Nat.reduceLeDiff, Nat.reducePow, Nat.reduceDiv, Nat.reduceMod, Nat.succ_ne_self, Nat.reduceBEq, Nat.reduceBNe, vint, TyS, TyF, BdS, Int.cast_ofNat_Int, d0, d1, d2, d3, d4, d5, d6, d7, d8, d9, d10] <;> with_reducible rfl) (by decide) ?_
  -- region 2
  repeat (refine awp_seq ?_)
  refine e_eval (by simp only [asq, as0, as1, as2, awanted, aop, afldAddr, ajust, aload, LS, SS, SX, HS, mkS_cons, mkS_nil, ↓reduceIte, eq_self', List.map_nil, beq_self_eq_true, Nat.reduceEqDiff, Nat.reduceAdd, Nat.reduceMul, Nat.reduceLT, Nat.reduceLeDiff, Nat.reducePow, Nat.reduceDiv, Nat.reduceMod, Nat.succ_ne_self, Nat.reduceBEq, Nat.reduceBNe, Tryti3, Trytz3, Trytp3, Trytk3, Tryti24, Trytf24, Trytz24, Trytp24, vint, TyS, TyF, BdS, Int.cast_ofNat_Int, d0, d1, d2, d3, d4, d5, d6, d7, d8, d9, d10] <;> with_reducible rfl) (by decide) ?_
  repeat (refine awp_seq ?_)
  refine awp_block ?_
  -- region 4
  repeat (refine awp_seq ?_)
  refine e_eval (by simp only [asq, as0, as1, as2, awanted, aop, abin, ajust, LS, SS, SX, HS, mkS_cons, mkS_nil, ↓reduceIte, eq_self', List.map_nil, beq_self_eq_true, Nat.reduceEqDiff, Nat.reduceAdd, Nat.reduceMul, Nat.reduceLT, Nat.reduceLeDiff, Nat.reducePow, Nat.reduceDiv, Nat.reduceMod, Nat.succ_ne_self, Nat.reduceBEq, Nat.reduceBNe, Tryti3, Trytz3, Trytp3, Trytk3, vint, TyS, TyF, BdS, Int.cast_ofNat_Int, d0, d1, d2, d3, d4, d5, d6, d7, d8, d9, d10] <;> with_reducible rfl) (by decide) ?_
  repeat (refine awp_seq ?_)
  refine awp_cond_false rfl (by simp only [LS, SS, SX, HS, mkS_cons, mkS_nil, ↓reduceIte, eq_self', List.map_nil, beq_self_eq_true, Nat.reduceEqDiff, Nat.reduceAdd, Nat.succ_ne_self, vint, TyS, TyF, BdS, Int.cast_ofNat_Int, d0, d1, d2, d3, d4, d5, d6, d7, d8, d9, d10] <;> with_reducible rfl) ?_
  -- region 5
  repeat (refine awp_seq ?_)
  refine e_eval (by simp only [asq, as0, as1, as2, awanted, aop, abin, ajust, LS, SS, SX, HS, mkS_cons, mkS_nil, ↓reduceIte, eq_self', List.map_nil, beq_self_eq_true, Nat.reduceEqDiff, Nat.reduceAdd, Nat.reduceMul, Nat.reduceLT, Nat.reduceLeDiff, Nat.reducePow, Nat.reduceDiv, Nat.reduceMod, Nat.succ_ne_self, Nat.reduceBEq, Nat.reduceBNe, Tryti3, Trytz3, Trytp3, Trytk3, vint, TyS, TyF, BdS, Int.cast_ofNat_Int, d0, d1, d2, d3, d4, d5, d6, d7, d8, d9, d10] <;> with_reducible rfl) (by decide) ?_
  repeat (refine awp_seq ?_)
  refine awp_cond_false rfl (by simp only [LS, SS, SX, HS, mkS_cons, mkS_nil, ↓reduceIte, eq_self', List.map_nil, beq_self_eq_true, Nat.reduceEqDiff, Nat.reduceAdd, Nat.succ_ne_self, vint, TyS, TyF, BdS, Int.cast_ofNat_Int, d0, d1, d2, d3, d4, d5, d6, d7, d8, d9, d10] <;> with_reducible rfl) ?_
  -- region 6
  repeat (refine awp_seq ?_)
  refine e_eval (by simp only [asq, as0, as1, as2, awanted, aop, abin, ajust, LS, SS, SX, HS, mkS_cons, mkS_nil, ↓reduceIte, eq_self', List.map_nil, beq_self_eq_true, Nat.reduceEqDiff, Nat.reduceAdd, Nat.reduceMul, Nat.reduceLT, Nat.reduceLeDiff, Nat.reducePow, Nat.reduceDiv, Nat.reduceMod, Nat.succ_ne_self, Nat.reduceBEq, Nat.reduceBNe, Tryti3, Trytz3, Trytp3, Trytk3, vint, TyS, TyF, BdS, Int.cast_ofNat_Int, d0, d1, d2, d3, d4, d5, d6, d7, d8, d9, d10] <;> with_reducible rfl) (by decide) ?_
  repeat (refine awp_seq ?_)
  refine awp_cond_false rfl (by simp only [LS, SS, SX, HS, mkS_cons, mkS_nil, ↓reduceIte, eq_self', List.map_nil, beq_self_eq_true, Nat.reduceEqDiff, Nat.reduceAdd, Nat.succ_ne_self, vint, TyS, TyF, BdS, Int.cast_ofNat_Int, d0, d1, d2, d3, d4, d5, d6, d7, d8, d9, d10] <;> with_reducible rfl) ?_
  -- region 7
  repeat (refine awp_seq ?_)
  refine e_eval (by simp only [asq, as0, as1, as2, awanted, aop, abin, ajust, LS, SS, SX, HS, mkS_cons, mkS_nil, ↓reduceIte, eq_self', List.map_nil, beq_self_eq_true, Nat.reduceEqDiff, Nat.reduceAdd, Nat.reduceMul, Nat.reduceLT, Nat.reduceLeDiff, Nat.reducePow, Nat.reduceDiv, Nat.reduceMod, Nat.succ_ne_self, Nat.reduceBEq, Nat.reduceBNe, Tryti3, Trytz3, Trytp3, Trytk3, vint, TyS, TyF, BdS, Int.cast_ofNat_Int, d0, d1, d2, d3, d4, d5, d6, d7, d8, d9, d10] <;> with_reducible rfl) (by decide) ?_
  repeat (refine awp_seq ?_)
  refine awp_cond_false rfl (by simp only [LS, SS, SX, HS, mkS_cons, mkS_nil, ↓reduceIte, eq_self', List.map_nil, beq_self_eq_true, Nat.reduceEqDiff, Nat.reduceAdd, Nat.succ_ne_self, vint, TyS, TyF, BdS, Int.cast_ofNat_Int, d0, d1, d2, d3, d4, d5, d6, d7, d8, d9, d10] <;> with_reducible rfl) ?_
  refine awp_sel [1, 3, 4, 5, 9] (by simp only [LS, SS, SX, HS, mkS_cons, mkS_nil, ↓reduceIte, eq_self', List.map_nil, beq_self_eq_true, Nat.reduceEqDiff, Nat.reduceAdd, Nat.succ_ne_self, vint, TyS, TyF, BdS, Int.cast_ofNat_Int, d0, d1, d2, d3, d4, d5, d6, d7, d8, d9, d10] <;> with_reducible rfl) ?_
  -- region 8
  repeat (refine awp_seq ?_)
  refine e_eval (by simp only [asq, as0, as1, as2, awanted, aop, abin, ajust, LS, SS, SX, HS, mkS_cons, mkS_nil, ↓reduceIte, eq_self', List.map_nil, beq_self_eq_true, Nat.reduceEqDiff, Nat.reduceAdd, Nat.reduceMul, Nat.reduceLT, Nat.reduceLeDiff, Nat.reducePow, Nat.reduceDiv, Nat.reduceMod, Nat.succ_ne_self, Nat.reduceBEq, Nat.reduceBNe, Tryti3, Trytz3, Trytp3, Trytk3, vint, TyS, TyF, BdS, Int.cast_ofNat_Int, d0, d1, d2, d3, d4, d5, d6, d7, d8, d9, d10] <;> with_reducible rfl) (by decide) ?_
  repeat (refine awp_seq ?_)
  refine awp_cond_false rfl (by simp only [LS, SS, SX, HS, mkS_cons, mkS_nil, ↓reduceIte, eq_self', List.map_nil, beq_self_eq_true, Nat.reduceEqDiff, Nat.reduceAdd, Nat.succ_ne_self, vint, TyS, TyF, BdS, Int.cast_ofNat_Int, d0, d1, d2, d3, d4, d5, d6, d7, d8, d9, d10] <;> with_reducible rfl) ?_
  -- region 9
  repeat (refine awp_seq ?_)
  refine e_eval (by simp only [asq, as0, as1, as2, awanted, aop, abin, ajust, LS, SS, SX, HS, mkS_cons, mkS_nil, ↓reduceIte, eq_self', List.map_nil, beq_self_eq_true, Nat.reduceEqDiff, Nat.reduceAdd, Nat.reduceMul, Nat.reduceLT, Nat.reduceLeDiff, Nat.reducePow, Nat.reduceDiv, Nat.reduceMod, Nat.succ_ne_self, Nat.reduceBEq, Nat.reduceBNe, Tryti3, Trytz3, Trytp3, Trytk3, vint, TyS, TyF, BdS, Int.cast_ofNat_Int, d0, d1, d2, d3, d4, d5, d6, d7, d8, d9, d10] <;> with_reducible rfl) (by decide) ?_
  repeat (refine awp_seq ?_)
  refine awp_cond_true rfl (by simp only [LS, SS, SX, HS, mkS_cons, mkS_nil, ↓reduceIte, eq_self', List.map_nil, beq_self_eq_true, Nat.reduceEqDiff, Nat.reduceAdd, Nat.succ_ne_self, vint, TyS, TyF, BdS, Int.cast_ofNat_Int, d0, d1, d2, d3, d4, d5, d6, d7, d8, d9, d10] <;> with_reducible rfl) ?_
  repeat (refine awp_seq ?_)
  refine awp_skip ?_
  repeat (refine awp_seq ?_)
  refine awp_cond_true rfl (by simp only [LS, SS, SX, HS, mkS_cons, mkS_nil, ↓reduceIte, eq_self', List.map_nil, beq_self_eq_true, Nat.reduceEqDiff, Nat.reduceAdd, Nat.succ_ne_self, vint, TyS, TyF, BdS, Int.cast_ofNat_Int, d0, d1, d2, d3, d4, d5, d6, d7, d8, d9, d10] <;> with_reducible rfl) ?_
  -- region 11
  repeat (refine awp_seq ?_)
  refine e_eval (by simp only [asq, as0, as1, as2, awanted, aop, LS, SS, SX, HS, mkS_cons, mkS_nil, ↓reduceIte, eq_self', List.map_nil, beq_self_eq_true, Nat.reduceEqDiff, Nat.reduceAdd, Nat.reduceMul, Nat.reduceLT, Nat.reduceLeDiff, Nat.reducePow, Nat.reduceDiv, Nat.reduceMod, Nat.succ_ne_self, Nat.reduceBEq, Nat.reduceBNe, vint, TyS, TyF, BdS, Int.cast_ofNat_Int, d0, d1, d2, d3, d4, d5, d6, d7, d8, d9, d10] <;> with_reducible rfl) (by decide) ?_
  -- region 20
  repeat (refine awp_seq ?_)
  refine awp_region ?_
  refine aops_gstart ?_
  refine g_take 5 (by simp only [gsq, gs0, gs1, gs2, gcond, gop, SG, Op.operands, Call.operands, Array.toList_append, aop, afldAddr, ajust, aload, abuiltin, LS, SS, SX, HS, mkS_cons, mkS_nil, ↓reduceIte, eq_self', List.map_nil, beq_self_eq_true, Nat.reduceEqDiff, Nat.reduceAdd, Nat.reduceMul, Nat.reduceLT, Nat.reduceLeDiff, Nat.reducePow, Nat.reduceDiv, Nat.reduceMod, Nat.succ_ne_self, Nat.reduceBEq, Nat.reduceBNe, Tryti22, Tryte22, Trytz22, Trytp22, Tryti24, Trytf24, Trytz24, Trytp24, vint, TyS, TyF, BdS, Int.cast_ofNat_Int, d0, d1, d2, d3, d4, d5, d6, d7, d8, d9, d10] <;> with_reducible rfl) (by decide) ?_
  refine aops_gpure (by simp only [acall, gcond, SG, Op.operands, Call.operands, Array.toList_append, LS, SS, SX, HS, mkS_cons, mkS_nil, ↓reduceIte, eq_self', List.map_nil, beq_self_eq_true, Nat.reduceEqDiff, Nat.reduceAdd, Nat.reduceMul, Nat.reduceLT, Nat.reduceLeDiff, Nat.reducePow, Nat.reduceDiv, Nat.reduceMod, Nat.succ_ne_self, Nat.reduceBEq, Nat.reduceBNe, vint, TyS, TyF, BdS, Int.cast_ofNat_Int, d0, d1, d2, d3, d4, d5, d6, d7, d8, d9, d10] <;> with_reducible rfl) (by simp only [acall, gcond, SG, Op.operands, Call.operands, Array.toList_append, LS, SS, SX, HS, mkS_cons, mkS_nil, ↓reduceIte, eq_self', List.map_nil, beq_self_eq_true, Nat.reduceEqDiff, Nat.reduceAdd, Nat.reduceMul, Nat.reduceLT, Nat.reduceLeDiff, Nat.reducePow, Nat.reduceDiv, Nat.reduceMod, Nat.succ_ne_self, Nat.reduceBEq, Nat.reduceBNe, vint, TyS, TyF, BdS, Int.cast_ofNat_Int, d0, d1, d2, d3, d4, d5, d6, d7, d8, d9, d10] <;> with_reducible rfl) (by simp only [acall, gcond, SG, Op.operands, Call.operands, Array.toList_append, LS, SS, SX, HS, mkS_cons, mkS_nil, ↓reduceIte, eq_self', List.map_nil, beq_self_eq_true, Nat.reduceEqDiff, Nat.reduceAdd, Nat.reduceMul, Nat.reduceLT, Nat.reduceLeDiff, Nat.reducePow, Nat.reduceDiv, Nat.reduceMod, Nat.succ_ne_self, Nat.reduceBEq, Nat.reduceBNe, vint, TyS, TyF, BdS, Int.cast_ofNat_Int, d0, d1, d2, d3, d4, d5, d6, d7, d8, d9, d10]) (by decide) Trygo98 (fun hc => inRange _ _ _ _) ?_
  refine g_end (by simp only [gsq, gs0, gs1, gs2, gcond, gop, SG, Op.operands, Call.operands, Array.toList_append, aop, aun, ajust, afldAddr, aload, abin, LS, SS, SX, HS, mkS_cons, mkS_nil, ↓reduceIte, eq_self', List.map_nil, beq_self_eq_true, Nat.reduceEqDiff, Nat.reduceAdd, Nat.reduceMul, Nat.reduceLT, Nat.reduceLeDiff, Nat.reducePow, Nat.reduceDiv, Nat.reduceMod, Nat.succ_ne_self, Nat.reduceBEq, Nat.reduceBNe, Tryti3, Trytz3, Trytp3, Trytk3, Tryti24, Trytf24, Trytz24, Trytp24, vint, TyS, TyF, BdS, Int.cast_ofNat_Int, d0, d1, d2, d3, d4, d5, d6, d7, d8, d9, d10] <;> with_reducible rfl) (by decide) (by repeat (first | exact Fin.base _ | with_reducible apply Fin.keep | apply Fin.drop)) ?_
  repeat (refine awp_seq ?_)
  refine awp_cond rfl (by simp only [LS, SS, SX, HS, mkS_cons, mkS_nil, ↓reduceIte, eq_self', List.map_nil, beq_self_eq_true, Nat.reduceEqDiff, Nat.reduceAdd, Nat.succ_ne_self, vint, TyS, TyF, BdS, Int.cast_ofNat_Int, d0, d1, d2, d3, d4, d5, d6, d7, d8, d9, d10] <;> with_reducible rfl) (fun bt54 => ?_) (fun bt54 => ?_)
  · -- if t54
    have hn : nwf t = false := by
      unfold nwf
      simp only [d0, d1, d2, d3, d4, d5, d6, d7, d8, d9, d10, Bool.or_false, Bool.or_true, Bool.false_or, Bool.true_or, if_true, if_false, Bool.false_eq_true]
      rw [Bool.eq_false_iff]
      intro hh
      simp only [Bool.or_eq_true, Bool.and_eq_true, Bool.not_eq_true', Bool.and_eq_false_iff, Bool.or_eq_false_iff, Bool.not_eq_false', decide_eq_true_eq, decide_eq_false_iff_not] at hh bt54
      omega
    have hwf : wfT t = false := by rw [wfT_eq, hn]; rfl
    refine awp_sel [] (by simp only [LS, SS, SX, HS, mkS_cons, mkS_nil, ↓reduceIte, eq_self', List.map_nil, beq_self_eq_true, Nat.reduceEqDiff, Nat.reduceAdd, Nat.succ_ne_self, vint, TyS, TyF, BdS, Int.cast_ofNat_Int, d0, d1, d2, d3, d4, d5, d6, d7, d8, d9, d10] <;> with_reducible rfl) ?_
    -- region 21
    repeat (refine awp_seq ?_)
    refine e_eval (by simp only [asq, as0, as1, as2, awanted, aop, LS, SS, SX, HS, mkS_cons, mkS_nil, ↓reduceIte, eq_self', List.map_nil, beq_self_eq_true, Nat.reduceEqDiff, Nat.reduceAdd, Nat.reduceMul, Nat.reduceLT, Nat.reduceLeDiff, Nat.reducePow, Nat.reduceDiv, Nat.reduceMod, Nat.succ_ne_self, Nat.reduceBEq, Nat.reduceBNe, vint, TyS, TyF, BdS, Int.cast_ofNat_Int, d0, d1, d2, d3, d4, d5, d6, d7, d8, d9, d10] <;> with_reducible rfl) (by decide) ?_
    repeat (refine awp_seq ?_)
    -- leaf 0 ret
    refine awp_ret ⟨.inr rfl, _, rfl, ?_⟩
    rw [hwf]; rfl
  · -- else t54
    have hn : nwf t = true := by
      unfold nwf
      simp only [d0, d1, d2, d3, d4, d5, d6, d7, d8, d9, d10, Bool.or_false, Bool.or_true, Bool.false_or, Bool.true_or, if_true, if_false, Bool.false_eq_true]
      simp only [Bool.or_eq_true, Bool.and_eq_true, Bool.not_eq_true', Bool.and_eq_false_iff, Bool.or_eq_false_iff, Bool.not_eq_false', decide_eq_true_eq, decide_eq_false_iff_not] at bt54 ⊢
      omega
    repeat (refine awp_seq ?_)
    refine awp_skip ?_
    refine awp_sel [1] (by simp only [LS, SS, SX, HS, mkS_cons, mkS_nil, ↓reduceIte, eq_self', List.map_nil, beq_self_eq_true, Nat.reduceEqDiff, Nat.reduceAdd, Nat.succ_ne_self, vint, TyS, TyF, BdS, Int.cast_ofNat_Int, d0, d1, d2, d3, d4, d5, d6, d7, d8, d9, d10] <;> with_reducible rfl) ?_
    -- region 22
    repeat (refine awp_seq ?_)
    refine e_eval (by simp only [asq, as0, as1, as2, awanted, aop, afldAddr, ajust, aload, abuiltin, LS, SS, SX, HS, mkS_cons, mkS_nil, ↓reduceIte, eq_self', List.map_nil, beq_self_eq_true, Nat.reduceEqDiff, Nat.reduceAdd, Nat.reduceMul, Nat.reduceLT, Nat.reduceLeDiff, Nat.reducePow, Nat.reduceDiv, Nat.reduceMod, Nat.succ_ne_self, Nat.reduceBEq, Nat.reduceBNe, Tryti22, Tryte22, Trytz22, Trytp22, Tryti24, Trytf24, Trytz24, Trytp24, vint, TyS, TyF, BdS, Int.cast_ofNat_Int, d0, d1, d2, d3, d4, d5, d6, d7, d8, d9, d10] <;> with_reducible rfl) (by decide) ?_
    repeat (refine awp_seq ?_)
    refine awp_forS (σ := Unit) (t.args.length) (fun (s : Unit) => [(56, .slice (t.args.map Ty.enc) .none)]) [56] ([]) (fun (s : Unit) => []) (fun (i : Nat) (s : Unit) => (t.args.take i).any (fun u => !wfT u) = false) (()) (_) rfl rfl rfl rfl rfl rfl rfl rfl rfl (by decide) (by decide) (by decide) (fun _ => rfl) (hw.lenMax) ⟨(by first | rfl | (simp only [LS, SS, SX, HS, mkS_cons, mkS_nil, ↓reduceIte, eq_self', List.map_nil, beq_self_eq_true, Nat.reduceEqDiff, Nat.reduceAdd, Nat.succ_ne_self, vint, TyS, TyF, BdS, Int.cast_ofNat_Int, d0, d1, d2, d3, d4, d5, d6, d7, d8, d9, d10] <;> first | done | with_reducible rfl)), (by first | rfl | (simp only [LS, SS, SX, HS, mkS_cons, mkS_nil, ↓reduceIte, eq_self', List.map_nil, beq_self_eq_true, Nat.reduceEqDiff, Nat.reduceAdd, Nat.succ_ne_self, vint, TyS, TyF, BdS, Int.cast_ofNat_Int, d0, d1, d2, d3, d4, d5, d6, d7, d8, d9, d10] <;> first | done | with_reducible rfl)), (by first | rfl | (simp only [LS, SS, SX, HS, mkS_cons, mkS_nil, ↓reduceIte, eq_self', List.map_nil, beq_self_eq_true, Nat.reduceEqDiff, Nat.reduceAdd, Nat.succ_ne_self, vint, TyS, TyF, BdS, Int.cast_ofNat_Int, d0, d1, d2, d3, d4, d5, d6, d7, d8, d9, d10] <;> first | done | with_reducible rfl)), trivial⟩ (by first | rfl | (simp only [LS, SS, SX, HS, mkS_cons, mkS_nil, ↓reduceIte, eq_self', List.map_nil, beq_self_eq_true, Nat.reduceEqDiff, Nat.reduceAdd, Nat.succ_ne_self, vint, TyS, TyF, BdS, Int.cast_ofNat_Int, d0, d1, d2, d3, d4, d5, d6, d7, d8, d9, d10] <;> first | done | with_reducible rfl)) (by simp) (fun _ _ _ => by first | exact Nat.zero_le _ | (simp only [List.length_append]; omega)) ?_ ?_ ?_
    · exact fun i s hg => ⟨by first | exact hbel_nil _ | (simp only [List.append_nil]; assumption) | (refine hbel_app' hb' (by simp) ?_; repeat (first | exact hbel_nil _ | exact trivial | exact obel_row_nil _ | (refine HBel.cons ?_ ?_) | (refine obel_row_cons (by first | exact bel_Bd _ _ | exact Bd.bel _ _ | exact bel_int_tok _ (by simp) | exact bel_ints0 _ _ | exact bel_slice_ty _ _ | exact Ty.bel _ _ | exact bel_ty_tok _ (by simp) | exact Bel.int _ _ | exact Bel.bool _ | exact Bel.str _ | exact Bel.nilp | exact Bel.nilfn | exact Bel.optr _ _ (by simp) | exact bel_nil0 _ | exact bel_nil1 _ | exact bel_fn0 _ _ | assumption) ?_))), by repeat (first | exact BelL.nil | refine BelL.cons (by first | exact bel_Bd _ _ | exact Bd.bel _ _ | exact bel_int_tok _ (by simp) | exact bel_ints0 _ _ | exact bel_slice_ty _ _ | exact Ty.bel _ _ | exact bel_ty_tok _ (by simp) | exact Bel.int _ _ | exact Bel.bool _ | exact Bel.str _ | exact Bel.nilp | exact Bel.nilfn | exact Bel.optr _ _ (by simp) | exact bel_nil0 _ | exact bel_nil1 _ | exact bel_fn0 _ _ | assumption) ?_)⟩
    · intro i s hi hg
      have g1 := ix_nat hi
      have g2 := get_enc Ty.enc hi
      have hmem : t.args[i] ∈ t.args := List.getElem_mem hi
      -- region 24
      repeat (refine awp_seq ?_)
      refine e_eval (by simp only [asq, as0, as1, as2, awanted, aop, aidxAddr, aidx, ajust, aload, astore, splice, LS, SS, SX, HS, mkS_cons, mkS_nil, ↓reduceIte, eq_self', List.map_nil, beq_self_eq_true, Nat.reduceEqDiff, Nat.reduceAdd, Nat.reduceMul, Nat.reduceLT, Nat.reduceLeDiff, Nat.reducePow, Nat.reduceDiv, Nat.reduceMod, Nat.succ_ne_self, Nat.reduceBEq, Nat.reduceBNe, Tryti22, Tryte22, Trytz22, Trytp22, Tryti24, Trytf24, Trytz24, Trytp24, vint, TyS, TyF, BdS, Int.cast_ofNat_Int, d0, d1, d2, d3, d4, d5, d6, d7, d8, d9, d10, g1, g2, Int.toNat_natCast] <;> with_reducible rfl) (by decide) ?_
      -- region 25
      repeat (refine awp_seq ?_)
      refine awp_region ?_
      refine e_take 1 (by simp only [asq, as0, as1, as2, awanted, aop, aload, ajust, LS, SS, SX, HS, mkS_cons, mkS_nil, ↓reduceIte, eq_self', List.map_nil, beq_self_eq_true, Nat.reduceEqDiff, Nat.reduceAdd, Nat.reduceMul, Nat.reduceLT, Nat.reduceLeDiff, Nat.reducePow, Nat.reduceDiv, Nat.reduceMod, Nat.succ_ne_self, Nat.reduceBEq, Nat.reduceBNe, Tryti24, Trytf24, Trytz24, Trytp24, vint, TyS, TyF, BdS, Int.cast_ofNat_Int, d0, d1, d2, d3, d4, d5, d6, d7, d8, d9, d10, g1, g2, Int.toNat_natCast] <;> with_reducible rfl) (by decide) ?_
      refine aops_pure (by simp only [acall, awanted, LS, SS, SX, HS, mkS_cons, mkS_nil, ↓reduceIte, eq_self', List.map_nil, beq_self_eq_true, Nat.reduceEqDiff, Nat.reduceAdd, Nat.reduceMul, Nat.reduceLT, Nat.reduceLeDiff, Nat.reducePow, Nat.reduceDiv, Nat.reduceMod, Nat.succ_ne_self, Nat.reduceBEq, Nat.reduceBNe, vint, TyS, TyF, BdS, Int.cast_ofNat_Int, d0, d1, d2, d3, d4, d5, d6, d7, d8, d9, d10, g1, g2, Int.toNat_natCast] <;> with_reducible rfl) (by simp only [acall, awanted, LS, SS, SX, HS, mkS_cons, mkS_nil, ↓reduceIte, eq_self', List.map_nil, beq_self_eq_true, Nat.reduceEqDiff, Nat.reduceAdd, Nat.reduceMul, Nat.reduceLT, Nat.reduceLeDiff, Nat.reducePow, Nat.reduceDiv, Nat.reduceMod, Nat.succ_ne_self, Nat.reduceBEq, Nat.reduceBNe, vint, TyS, TyF, BdS, Int.cast_ofNat_Int, d0, d1, d2, d3, d4, d5, d6, d7, d8, d9, d10, g1, g2, Int.toNat_natCast]) (by decide) Trygo93 (ih t.args[i] hmem _) ?_
      refine e_end (by simp only [asq, as0, as1, as2, awanted, aop, aun, ajust, LS, SS, SX, HS, mkS_cons, mkS_nil, ↓reduceIte, eq_self', List.map_nil, beq_self_eq_true, Nat.reduceEqDiff, Nat.reduceAdd, Nat.reduceMul, Nat.reduceLT, Nat.reduceLeDiff, Nat.reducePow, Nat.reduceDiv, Nat.reduceMod, Nat.succ_ne_self, Nat.reduceBEq, Nat.reduceBNe, vint, TyS, TyF, BdS, Int.cast_ofNat_Int, d0, d1, d2, d3, d4, d5, d6, d7, d8, d9, d10, g1, g2, Int.toNat_natCast] <;> with_reducible rfl) (by decide) ?_
      repeat (refine awp_seq ?_)
      refine awp_cond rfl (by simp only [LS, SS, SX, HS, mkS_cons, mkS_nil, ↓reduceIte, eq_self', List.map_nil, beq_self_eq_true, Nat.reduceEqDiff, Nat.reduceAdd, Nat.succ_ne_self, vint, TyS, TyF, BdS, Int.cast_ofNat_Int, d0, d1, d2, d3, d4, d5, d6, d7, d8, d9, d10, g1, g2, Int.toNat_natCast] <;> with_reducible rfl) (fun bt64 => ?_) (fun bt64 => ?_)
      · -- if t64
        have hbad : (t.args.any fun u => !wfT u) = true := List.any_eq_true.2 ⟨_, hmem, bt64⟩
        have hwf : wfT t = false := by rw [wfT_eq, hn, hbad]; rfl
        -- region 26
        repeat (refine awp_seq ?_)
        refine e_eval (by simp only [asq, as0, as1, as2, awanted, aop, LS, SS, SX, HS, mkS_cons, mkS_nil, ↓reduceIte, eq_self', List.map_nil, beq_self_eq_true, Nat.reduceEqDiff, Nat.reduceAdd, Nat.reduceMul, Nat.reduceLT, Nat.reduceLeDiff, Nat.reducePow, Nat.reduceDiv, Nat.reduceMod, Nat.succ_ne_self, Nat.reduceBEq, Nat.reduceBNe, vint, TyS, TyF, BdS, Int.cast_ofNat_Int, d0, d1, d2, d3, d4, d5, d6, d7, d8, d9, d10, g1, g2, Int.toNat_natCast] <;> with_reducible rfl) (by decide) ?_
        repeat (refine awp_seq ?_)
        -- leaf 1 ret
        refine awp_ret ⟨.inr rfl, _, rfl, ?_⟩
        rw [hwf]; rfl
      · -- else t64
        repeat (refine awp_seq ?_)
        refine awp_skip ?_
        -- leaf 2 next1
        exact ⟨⟨rfl, rfl, trivial⟩, (), _, ⟨rfl, trivial⟩, rfl, any_take_succ hi hg bt64⟩
    · intro s hg
      rw [List.take_length] at hg
      have hwf : wfT t = true := by rw [wfT_eq, hn, hg]; rfl
      -- region 28
      repeat (refine awp_seq ?_)
      refine e_eval (by simp only [asq, as0, as1, as2, awanted, aop, LS, SS, SX, HS, mkS_cons, mkS_nil, ↓reduceIte, eq_self', List.map_nil, beq_self_eq_true, Nat.reduceEqDiff, Nat.reduceAdd, Nat.reduceMul, Nat.reduceLT, Nat.reduceLeDiff, Nat.reducePow, Nat.reduceDiv, Nat.reduceMod, Nat.succ_ne_self, Nat.reduceBEq, Nat.reduceBNe, vint, TyS, TyF, BdS, Int.cast_ofNat_Int, d0, d1, d2, d3, d4, d5, d6, d7, d8, d9, d10] <;> with_reducible rfl) (by decide) ?_
      repeat (refine awp_seq ?_)
      -- leaf 3 ret
      refine awp_ret ⟨.inr rfl, _, rfl, ?_⟩
      rw [hwf]; rfl

theorem typeWF_2 (t : Ty) (hk : t.kind = 2) (hw : t.W) (ih : ∀ u ∈ t.args, PC Try.prog 93 [u.enc] (.bool (wfT u))) : PC Try.prog 93 [t.enc] (.bool (wfT t)) := by
  have hlen0 : (0 : Int) ≤ (t.args.length : Int) := by omega
  have d0 : decide (t.kind = 0) = false := decide_eq_false (by omega)
  have d1 : decide (t.kind = 1) = false := decide_eq_false (by omega)
  have d2 : decide (t.kind = 2) = true := decide_eq_true hk
  have d3 : decide (t.kind = 3) = false := decide_eq_false (by omega)
  have d4 : decide (t.kind = 4) = false := decide_eq_false (by omega)
  have d5 : decide (t.kind = 5) = false := decide_eq_false (by omega)
  have d6 : decide (t.kind = 6) = false := decide_eq_false (by omega)
  have d7 : decide (t.kind = 7) = false := decide_eq_false (by omega)
  have d8 : decide (t.kind = 8) = false := decide_eq_false (by omega)
  have d9 : decide (t.kind = 9) = false := decide_eq_false (by omega)
  have d10 : decide (t.kind = 10) = false := decide_eq_false (by omega)
  refine pc_of (N := 66) Try.func93 rfl rfl (by simp) (by simp [Ty.bel]) (.bool _) ?_
  -- region 0
  repeat (refine awp_seq ?_)
  refine e_eval (by simp only [asq, as0, as1, as2, awanted, aop, LS, SS, SX, HS, mkS_cons, mkS_nil, ↓reduceIte, eq_self', List.map_nil, beq_self_eq_true, Nat.reduceEqDiff, Nat.reduceAdd, Nat.reduceMul, Nat.reduceLT, Nat.reduceLeDiff, Nat.reducePow, Nat.reduceDiv, Nat.reduceMod, Nat.succ_ne_self, Nat.reduceBEq, Nat.reduceBNe, Tryti24, Trytf24, Trytz24, Trytp24, vint, TyS, TyF, BdS, Int.cast_ofNat_Int, d0, d1, d2, d3, d4, d5, d6, d7, d8, d9, d10] <;> with_reducible rfl) (by decide) ?_
  -- region 1
  repeat (refine awp_seq ?_)
  refine e_eval (by simp only [asq, as0, as1, as2, awanted, aop, LS, SS, SX, HS, mkS_cons, mkS_nil, ↓reduceIte, eq_self', List.map_nil, beq_self_eq_true, Nat.reduceEqDiff, Nat.reduceAdd, Nat.reduceMul, Nat.reduceLT, Nat.reduceLeDiff, Nat.reducePow, Nat.reduceDiv, Nat.reduceMod, Nat.succ_ne_self, Nat.reduceBEq, Nat.reduceBNe, vint, TyS, TyF, BdS, Int.cast_ofNat_Int, d0, d1, d2, d3, d4, d5, d6, d7, d8, d9, d10] <;> with_reducible rfl) (by decide) ?_
  -- region 2
  repeat (refine awp_seq ?_)
  refine e_eval (by simp only [asq, as0, as1, as2, awanted, aop, afldAddr, ajust, aload, LS, SS, SX, HS, mkS_cons, mkS_nil, ↓reduceIte, eq_self', List.map_nil, beq_self_eq_true, Nat.reduceEqDiff, Nat.reduceAdd, Nat.reduceMul, Nat.reduceLT, Nat.reduceLeDiff, Nat.reducePow, Nat.reduceDiv, Nat.reduceMod, Nat.succ_ne_self, Nat.reduceBEq, Nat.reduceBNe, Tryti3, Trytz3, Trytp3, Trytk3, Tryti24, Trytf24, Trytz24, Trytp24, vint, TyS, TyF, BdS, Int.cast_ofNat_Int, d0, d1, d2, d3, d4, d5, d6, d7, d8, d9, d10] <;> with_reducible rfl) (by decide) ?_
  repeat (refine awp_seq ?_)
  refine awp_block ?_
  -- region 4
  repeat (refine awp_seq ?_)
  refine e_eval (by simp only [asq, as0, as1, as2, awanted, aop, abin, ajust, LS, SS, SX, HS, mkS_cons, mkS_nil, ↓reduceIte, eq_self', List.map_nil, beq_self_eq_true, Nat.reduceEqDiff, Nat.reduceAdd, Nat.reduceMul, Nat.reduceLT, Nat.reduceLeDiff, Nat.reducePow, Nat.reduceDiv, Nat.reduceMod, Nat.succ_ne_self, Nat.reduceBEq, Nat.reduceBNe, Tryti3, Trytz3, Trytp3, Trytk3, vint, TyS, TyF, BdS, Int.cast_ofNat_Int, d0, d1, d2, d3, d4, d5, d6, d7, d8, d9, d10] <;> with_reducible rfl) (by decide) ?_
  repeat (refine awp_seq ?_)
  refine awp_cond_false rfl (by simp only [LS, SS, SX, HS, mkS_cons, mkS_nil, ↓reduceIte, eq_self', List.map_nil, beq_self_eq_true, Nat.reduceEqDiff, Nat.reduceAdd, Nat.succ_ne_self, vint, TyS, TyF, BdS, Int.cast_ofNat_Int, d0, d1, d2, d3, d4, d5, d6, d7, d8, d9, d10] <;> with_reducible rfl) ?_
  -- region 5
  repeat (refine awp_seq ?_)
  refine e_eval (by simp only [asq, as0, as1, as2, awanted, aop, abin, ajust, LS, SS, SX, HS, mkS_cons, mkS_nil, ↓reduceIte, eq_self', List.map_nil, beq_self_eq_true, Nat.reduceEqDiff, Nat.reduceAdd, Nat.reduceMul, Nat.reduceLT, Nat.reduceLeDiff, Nat.reducePow, Nat.reduceDiv, Nat.reduceMod, Nat.succ_ne_self, Nat.reduceBEq, Nat.reduceBNe, Tryti3, Trytz3, Trytp3, Trytk3, vint, TyS, TyF, BdS, Int.cast_ofNat_Int, d0, d1, d2, d3, d4, d5, d6, d7, d8, d9, d10] <;> with_reducible rfl) (by decide) ?_
  repeat (refine awp_seq ?_)
  refine awp_cond_false rfl (by simp only [LS, SS, SX, HS, mkS_cons, mkS_nil, ↓reduceIte, eq_self', List.map_nil, beq_self_eq_true, Nat.reduceEqDiff, Nat.reduceAdd, Nat.succ_ne_self, vint, TyS, TyF, BdS, Int.cast_ofNat_Int, d0, d1, d2, d3, d4, d5, d6, d7, d8, d9, d10] <;> with_reducible rfl) ?_
  -- region 6
  repeat (refine awp_seq ?_)
  refine e_eval (by simp only [asq, as0, as1, as2, awanted, aop, abin, ajust, LS, SS, SX, HS, mkS_cons, mkS_nil, ↓reduceIte, eq_self', List.map_nil, beq_self_eq_true, Nat.reduceEqDiff, Nat.reduceAdd, Nat.reduceMul, Nat.reduceLT, Nat.reduceLeDiff, Nat.reducePow, Nat.reduceDiv, Nat.reduceMod, Nat.succ_ne_self, Nat.reduceBEq, Nat.reduceBNe, Tryti3, Trytz3, Trytp3, Trytk3, vint, TyS, TyF, BdS, Int.cast_ofNat_Int, d0, d1, d2, d3, d4, d5, d6, d7, d8, d9, d10] <;> with_reducible rfl) (by decide) ?_
  repeat (refine awp_seq ?_)
  refine awp_cond_false rfl (by simp only [LS, SS, SX, HS, mkS_cons, mkS_nil, ↓reduceIte, eq_self', List.map_nil, beq_self_eq_true, Nat.reduceEqDiff, Nat.reduceAdd, Nat.succ_ne_self, vint, TyS, TyF, BdS, Int.cast_ofNat_Int, d0, d1, d2, d3, d4, d5, d6, d7, d8, d9, d10] <;> with_reducible rfl) ?_
  -- region 7
  repeat (refine awp_seq ?_)
  refine e_eval (by simp only [asq, as0, as1, as2, awanted, aop, abin, ajust, LS, SS, SX, HS, mkS_cons, mkS_nil, ↓reduceIte, eq_self', List.map_nil, beq_self_eq_true, Nat.reduceEqDiff, Nat.reduceAdd, Nat.reduceMul, Nat.reduceLT, Nat.reduceLeDiff, Nat.reducePow, Nat.reduceDiv, Nat.reduceMod, Nat.succ_ne_self, Nat.reduceBEq, Nat.reduceBNe, Tryti3, Trytz3, Trytp3, Trytk3, vint, TyS, TyF, BdS, Int.cast_ofNat_Int, d0, d1, d2, d3, d4, d5, d6, d7, d8, d9, d10] <;> with_reducible rfl) (by decide) ?_
  repeat (refine awp_seq ?_)
  refine awp_cond_false rfl (by simp only [LS, SS, SX, HS, mkS_cons, mkS_nil, ↓reduceIte, eq_self', List.map_nil, beq_self_eq_true, Nat.reduceEqDiff, Nat.reduceAdd, Nat.succ_ne_self, vint, TyS, TyF, BdS, Int.cast_ofNat_Int, d0, d1, d2, d3, d4, d5, d6, d7, d8, d9, d10] <;> with_reducible rfl) ?_
  refine awp_sel [1, 3, 4, 5, 9] (by simp only [LS, SS, SX, HS, mkS_cons, mkS_nil, ↓reduceIte, eq_self', List.map_nil, beq_self_eq_true, Nat.reduceEqDiff, Nat.reduceAdd, Nat.succ_ne_self, vint, TyS, TyF, BdS, Int.cast_ofNat_Int, d0, d1, d2, d3, d4, d5, d6, d7, d8, d9, d10] <;> with_reducible rfl) ?_
  -- region 8
  repeat (refine awp_seq ?_)
  refine e_eval (by simp only [asq, as0, as1, as2, awanted, aop, abin, ajust, LS, SS, SX, HS, mkS_cons, mkS_nil, ↓reduceIte, eq_self', List.map_nil, beq_self_eq_true, Nat.reduceEqDiff, Nat.reduceAdd, Nat.reduceMul, Nat.reduceLT, Nat.reduceLeDiff, Nat.reducePow, Nat.reduceDiv, Nat.reduceMod, Nat.succ_ne_self, Nat.reduceBEq, Nat.reduceBNe, Tryti3, Trytz3, Trytp3, Trytk3, vint, TyS, TyF, BdS, Int.cast_ofNat_Int, d0, d1, d2, d3, d4, d5, d6, d7, d8, d9, d10] <;> with_reducible rfl) (by decide) ?_
  repeat (refine awp_seq ?_)
  refine awp_cond_false rfl (by simp only [LS, SS, SX, HS, mkS_cons, mkS_nil, ↓reduceIte, eq_self', List.map_nil, beq_self_eq_true, Nat.reduceEqDiff, Nat.reduceAdd, Nat.succ_ne_self, vint, TyS, TyF, BdS, Int.cast_ofNat_Int, d0, d1, d2, d3, d4, d5, d6, d7, d8, d9, d10] <;> with_reducible rfl) ?_
  -- region 9
  repeat (refine awp_seq ?_)
  refine e_eval (by simp only [asq, as0, as1, as2, awanted, aop, abin, ajust, LS, SS, SX, HS, mkS_cons, mkS_nil, ↓reduceIte, eq_self', List.map_nil, beq_self_eq_true, Nat.reduceEqDiff, Nat.reduceAdd, Nat.reduceMul, Nat.reduceLT, Nat.reduceLeDiff, Nat.reducePow, Nat.reduceDiv, Nat.reduceMod, Nat.succ_ne_self, Nat.reduceBEq, Nat.reduceBNe, Tryti3, Trytz3, Trytp3, Trytk3, vint, TyS, TyF, BdS, Int.cast_ofNat_Int, d0, d1, d2, d3, d4, d5, d6, d7, d8, d9, d10] <;> with_reducible rfl) (by decide) ?_
  repeat (refine awp_seq ?_)
  refine awp_cond_false rfl (by simp only [LS, SS, SX, HS, mkS_cons, mkS_nil, ↓reduceIte, eq_self', List.map_nil, beq_self_eq_true, Nat.reduceEqDiff, Nat.reduceAdd, Nat.succ_ne_self, vint, TyS, TyF, BdS, Int.cast_ofNat_Int, d0, d1, d2, d3, d4, d5, d6, d7, d8, d9, d10] <;> with_reducible rfl) ?_
  -- region 10
  repeat (refine awp_seq ?_)
  refine e_eval (by simp only [asq, as0, as1, as2, awanted, aop, abin, ajust, LS, SS, SX, HS, mkS_cons, mkS_nil, ↓reduceIte, eq_self', List.map_nil, beq_self_eq_true, Nat.reduceEqDiff, Nat.reduceAdd, Nat.reduceMul, Nat.reduceLT, Nat.reduceLeDiff, Nat.reducePow, Nat.reduceDiv, Nat.reduceMod, Nat.succ_ne_self, Nat.reduceBEq, Nat.reduceBNe, Tryti3, Trytz3, Trytp3, Trytk3, vint, TyS, TyF, BdS, Int.cast_ofNat_Int, d0, d1, d2, d3, d4, d5, d6, d7, d8, d9, d10] <;> with_reducible rfl) (by decide) ?_
  repeat (refine awp_seq ?_)
  refine awp_cond_true rfl (by simp only [LS, SS, SX, HS, mkS_cons, mkS_nil, ↓reduceIte, eq_self', List.map_nil, beq_self_eq_true, Nat.reduceEqDiff, Nat.reduceAdd, Nat.succ_ne_self, vint, TyS, TyF, BdS, Int.cast_ofNat_Int, d0, d1, d2, d3, d4, d5, d6, d7, d8, d9, d10] <;> with_reducible rfl) ?_
  -- region 11
  repeat (refine awp_seq ?_)
  refine e_eval (by simp only [asq, as0, as1, as2, awanted, aop, LS, SS, SX, HS, mkS_cons, mkS_nil, ↓reduceIte, eq_self', List.map_nil, beq_self_eq_true, Nat.reduceEqDiff, Nat.reduceAdd, Nat.reduceMul, Nat.reduceLT, Nat.reduceLeDiff, Nat.reducePow, Nat.reduceDiv, Nat.reduceMod, Nat.succ_ne_self, Nat.reduceBEq, Nat.reduceBNe, vint, TyS, TyF, BdS, Int.cast_ofNat_Int, d0, d1, d2, d3, d4, d5, d6, d7, d8, d9, d10] <;> with_reducible rfl) (by decide) ?_
  -- region 20
  repeat (refine awp_seq ?_)
  refine awp_region ?_
  refine aops_gstart ?_
  refine g_take 5 (by simp only [gsq, gs0, gs1, gs2, gcond, gop, SG, Op.operands, Call.operands, Array.toList_append, aop, afldAddr, ajust, aload, abuiltin, LS, SS, SX, HS, mkS_cons, mkS_nil, ↓reduceIte, eq_self', List.map_nil, beq_self_eq_true, Nat.reduceEqDiff, Nat.reduceAdd, Nat.reduceMul, Nat.reduceLT, Nat.reduceLeDiff, Nat.reducePow, Nat.reduceDiv, Nat.reduceMod, Nat.succ_ne_self, Nat.reduceBEq, Nat.reduceBNe, Tryti22, Tryte22, Trytz22, Trytp22, Tryti24, Trytf24, Trytz24, Trytp24, vint, TyS, TyF, BdS, Int.cast_ofNat_Int, d0, d1, d2, d3, d4, d5, d6, d7, d8, d9, d10] <;> with_reducible rfl) (by decide) ?_
  refine aops_gpure (by simp only [acall, gcond, SG, Op.operands, Call.operands, Array.toList_append, LS, SS, SX, HS, mkS_cons, mkS_nil, ↓reduceIte, eq_self', List.map_nil, beq_self_eq_true, Nat.reduceEqDiff, Nat.reduceAdd, Nat.reduceMul, Nat.reduceLT, Nat.reduceLeDiff, Nat.reducePow, Nat.reduceDiv, Nat.reduceMod, Nat.succ_ne_self, Nat.reduceBEq, Nat.reduceBNe, vint, TyS, TyF, BdS, Int.cast_ofNat_Int, d0, d1, d2, d3, d4, d5, d6, d7, d8, d9, d10] <;> with_reducible rfl) (by simp only [acall, gcond, SG, Op.operands, Call.operands, Array.toList_append, LS, SS, SX, HS, mkS_cons, mkS_nil, ↓reduceIte, eq_self', List.map_nil, beq_self_eq_true, Nat.reduceEqDiff, Nat.reduceAdd, Nat.reduceMul, Nat.reduceLT, Nat.reduceLeDiff, Nat.reducePow, Nat.reduceDiv, Nat.reduceMod, Nat.succ_ne_self, Nat.reduceBEq, Nat.reduceBNe, vint, TyS, TyF, BdS, Int.cast_ofNat_Int, d0, d1, d2, d3, d4, d5, d6, d7, d8, d9, d10] <;> with_reducible rfl) (by simp only [acall, gcond, SG, Op.operands, Call.operands, Array.toList_append, LS, SS, SX, HS, mkS_cons, mkS_nil, ↓reduceIte, eq_self', List.map_nil, beq_self_eq_true, Nat.reduceEqDiff, Nat.reduceAdd, Nat.reduceMul, Nat.reduceLT, Nat.reduceLeDiff, Nat.reducePow, Nat.reduceDiv, Nat.reduceMod, Nat.succ_ne_self, Nat.reduceBEq, Nat.reduceBNe, vint, TyS, TyF, BdS, Int.cast_ofNat_Int, d0, d1, d2, d3, d4, d5, d6, d7, d8, d9, d10]) (by decide) Trygo98 (fun hc => inRange _ _ _ _) ?_
  refine g_end (by simp only [gsq, gs0, gs1, gs2, gcond, gop, SG, Op.operands, Call.operands, Array.toList_append, aop, aun, ajust, afldAddr, aload, abin, LS, SS, SX, HS, mkS_cons, mkS_nil, ↓reduceIte, eq_self', List.map_nil, beq_self_eq_true, Nat.reduceEqDiff, Nat.reduceAdd, Nat.reduceMul, Nat.reduceLT, Nat.reduceLeDiff, Nat.reducePow, Nat.reduceDiv, Nat.reduceMod, Nat.succ_ne_self, Nat.reduceBEq, Nat.reduceBNe, Tryti3, Trytz3, Trytp3, Trytk3, Tryti24, Trytf24, Trytz24, Trytp24, vint, TyS, TyF, BdS, Int.cast_ofNat_Int, d0, d1, d2, d3, d4, d5, d6, d7, d8, d9, d10] <;> with_reducible rfl) (by decide) (by repeat (first | exact Fin.base _ | with_reducible apply Fin.keep | apply Fin.drop)) ?_
  repeat (refine awp_seq ?_)
  refine awp_cond rfl (by simp only [LS, SS, SX, HS, mkS_cons, mkS_nil, ↓reduceIte, eq_self', List.map_nil, beq_self_eq_true, Nat.reduceEqDiff, Nat.reduceAdd, Nat.succ_ne_self, vint, TyS, TyF, BdS, Int.cast_ofNat_Int, d0, d1, d2, d3, d4, d5, d6, d7, d8, d9, d10] <;> with_reducible rfl) (fun bt54 => ?_) (fun bt54 => ?_)
  · -- if t54
    have hn : nwf t = false := by
      unfold nwf
      simp only [d0, d1, d2, d3, d4, d5, d6, d7, d8, d9, d10, Bool.or_false, Bool.or_true, Bool.false_or, Bool.true_or, if_true, if_false, Bool.false_eq_true]
      rw [Bool.eq_false_iff]
      intro hh
      simp only [Bool.or_eq_true, Bool.and_eq_true, Bool.not_eq_true', Bool.and_eq_false_iff, Bool.or_eq_false_iff, Bool.not_eq_false', decide_eq_true_eq, decide_eq_false_iff_not] at hh bt54
      omega
    have hwf : wfT t = false := by rw [wfT_eq, hn]; rfl
    refine awp_sel [] (by simp only [LS, SS, SX, HS, mkS_cons, mkS_nil, ↓reduceIte, eq_self', List.map_nil, beq_self_eq_true, Nat.reduceEqDiff, Nat.reduceAdd, Nat.succ_ne_self, vint, TyS, TyF, BdS, Int.cast_ofNat_Int, d0, d1, d2, d3, d4, d5, d6, d7, d8, d9, d10] <;> with_reducible rfl) ?_
    -- region 21
    repeat (refine awp_seq ?_)
    refine e_eval (by simp only [asq, as0, as1, as2, awanted, aop, LS, SS, SX, HS, mkS_cons, mkS_nil, ↓reduceIte, eq_self', List.map_nil, beq_self_eq_true, Nat.reduceEqDiff, Nat.reduceAdd, Nat.reduceMul, Nat.reduceLT, Nat.reduceLeDiff, Nat.reducePow, Nat.reduceDiv, Nat.reduceMod, Nat.succ_ne_self, Nat.reduceBEq, Nat.reduceBNe, vint, TyS, TyF, BdS, Int.cast_ofNat_Int, d0, d1, d2, d3, d4, d5, d6, d7, d8, d9, d10] <;> with_reducible rfl) (by decide) ?_
    repeat (refine awp_seq ?_)
    -- leaf 0 ret
    refine awp_ret ⟨.inr rfl, _, rfl, ?_⟩
    rw [hwf]; rfl
  · -- else t54
    have hn : nwf t = true := by
      unfold nwf
      simp only [d0, d1, d2, d3, d4, d5, d6, d7, d8, d9, d10, Bool.or_false, Bool.or_true, Bool.false_or, Bool.true_or, if_true, if_false, Bool.false_eq_true]
      simp only [Bool.or_eq_true, Bool.and_eq_true, Bool.not_eq_true', Bool.and_eq_false_iff, Bool.or_eq_false_iff, Bool.not_eq_false', decide_eq_true_eq, decide_eq_false_iff_not] at bt54 ⊢
      omega
    repeat (refine awp_seq ?_)
    refine awp_skip ?_
    refine awp_sel [1] (by simp only [LS, SS, SX, HS, mkS_cons, mkS_nil, ↓reduceIte, eq_self', List.map_nil, beq_self_eq_true, Nat.reduceEqDiff, Nat.reduceAdd, Nat.succ_ne_self, vint, TyS, TyF, BdS, Int.cast_ofNat_Int, d0, d1, d2, d3, d4, d5, d6, d7, d8, d9, d10] <;> with_reducible rfl) ?_
    -- region 22
    repeat (refine awp_seq ?_)
    refine e_eval (by simp only [asq, as0, as1, as2, awanted, aop, afldAddr, ajust, aload, abuiltin, LS, SS, SX, HS, mkS_cons, mkS_nil, ↓reduceIte, eq_self', List.map_nil, beq_self_eq_true, Nat.reduceEqDiff, Nat.reduceAdd, Nat.reduceMul, Nat.reduceLT, Nat.reduceLeDiff, Nat.reducePow, Nat.reduceDiv, Nat.reduceMod, Nat.succ_ne_self, Nat.reduceBEq, Nat.reduceBNe, Tryti22, Tryte22, Trytz22, Trytp22, Tryti24, Trytf24, Trytz24, Trytp24, vint, TyS, TyF, BdS, Int.cast_ofNat_Int, d0, d1, d2, d3, d4, d5, d6, d7, d8, d9, d10] <;> with_reducible rfl) (by decide) ?_
    repeat (refine awp_seq ?_)
    refine awp_forS (σ := Unit) (t.args.length) (fun (s : Unit) => [(56, .slice (t.args.map Ty.enc) .none)]) [56] ([]) (fun (s : Unit) => []) (fun (i : Nat) (s : Unit) => (t.args.take i).any (fun u => !wfT u) = false) (()) (_) rfl rfl rfl rfl rfl rfl rfl rfl rfl (by decide) (by decide) (by decide) (fun _ => rfl) (hw.lenMax) ⟨(by first | rfl | (simp only [LS, SS, SX, HS, mkS_cons, mkS_nil, ↓reduceIte, eq_self', List.map_nil, beq_self_eq_true, Nat.reduceEqDiff, Nat.reduceAdd, Nat.succ_ne_self, vint, TyS, TyF, BdS, Int.cast_ofNat_Int, d0, d1, d2, d3, d4, d5, d6, d7, d8, d9, d10] <;> first | done | with_reducible rfl)), (by first | rfl | (simp only [LS, SS, SX, HS, mkS_cons, mkS_nil, ↓reduceIte, eq_self', List.map_nil, beq_self_eq_true, Nat.reduceEqDiff, Nat.reduceAdd, Nat.succ_ne_self, vint, TyS, TyF, BdS, Int.cast_ofNat_Int, d0, d1, d2, d3, d4, d5, d6, d7, d8, d9, d10] <;> first | done | with_reducible rfl)), (by first | rfl | (simp only [LS, SS, SX, HS, mkS_cons, mkS_nil, ↓reduceIte, eq_self', List.map_nil, beq_self_eq_true, Nat.reduceEqDiff, Nat.reduceAdd, Nat.succ_ne_self, vint, TyS, TyF, BdS, Int.cast_ofNat_Int, d0, d1, d2, d3, d4, d5, d6, d7, d8, d9, d10] <;> first | done | with_reducible rfl)), trivial⟩ (by first | rfl | (simp only [LS, SS, SX, HS, mkS_cons, mkS_nil, ↓reduceIte, eq_self', List.map_nil, beq_self_eq_true, Nat.reduceEqDiff, Nat.reduceAdd, Nat.succ_ne_self, vint, TyS, TyF, BdS, Int.cast_ofNat_Int, d0, d1, d2, d3, d4, d5, d6, d7, d8, d9, d10] <;> first | done | with_reducible rfl)) (by simp) (fun _ _ _ => by first | exact Nat.zero_le _ | (simp only [List.length_append]; omega)) ?_ ?_ ?_
    · exact fun i s hg => ⟨by first | exact hbel_nil _ | (simp only [List.append_nil]; assumption) | (refine hbel_app' hb' (by simp) ?_; repeat (first | exact hbel_nil _ | exact trivial | exact obel_row_nil _ | (refine HBel.cons ?_ ?_) | (refine obel_row_cons (by first | exact bel_Bd _ _ | exact Bd.bel _ _ | exact bel_int_tok _ (by simp) | exact bel_ints0 _ _ | exact bel_slice_ty _ _ | exact Ty.bel _ _ | exact bel_ty_tok _ (by simp) | exact Bel.int _ _ | exact Bel.bool _ | exact Bel.str _ | exact Bel.nilp | exact Bel.nilfn | exact Bel.optr _ _ (by simp) | exact bel_nil0 _ | exact bel_nil1 _ | exact bel_fn0 _ _ | assumption) ?_))), by repeat (first | exact BelL.nil | refine BelL.cons (by first | exact bel_Bd _ _ | exact Bd.bel _ _ | exact bel_int_tok _ (by simp) | exact bel_ints0 _ _ | exact bel_slice_ty _ _ | exact Ty.bel _ _ | exact bel_ty_tok _ (by simp) | exact Bel.int _ _ | exact Bel.bool _ | exact Bel.str _ | exact Bel.nilp | exact Bel.nilfn | exact Bel.optr _ _ (by simp) | exact bel_nil0 _ | exact bel_nil1 _ | exact bel_fn0 _ _ | assumption) ?_)⟩
    · intro i s hi hg
      have g1 := ix_nat hi
      have g2 := get_enc Ty.enc hi
      have hmem : t.args[i] ∈ t.args := List.getElem_mem hi
      -- region 24
      repeat (refine awp_seq ?_)
      refine e_eval (by simp only [asq, as0, as1, as2, awanted, aop, aidxAddr, aidx, ajust, aload, astore, splice, LS, SS, SX, HS, mkS_cons, mkS_nil, ↓reduceIte, eq_self', List.map_nil, beq_self_eq_true, Nat.reduceEqDiff, Nat.reduceAdd, Nat.reduceMul, Nat.reduceLT, Nat.reduceLeDiff, Nat.reducePow, Nat.reduceDiv, Nat.reduceMod, Nat.succ_ne_self, Nat.reduceBEq, Nat.reduceBNe, Tryti22, Tryte22, Trytz22, Trytp22, Tryti24, Trytf24, Trytz24, Trytp24, vint, TyS, TyF, BdS, Int.cast_ofNat_Int, d0, d1, d2, d3, d4, d5, d6, d7, d8, d9, d10, g1, g2, Int.toNat_natCast] <;> with_reducible rfl) (by decide) ?_
      -- region 25
      repeat (refine awp_seq ?_)
      refine awp_region ?_
      refine e_take 1 (by simp only [asq, as0, as1, as2, awanted, aop, aload, ajust, LS, SS, SX, HS, mkS_cons, mkS_nil, ↓reduceIte, eq_self', List.map_nil, beq_self_eq_true, Nat.reduceEqDiff, Nat.reduceAdd, Nat.reduceMul, Nat.reduceLT, Nat.reduceLeDiff, Nat.reducePow, Nat.reduceDiv, Nat.reduceMod, Nat.succ_ne_self, Nat.reduceBEq, Nat.reduceBNe, Tryti24, Trytf24, Trytz24, Trytp24, vint, TyS, TyF, BdS, Int.cast_ofNat_Int, d0, d1, d2, d3, d4, d5, d6, d7, d8, d9, d10, g1, g2, Int.toNat_natCast] <;> with_reducible rfl) (by decide) ?_
      refine aops_pure (by simp only [acall, awanted, LS, SS, SX, HS, mkS_cons, mkS_nil, ↓reduceIte, eq_self', List.map_nil, beq_self_eq_true, Nat.reduceEqDiff, Nat.reduceAdd, Nat.reduceMul, Nat.reduceLT, Nat.reduceLeDiff, Nat.reducePow, Nat.reduceDiv, Nat.reduceMod, Nat.succ_ne_self, Nat.reduceBEq, Nat.reduceBNe, vint, TyS, TyF, BdS, Int.cast_ofNat_Int, d0, d1, d2, d3, d4, d5, d6, d7, d8, d9, d10, g1, g2, Int.toNat_natCast] <;> with_reducible rfl) (by simp only [acall, awanted, LS, SS, SX, HS, mkS_cons, mkS_nil, ↓reduceIte, eq_self', List.map_nil, beq_self_eq_true, Nat.reduceEqDiff, Nat.reduceAdd, Nat.reduceMul, Nat.reduceLT, Nat.reduceLeDiff, Nat.reducePow, Nat.reduceDiv, Nat.reduceMod, Nat.succ_ne_self, Nat.reduceBEq, Nat.reduceBNe, vint, TyS, TyF, BdS, Int.cast_ofNat_Int, d0, d1, d2, d3, d4, d5, d6, d7, d8, d9, d10, g1, g2, Int.toNat_natCast]) (by decide) Trygo93 (ih t.args[i] hmem _) ?_
      refine e_end (by simp only [asq, as0, as1, as2, awanted, aop, aun, ajust, LS, SS, SX, HS, mkS_cons, mkS_nil, ↓reduceIte, eq_self', List.map_nil, beq_self_eq_true, Nat.reduceEqDiff, Nat.reduceAdd, Nat.reduceMul, Nat.reduceLT, Nat.reduceLeDiff, Nat.reducePow, Nat.reduceDiv, Nat.reduceMod, Nat.succ_ne_self, Nat.reduceBEq, Nat.reduceBNe, vint, TyS, TyF, BdS, Int.cast_ofNat_Int, d0, d1, d2, d3, d4, d5, d6, d7, d8, d9, d10, g1, g2, Int.toNat_natCast] <;> with_reducible rfl) (by decide) ?_
      repeat (refine awp_seq ?_)
      refine awp_cond rfl (by simp only [LS, SS, SX, HS, mkS_cons, mkS_nil, ↓reduceIte, eq_self', List.map_nil, beq_self_eq_true, Nat.reduceEqDiff, Nat.reduceAdd, Nat.succ_ne_self, vint, TyS, TyF, BdS, Int.cast_ofNat_Int, d0, d1, d2, d3, d4, d5, d6, d7, d8, d9, d10, g1, g2, Int.toNat_natCast] <;> with_reducible rfl) (fun bt64 => ?_) (fun bt64 => ?_)
      · -- if t64
        have hbad : (t.args.any fun u => !wfT u) = true := List.any_eq_true.2 ⟨_, hmem, bt64⟩
        have hwf : wfT t = false := by rw [wfT_eq, hn, hbad]; rfl
        -- region 26
        repeat (refine awp_seq ?_)
        refine e_eval (by simp only [asq, as0, as1, as2, awanted, aop, LS, SS, SX, HS, mkS_cons, mkS_nil, ↓reduceIte, eq_self', List.map_nil, beq_self_eq_true, Nat.reduceEqDiff, Nat.reduceAdd, Nat.reduceMul, Nat.reduceLT, Nat.reduceLeDiff, Nat.reducePow, Nat.reduceDiv, Nat.reduceMod, Nat.succ_ne_self, Nat.reduceBEq, Nat.reduceBNe, vint, TyS, TyF, BdS, Int.cast_ofNat_Int, d0, d1, d2, d3, d4, d5, d6, d7, d8, d9, d10, g1, g2, Int.toNat_natCast] <;> with_reducible rfl) (by decide) ?_
        repeat (refine awp_seq ?_)
        -- leaf 1 ret
        refine awp_ret ⟨.inr rfl, _, rfl, ?_⟩
        rw [hwf]; rfl
      · -- else t64
        repeat (refine awp_seq ?_)
        refine awp_skip ?_
        -- leaf 2 next1
        exact ⟨⟨rfl, rfl, trivial⟩, (), _, ⟨rfl, trivial⟩, rfl, any_take_succ hi hg bt64⟩
    · intro s hg
      rw [List.take_length] at hg
      have hwf : wfT t = true := by rw [wfT_eq, hn, hg]; rfl
      -- region 28
      repeat (refine awp_seq ?_)
      refine e_eval (by simp only [asq, as0, as1, as2, awanted, aop, LS, SS, SX, HS, mkS_cons, mkS_nil, ↓reduceIte, eq_self', List.map_nil, beq_self_eq_true, Nat.reduceEqDiff, Nat.reduceAdd, Nat.reduceMul, Nat.reduceLT, Nat.reduceLeDiff, Nat.reducePow, Nat.reduceDiv, Nat.reduceMod, Nat.succ_ne_self, Nat.reduceBEq, Nat.reduceBNe, vint, TyS, TyF, BdS, Int.cast_ofNat_Int, d0, d1, d2, d3, d4, d5, d6, d7, d8, d9, d10] <;> with_reducible rfl) (by decide) ?_
      repeat (refine awp_seq ?_)
      -- leaf 3 ret
      refine awp_ret ⟨.inr rfl, _, rfl, ?_⟩
      rw [hwf]; rfl

theorem typeWF_3 (t : Ty) (hk : t.kind = 3) (hw : t.W) (ih : ∀ u ∈ t.args, PC Try.prog 93 [u.enc] (.bool (wfT u))) : PC Try.prog 93 [t.enc] (.bool (wfT t)) := by
  have hlen0 : (0 : Int) ≤ (t.args.length : Int) := by omega
  have d0 : decide (t.kind = 0) = false := decide_eq_false (by omega)
  have d1 : decide (t.kind = 1) = false := decide_eq_false (by omega)
  have d2 : decide (t.kind = 2) = false := decide_eq_false (by omega)
  have d3 : decide (t.kind = 3) = true := decide_eq_true hk
  have d4 : decide (t.kind = 4) = false := decide_eq_false (by omega)
  have d5 : decide (t.kind = 5) = false := decide_eq_false (by omega)
  have d6 : decide (t.kind = 6) = false := decide_eq_false (by omega)
  have d7 : decide (t.kind = 7) = false := decide_eq_false (by omega)
  have d8 : decide (t.kind = 8) = false := decide_eq_false (by omega)
  have d9 : decide (t.kind = 9) = false := decide_eq_false (by omega)
  have d10 : decide (t.kind = 10) = false := decide_eq_false (by omega)
  refine pc_of (N := 66) Try.func93 rfl rfl (by simp) (by simp [Ty.bel]) (.bool _) ?_
  -- region 0
  repeat (refine awp_seq ?_)
  refine e_eval (by simp only [asq, as0, as1, as2, awanted, aop, LS, SS, SX, HS, mkS_cons, mkS_nil, ↓reduceIte, eq_self', List.map_nil, beq_self_eq_true, Nat.reduceEqDiff, Nat.reduceAdd, Nat.reduceMul, Nat.reduceLT, Nat.reduceLeDiff, Nat.reducePow, Nat.reduceDiv, Nat.reduceMod, Nat.succ_ne_self, Nat.reduceBEq, Nat.reduceBNe, Tryti24, Trytf24, Trytz24, Trytp24, vint, TyS, TyF, BdS, Int.cast_ofNat_Int, d0, d1, d2, d3, d4, d5, d6, d7, d8, d9, d10] <;> with_reducible rfl) (by decide) ?_
  -- region 1
  repeat (refine awp_seq ?_)
  refine e_eval (by simp only [asq, as0, as1, as2, awanted, aop, LS, SS, SX, HS, mkS_cons, mkS_nil, ↓reduceIte, eq_self', List.map_nil, beq_self_eq_true, Nat.reduceEqDiff, Nat.reduceAdd, Nat.reduceMul, Nat.reduceLT, Nat.reduceLeDiff, Nat.reducePow, Nat.reduceDiv, Nat.reduceMod, Nat.succ_ne_self, Nat.reduceBEq, Nat.reduceBNe, vint, TyS, TyF, BdS, Int.cast_ofNat_Int, d0, d1, d2, d3, d4, d5, d6, d7, d8, d9, d10] <;> with_reducible rfl) (by decide) ?_
  -- region 2
  repeat (refine awp_seq ?_)
  refine e_eval (by simp only [asq, as0, as1, as2, awanted, aop, afldAddr, ajust, aload, LS, SS, SX, HS, mkS_cons, mkS_nil, ↓reduceIte, eq_self', List.map_nil, beq_self_eq_true, Nat.reduceEqDiff, Nat.reduceAdd, Nat.reduceMul, Nat.reduceLT, Nat.reduceLeDiff, Nat.reducePow, Nat.reduceDiv, Nat.reduceMod, Nat.succ_ne_self, Nat.reduceBEq, Nat.reduceBNe, Tryti3, Trytz3, Trytp3, Trytk3, Tryti24, Trytf24, Trytz24, Trytp24, vint, TyS, TyF, BdS, Int.cast_ofNat_Int, d0, d1, d2, d3, d4, d5, d6, d7, d8, d9, d10] <;> with_reducible rfl) (by decide) ?_
  repeat (refine awp_seq ?_)
  refine awp_block ?_
  -- region 4
  repeat (refine awp_seq ?_)
  refine e_eval (by simp only [asq, as0, as1, as2, awanted, aop, abin, ajust, LS, SS, SX, HS, mkS_cons, mkS_nil, ↓reduceIte, eq_self', List.map_nil, beq_self_eq_true, Nat.reduceEqDiff, Nat.reduceAdd, Nat.reduceMul, Nat.reduceLT, Nat.reduceLeDiff, Nat.reducePow, Nat.reduceDiv, Nat.reduceMod, Nat.succ_ne_self, Nat.reduceBEq, Nat.reduceBNe, Tryti3, Trytz3, Trytp3, Trytk3, vint, TyS, TyF, BdS, Int.cast_ofNat_Int, d0, d1, d2, d3, d4, d5, d6, d7, d8, d9, d10] <;> with_reducible rfl) (by decide) ?_
  repeat (refine awp_seq ?_)
  refine awp_cond_false rfl (by simp only [LS, SS, SX, HS, mkS_cons, mkS_nil, ↓reduceIte, eq_self', List.map_nil, beq_self_eq_true, Nat.reduceEqDiff, Nat.reduceAdd, Nat.succ_ne_self, vint, TyS, TyF, BdS, Int.cast_ofNat_Int, d0, d1, d2, d3, d4, d5, d6, d7, d8, d9, d10] <;> with_reducible rfl) ?_
  -- region 5
  repeat (refine awp_seq ?_)
  refine e_eval (by simp only [asq, as0, as1, as2, awanted, aop, abin, ajust, LS, SS, SX, HS, mkS_cons, mkS_nil, ↓reduceIte, eq_self', List.map_nil, beq_self_eq_true, Nat.reduceEqDiff, Nat.reduceAdd, Nat.reduceMul, Nat.reduceLT, Nat.reduceLeDiff, Nat.reducePow, Nat.reduceDiv, Nat.reduceMod, Nat.succ_ne_self, Nat.reduceBEq, Nat.reduceBNe, Tryti3, Trytz3, Trytp3, Trytk3, vint, TyS, TyF, BdS, Int.cast_ofNat_Int, d0, d1, d2, d3, d4, d5, d6, d7, d8, d9, d10] <;> with_reducible rfl) (by decide) ?_
  repeat (refine awp_seq ?_)
  refine awp_cond_true rfl (by simp only [LS, SS, SX, HS, mkS_cons, mkS_nil, ↓reduceIte, eq_self', List.map_nil, beq_self_eq_true, Nat.reduceEqDiff, Nat.reduceAdd, Nat.succ_ne_self, vint, TyS, TyF, BdS, Int.cast_ofNat_Int, d0, d1, d2, d3, d4, d5, d6, d7, d8, d9, d10] <;> with_reducible rfl) ?_
  repeat (refine awp_seq ?_)
  refine awp_skip ?_
  repeat (refine awp_seq ?_)
  refine awp_cond_true rfl (by simp only [LS, SS, SX, HS, mkS_cons, mkS_nil, ↓reduceIte, eq_self', List.map_nil, beq_self_eq_true, Nat.reduceEqDiff, Nat.reduceAdd, Nat.succ_ne_self, vint, TyS, TyF, BdS, Int.cast_ofNat_Int, d0, d1, d2, d3, d4, d5, d6, d7, d8, d9, d10] <;> with_reducible rfl) ?_
  repeat (refine awp_seq ?_)
  refine awp_skip ?_
  -- region 20
  repeat (refine awp_seq ?_)
  refine awp_region ?_
  refine aops_gstart ?_
  refine g_take 5 (by simp only [gsq, gs0, gs1, gs2, gcond, gop, SG, Op.operands, Call.operands, Array.toList_append, aop, afldAddr, ajust, aload, abuiltin, LS, SS, SX, HS, mkS_cons, mkS_nil, ↓reduceIte, eq_self', List.map_nil, beq_self_eq_true, Nat.reduceEqDiff, Nat.reduceAdd, Nat.reduceMul, Nat.reduceLT, Nat.reduceLeDiff, Nat.reducePow, Nat.reduceDiv, Nat.reduceMod, Nat.succ_ne_self, Nat.reduceBEq, Nat.reduceBNe, Tryti22, Tryte22, Trytz22, Trytp22, Tryti24, Trytf24, Trytz24, Trytp24, vint, TyS, TyF, BdS, Int.cast_ofNat_Int, d0, d1, d2, d3, d4, d5, d6, d7, d8, d9, d10] <;> with_reducible rfl) (by decide) ?_
  refine aops_gpure (by simp only [acall, gcond, SG, Op.operands, Call.operands, Array.toList_append, LS, SS, SX, HS, mkS_cons, mkS_nil, ↓reduceIte, eq_self', List.map_nil, beq_self_eq_true, Nat.reduceEqDiff, Nat.reduceAdd, Nat.reduceMul, Nat.reduceLT, Nat.reduceLeDiff, Nat.reducePow, Nat.reduceDiv, Nat.reduceMod, Nat.succ_ne_self, Nat.reduceBEq, Nat.reduceBNe, vint, TyS, TyF, BdS, Int.cast_ofNat_Int, d0, d1, d2, d3, d4, d5, d6, d7, d8, d9, d10] <;> with_reducible rfl) (by simp only [acall, gcond, SG, Op.operands, Call.operands, Array.toList_append, LS, SS, SX, HS, mkS_cons, mkS_nil, ↓reduceIte, eq_self', List.map_nil, beq_self_eq_true, Nat.reduceEqDiff, Nat.reduceAdd, Nat.reduceMul, Nat.reduceLT, Nat.reduceLeDiff, Nat.reducePow, Nat.reduceDiv, Nat.reduceMod, Nat.succ_ne_self, Nat.reduceBEq, Nat.reduceBNe, vint, TyS, TyF, BdS, Int.cast_ofNat_Int, d0, d1, d2, d3, d4, d5, d6, d7, d8, d9, d10] <;> with_reducible rfl) (by simp only [acall, gcond, SG, Op.operands, Call.operands, Array.toList_append, LS, SS, SX, HS, mkS_cons, mkS_nil, ↓reduceIte, eq_self', List.map_nil, beq_self_eq_true, Nat.reduceEqDiff, Nat.reduceAdd, Nat.reduceMul, Nat.reduceLT, Nat.reduceLeDiff, Nat.reducePow, Nat.reduceDiv, Nat.reduceMod, Nat.succ_ne_self, Nat.reduceBEq, Nat.reduceBNe, vint, TyS, TyF, BdS, Int.cast_ofNat_Int, d0, d1, d2, d3, d4, d5, d6, d7, d8, d9, d10]) (by decide) Trygo98 (fun hc => inRange _ _ _ _) ?_
  refine g_end (by simp only [gsq, gs0, gs1, gs2, gcond, gop, SG, Op.operands, Call.operands, Array.toList_append, aop, aun, ajust, afldAddr, aload, abin, LS, SS, SX, HS, mkS_cons, mkS_nil, ↓reduceIte, eq_self', List.map_nil, beq_self_eq_true, Nat.reduceEqDiff, Nat.reduceAdd, Nat.reduceMul, Nat.reduceLT, Nat.reduceLeDiff, Nat.reducePow, Nat.reduceDiv, Nat.reduceMod, Nat.succ_ne_self, Nat.reduceBEq, Nat.reduceBNe, Tryti3, Trytz3, Trytp3, Trytk3, Tryti24, Trytf24, Trytz24, Trytp24, vint, TyS, TyF, BdS, Int.cast_ofNat_Int, d0, d1, d2, d3, d4, d5, d6, d7, d8, d9, d10] <;> with_reducible rfl) (by decide) (by repeat (first | exact Fin.base _ | with_reducible apply Fin.keep | apply Fin.drop)) ?_
  repeat (refine awp_seq ?_)
  refine awp_cond rfl (by simp only [LS, SS, SX, HS, mkS_cons, mkS_nil, ↓reduceIte, eq_self', List.map_nil, beq_self_eq_true, Nat.reduceEqDiff, Nat.reduceAdd, Nat.succ_ne_self, vint, TyS, TyF, BdS, Int.cast_ofNat_Int, d0, d1, d2, d3, d4, d5, d6, d7, d8, d9, d10] <;> with_reducible rfl) (fun bt54 => ?_) (fun bt54 => ?_)
  · -- if t54
    have hn : nwf t = false := by
      unfold nwf
      simp only [d0, d1, d2, d3, d4, d5, d6, d7, d8, d9, d10, Bool.or_false, Bool.or_true, Bool.false_or, Bool.true_or, if_true, if_false, Bool.false_eq_true]
      rw [Bool.eq_false_iff]
      intro hh
      simp only [Bool.or_eq_true, Bool.and_eq_true, Bool.not_eq_true', Bool.and_eq_false_iff, Bool.or_eq_false_iff, Bool.not_eq_false', decide_eq_true_eq, decide_eq_false_iff_not] at hh bt54
      omega
    have hwf : wfT t = false := by rw [wfT_eq, hn]; rfl
    refine awp_sel [] (by simp only [LS, SS, SX, HS, mkS_cons, mkS_nil, ↓reduceIte, eq_self', List.map_nil, beq_self_eq_true, Nat.reduceEqDiff, Nat.reduceAdd, Nat.succ_ne_self, vint, TyS, TyF, BdS, Int.cast_ofNat_Int, d0, d1, d2, d3, d4, d5, d6, d7, d8, d9, d10] <;> with_reducible rfl) ?_
    -- region 21
    repeat (refine awp_seq ?_)
    refine e_eval (by simp only [asq, as0, as1, as2, awanted, aop, LS, SS, SX, HS, mkS_cons, mkS_nil, ↓reduceIte, eq_self', List.map_nil, beq_self_eq_true, Nat.reduceEqDiff, Nat.reduceAdd, Nat.reduceMul, Nat.reduceLT, Nat.reduceLeDiff, Nat.reducePow, Nat.reduceDiv, Nat.reduceMod, Nat.succ_ne_self, Nat.reduceBEq, Nat.reduceBNe, vint, TyS, TyF, BdS, Int.cast_ofNat_Int, d0, d1, d2, d3, d4, d5, d6, d7, d8, d9, d10] <;> with_reducible rfl) (by decide) ?_
    repeat (refine awp_seq ?_)
    -- leaf 0 ret
    refine awp_ret ⟨.inr rfl, _, rfl, ?_⟩
    rw [hwf]; rfl
  · -- else t54
    have hn : nwf t = true := by
      unfold nwf
      simp only [d0, d1, d2, d3, d4, d5, d6, d7, d8, d9, d10, Bool.or_false, Bool.or_true, Bool.false_or, Bool.true_or, if_true, if_false, Bool.false_eq_true]
      simp only [Bool.or_eq_true, Bool.and_eq_true, Bool.not_eq_true', Bool.and_eq_false_iff, Bool.or_eq_false_iff, Bool.not_eq_false', decide_eq_true_eq, decide_eq_false_iff_not] at bt54 ⊢
      omega
    repeat (refine awp_seq ?_)
    refine awp_skip ?_
    refine awp_sel [1] (by simp only [LS, SS, SX, HS, mkS_cons, mkS_nil, ↓reduceIte, eq_self', List.map_nil, beq_self_eq_true, Nat.reduceEqDiff, Nat.reduceAdd, Nat.succ_ne_self, vint, TyS, TyF, BdS, Int.cast_ofNat_Int, d0, d1, d2, d3, d4, d5, d6, d7, d8, d9, d10] <;> with_reducible rfl) ?_
    -- region 22
    repeat (refine awp_seq ?_)
    refine e_eval (by simp only [asq, as0, as1, as2, awanted, aop, afldAddr, ajust, aload, abuiltin, LS, SS, SX, HS, mkS_cons, mkS_nil, ↓reduceIte, eq_self', List.map_nil, beq_self_eq_true, Nat.reduceEqDiff, Nat.reduceAdd, Nat.reduceMul, Nat.reduceLT, Nat.reduceLeDiff, Nat.reducePow, Nat.reduceDiv, Nat.reduceMod, Nat.succ_ne_self, Nat.reduceBEq, Nat.reduceBNe, Tryti22, Tryte22, Trytz22, Trytp22, Tryti24, Trytf24, Trytz24, Trytp24, vint, TyS, TyF, BdS, Int.cast_ofNat_Int, d0, d1, d2, d3, d4, d5, d6, d7, d8, d9, d10] <;> with_reducible rfl) (by decide) ?_
    repeat (refine awp_seq ?_)
    refine awp_forS (σ := Unit) (t.args.length) (fun (s : Unit) => [(56, .slice (t.args.map Ty.enc) .none)]) [56] ([]) (fun (s : Unit) => []) (fun (i : Nat) (s : Unit) => (t.args.take i).any (fun u => !wfT u) = false) (()) (_) rfl rfl rfl rfl rfl rfl rfl rfl rfl (by decide) (by decide) (by decide) (fun _ => rfl) (hw.lenMax) ⟨(by first | rfl | (simp only [LS, SS, SX, HS, mkS_cons, mkS_nil, ↓reduceIte, eq_self', List.map_nil, beq_self_eq_true, Nat.reduceEqDiff, Nat.reduceAdd, Nat.succ_ne_self, vint, TyS, TyF, BdS, Int.cast_ofNat_Int, d0, d1, d2, d3, d4, d5, d6, d7, d8, d9, d10] <;> first | done | with_reducible rfl)), (by first | rfl | (simp only [LS, SS, SX, HS, mkS_cons, mkS_nil, ↓reduceIte, eq_self', List.map_nil, beq_self_eq_true, Nat.reduceEqDiff, Nat.reduceAdd, Nat.succ_ne_self, vint, TyS, TyF, BdS, Int.cast_ofNat_Int, d0, d1, d2, d3, d4, d5, d6, d7, d8, d9, d10] <;> first | done | with_reducible rfl)), (by first | rfl | (simp only [LS, SS, SX, HS, mkS_cons, mkS_nil, ↓reduceIte, eq_self', List.map_nil, beq_self_eq_true, Nat.reduceEqDiff, Nat.reduceAdd, Nat.succ_ne_self, vint, TyS, TyF, BdS, Int.cast_ofNat_Int, d0, d1, d2, d3, d4, d5, d6, d7, d8, d9, d10] <;> first | done | with_reducible rfl)), trivial⟩ (by first | rfl | (simp only [LS, SS, SX, HS, mkS_cons, mkS_nil, ↓reduceIte, eq_self', List.map_nil, beq_self_eq_true, Nat.reduceEqDiff, Nat.reduceAdd, Nat.succ_ne_self, vint, TyS, TyF, BdS, Int.cast_ofNat_Int, d0, d1, d2, d3, d4, d5, d6, d7, d8, d9, d10] <;> first | done | with_reducible rfl)) (by simp) (fun _ _ _ => by first | exact Nat.zero_le _ | (simp only [List.length_append]; omega)) ?_ ?_ ?_
    · exact fun i s hg => ⟨by first | exact hbel_nil _ | (simp only [List.append_nil]; assumption) | (refine hbel_app' hb' (by simp) ?_; repeat (first | exact hbel_nil _ | exact trivial | exact obel_row_nil _ | (refine HBel.cons ?_ ?_) | (refine obel_row_cons (by first | exact bel_Bd _ _ | exact Bd.bel _ _ | exact bel_int_tok _ (by simp) | exact bel_ints0 _ _ | exact bel_slice_ty _ _ | exact Ty.bel _ _ | exact bel_ty_tok _ (by simp) | exact Bel.int _ _ | exact Bel.bool _ | exact Bel.str _ | exact Bel.nilp | exact Bel.nilfn | exact Bel.optr _ _ (by simp) | exact bel_nil0 _ | exact bel_nil1 _ | exact bel_fn0 _ _ | assumption) ?_))), by repeat (first | exact BelL.nil | refine BelL.cons (by first | exact bel_Bd _ _ | exact Bd.bel _ _ | exact bel_int_tok _ (by simp) | exact bel_ints0 _ _ | exact bel_slice_ty _ _ | exact Ty.bel _ _ | exact bel_ty_tok _ (by simp) | exact Bel.int _ _ | exact Bel.bool _ | exact Bel.str _ | exact Bel.nilp | exact Bel.nilfn | exact Bel.optr _ _ (by simp) | exact bel_nil0 _ | exact bel_nil1 _ | exact bel_fn0 _ _ | assumption) ?_)⟩
    · intro i s hi hg
      have g1 := ix_nat hi
      have g2 := get_enc Ty.enc hi
      have hmem : t.args[i] ∈ t.args := List.getElem_mem hi
      -- region 24
      repeat (refine awp_seq ?_)
      refine e_eval (by simp only [asq, as0, as1, as2, awanted, aop, aidxAddr, aidx, ajust, aload, astore, splice, LS, SS, SX, HS, mkS_cons, mkS_nil, ↓reduceIte, eq_self', List.map_nil, beq_self_eq_true, Nat.reduceEqDiff, Nat.reduceAdd, Nat.reduceMul, Nat.reduceLT, Nat.reduceLeDiff, Nat.reducePow, Nat.reduceDiv, Nat.reduceMod, Nat.succ_ne_self, Nat.reduceBEq, Nat.reduceBNe, Tryti22, Tryte22, Trytz22, Trytp22, Tryti24, Trytf24, Trytz24, Trytp24, vint, TyS, TyF, BdS, Int.cast_ofNat_Int, d0, d1, d2, d3, d4, d5, d6, d7, d8, d9, d10, g1, g2, Int.toNat_natCast] <;> with_reducible rfl) (by decide) ?_
      -- region 25
      repeat (refine awp_seq ?_)
      refine awp_region ?_
      refine e_take 1 (by simp only [asq, as0, as1, as2, awanted, aop, aload, ajust, LS, SS, SX, HS, mkS_cons, mkS_nil, ↓reduceIte, eq_self', List.map_nil, beq_self_eq_true, Nat.reduceEqDiff, Nat.reduceAdd, Nat.reduceMul, Nat.reduceLT, Nat.reduceLeDiff, Nat.reducePow, Nat.reduceDiv, Nat.reduceMod, Nat.succ_ne_self, Nat.reduceBEq, Nat.reduceBNe, Tryti24, Trytf24, Trytz24, Trytp24, vint, TyS, TyF, BdS, Int.cast_ofNat_Int, d0, d1, d2, d3, d4, d5, d6, d7, d8, d9, d10, g1, g2, Int.toNat_natCast] <;> with_reducible rfl) (by decide) ?_
      refine aops_pure (by simp only [acall, awanted, LS, SS, SX, HS, mkS_cons, mkS_nil, ↓reduceIte, eq_self', List.map_nil, beq_self_eq_true, Nat.reduceEqDiff, Nat.reduceAdd, Nat.reduceMul, Nat.reduceLT, Nat.reduceLeDiff, Nat.reducePow, Nat.reduceDiv, Nat.reduceMod, Nat.succ_ne_self, Nat.reduceBEq, Nat.reduceBNe, vint, TyS, TyF, BdS, Int.cast_ofNat_Int, d0, d1, d2, d3, d4, d5, d6, d7, d8, d9, d10, g1, g2, Int.toNat_natCast] <;> with_reducible rfl) (by simp only [acall, awanted, LS, SS, SX, HS, mkS_cons, mkS_nil, ↓reduceIte, eq_self', List.map_nil, beq_self_eq_true, Nat.reduceEqDiff, Nat.reduceAdd, Nat.reduceMul, Nat.reduceLT, Nat.reduceLeDiff, Nat.reducePow, Nat.reduceDiv, Nat.reduceMod, Nat.succ_ne_self, Nat.reduceBEq, Nat.reduceBNe, vint, TyS, TyF, BdS, Int.cast_ofNat_Int, d0, d1, d2, d3, d4, d5, d6, d7, d8, d9, d10, g1, g2, Int.toNat_natCast]) (by decide) Trygo93 (ih t.args[i] hmem _) ?_
      refine e_end (by simp only [asq, as0, as1, as2, awanted, aop, aun, ajust, LS, SS, SX, HS, mkS_cons, mkS_nil, ↓reduceIte, eq_self', List.map_nil, beq_self_eq_true, Nat.reduceEqDiff, Nat.reduceAdd, Nat.reduceMul, Nat.reduceLT, Nat.reduceLeDiff, Nat.reducePow, Nat.reduceDiv, Nat.reduceMod, Nat.succ_ne_self, Nat.reduceBEq, Nat.reduceBNe, vint, TyS, TyF, BdS, Int.cast_ofNat_Int, d0, d1, d2, d3, d4, d5, d6, d7, d8, d9, d10, g1, g2, Int.toNat_natCast] <;> with_reducible rfl) (by decide) ?_
      repeat (refine awp_seq ?_)
      refine awp_cond rfl (by simp only [LS, SS, SX, HS, mkS_cons, mkS_nil, ↓reduceIte, eq_self', List.map_nil, beq_self_eq_true, Nat.reduceEqDiff, Nat.reduceAdd, Nat.succ_ne_self, vint, TyS, TyF, BdS, Int.cast_ofNat_Int, d0, d1, d2, d3, d4, d5, d6, d7, d8, d9, d10, g1, g2, Int.toNat_natCast] <;> with_reducible rfl) (fun bt64 => ?_) (fun bt64 => ?_)
      · -- if t64
        have hbad : (t.args.any fun u => !wfT u) = true := List.any_eq_true.2 ⟨_, hmem, bt64⟩
        have hwf : wfT t = false := by rw [wfT_eq, hn, hbad]; rfl
        -- region 26
        repeat (refine awp_seq ?_)
        refine e_eval (by simp only [asq, as0, as1, as2, awanted, aop, LS, SS, SX, HS, mkS_cons, mkS_nil, ↓reduceIte, eq_self', List.map_nil, beq_self_eq_true, Nat.reduceEqDiff, Nat.reduceAdd, Nat.reduceMul, Nat.reduceLT, Nat.reduceLeDiff, Nat.reducePow, Nat.reduceDiv, Nat.reduceMod, Nat.succ_ne_self, Nat.reduceBEq, Nat.reduceBNe, vint, TyS, TyF, BdS, Int.cast_ofNat_Int, d0, d1, d2, d3, d4, d5, d6, d7, d8, d9, d10, g1, g2, Int.toNat_natCast] <;> with_reducible rfl) (by decide) ?_
        repeat (refine awp_seq ?_)
        -- leaf 1 ret
        refine awp_ret ⟨.inr rfl, _, rfl, ?_⟩
        rw [hwf]; rfl
      · -- else t64
        repeat (refine awp_seq ?_)
        refine awp_skip ?_
        -- leaf 2 next1
        exact ⟨⟨rfl, rfl, trivial⟩, (), _, ⟨rfl, trivial⟩, rfl, any_take_succ hi hg bt64⟩
    · intro s hg
      rw [List.take_length] at hg
      have hwf : wfT t = true := by rw [wfT_eq, hn, hg]; rfl
      -- region 28
      repeat (refine awp_seq ?_)
      refine e_eval (by simp only [asq, as0, as1, as2, awanted, aop, LS, SS, SX, HS, mkS_cons, mkS_nil, ↓reduceIte, eq_self', List.map_nil, beq_self_eq_true, Nat.reduceEqDiff, Nat.reduceAdd, Nat.reduceMul, Nat.reduceLT, Nat.reduceLeDiff, Nat.reducePow, Nat.reduceDiv, Nat.reduceMod, Nat.succ_ne_self, Nat.reduceBEq, Nat.reduceBNe, vint, TyS, TyF, BdS, Int.cast_ofNat_Int, d0, d1, d2, d3, d4, d5, d6, d7, d8, d9, d10] <;> with_reducible rfl) (by decide) ?_
      repeat (refine awp_seq ?_)
      -- leaf 3 ret
      refine awp_ret ⟨.inr rfl, _, rfl, ?_⟩
      rw [hwf]; rfl

theorem typeWF_4 (t : Ty) (hk : t.kind = 4) (hw : t.W) (ih : ∀ u ∈ t.args, PC Try.prog 93 [u.enc] (.bool (wfT u))) : PC Try.prog 93 [t.enc] (.bool (wfT t)) := by
  have hlen0 : (0 : Int) ≤ (t.args.length : Int) := by omega
  have d0 : decide (t.kind = 0) = false := decide_eq_false (by omega)
  have d1 : decide (t.kind = 1) = false := decide_eq_false (by omega)
  have d2 : decide (t.kind = 2) = false := decide_eq_false (by omega)
  have d3 : decide (t.kind = 3) = false := decide_eq_false (by omega)
  have d4 : decide (t.kind = 4) = true := decide_eq_true hk
  have d5 : decide (t.kind = 5) = false := decide_eq_false (by omega)
  have d6 : decide (t.kind = 6) = false := decide_eq_false (by omega)
  have d7 : decide (t.kind = 7) = false := decide_eq_false (by omega)
  have d8 : decide (t.kind = 8) = false := decide_eq_false (by omega)
  have d9 : decide (t.kind = 9) = false := decide_eq_false (by omega)
  have d10 : decide (t.kind = 10) = false := decide_eq_false (by omega)
  refine pc_of (N := 66) Try.func93 rfl rfl (by simp) (by simp [Ty.bel]) (.bool _) ?_
  -- region 0
  repeat (refine awp_seq ?_)
  refine e_eval (by simp only [asq, as0, as1, as2, awanted, aop, LS, SS, SX, HS, mkS_cons, mkS_nil, ↓reduceIte, eq_self', List.map_nil, beq_self_eq_true, Nat.reduceEqDiff, Nat.reduceAdd, Nat.reduceMul, Nat.reduceLT, Nat.reduceLeDiff, Nat.reducePow, Nat.reduceDiv, Nat.reduceMod, Nat.succ_ne_self, Nat.reduceBEq, Nat.reduceBNe, Tryti24, Trytf24, Trytz24, Trytp24, vint, TyS, TyF, BdS, Int.cast_ofNat_Int, d0, d1, d2, d3, d4, d5, d6, d7, d8, d9, d10] <;> with_reducible rfl) (by decide) ?_
  -- region 1
  repeat (refine awp_seq ?_)
  refine e_eval (by simp only [asq, as0, as1, as2, awanted, aop, LS, SS, SX, HS, mkS_cons, mkS_nil, ↓reduceIte, eq_self', List.map_nil, beq_self_eq_true, Nat.reduceEqDiff, Nat.reduceAdd, Nat.reduceMul, Nat.reduceLT, Nat.reduceLeDiff, Nat.reducePow, Nat.reduceDiv, Nat.reduceMod, Nat.succ_ne_self, Nat.reduceBEq, Nat.reduceBNe, vint, TyS, TyF, BdS, Int.cast_ofNat_Int, d0, d1, d2, d3, d4, d5, d6, d7, d8, d9, d10] <;> with_reducible rfl) (by decide) ?_
  -- region 2
  repeat (refine awp_seq ?_)
  refine e_eval (by simp only [asq, as0, as1, as2, awanted, aop, afldAddr, ajust, aload, LS, SS, SX, HS, mkS_cons, mkS_nil, ↓reduceIte, eq_self', List.map_nil, beq_self_eq_true, Nat.reduceEqDiff, Nat.reduceAdd, Nat.reduceMul, Nat.reduceLT, Nat.reduceLeDiff, Nat.reducePow, Nat.reduceDiv, Nat.reduceMod, Nat.succ_ne_self, Nat.reduceBEq, Nat.reduceBNe, Tryti3, Trytz3, Trytp3, Trytk3, Tryti24, Trytf24, Trytz24, Trytp24, vint, TyS, TyF, BdS, Int.cast_ofNat_Int, d0, d1, d2, d3, d4, d5, d6, d7, d8, d9, d10] <;> with_reducible rfl) (by decide) ?_
  repeat (refine awp_seq ?_)
  refine awp_block ?_
  -- region 4
  repeat (refine awp_seq ?_)
  refine e_eval (by simp only [asq, as0, as1, as2, awanted, aop, abin, ajust, LS, SS, SX, HS, mkS_cons, mkS_nil, ↓reduceIte, eq_self', List.map_nil, beq_self_eq_true, Nat.reduceEqDiff, Nat.reduceAdd, Nat.reduceMul, Nat.reduceLT, Nat.reduceLeDiff, Nat.reducePow, Nat.reduceDiv, Nat.reduceMod, Nat.succ_ne_self, Nat.reduceBEq, Nat.reduceBNe, Tryti3, Trytz3, Trytp3, Trytk3, vint, TyS, TyF, BdS, Int.cast_ofNat_Int, d0, d1, d2, d3, d4, d5, d6, d7, d8, d9, d10] <;> with_reducible rfl) (by decide) ?_
  repeat (refine awp_seq ?_)
  refine awp_cond_false rfl (by simp only [LS, SS, SX, HS, mkS_cons, mkS_nil, ↓reduceIte, eq_self', List.map_nil, beq_self_eq_true, Nat.reduceEqDiff, Nat.reduceAdd, Nat.succ_ne_self, vint, TyS, TyF, BdS, Int.cast_ofNat_Int, d0, d1, d2, d3, d4, d5, d6, d7, d8, d9, d10] <;> with_reducible rfl) ?_
  -- region 5
  repeat (refine awp_seq ?_)
  refine e_eval (by simp only [asq, as0, as1, as2, awanted, aop, abin, ajust, LS, SS, SX, HS, mkS_cons, mkS_nil, ↓reduceIte, eq_self', List.map_nil, beq_self_eq_true, Nat.reduceEqDiff, Nat.reduceAdd, Nat.reduceMul, Nat.reduceLT, Nat.reduceLeDiff, Nat.reducePow, Nat.reduceDiv, Nat.reduceMod, Nat.succ_ne_self, Nat.reduceBEq, Nat.reduceBNe, Tryti3, Trytz3, Trytp3, Trytk3, vint, TyS, TyF, BdS, Int.cast_ofNat_Int, d0, d1, d2, d3, d4, d5, d6, d7, d8, d9, d10] <;> with_reducible rfl) (by decide) ?_
  repeat (refine awp_seq ?_)
  refine awp_cond_false rfl (by simp only [LS, SS, SX, HS, mkS_cons, mkS_nil, ↓reduceIte, eq_self', List.map_nil, beq_self_eq_true, Nat.reduceEqDiff, Nat.reduceAdd, Nat.succ_ne_self, vint, TyS, TyF, BdS, Int.cast_ofNat_Int, d0, d1, d2, d3, d4, d5, d6, d7, d8, d9, d10] <;> with_reducible rfl) ?_
  -- region 6
  repeat (refine awp_seq ?_)
  refine e_eval (by simp only [asq, as0, as1, as2, awanted, aop, abin, ajust, LS, SS, SX, HS, mkS_cons, mkS_nil, ↓reduceIte, eq_self', List.map_nil, beq_self_eq_true, Nat.reduceEqDiff, Nat.reduceAdd, Nat.reduceMul, Nat.reduceLT, Nat.reduceLeDiff, Nat.reducePow, Nat.reduceDiv, Nat.reduceMod, Nat.succ_ne_self, Nat.reduceBEq, Nat.reduceBNe, Tryti3, Trytz3, Trytp3, Trytk3, vint, TyS, TyF, BdS, Int.cast_ofNat_Int, d0, d1, d2, d3, d4, d5, d6, d7, d8, d9, d10] <;> with_reducible rfl) (by decide) ?_
  repeat (refine awp_seq ?_)
  refine awp_cond_true rfl (by simp only [LS, SS, SX, HS, mkS_cons, mkS_nil, ↓reduceIte, eq_self', List.map_nil, beq_self_eq_true, Nat.reduceEqDiff, Nat.reduceAdd, Nat.succ_ne_self, vint, TyS, TyF, BdS, Int.cast_ofNat_Int, d0, d1, d2, d3, d4, d5, d6, d7, d8, d9, d10] <;> with_reducible rfl) ?_
  repeat (refine awp_seq ?_)
  refine awp_skip ?_
  repeat (refine awp_seq ?_)
  refine awp_cond_true rfl (by simp only [LS, SS, SX, HS, mkS_cons, mkS_nil, ↓reduceIte, eq_self', List.map_nil, beq_self_eq_true, Nat.reduceEqDiff, Nat.reduceAdd, Nat.succ_ne_self, vint, TyS, TyF, BdS, Int.cast_ofNat_Int, d0, d1, d2, d3, d4, d5, d6, d7, d8, d9, d10] <;> with_reducible rfl) ?_
  repeat (refine awp_seq ?_)
  refine awp_skip ?_
  -- region 20
  repeat (refine awp_seq ?_)
  refine awp_region ?_
  refine aops_gstart ?_
  refine g_take 5 (by simp only [gsq, gs0, gs1, gs2, gcond, gop, SG, Op.operands, Call.operands, Array.toList_append, aop, afldAddr, ajust, aload, abuiltin, LS, SS, SX, HS, mkS_cons, mkS_nil, ↓reduceIte, eq_self', List.map_nil, beq_self_eq_true, Nat.reduceEqDiff, Nat.reduceAdd, Nat.reduceMul, Nat.reduceLT, Nat.reduceLeDiff, Nat.reducePow, Nat.reduceDiv, Nat.reduceMod, Nat.succ_ne_self, Nat.reduceBEq, Nat.reduceBNe, Tryti22, Tryte22, Trytz22, Trytp22, Tryti24, Trytf24, Trytz24, Trytp24, vint, TyS, TyF, BdS, Int.cast_ofNat_Int, d0, d1, d2, d3, d4, d5, d6, d7, d8, d9, d10] <;> with_reducible rfl) (by decide) ?_
  refine aops_gpure (by simp only [acall, gcond, SG, Op.operands, Call.operands, Array.toList_append, LS, SS, SX, HS, mkS_cons, mkS_nil, ↓reduceIte, eq_self', List.map_nil, beq_self_eq_true, Nat.reduceEqDiff, Nat.reduceAdd, Nat.reduceMul, Nat.reduceLT, Nat.reduceLeDiff, Nat.reducePow, Nat.reduceDiv, Nat.reduceMod, Nat.succ_ne_self, Nat.reduceBEq, Nat.reduceBNe, vint, TyS, TyF, BdS, Int.cast_ofNat_Int, d0, d1, d2, d3, d4, d5, d6, d7, d8, d9, d10] <;> with_reducible rfl) (by simp only [acall, gcond, SG, Op.operands, Call.operands, Array.toList_append, LS, SS, SX, HS, mkS_cons, mkS_nil, ↓reduceIte, eq_self', List.map_nil, beq_self_eq_true, Nat.reduceEqDiff, Nat.reduceAdd, Nat.reduceMul, Nat.reduceLT, Nat.reduceLeDiff, Nat.reducePow, Nat.reduceDiv, Nat.reduceMod, Nat.succ_ne_self, Nat.reduceBEq, Nat.reduceBNe, vint, TyS, TyF, BdS, Int.cast_ofNat_Int, d0, d1, d2, d3, d4, d5, d6, d7, d8, d9, d10] <;> with_reducible rfl) (by simp only [acall, gcond, SG, Op.operands, Call.operands, Array.toList_append, LS, SS, SX, HS, mkS_cons, mkS_nil, ↓reduceIte, eq_self', List.map_nil, beq_self_eq_true, Nat.reduceEqDiff, Nat.reduceAdd, Nat.reduceMul, Nat.reduceLT, Nat.reduceLeDiff, Nat.reducePow, Nat.reduceDiv, Nat.reduceMod, Nat.succ_ne_self, Nat.reduceBEq, Nat.reduceBNe, vint, TyS, TyF, BdS, Int.cast_ofNat_Int, d0, d1, d2, d3, d4, d5, d6, d7, d8, d9, d10]) (by decide) Trygo98 (fun hc => inRange _ _ _ _) ?_
  refine g_end (by simp only [gsq, gs0, gs1, gs2, gcond, gop, SG, Op.operands, Call.operands, Array.toList_append, aop, aun, ajust, afldAddr, aload, abin, LS, SS, SX, HS, mkS_cons, mkS_nil, ↓reduceIte, eq_self', List.map_nil, beq_self_eq_true, Nat.reduceEqDiff, Nat.reduceAdd, Nat.reduceMul, Nat.reduceLT, Nat.reduceLeDiff, Nat.reducePow, Nat.reduceDiv, Nat.reduceMod, Nat.succ_ne_self, Nat.reduceBEq, Nat.reduceBNe, Tryti3, Trytz3, Trytp3, Trytk3, Tryti24, Trytf24, Trytz24, Trytp24, vint, TyS, TyF, BdS, Int.cast_ofNat_Int, d0, d1, d2, d3, d4, d5, d6, d7, d8, d9, d10] <;> with_reducible rfl) (by decide) (by repeat (first | exact Fin.base _ | with_reducible apply Fin.keep | apply Fin.drop)) ?_
  repeat (refine awp_seq ?_)
  refine awp_cond rfl (by simp only [LS, SS, SX, HS, mkS_cons, mkS_nil, ↓reduceIte, eq_self', List.map_nil, beq_self_eq_true, Nat.reduceEqDiff, Nat.reduceAdd, Nat.succ_ne_self, vint, TyS, TyF, BdS, Int.cast_ofNat_Int, d0, d1, d2, d3, d4, d5, d6, d7, d8, d9, d10] <;> with_reducible rfl) (fun bt54 => ?_) (fun bt54 => ?_)
  · -- if t54
    have hn : nwf t = false := by
      unfold nwf
      simp only [d0, d1, d2, d3, d4, d5, d6, d7, d8, d9, d10, Bool.or_false, Bool.or_true, Bool.false_or, Bool.true_or, if_true, if_false, Bool.false_eq_true]
      rw [Bool.eq_false_iff]
      intro hh
      simp only [Bool.or_eq_true, Bool.and_eq_true, Bool.not_eq_true', Bool.and_eq_false_iff, Bool.or_eq_false_iff, Bool.not_eq_false', decide_eq_true_eq, decide_eq_false_iff_not] at hh bt54
      omega
    have hwf : wfT t = false := by rw [wfT_eq, hn]; rfl
    refine awp_sel [] (by simp only [LS, SS, SX, HS, mkS_cons, mkS_nil, ↓reduceIte, eq_self', List.map_nil, beq_self_eq_true, Nat.reduceEqDiff, Nat.reduceAdd, Nat.succ_ne_self, vint, TyS, TyF, BdS, Int.cast_ofNat_Int, d0, d1, d2, d3, d4, d5, d6, d7, d8, d9, d10] <;> with_reducible rfl) ?_
    -- region 21
    repeat (refine awp_seq ?_)
    refine e_eval (by simp only [asq, as0, as1, as2, awanted, aop, LS, SS, SX, HS, mkS_cons, mkS_nil, ↓reduceIte, eq_self', List.map_nil, beq_self_eq_true, Nat.reduceEqDiff, Nat.reduceAdd, Nat.reduceMul, Nat.reduceLT, Nat.reduceLeDiff, Nat.reducePow, Nat.reduceDiv, Nat.reduceMod, Nat.succ_ne_self, Nat.reduceBEq, Nat.reduceBNe, vint, TyS, TyF, BdS, Int.cast_ofNat_Int, d0, d1, d2, d3, d4, d5, d6, d7, d8, d9, d10] <;> with_reducible rfl) (by decide) ?_
    repeat (refine awp_seq ?_)
    -- leaf 0 ret
    refine awp_ret ⟨.inr rfl, _, rfl, ?_⟩
    rw [hwf]; rfl
  · -- else t54
    have hn : nwf t = true := by
      unfold nwf
      simp only [d0, d1, d2, d3, d4, d5, d6, d7, d8, d9, d10, Bool.or_false, Bool.or_true, Bool.false_or, Bool.true_or, if_true, if_false, Bool.false_eq_true]
      simp only [Bool.or_eq_true, Bool.and_eq_true, Bool.not_eq_true', Bool.and_eq_false_iff, Bool.or_eq_false_iff, Bool.not_eq_false', decide_eq_true_eq, decide_eq_false_iff_not] at bt54 ⊢
      omega
    repeat (refine awp_seq ?_)
    refine awp_skip ?_
    refine awp_sel [1] (by simp only [LS, SS, SX, HS, mkS_cons, mkS_nil, ↓reduceIte, eq_self', List.map_nil, beq_self_eq_true, Nat.reduceEqDiff, Nat.reduceAdd, Nat.succ_ne_self, vint, TyS, TyF, BdS, Int.cast_ofNat_Int, d0, d1, d2, d3, d4, d5, d6, d7, d8, d9, d10] <;> with_reducible rfl) ?_
    -- region 22
    repeat (refine awp_seq ?_)
    refine e_eval (by simp only [asq, as0, as1, as2, awanted, aop, afldAddr, ajust, aload, abuiltin, LS, SS, SX, HS, mkS_cons, mkS_nil, ↓reduceIte, eq_self', List.map_nil, beq_self_eq_true, Nat.reduceEqDiff, Nat.reduceAdd, Nat.reduceMul, Nat.reduceLT, Nat.reduceLeDiff, Nat.reducePow, Nat.reduceDiv, Nat.reduceMod, Nat.succ_ne_self, Nat.reduceBEq, Nat.reduceBNe, Tryti22, Tryte22, Trytz22, Trytp22, Tryti24, Trytf24, Trytz24, Trytp24, vint, TyS, TyF, BdS, Int.cast_ofNat_Int, d0, d1, d2, d3, d4, d5, d6, d7, d8, d9, d10] <;> with_reducible rfl) (by decide) ?_
    repeat (refine awp_seq ?_)
    refine awp_forS (σ := Unit) (t.args.length) (fun (s : Unit) => [(56, .slice (t.args.map Ty.enc) .none)]) [56] ([]) (fun (s : Unit) => []) (fun (i : Nat) (s : Unit) => (t.args.take i).any (fun u => !wfT u) = false) (()) (_) rfl rfl rfl rfl rfl rfl rfl rfl rfl (by decide) (by decide) (by decide) (fun _ => rfl) (hw.lenMax) ⟨(by first | rfl | (simp only [LS, SS, SX, HS, mkS_cons, mkS_nil, ↓reduceIte, eq_self', List.map_nil, beq_self_eq_true, Nat.reduceEqDiff, Nat.reduceAdd, Nat.succ_ne_self, vint, TyS, TyF, BdS, Int.cast_ofNat_Int, d0, d1, d2, d3, d4, d5, d6, d7, d8, d9, d10] <;> first | done | with_reducible rfl)), (by first | rfl | (simp only [LS, SS, SX, HS, mkS_cons, mkS_nil, ↓reduceIte, eq_self', List.map_nil, beq_self_eq_true, Nat.reduceEqDiff, Nat.reduceAdd, Nat.succ_ne_self, vint, TyS, TyF, BdS, Int.cast_ofNat_Int, d0, d1, d2, d3, d4, d5, d6, d7, d8, d9, d10] <;> first | done | with_reducible rfl)), (by first | rfl | (simp only [LS, SS, SX, HS, mkS_cons, mkS_nil, ↓reduceIte, eq_self', List.map_nil, beq_self_eq_true, Nat.reduceEqDiff, Nat.reduceAdd, Nat.succ_ne_self, vint, TyS, TyF, BdS, Int.cast_ofNat_Int, d0, d1, d2, d3, d4, d5, d6, d7, d8, d9, d10] <;> first | done | with_reducible rfl)), trivial⟩ (by first | rfl | (simp only [LS, SS, SX, HS, mkS_cons, mkS_nil, ↓reduceIte, eq_self', List.map_nil, beq_self_eq_true, Nat.reduceEqDiff, Nat.reduceAdd, Nat.succ_ne_self, vint, TyS, TyF, BdS, Int.cast_ofNat_Int, d0, d1, d2, d3, d4, d5, d6, d7, d8, d9, d10] <;> first | done | with_reducible rfl)) (by simp) (fun _ _ _ => by first | exact Nat.zero_le _ | (simp only [List.length_append]; omega)) ?_ ?_ ?_
    · exact fun i s hg => ⟨by first | exact hbel_nil _ | (simp only [List.append_nil]; assumption) | (refine hbel_app' hb' (by simp) ?_; repeat (first | exact hbel_nil _ | exact trivial | exact obel_row_nil _ | (refine HBel.cons ?_ ?_) | (refine obel_row_cons (by first | exact bel_Bd _ _ | exact Bd.bel _ _ | exact bel_int_tok _ (by simp) | exact bel_ints0 _ _ | exact bel_slice_ty _ _ | exact Ty.bel _ _ | exact bel_ty_tok _ (by simp) | exact Bel.int _ _ | exact Bel.bool _ | exact Bel.str _ | exact Bel.nilp | exact Bel.nilfn | exact Bel.optr _ _ (by simp) | exact bel_nil0 _ | exact bel_nil1 _ | exact bel_fn0 _ _ | assumption) ?_))), by repeat (first | exact BelL.nil | refine BelL.cons (by first | exact bel_Bd _ _ | exact Bd.bel _ _ | exact bel_int_tok _ (by simp) | exact bel_ints0 _ _ | exact bel_slice_ty _ _ | exact Ty.bel _ _ | exact bel_ty_tok _ (by simp) | exact Bel.int _ _ | exact Bel.bool _ | exact Bel.str _ | exact Bel.nilp | exact Bel.nilfn | exact Bel.optr _ _ (by simp) | exact bel_nil0 _ | exact bel_nil1 _ | exact bel_fn0 _ _ | assumption) ?_)⟩
    · intro i s hi hg
      have g1 := ix_nat hi
      have g2 := get_enc Ty.enc hi
      have hmem : t.args[i] ∈ t.args := List.getElem_mem hi
      -- region 24
      repeat (refine awp_seq ?_)
      refine e_eval (by simp only [asq, as0, as1, as2, awanted, aop, aidxAddr, aidx, ajust, aload, astore, splice, LS, SS, SX, HS, mkS_cons, mkS_nil, ↓reduceIte, eq_self', List.map_nil, beq_self_eq_true, Nat.reduceEqDiff, Nat.reduceAdd, Nat.reduceMul, Nat.reduceLT, Nat.reduceLeDiff, Nat.reducePow, Nat.reduceDiv, Nat.reduceMod, Nat.succ_ne_self, Nat.reduceBEq, Nat.reduceBNe, Tryti22, Tryte22, Trytz22, Trytp22, Tryti24, Trytf24, Trytz24, Trytp24, vint, TyS, TyF, BdS, Int.cast_ofNat_Int, d0, d1, d2, d3, d4, d5, d6, d7, d8, d9, d10, g1, g2, Int.toNat_natCast] <;> with_reducible rfl) (by decide) ?_
      -- region 25
      repeat (refine awp_seq ?_)
      refine awp_region ?_
      refine e_take 1 (by simp only [asq, as0, as1, as2, awanted, aop, aload, ajust, LS, SS, SX, HS, mkS_cons, mkS_nil, ↓reduceIte, eq_self', List.map_nil, beq_self_eq_true, Nat.reduceEqDiff, Nat.reduceAdd, Nat.reduceMul, Nat.reduceLT, Nat.reduceLeDiff, Nat.reducePow, Nat.reduceDiv, Nat.reduceMod, Nat.succ_ne_self, Nat.reduceBEq, Nat.reduceBNe, Tryti24, Trytf24, Trytz24, Trytp24, vint, TyS, TyF, BdS, Int.cast_ofNat_Int, d0, d1, d2, d3, d4, d5, d6, d7, d8, d9, d10, g1, g2, Int.toNat_natCast] <;> with_reducible rfl) (by decide) ?_
      refine aops_pure (by simp only [acall, awanted, LS, SS, SX, HS, mkS_cons, mkS_nil, ↓reduceIte, eq_self', List.map_nil, beq_self_eq_true, Nat.reduceEqDiff, Nat.reduceAdd, Nat.reduceMul, Nat.reduceLT, Nat.reduceLeDiff, Nat.reducePow, Nat.reduceDiv, Nat.reduceMod, Nat.succ_ne_self, Nat.reduceBEq, Nat.reduceBNe, vint, TyS, TyF, BdS, Int.cast_ofNat_Int, d0, d1, d2, d3, d4, d5, d6, d7, d8, d9, d10, g1, g2, Int.toNat_natCast] <;> with_reducible rfl) (by simp only [acall, awanted, LS, SS, SX, HS, mkS_cons, mkS_nil, ↓reduceIte, eq_self', List.map_nil, beq_self_eq_true, Nat.reduceEqDiff, Nat.reduceAdd, Nat.reduceMul, Nat.reduceLT, Nat.reduceLeDiff, Nat.reducePow, Nat.reduceDiv, Nat.reduceMod, Nat.succ_ne_self, Nat.reduceBEq, Nat.reduceBNe, vint, TyS, TyF, BdS, Int.cast_ofNat_Int, d0, d1, d2, d3, d4, d5, d6, d7, d8, d9, d10, g1, g2, Int.toNat_natCast]) (by decide) Trygo93 (ih t.args[i] hmem _) ?_
      refine e_end (by simp only [asq, as0, as1, as2, awanted, aop, aun, ajust, LS, SS, SX, HS, mkS_cons, mkS_nil, ↓reduceIte, eq_self', List.map_nil, beq_self_eq_true, Nat.reduceEqDiff, Nat.reduceAdd, Nat.reduceMul, Nat.reduceLT, Nat.reduceLeDiff, Nat.reducePow, Nat.reduceDiv, Nat.reduceMod, Nat.succ_ne_self, Nat.reduceBEq, Nat.reduceBNe, vint, TyS, TyF, BdS, Int.cast_ofNat_Int, d0, d1, d2, d3, d4, d5, d6, d7, d8, d9, d10, g1, g2, Int.toNat_natCast] <;> with_reducible rfl) (by decide) ?_
      repeat (refine awp_seq ?_)
      refine awp_cond rfl (by simp only [LS, SS, SX, HS, mkS_cons, mkS_nil, ↓reduceIte, eq_self', List.map_nil, beq_self_eq_true, Nat.reduceEqDiff, Nat.reduceAdd, Nat.succ_ne_self, vint, TyS, TyF, BdS, Int.cast_ofNat_Int, d0, d1, d2, d3, d4, d5, d6, d7, d8, d9, d10, g1, g2, Int.toNat_natCast] <;> with_reducible rfl) (fun bt64 => ?_) (fun bt64 => ?_)
      · -- if t64
        have hbad : (t.args.any fun u => !wfT u) = true := List.any_eq_true.2 ⟨_, hmem, bt64⟩
        have hwf : wfT t = false := by rw [wfT_eq, hn, hbad]; rfl
        -- region 26
        repeat (refine awp_seq ?_)
        refine e_eval (by simp only [asq, as0, as1, as2, awanted, aop, LS, SS, SX, HS, mkS_cons, mkS_nil, ↓reduceIte, eq_self', List.map_nil, beq_self_eq_true, Nat.reduceEqDiff, Nat.reduceAdd, Nat.reduceMul, Nat.reduceLT, Nat.reduceLeDiff, Nat.reducePow, Nat.reduceDiv, Nat.reduceMod, Nat.succ_ne_self, Nat.reduceBEq, Nat.reduceBNe, vint, TyS, TyF, BdS, Int.cast_ofNat_Int, d0, d1, d2, d3, d4, d5, d6, d7, d8, d9, d10, g1, g2, Int.toNat_natCast] <;> with_reducible rfl) (by decide) ?_
        repeat (refine awp_seq ?_)
        -- leaf 1 ret
        refine awp_ret ⟨.inr rfl, _, rfl, ?_⟩
        rw [hwf]; rfl
      · -- else t64
        repeat (refine awp_seq ?_)
        refine awp_skip ?_
        -- leaf 2 next1
        exact ⟨⟨rfl, rfl, trivial⟩, (), _, ⟨rfl, trivial⟩, rfl, any_take_succ hi hg bt64⟩
    · intro s hg
      rw [List.take_length] at hg
      have hwf : wfT t = true := by rw [wfT_eq, hn, hg]; rfl
      -- region 28
      repeat (refine awp_seq ?_)
      refine e_eval (by simp only [asq, as0, as1, as2, awanted, aop, LS, SS, SX, HS, mkS_cons, mkS_nil, ↓reduceIte, eq_self', List.map_nil, beq_self_eq_true, Nat.reduceEqDiff, Nat.reduceAdd, Nat.reduceMul, Nat.reduceLT, Nat.reduceLeDiff, Nat.reducePow, Nat.reduceDiv, Nat.reduceMod, Nat.succ_ne_self, Nat.reduceBEq, Nat.reduceBNe, vint, TyS, TyF, BdS, Int.cast_ofNat_Int, d0, d1, d2, d3, d4, d5, d6, d7, d8, d9, d10] <;> with_reducible rfl) (by decide) ?_
      repeat (refine awp_seq ?_)
      -- leaf 3 ret
      refine awp_ret ⟨.inr rfl, _, rfl, ?_⟩
      rw [hwf]; rfl

theorem typeWF_5 (t : Ty) (hk : t.kind = 5) (hw : t.W) (ih : ∀ u ∈ t.args, PC Try.prog 93 [u.enc] (.bool (wfT u))) : PC Try.prog 93 [t.enc] (.bool (wfT t)) := by
  have hlen0 : (0 : Int) ≤ (t.args.length : Int) := by omega
  have d0 : decide (t.kind = 0) = false := decide_eq_false (by omega)
  have d1 : decide (t.kind = 1) = false := decide_eq_false (by omega)
  have d2 : decide (t.kind = 2) = false := decide_eq_false (by omega)
  have d3 : decide (t.kind = 3) = false := decide_eq_false (by omega)
  have d4 : decide (t.kind = 4) = false := decide_eq_false (by omega)
  have d5 : decide (t.kind = 5) = true := decide_eq_true hk
  have d6 : decide (t.kind = 6) = false := decide_eq_false (by omega)
  have d7 : decide (t.kind = 7) = false := decide_eq_false (by omega)
  have d8 : decide (t.kind = 8) = false := decide_eq_false (by omega)
  have d9 : decide (t.kind = 9) = false := decide_eq_false (by omega)
  have d10 : decide (t.kind = 10) = false := decide_eq_false (by omega)
  refine pc_of (N := 66) Try.func93 rfl rfl (by simp) (by simp [Ty.bel]) (.bool _) ?_
  -- region 0
  repeat (refine awp_seq ?_)
  refine e_eval (by simp only [asq, as0, as1, as2, awanted, aop, LS, SS, SX, HS, mkS_cons, mkS_nil, ↓reduceIte, eq_self', List.map_nil, beq_self_eq_true, Nat.reduceEqDiff, Nat.reduceAdd, Nat.reduceMul, Nat.reduceLT, Nat.reduceLeDiff, Nat.reducePow, Nat.reduceDiv, Nat.reduceMod, Nat.succ_ne_self, Nat.reduceBEq, Nat.reduceBNe, Tryti24, Trytf24, Trytz24, Trytp24, vint, TyS, TyF, BdS, Int.cast_ofNat_Int, d0, d1, d2, d3, d4, d5, d6, d7, d8, d9, d10] <;> with_reducible rfl) (by decide) ?_
  -- region 1
  repeat (refine awp_seq ?_)
  refine e_eval (by simp only [asq, as0, as1, as2, awanted, aop, LS, SS, SX, HS, mkS_cons, mkS_nil, ↓reduceIte, eq_self', List.map_nil, beq_self_eq_true, Nat.reduceEqDiff, Nat.reduceAdd, Nat.reduceMul, Nat.reduceLT, Nat.reduceLeDiff, Nat.reducePow, Nat.reduceDiv, Nat.reduceMod, Nat.succ_ne_self, Nat.reduceBEq, Nat.reduceBNe, vint, TyS, TyF, BdS, Int.cast_ofNat_Int, d0, d1, d2, d3, d4, d5, d6, d7, d8, d9, d10] <;> with_reducible rfl) (by decide) ?_
  -- region 2
  repeat (refine awp_seq ?_)
  refine e_eval (by simp only [asq, as0, as1, as2, awanted, aop, afldAddr, ajust, aload, LS, SS, SX, HS, mkS_cons, mkS_nil, ↓reduceIte, eq_self', List.map_nil, beq_self_eq_true, Nat.reduceEqDiff, Nat.reduceAdd, Nat.reduceMul, Nat.reduceLT, Nat.reduceLeDiff, Nat.reducePow, Nat.reduceDiv, Nat.reduceMod, Nat.succ_ne_self, Nat.reduceBEq, Nat.reduceBNe, Tryti3, Trytz3, Trytp3, Trytk3, Tryti24, Trytf24, Trytz24, Trytp24, vint, TyS, TyF, BdS, Int.cast_ofNat_Int, d0, d1, d2, d3, d4, d5, d6, d7, d8, d9, d10] <;> with_reducible rfl) (by decide) ?_
  repeat (refine awp_seq ?_)
  refine awp_block ?_
  -- region 4
  repeat (refine awp_seq ?_)
  refine e_eval (by simp only [asq, as0, as1, as2, awanted, aop, abin, ajust, LS, SS, SX, HS, mkS_cons, mkS_nil, ↓reduceIte, eq_self', List.map_nil, beq_self_eq_true, Nat.reduceEqDiff, Nat.reduceAdd, Nat.reduceMul, Nat.reduceLT, Nat.reduceLeDiff, Nat.reducePow, Nat.reduceDiv, Nat.reduceMod, Nat.succ_ne_self, Nat.reduceBEq, Nat.reduceBNe, Tryti3, Trytz3, Trytp3, Trytk3, vint, TyS, TyF, BdS, Int.cast_ofNat_Int, d0, d1, d2, d3, d4, d5, d6, d7, d8, d9, d10] <;> with_reducible rfl) (by decide) ?_
  repeat (refine awp_seq ?_)
  refine awp_cond_false rfl (by simp only [LS, SS, SX, HS, mkS_cons, mkS_nil, ↓reduceIte, eq_self', List.map_nil, beq_self_eq_true, Nat.reduceEqDiff, Nat.reduceAdd, Nat.succ_ne_self, vint, TyS, TyF, BdS, Int.cast_ofNat_Int, d0, d1, d2, d3, d4, d5, d6, d7, d8, d9, d10] <;> with_reducible rfl) ?_
  -- region 5
  repeat (refine awp_seq ?_)
  refine e_eval (by simp only [asq, as0, as1, as2, awanted, aop, abin, ajust, LS, SS, SX, HS, mkS_cons, mkS_nil, ↓reduceIte, eq_self', List.map_nil, beq_self_eq_true, Nat.reduceEqDiff, Nat.reduceAdd, Nat.reduceMul, Nat.reduceLT, Nat.reduceLeDiff, Nat.reducePow, Nat.reduceDiv, Nat.reduceMod, Nat.succ_ne_self, Nat.reduceBEq, Nat.reduceBNe, Tryti3, Trytz3, Trytp3, Trytk3, vint, TyS, TyF, BdS, Int.cast_ofNat_Int, d0, d1, d2, d3, d4, d5, d6, d7, d8, d9, d10] <;> with_reducible rfl) (by decide) ?_
  repeat (refine awp_seq ?_)
  refine awp_cond_false rfl (by simp only [LS, SS, SX, HS, mkS_cons, mkS_nil, ↓reduceIte, eq_self', List.map_nil, beq_self_eq_true, Nat.reduceEqDiff, Nat.reduceAdd, Nat.succ_ne_self, vint, TyS, TyF, BdS, Int.cast_ofNat_Int, d0, d1, d2, d3, d4, d5, d6, d7, d8, d9, d10] <;> with_reducible rfl) ?_
  -- region 6
  repeat (refine awp_seq ?_)
  refine e_eval (by simp only [asq, as0, as1, as2, awanted, aop, abin, ajust, LS, SS, SX, HS, mkS_cons, mkS_nil, ↓reduceIte, eq_self', List.map_nil, beq_self_eq_true, Nat.reduceEqDiff, Nat.reduceAdd, Nat.reduceMul, Nat.reduceLT, Nat.reduceLeDiff, Nat.reducePow, Nat.reduceDiv, Nat.reduceMod, Nat.succ_ne_self, Nat.reduceBEq, Nat.reduceBNe, Tryti3, Trytz3, Trytp3, Trytk3, vint, TyS, TyF, BdS, Int.cast_ofNat_Int, d0, d1, d2, d3, d4, d5, d6, d7, d8, d9, d10] <;> with_reducible rfl) (by decide) ?_
  repeat (refine awp_seq ?_)
  refine awp_cond_false rfl (by simp only [LS, SS, SX, HS, mkS_cons, mkS_nil, ↓reduceIte, eq_self', List.map_nil, beq_self_eq_true, Nat.reduceEqDiff, Nat.reduceAdd, Nat.succ_ne_self, vint, TyS, TyF, BdS, Int.cast_ofNat_Int, d0, d1, d2, d3, d4, d5, d6, d7, d8, d9, d10] <;> with_reducible rfl) ?_
  -- region 7
  repeat (refine awp_seq ?_)
  refine e_eval (by simp only [asq, as0, as1, as2, awanted, aop, abin, ajust, LS, SS, SX, HS, mkS_cons, mkS_nil, ↓reduceIte, eq_self', List.map_nil, beq_self_eq_true, Nat.reduceEqDiff, Nat.reduceAdd, Nat.reduceMul, Nat.reduceLT, Nat.reduceLeDiff, Nat.reducePow, Nat.reduceDiv, Nat.reduceMod, Nat.succ_ne_self, Nat.reduceBEq, Nat.reduceBNe, Tryti3, Trytz3, Trytp3, Trytk3, vint, TyS, TyF, BdS, Int.cast_ofNat_Int, d0, d1, d2, d3, d4, d5, d6, d7, d8, d9, d10] <;> with_reducible rfl) (by decide) ?_
  repeat (refine awp_seq ?_)
  refine awp_cond_true rfl (by simp only [LS, SS, SX, HS, mkS_cons, mkS_nil, ↓reduceIte, eq_self', List.map_nil, beq_self_eq_true, Nat.reduceEqDiff, Nat.reduceAdd, Nat.succ_ne_self, vint, TyS, TyF, BdS, Int.cast_ofNat_Int, d0, d1, d2, d3, d4, d5, d6, d7, d8, d9, d10] <;> with_reducible rfl) ?_
  repeat (refine awp_seq ?_)
  refine awp_skip ?_
  repeat (refine awp_seq ?_)
  refine awp_cond_true rfl (by simp only [LS, SS, SX, HS, mkS_cons, mkS_nil, ↓reduceIte, eq_self', List.map_nil, beq_self_eq_true, Nat.reduceEqDiff, Nat.reduceAdd, Nat.succ_ne_self, vint, TyS, TyF, BdS, Int.cast_ofNat_Int, d0, d1, d2, d3, d4, d5, d6, d7, d8, d9, d10] <;> with_reducible rfl) ?_
  repeat (refine awp_seq ?_)
  refine awp_skip ?_
  refine awp_sel [1, 3, 4, 5] (by simp only [LS, SS, SX, HS, mkS_cons, mkS_nil, ↓reduceIte, eq_self', List.map_nil, beq_self_eq_true, Nat.reduceEqDiff, Nat.reduceAdd, Nat.succ_ne_self, vint, TyS, TyF, BdS, Int.cast_ofNat_Int, d0, d1, d2, d3, d4, d5, d6, d7, d8, d9, d10] <;> with_reducible rfl) ?_
  -- region 20
  repeat (refine awp_seq ?_)
  refine awp_region ?_
  refine aops_gstart ?_
  refine g_take 5 (by simp only [gsq, gs0, gs1, gs2, gcond, gop, SG, Op.operands, Call.operands, Array.toList_append, aop, afldAddr, ajust, aload, abuiltin, LS, SS, SX, HS, mkS_cons, mkS_nil, ↓reduceIte, eq_self', List.map_nil, beq_self_eq_true, Nat.reduceEqDiff, Nat.reduceAdd, Nat.reduceMul, Nat.reduceLT, Nat.reduceLeDiff, Nat.reducePow, Nat.reduceDiv, Nat.reduceMod, Nat.succ_ne_self, Nat.reduceBEq, Nat.reduceBNe, Tryti22, Tryte22, Trytz22, Trytp22, Tryti24, Trytf24, Trytz24, Trytp24, vint, TyS, TyF, BdS, Int.cast_ofNat_Int, d0, d1, d2, d3, d4, d5, d6, d7, d8, d9, d10] <;> with_reducible rfl) (by decide) ?_
  refine aops_gpure (by simp only [acall, gcond, SG, Op.operands, Call.operands, Array.toList_append, LS, SS, SX, HS, mkS_cons, mkS_nil, ↓reduceIte, eq_self', List.map_nil, beq_self_eq_true, Nat.reduceEqDiff, Nat.reduceAdd, Nat.reduceMul, Nat.reduceLT, Nat.reduceLeDiff, Nat.reducePow, Nat.reduceDiv, Nat.reduceMod, Nat.succ_ne_self, Nat.reduceBEq, Nat.reduceBNe, vint, TyS, TyF, BdS, Int.cast_ofNat_Int, d0, d1, d2, d3, d4, d5, d6, d7, d8, d9, d10] <;> with_reducible rfl) (by simp only [acall, gcond, SG, Op.operands, Call.operands, Array.toList_append, LS, SS, SX, HS, mkS_cons, mkS_nil, ↓reduceIte, eq_self', List.map_nil, beq_self_eq_true, Nat.reduceEqDiff, Nat.reduceAdd, Nat.reduceMul, Nat.reduceLT, Nat.reduceLeDiff, Nat.reducePow, Nat.reduceDiv, Nat.reduceMod, Nat.succ_ne_self, Nat.reduceBEq, Nat.reduceBNe, vint, TyS, TyF, BdS, Int.cast_ofNat_Int, d0, d1, d2, d3, d4, d5, d6, d7, d8, d9, d10] <;> with_reducible rfl) (by simp only [acall, gcond, SG, Op.operands, Call.operands, Array.toList_append, LS, SS, SX, HS, mkS_cons, mkS_nil, ↓reduceIte, eq_self', List.map_nil, beq_self_eq_true, Nat.reduceEqDiff, Nat.reduceAdd, Nat.reduceMul, Nat.reduceLT, Nat.reduceLeDiff, Nat.reducePow, Nat.reduceDiv, Nat.reduceMod, Nat.succ_ne_self, Nat.reduceBEq, Nat.reduceBNe, vint, TyS, TyF, BdS, Int.cast_ofNat_Int, d0, d1, d2, d3, d4, d5, d6, d7, d8, d9, d10]) (by decide) Trygo98 (fun hc => inRange _ _ _ _) ?_
  refine g_end (by simp only [gsq, gs0, gs1, gs2, gcond, gop, SG, Op.operands, Call.operands, Array.toList_append, aop, aun, ajust, afldAddr, aload, abin, LS, SS, SX, HS, mkS_cons, mkS_nil, ↓reduceIte, eq_self', List.map_nil, beq_self_eq_true, Nat.reduceEqDiff, Nat.reduceAdd, Nat.reduceMul, Nat.reduceLT, Nat.reduceLeDiff, Nat.reducePow, Nat.reduceDiv, Nat.reduceMod, Nat.succ_ne_self, Nat.reduceBEq, Nat.reduceBNe, Tryti3, Trytz3, Trytp3, Trytk3, Tryti24, Trytf24, Trytz24, Trytp24, vint, TyS, TyF, BdS, Int.cast_ofNat_Int, d0, d1, d2, d3, d4, d5, d6, d7, d8, d9, d10] <;> with_reducible rfl) (by decide) (by repeat (first | exact Fin.base _ | with_reducible apply Fin.keep | apply Fin.drop)) ?_
  repeat (refine awp_seq ?_)
  refine awp_cond rfl (by simp only [LS, SS, SX, HS, mkS_cons, mkS_nil, ↓reduceIte, eq_self', List.map_nil, beq_self_eq_true, Nat.reduceEqDiff, Nat.reduceAdd, Nat.succ_ne_self, vint, TyS, TyF, BdS, Int.cast_ofNat_Int, d0, d1, d2, d3, d4, d5, d6, d7, d8, d9, d10] <;> with_reducible rfl) (fun bt54 => ?_) (fun bt54 => ?_)
  · -- if t54
    have hn : nwf t = false := by
      unfold nwf
      simp only [d0, d1, d2, d3, d4, d5, d6, d7, d8, d9, d10, Bool.or_false, Bool.or_true, Bool.false_or, Bool.true_or, if_true, if_false, Bool.false_eq_true]
      rw [Bool.eq_false_iff]
      intro hh
      simp only [Bool.or_eq_true, Bool.and_eq_true, Bool.not_eq_true', Bool.and_eq_false_iff, Bool.or_eq_false_iff, Bool.not_eq_false', decide_eq_true_eq, decide_eq_false_iff_not] at hh bt54
      omega
    have hwf : wfT t = false := by rw [wfT_eq, hn]; rfl
    refine awp_sel [] (by simp only [LS, SS, SX, HS, mkS_cons, mkS_nil, ↓reduceIte, eq_self', List.map_nil, beq_self_eq_true, Nat.reduceEqDiff, Nat.reduceAdd, Nat.succ_ne_self, vint, TyS, TyF, BdS, Int.cast_ofNat_Int, d0, d1, d2, d3, d4, d5, d6, d7, d8, d9, d10] <;> with_reducible rfl) ?_
    -- region 21
    repeat (refine awp_seq ?_)
    refine e_eval (by simp only [asq, as0, as1, as2, awanted, aop, LS, SS, SX, HS, mkS_cons, mkS_nil, ↓reduceIte, eq_self', List.map_nil, beq_self_eq_true, Nat.reduceEqDiff, Nat.reduceAdd, Nat.reduceMul, Nat.reduceLT, Nat.reduceLeDiff, Nat.reducePow, Nat.reduceDiv, Nat.reduceMod, Nat.succ_ne_self, Nat.reduceBEq, Nat.reduceBNe, vint, TyS, TyF, BdS, Int.cast_ofNat_Int, d0, d1, d2, d3, d4, d5, d6, d7, d8, d9, d10] <;> with_reducible rfl) (by decide) ?_
    repeat (refine awp_seq ?_)
    -- leaf 0 ret
    refine awp_ret ⟨.inr rfl, _, rfl, ?_⟩
    rw [hwf]; rfl
  · -- else t54
    have hn : nwf t = true := by
      unfold nwf
      simp only [d0, d1, d2, d3, d4, d5, d6, d7, d8, d9, d10, Bool.or_false, Bool.or_true, Bool.false_or, Bool.true_or, if_true, if_false, Bool.false_eq_true]
      simp only [Bool.or_eq_true, Bool.and_eq_true, Bool.not_eq_true', Bool.and_eq_false_iff, Bool.or_eq_false_iff, Bool.not_eq_false', decide_eq_true_eq, decide_eq_false_iff_not] at bt54 ⊢
      omega
    repeat (refine awp_seq ?_)
    refine awp_skip ?_
    refine awp_sel [1] (by simp only [LS, SS, SX, HS, mkS_cons, mkS_nil, ↓reduceIte, eq_self', List.map_nil, beq_self_eq_true, Nat.reduceEqDiff, Nat.reduceAdd, Nat.succ_ne_self, vint, TyS, TyF, BdS, Int.cast_ofNat_Int, d0, d1, d2, d3, d4, d5, d6, d7, d8, d9, d10] <;> with_reducible rfl) ?_
    -- region 22
    repeat (refine awp_seq ?_)
    refine e_eval (by simp only [asq, as0, as1, as2, awanted, aop, afldAddr, ajust, aload, abuiltin, LS, SS, SX, HS, mkS_cons, mkS_nil, ↓reduceIte, eq_self', List.map_nil, beq_self_eq_true, Nat.reduceEqDiff, Nat.reduceAdd, Nat.reduceMul, Nat.reduceLT, Nat.reduceLeDiff, Nat.reducePow, Nat.reduceDiv, Nat.reduceMod, Nat.succ_ne_self, Nat.reduceBEq, Nat.reduceBNe, Tryti22, Tryte22, Trytz22, Trytp22, Tryti24, Trytf24, Trytz24, Trytp24, vint, TyS, TyF, BdS, Int.cast_ofNat_Int, d0, d1, d2, d3, d4, d5, d6, d7, d8, d9, d10] <;> with_reducible rfl) (by decide) ?_
    repeat (refine awp_seq ?_)
    refine awp_forS (σ := Unit) (t.args.length) (fun (s : Unit) => [(56, .slice (t.args.map Ty.enc) .none)]) [56] ([]) (fun (s : Unit) => []) (fun (i : Nat) (s : Unit) => (t.args.take i).any (fun u => !wfT u) = false) (()) (_) rfl rfl rfl rfl rfl rfl rfl rfl rfl (by decide) (by decide) (by decide) (fun _ => rfl) (hw.lenMax) ⟨(by first | rfl | (simp only [LS, SS, SX, HS, mkS_cons, mkS_nil, ↓reduceIte, eq_self', List.map_nil, beq_self_eq_true, Nat.reduceEqDiff, Nat.reduceAdd, Nat.succ_ne_self, vint, TyS, TyF, BdS, Int.cast_ofNat_Int, d0, d1, d2, d3, d4, d5, d6, d7, d8, d9, d10] <;> first | done | with_reducible rfl)), (by first | rfl | (simp only [LS, SS, SX, HS, mkS_cons, mkS_nil, ↓reduceIte, eq_self', List.map_nil, beq_self_eq_true, Nat.reduceEqDiff, Nat.reduceAdd, Nat.succ_ne_self, vint, TyS, TyF, BdS, Int.cast_ofNat_Int, d0, d1, d2, d3, d4, d5, d6, d7, d8, d9, d10] <;> first | done | with_reducible rfl)), (by first | rfl | (simp only [LS, SS, SX, HS, mkS_cons, mkS_nil, ↓reduceIte, eq_self', List.map_nil, beq_self_eq_true, Nat.reduceEqDiff, Nat.reduceAdd, Nat.succ_ne_self, vint, TyS, TyF, BdS, Int.cast_ofNat_Int, d0, d1, d2, d3, d4, d5, d6, d7, d8, d9, d10] <;> first | done | with_reducible rfl)), trivial⟩ (by first | rfl | (simp only [LS, SS, SX, HS, mkS_cons, mkS_nil, ↓reduceIte, eq_self', List.map_nil, beq_self_eq_true, Nat.reduceEqDiff, Nat.reduceAdd, Nat.succ_ne_self, vint, TyS, TyF, BdS, Int.cast_ofNat_Int, d0, d1, d2, d3, d4, d5, d6, d7, d8, d9, d10] <;> first | done | with_reducible rfl)) (by simp) (fun _ _ _ => by first | exact Nat.zero_le _ | (simp only [List.length_append]; omega)) ?_ ?_ ?_
    · exact fun i s hg => ⟨by first | exact hbel_nil _ | (simp only [List.append_nil]; assumption) | (refine hbel_app' hb' (by simp) ?_; repeat (first | exact hbel_nil _ | exact trivial | exact obel_row_nil _ | (refine HBel.cons ?_ ?_) | (refine obel_row_cons (by first | exact bel_Bd _ _ | exact Bd.bel _ _ | exact bel_int_tok _ (by simp) | exact bel_ints0 _ _ | exact bel_slice_ty _ _ | exact Ty.bel _ _ | exact bel_ty_tok _ (by simp) | exact Bel.int _ _ | exact Bel.bool _ | exact Bel.str _ | exact Bel.nilp | exact Bel.nilfn | exact Bel.optr _ _ (by simp) | exact bel_nil0 _ | exact bel_nil1 _ | exact bel_fn0 _ _ | assumption) ?_))), by repeat (first | exact BelL.nil | refine BelL.cons (by first | exact bel_Bd _ _ | exact Bd.bel _ _ | exact bel_int_tok _ (by simp) | exact bel_ints0 _ _ | exact bel_slice_ty _ _ | exact Ty.bel _ _ | exact bel_ty_tok _ (by simp) | exact Bel.int _ _ | exact Bel.bool _ | exact Bel.str _ | exact Bel.nilp | exact Bel.nilfn | exact Bel.optr _ _ (by simp) | exact bel_nil0 _ | exact bel_nil1 _ | exact bel_fn0 _ _ | assumption) ?_)⟩
    · intro i s hi hg
      have g1 := ix_nat hi
      have g2 := get_enc Ty.enc hi
      have hmem : t.args[i] ∈ t.args := List.getElem_mem hi
      -- region 24
      repeat (refine awp_seq ?_)
      refine e_eval (by simp only [asq, as0, as1, as2, awanted, aop, aidxAddr, aidx, ajust, aload, astore, splice, LS, SS, SX, HS, mkS_cons, mkS_nil, ↓reduceIte, eq_self', List.map_nil, beq_self_eq_true, Nat.reduceEqDiff, Nat.reduceAdd, Nat.reduceMul, Nat.reduceLT, Nat.reduceLeDiff, Nat.reducePow, Nat.reduceDiv, Nat.reduceMod, Nat.succ_ne_self, Nat.reduceBEq, Nat.reduceBNe, Tryti22, Tryte22, Trytz22, Trytp22, Tryti24, Trytf24, Trytz24, Trytp24, vint, TyS, TyF, BdS, Int.cast_ofNat_Int, d0, d1, d2, d3, d4, d5, d6, d7, d8, d9, d10, g1, g2, Int.toNat_natCast] <;> with_reducible rfl) (by decide) ?_
      -- region 25
      repeat (refine awp_seq ?_)
      refine awp_region ?_
      refine e_take 1 (by simp only [asq, as0, as1, as2, awanted, aop, aload, ajust, LS, SS, SX, HS, mkS_cons, mkS_nil, ↓reduceIte, eq_self', List.map_nil, beq_self_eq_true, Nat.reduceEqDiff, Nat.reduceAdd, Nat.reduceMul, Nat.reduceLT, Nat.reduceLeDiff, Nat.reducePow, Nat.reduceDiv, Nat.reduceMod, Nat.succ_ne_self, Nat.reduceBEq, Nat.reduceBNe, Tryti24, Trytf24, Trytz24, Trytp24, vint, TyS, TyF, BdS, Int.cast_ofNat_Int, d0, d1, d2, d3, d4, d5, d6, d7, d8, d9, d10, g1, g2, Int.toNat_natCast] <;> with_reducible rfl) (by decide) ?_
      refine aops_pure (by simp only [acall, awanted, LS, SS, SX, HS, mkS_cons, mkS_nil, ↓reduceIte, eq_self', List.map_nil, beq_self_eq_true, Nat.reduceEqDiff, Nat.reduceAdd, Nat.reduceMul, Nat.reduceLT, Nat.reduceLeDiff, Nat.reducePow, Nat.reduceDiv, Nat.reduceMod, Nat.succ_ne_self, Nat.reduceBEq, Nat.reduceBNe, vint, TyS, TyF, BdS, Int.cast_ofNat_Int, d0, d1, d2, d3, d4, d5, d6, d7, d8, d9, d10, g1, g2, Int.toNat_natCast] <;> with_reducible rfl) (by simp only [acall, awanted, LS, SS, SX, HS, mkS_cons, mkS_nil, ↓reduceIte, eq_self', List.map_nil, beq_self_eq_true, Nat.reduceEqDiff, Nat.reduceAdd, Nat.reduceMul, Nat.reduceLT, Nat.reduceLeDiff, Nat.reducePow, Nat.reduceDiv, Nat.reduceMod, Nat.succ_ne_self, Nat.reduceBEq, Nat.reduceBNe, vint, TyS, TyF, BdS, Int.cast_ofNat_Int, d0, d1, d2, d3, d4, d5, d6, d7, d8, d9, d10, g1, g2, Int.toNat_natCast]) (by decide) Trygo93 (ih t.args[i] hmem _) ?_
      refine e_end (by simp only [asq, as0, as1, as2, awanted, aop, aun, ajust, LS, SS, SX, HS, mkS_cons, mkS_nil, ↓reduceIte, eq_self', List.map_nil, beq_self_eq_true, Nat.reduceEqDiff, Nat.reduceAdd, Nat.reduceMul, Nat.reduceLT, Nat.reduceLeDiff, Nat.reducePow, Nat.reduceDiv, Nat.reduceMod, Nat.succ_ne_self, Nat.reduceBEq, Nat.reduceBNe, vint, TyS, TyF, BdS, Int.cast_ofNat_Int, d0, d1, d2, d3, d4, d5, d6, d7, d8, d9, d10, g1, g2, Int.toNat_natCast] <;> with_reducible rfl) (by decide) ?_
      repeat (refine awp_seq ?_)
      refine awp_cond rfl (by simp only [LS, SS, SX, HS, mkS_cons, mkS_nil, ↓reduceIte, eq_self', List.map_nil, beq_self_eq_true, Nat.reduceEqDiff, Nat.reduceAdd, Nat.succ_ne_self, vint, TyS, TyF, BdS, Int.cast_ofNat_Int, d0, d1, d2, d3, d4, d5, d6, d7, d8, d9, d10, g1, g2, Int.toNat_natCast] <;> with_reducible rfl) (fun bt64 => ?_) (fun bt64 => ?_)
      · -- if t64
        have hbad : (t.args.any fun u => !wfT u) = true := List.any_eq_true.2 ⟨_, hmem, bt64⟩
        have hwf : wfT t = false := by rw [wfT_eq, hn, hbad]; rfl
        -- region 26
        repeat (refine awp_seq ?_)
        refine e_eval (by simp only [asq, as0, as1, as2, awanted, aop, LS, SS, SX, HS, mkS_cons, mkS_nil, ↓reduceIte, eq_self', List.map_nil, beq_self_eq_true, Nat.reduceEqDiff, Nat.reduceAdd, Nat.reduceMul, Nat.reduceLT, Nat.reduceLeDiff, Nat.reducePow, Nat.reduceDiv, Nat.reduceMod, Nat.succ_ne_self, Nat.reduceBEq, Nat.reduceBNe, vint, TyS, TyF, BdS, Int.cast_ofNat_Int, d0, d1, d2, d3, d4, d5, d6, d7, d8, d9, d10, g1, g2, Int.toNat_natCast] <;> with_reducible rfl) (by decide) ?_
        repeat (refine awp_seq ?_)
        -- leaf 1 ret
        refine awp_ret ⟨.inr rfl, _, rfl, ?_⟩
        rw [hwf]; rfl
      · -- else t64
        repeat (refine awp_seq ?_)
        refine awp_skip ?_
        -- leaf 2 next1
        exact ⟨⟨rfl, rfl, trivial⟩, (), _, ⟨rfl, trivial⟩, rfl, any_take_succ hi hg bt64⟩
    · intro s hg
      rw [List.take_length] at hg
      have hwf : wfT t = true := by rw [wfT_eq, hn, hg]; rfl
      -- region 28
      repeat (refine awp_seq ?_)
      refine e_eval (by simp only [asq, as0, as1, as2, awanted, aop, LS, SS, SX, HS, mkS_cons, mkS_nil, ↓reduceIte, eq_self', List.map_nil, beq_self_eq_true, Nat.reduceEqDiff, Nat.reduceAdd, Nat.reduceMul, Nat.reduceLT, Nat.reduceLeDiff, Nat.reducePow, Nat.reduceDiv, Nat.reduceMod, Nat.succ_ne_self, Nat.reduceBEq, Nat.reduceBNe, vint, TyS, TyF, BdS, Int.cast_ofNat_Int, d0, d1, d2, d3, d4, d5, d6, d7, d8, d9, d10] <;> with_reducible rfl) (by decide) ?_
      repeat (refine awp_seq ?_)
      -- leaf 3 ret
      refine awp_ret ⟨.inr rfl, _, rfl, ?_⟩
      rw [hwf]; rfl

theorem typeWF_6 (t : Ty) (hk : t.kind = 6) (hw : t.W) (ih : ∀ u ∈ t.args, PC Try.prog 93 [u.enc] (.bool (wfT u))) : PC Try.prog 93 [t.enc] (.bool (wfT t)) := by
  have hlen0 : (0 : Int) ≤ (t.args.length : Int) := by omega
  have d0 : decide (t.kind = 0) = false := decide_eq_false (by omega)
  have d1 : decide (t.kind = 1) = false := decide_eq_false (by omega)
  have d2 : decide (t.kind = 2) = false := decide_eq_false (by omega)
  have d3 : decide (t.kind = 3) = false := decide_eq_false (by omega)
  have d4 : decide (t.kind = 4) = false := decide_eq_false (by omega)
  have d5 : decide (t.kind = 5) = false := decide_eq_false (by omega)
  have d6 : decide (t.kind = 6) = true := decide_eq_true hk
  have d7 : decide (t.kind = 7) = false := decide_eq_false (by omega)
  have d8 : decide (t.kind = 8) = false := decide_eq_false (by omega)
  have d9 : decide (t.kind = 9) = false := decide_eq_false (by omega)
  have d10 : decide (t.kind = 10) = false := decide_eq_false (by omega)
  refine pc_of (N := 66) Try.func93 rfl rfl (by simp) (by simp [Ty.bel]) (.bool _) ?_
  -- region 0
  repeat (refine awp_seq ?_)
  refine e_eval (by simp only [asq, as0, as1, as2, awanted, aop, LS, SS, SX, HS, mkS_cons, mkS_nil, ↓reduceIte, eq_self', List.map_nil, beq_self_eq_true, Nat.reduceEqDiff, Nat.reduceAdd, Nat.reduceMul, Nat.reduceLT, Nat.reduceLeDiff, Nat.reducePow, Nat.reduceDiv, Nat.reduceMod, Nat.succ_ne_self, Nat.reduceBEq, Nat.reduceBNe, Tryti24, Trytf24, Trytz24, Trytp24, vint, TyS, TyF, BdS, Int.cast_ofNat_Int, d0, d1, d2, d3, d4, d5, d6, d7, d8, d9, d10] <;> with_reducible rfl) (by decide) ?_
  -- region 1
  repeat (refine awp_seq ?_)
  refine e_eval (by simp only [asq, as0, as1, as2, awanted, aop, LS, SS, SX, HS, mkS_cons, mkS_nil, ↓reduceIte, eq_self', List.map_nil, beq_self_eq_true, Nat.reduceEqDiff, Nat.reduceAdd, Nat.reduceMul, Nat.reduceLT, Nat.reduceLeDiff, Nat.reducePow, Nat.reduceDiv, Nat.reduceMod, Nat.succ_ne_self, Nat.reduceBEq, Nat.reduceBNe, vint, TyS, TyF, BdS, Int.cast_ofNat_Int, d0, d1, d2, d3, d4, d5, d6, d7, d8, d9, d10] <;> with_reducible rfl) (by decide) ?_
  -- region 2
  repeat (refine awp_seq ?_)
  refine e_eval (by simp only [asq, as0, as1, as2, awanted, aop, afldAddr, ajust, aload, LS, SS, SX, HS, mkS_cons, mkS_nil, ↓reduceIte, eq_self', List.map_nil, beq_self_eq_true, Nat.reduceEqDiff, Nat.reduceAdd, Nat.reduceMul, Nat.reduceLT, Nat.reduceLeDiff, Nat.reducePow, Nat.reduceDiv, Nat.reduceMod, Nat.succ_ne_self, Nat.reduceBEq, Nat.reduceBNe, Tryti3, Trytz3, Trytp3, Trytk3, Tryti24, Trytf24, Trytz24, Trytp24, vint, TyS, TyF, BdS, Int.cast_ofNat_Int, d0, d1, d2, d3, d4, d5, d6, d7, d8, d9, d10] <;> with_reducible rfl) (by decide) ?_
  repeat (refine awp_seq ?_)
  refine awp_block ?_
  -- region 4
  repeat (refine awp_seq ?_)
  refine e_eval (by simp only [asq, as0, as1, as2, awanted, aop, abin, ajust, LS, SS, SX, HS, mkS_cons, mkS_nil, ↓reduceIte, eq_self', List.map_nil, beq_self_eq_true, Nat.reduceEqDiff, Nat.reduceAdd, Nat.reduceMul, Nat.reduceLT, Nat.reduceLeDiff, Nat.reducePow, Nat.reduceDiv, Nat.reduceMod, Nat.succ_ne_self, Nat.reduceBEq, Nat.reduceBNe, Tryti3, Trytz3, Trytp3, Trytk3, vint, TyS, TyF, BdS, Int.cast_ofNat_Int, d0, d1, d2, d3, d4, d5, d6, d7, d8, d9, d10] <;> with_reducible rfl) (by decide) ?_
  repeat (refine awp_seq ?_)
  refine awp_cond_false rfl (by simp only [LS, SS, SX, HS, mkS_cons, mkS_nil, ↓reduceIte, eq_self', List.map_nil, beq_self_eq_true, Nat.reduceEqDiff, Nat.reduceAdd, Nat.succ_ne_self, vint, TyS, TyF, BdS, Int.cast_ofNat_Int, d0, d1, d2, d3, d4, d5, d6, d7, d8, d9, d10] <;> with_reducible rfl) ?_
  -- region 5
  repeat (refine awp_seq ?_)
  refine e_eval (by simp only [asq, as0, as1, as2, awanted, aop, abin, ajust, LS, SS, SX, HS, mkS_cons, mkS_nil, ↓reduceIte, eq_self', List.map_nil, beq_self_eq_true, Nat.reduceEqDiff, Nat.reduceAdd, Nat.reduceMul, Nat.reduceLT, Nat.reduceLeDiff, Nat.reducePow, Nat.reduceDiv, Nat.reduceMod, Nat.succ_ne_self, Nat.reduceBEq, Nat.reduceBNe, Tryti3, Trytz3, Trytp3, Trytk3, vint, TyS, TyF, BdS, Int.cast_ofNat_Int, d0, d1, d2, d3, d4, d5, d6, d7, d8, d9, d10] <;> with_reducible rfl) (by decide) ?_
  repeat (refine awp_seq ?_)
  refine awp_cond_false rfl (by simp only [LS, SS, SX, HS, mkS_cons, mkS_nil, ↓reduceIte, eq_self', List.map_nil, beq_self_eq_true, Nat.reduceEqDiff, Nat.reduceAdd, Nat.succ_ne_self, vint, TyS, TyF, BdS, Int.cast_ofNat_Int, d0, d1, d2, d3, d4, d5, d6, d7, d8, d9, d10] <;> with_reducible rfl) ?_
  -- region 6
  repeat (refine awp_seq ?_)
  refine e_eval (by simp only [asq, as0, as1, as2, awanted, aop, abin, ajust, LS, SS, SX, HS, mkS_cons, mkS_nil, ↓reduceIte, eq_self', List.map_nil, beq_self_eq_true, Nat.reduceEqDiff, Nat.reduceAdd, Nat.reduceMul, Nat.reduceLT, Nat.reduceLeDiff, Nat.reducePow, Nat.reduceDiv, Nat.reduceMod, Nat.succ_ne_self, Nat.reduceBEq, Nat.reduceBNe, Tryti3, Trytz3, Trytp3, Trytk3, vint, TyS, TyF, BdS, Int.cast_ofNat_Int, d0, d1, d2, d3, d4, d5, d6, d7, d8, d9, d10] <;> with_reducible rfl) (by decide) ?_
  repeat (refine awp_seq ?_)
  refine awp_cond_false rfl (by simp only [LS, SS, SX, HS, mkS_cons, mkS_nil, ↓reduceIte, eq_self', List.map_nil, beq_self_eq_true, Nat.reduceEqDiff, Nat.reduceAdd, Nat.succ_ne_self, vint, TyS, TyF, BdS, Int.cast_ofNat_Int, d0, d1, d2, d3, d4, d5, d6, d7, d8, d9, d10] <;> with_reducible rfl) ?_
  -- region 7
  repeat (refine awp_seq ?_)
  refine e_eval (by simp only [asq, as0, as1, as2, awanted, aop, abin, ajust, LS, SS, SX, HS, mkS_cons, mkS_nil, ↓reduceIte, eq_self', List.map_nil, beq_self_eq_true, Nat.reduceEqDiff, Nat.reduceAdd, Nat.reduceMul, Nat.reduceLT, Nat.reduceLeDiff, Nat.reducePow, Nat.reduceDiv, Nat.reduceMod, Nat.succ_ne_self, Nat.reduceBEq, Nat.reduceBNe, Tryti3, Trytz3, Trytp3, Trytk3, vint, TyS, TyF, BdS, Int.cast_ofNat_Int, d0, d1, d2, d3, d4, d5, d6, d7, d8, d9, d10] <;> with_reducible rfl) (by decide) ?_
  repeat (refine awp_seq ?_)
  refine awp_cond_false rfl (by simp only [LS, SS, SX, HS, mkS_cons, mkS_nil, ↓reduceIte, eq_self', List.map_nil, beq_self_eq_true, Nat.reduceEqDiff, Nat.reduceAdd, Nat.succ_ne_self, vint, TyS, TyF, BdS, Int.cast_ofNat_Int, d0, d1, d2, d3, d4, d5, d6, d7, d8, d9, d10] <;> with_reducible rfl) ?_
  refine awp_sel [1, 3, 4, 5, 9] (by simp only [LS, SS, SX, HS, mkS_cons, mkS_nil, ↓reduceIte, eq_self', List.map_nil, beq_self_eq_true, Nat.reduceEqDiff, Nat.reduceAdd, Nat.succ_ne_self, vint, TyS, TyF, BdS, Int.cast_ofNat_Int, d0, d1, d2, d3, d4, d5, d6, d7, d8, d9, d10] <;> with_reducible rfl) ?_
  -- region 8
  repeat (refine awp_seq ?_)
  refine e_eval (by simp only [asq, as0, as1, as2, awanted, aop, abin, ajust, LS, SS, SX, HS, mkS_cons, mkS_nil, ↓reduceIte, eq_self', List.map_nil, beq_self_eq_true, Nat.reduceEqDiff, Nat.reduceAdd, Nat.reduceMul, Nat.reduceLT, Nat.reduceLeDiff, Nat.reducePow, Nat.reduceDiv, Nat.reduceMod, Nat.succ_ne_self, Nat.reduceBEq, Nat.reduceBNe, Tryti3, Trytz3, Trytp3, Trytk3, vint, TyS, TyF, BdS, Int.cast_ofNat_Int, d0, d1, d2, d3, d4, d5, d6, d7, d8, d9, d10] <;> with_reducible rfl) (by decide) ?_
  repeat (refine awp_seq ?_)
  refine awp_cond_true rfl (by simp only [LS, SS, SX, HS, mkS_cons, mkS_nil, ↓reduceIte, eq_self', List.map_nil, beq_self_eq_true, Nat.reduceEqDiff, Nat.reduceAdd, Nat.succ_ne_self, vint, TyS, TyF, BdS, Int.cast_ofNat_Int, d0, d1, d2, d3, d4, d5, d6, d7, d8, d9, d10] <;> with_reducible rfl) ?_
  repeat (refine awp_seq ?_)
  refine awp_skip ?_
  -- region 20
  repeat (refine awp_seq ?_)
  refine awp_region ?_
  refine aops_gstart ?_
  refine g_take 5 (by simp only [gsq, gs0, gs1, gs2, gcond, gop, SG, Op.operands, Call.operands, Array.toList_append, aop, afldAddr, ajust, aload, abuiltin, LS, SS, SX, HS, mkS_cons, mkS_nil, ↓reduceIte, eq_self', List.map_nil, beq_self_eq_true, Nat.reduceEqDiff, Nat.reduceAdd, Nat.reduceMul, Nat.reduceLT, Nat.reduceLeDiff, Nat.reducePow, Nat.reduceDiv, Nat.reduceMod, Nat.succ_ne_self, Nat.reduceBEq, Nat.reduceBNe, Tryti22, Tryte22, Trytz22, Trytp22, Tryti24, Trytf24, Trytz24, Trytp24, vint, TyS, TyF, BdS, Int.cast_ofNat_Int, d0, d1, d2, d3, d4, d5, d6, d7, d8, d9, d10] <;> with_reducible rfl) (by decide) ?_
  refine aops_gpure (by simp only [acall, gcond, SG, Op.operands, Call.operands, Array.toList_append, LS, SS, SX, HS, mkS_cons, mkS_nil, ↓reduceIte, eq_self', List.map_nil, beq_self_eq_true, Nat.reduceEqDiff, Nat.reduceAdd, Nat.reduceMul, Nat.reduceLT, Nat.reduceLeDiff, Nat.reducePow, Nat.reduceDiv, Nat.reduceMod, Nat.succ_ne_self, Nat.reduceBEq, Nat.reduceBNe, vint, TyS, TyF, BdS, Int.cast_ofNat_Int, d0, d1, d2, d3, d4, d5, d6, d7, d8, d9, d10] <;> with_reducible rfl) (by simp only [acall, gcond, SG, Op.operands, Call.operands, Array.toList_append, LS, SS, SX, HS, mkS_cons, mkS_nil, ↓reduceIte, eq_self', List.map_nil, beq_self_eq_true, Nat.reduceEqDiff, Nat.reduceAdd, Nat.reduceMul, Nat.reduceLT, Nat.reduceLeDiff, Nat.reducePow, Nat.reduceDiv, Nat.reduceMod, Nat.succ_ne_self, Nat.reduceBEq, Nat.reduceBNe, vint, TyS, TyF, BdS, Int.cast_ofNat_Int, d0, d1, d2, d3, d4, d5, d6, d7, d8, d9, d10] <;> with_reducible rfl) (by simp only [acall, gcond, SG, Op.operands, Call.operands, Array.toList_append, LS, SS, SX, HS, mkS_cons, mkS_nil, ↓reduceIte, eq_self', List.map_nil, beq_self_eq_true, Nat.reduceEqDiff, Nat.reduceAdd, Nat.reduceMul, Nat.reduceLT, Nat.reduceLeDiff, Nat.reducePow, Nat.reduceDiv, Nat.reduceMod, Nat.succ_ne_self, Nat.reduceBEq, Nat.reduceBNe, vint, TyS, TyF, BdS, Int.cast_ofNat_Int, d0, d1, d2, d3, d4, d5, d6, d7, d8, d9, d10]) (by decide) Trygo98 (fun hc => inRange _ _ _ _) ?_
  refine g_end (by simp only [gsq, gs0, gs1, gs2, gcond, gop, SG, Op.operands, Call.operands, Array.toList_append, aop, aun, ajust, afldAddr, aload, abin, LS, SS, SX, HS, mkS_cons, mkS_nil, ↓reduceIte, eq_self', List.map_nil, beq_self_eq_true, Nat.reduceEqDiff, Nat.reduceAdd, Nat.reduceMul, Nat.reduceLT, Nat.reduceLeDiff, Nat.reducePow, Nat.reduceDiv, Nat.reduceMod, Nat.succ_ne_self, Nat.reduceBEq, Nat.reduceBNe, Tryti3, Trytz3, Trytp3, Trytk3, Tryti24, Trytf24, Trytz24, Trytp24, vint, TyS, TyF, BdS, Int.cast_ofNat_Int, d0, d1, d2, d3, d4, d5, d6, d7, d8, d9, d10] <;> with_reducible rfl) (by decide) (by repeat (first | exact Fin.base _ | with_reducible apply Fin.keep | apply Fin.drop)) ?_
  repeat (refine awp_seq ?_)
  refine awp_cond rfl (by simp only [LS, SS, SX, HS, mkS_cons, mkS_nil, ↓reduceIte, eq_self', List.map_nil, beq_self_eq_true, Nat.reduceEqDiff, Nat.reduceAdd, Nat.succ_ne_self, vint, TyS, TyF, BdS, Int.cast_ofNat_Int, d0, d1, d2, d3, d4, d5, d6, d7, d8, d9, d10] <;> with_reducible rfl) (fun bt54 => ?_) (fun bt54 => ?_)
  · -- if t54
    have hn : nwf t = false := by
      unfold nwf
      simp only [d0, d1, d2, d3, d4, d5, d6, d7, d8, d9, d10, Bool.or_false, Bool.or_true, Bool.false_or, Bool.true_or, if_true, if_false, Bool.false_eq_true]
      rw [Bool.eq_false_iff]
      intro hh
      simp only [Bool.or_eq_true, Bool.and_eq_true, Bool.not_eq_true', Bool.and_eq_false_iff, Bool.or_eq_false_iff, Bool.not_eq_false', decide_eq_true_eq, decide_eq_false_iff_not] at hh bt54
      omega
    have hwf : wfT t = false := by rw [wfT_eq, hn]; rfl
    refine awp_sel [] (by simp only [LS, SS, SX, HS, mkS_cons, mkS_nil, ↓reduceIte, eq_self', List.map_nil, beq_self_eq_true, Nat.reduceEqDiff, Nat.reduceAdd, Nat.succ_ne_self, vint, TyS, TyF, BdS, Int.cast_ofNat_Int, d0, d1, d2, d3, d4, d5, d6, d7, d8, d9, d10] <;> with_reducible rfl) ?_
    -- region 21
    repeat (refine awp_seq ?_)
    refine e_eval (by simp only [asq, as0, as1, as2, awanted, aop, LS, SS, SX, HS, mkS_cons, mkS_nil, ↓reduceIte, eq_self', List.map_nil, beq_self_eq_true, Nat.reduceEqDiff, Nat.reduceAdd, Nat.reduceMul, Nat.reduceLT, Nat.reduceLeDiff, Nat.reducePow, Nat.reduceDiv, Nat.reduceMod, Nat.succ_ne_self, Nat.reduceBEq, Nat.reduceBNe, vint, TyS, TyF, BdS, Int.cast_ofNat_Int, d0, d1, d2, d3, d4, d5, d6, d7, d8, d9, d10] <;> with_reducible rfl) (by decide) ?_
    repeat (refine awp_seq ?_)
    -- leaf 0 ret
    refine awp_ret ⟨.inr rfl, _, rfl, ?_⟩
    rw [hwf]; rfl
  · -- else t54
    have hn : nwf t = true := by
      unfold nwf
      simp only [d0, d1, d2, d3, d4, d5, d6, d7, d8, d9, d10, Bool.or_false, Bool.or_true, Bool.false_or, Bool.true_or, if_true, if_false, Bool.false_eq_true]
      simp only [Bool.or_eq_true, Bool.and_eq_true, Bool.not_eq_true', Bool.and_eq_false_iff, Bool.or_eq_false_iff, Bool.not_eq_false', decide_eq_true_eq, decide_eq_false_iff_not] at bt54 ⊢
      omega
    repeat (refine awp_seq ?_)
    refine awp_skip ?_
    refine awp_sel [1] (by simp only [LS, SS, SX, HS, mkS_cons, mkS_nil, ↓reduceIte, eq_self', List.map_nil, beq_self_eq_true, Nat.reduceEqDiff, Nat.reduceAdd, Nat.succ_ne_self, vint, TyS, TyF, BdS, Int.cast_ofNat_Int, d0, d1, d2, d3, d4, d5, d6, d7, d8, d9, d10] <;> with_reducible rfl) ?_
    -- region 22
    repeat (refine awp_seq ?_)
    refine e_eval (by simp only [asq, as0, as1, as2, awanted, aop, afldAddr, ajust, aload, abuiltin, LS, SS, SX, HS, mkS_cons, mkS_nil, ↓reduceIte, eq_self', List.map_nil, beq_self_eq_true, Nat.reduceEqDiff, Nat.reduceAdd, Nat.reduceMul, Nat.reduceLT, Nat.reduceLeDiff, Nat.reducePow, Nat.reduceDiv, Nat.reduceMod, Nat.succ_ne_self, Nat.reduceBEq, Nat.reduceBNe, Tryti22, Tryte22, Trytz22, Trytp22, Tryti24, Trytf24, Trytz24, Trytp24, vint, TyS, TyF, BdS, Int.cast_ofNat_Int, d0, d1, d2, d3, d4, d5, d6, d7, d8, d9, d10] <;> with_reducible rfl) (by decide) ?_
    repeat (refine awp_seq ?_)
    refine awp_forS (σ := Unit) (t.args.length) (fun (s : Unit) => [(56, .slice (t.args.map Ty.enc) .none)]) [56] ([]) (fun (s : Unit) => []) (fun (i : Nat) (s : Unit) => (t.args.take i).any (fun u => !wfT u) = false) (()) (_) rfl rfl rfl rfl rfl rfl rfl rfl rfl (by decide) (by decide) (by decide) (fun _ => rfl) (hw.lenMax) ⟨(by first | rfl | (simp only [LS, SS, SX, HS, mkS_cons, mkS_nil, ↓reduceIte, eq_self', List.map_nil, beq_self_eq_true, Nat.reduceEqDiff, Nat.reduceAdd, Nat.succ_ne_self, vint, TyS, TyF, BdS, Int.cast_ofNat_Int, d0, d1, d2, d3, d4, d5, d6, d7, d8, d9, d10] <;> first | done | with_reducible rfl)), (by first | rfl | (simp only [LS, SS, SX, HS, mkS_cons, mkS_nil, ↓reduceIte, eq_self', List.map_nil, beq_self_eq_true, Nat.reduceEqDiff, Nat.reduceAdd, Nat.succ_ne_self, vint, TyS, TyF, BdS, Int.cast_ofNat_Int, d0, d1, d2, d3, d4, d5, d6, d7, d8, d9, d10] <;> first | done | with_reducible rfl)), (by first | rfl | (simp only [LS, SS, SX, HS, mkS_cons, mkS_nil, ↓reduceIte, eq_self', List.map_nil, beq_self_eq_true, Nat.reduceEqDiff, Nat.reduceAdd, Nat.succ_ne_self, vint, TyS, TyF, BdS, Int.cast_ofNat_Int, d0, d1, d2, d3, d4, d5, d6, d7, d8, d9, d10] <;> first | done | with_reducible rfl)), trivial⟩ (by first | rfl | (simp only [LS, SS, SX, HS, mkS_cons, mkS_nil, ↓reduceIte, eq_self', List.map_nil, beq_self_eq_true, Nat.reduceEqDiff, Nat.reduceAdd, Nat.succ_ne_self, vint, TyS, TyF, BdS, Int.cast_ofNat_Int, d0, d1, d2, d3, d4, d5, d6, d7, d8, d9, d10] <;> first | done | with_reducible rfl)) (by simp) (fun _ _ _ => by first | exact Nat.zero_le _ | (simp only [List.length_append]; omega)) ?_ ?_ ?_
    · exact fun i s hg => ⟨by first | exact hbel_nil _ | (simp only [List.append_nil]; assumption) | (refine hbel_app' hb' (by simp) ?_; repeat (first | exact hbel_nil _ | exact trivial | exact obel_row_nil _ | (refine HBel.cons ?_ ?_) | (refine obel_row_cons (by first | exact bel_Bd _ _ | exact Bd.bel _ _ | exact bel_int_tok _ (by simp) | exact bel_ints0 _ _ | exact bel_slice_ty _ _ | exact Ty.bel _ _ | exact bel_ty_tok _ (by simp) | exact Bel.int _ _ | exact Bel.bool _ | exact Bel.str _ | exact Bel.nilp | exact Bel.nilfn | exact Bel.optr _ _ (by simp) | exact bel_nil0 _ | exact bel_nil1 _ | exact bel_fn0 _ _ | assumption) ?_))), by repeat (first | exact BelL.nil | refine BelL.cons (by first | exact bel_Bd _ _ | exact Bd.bel _ _ | exact bel_int_tok _ (by simp) | exact bel_ints0 _ _ | exact bel_slice_ty _ _ | exact Ty.bel _ _ | exact bel_ty_tok _ (by simp) | exact Bel.int _ _ | exact Bel.bool _ | exact Bel.str _ | exact Bel.nilp | exact Bel.nilfn | exact Bel.optr _ _ (by simp) | exact bel_nil0 _ | exact bel_nil1 _ | exact bel_fn0 _ _ | assumption) ?_)⟩
    · intro i s hi hg
      have g1 := ix_nat hi
      have g2 := get_enc Ty.enc hi
      have hmem : t.args[i] ∈ t.args := List.getElem_mem hi
      -- region 24
      repeat (refine awp_seq ?_)
      refine e_eval (by simp only [asq, as0, as1, as2, awanted, aop, aidxAddr, aidx, ajust, aload, astore, splice, LS, SS, SX, HS, mkS_cons, mkS_nil, ↓reduceIte, eq_self', List.map_nil, beq_self_eq_true, Nat.reduceEqDiff, Nat.reduceAdd, Nat.reduceMul, Nat.reduceLT, Nat.reduceLeDiff, Nat.reducePow, Nat.reduceDiv, Nat.reduceMod, Nat.succ_ne_self, Nat.reduceBEq, Nat.reduceBNe, Tryti22, Tryte22, Trytz22, Trytp22, Tryti24, Trytf24, Trytz24, Trytp24, vint, TyS, TyF, BdS, Int.cast_ofNat_Int, d0, d1, d2, d3, d4, d5, d6, d7, d8, d9, d10, g1, g2, Int.toNat_natCast] <;> with_reducible rfl) (by decide) ?_
      -- region 25
      repeat (refine awp_seq ?_)
      refine awp_region ?_
      refine e_take 1 (by simp only [asq, as0, as1, as2, awanted, aop, aload, ajust, LS, SS, SX, HS, mkS_cons, mkS_nil, ↓reduceIte, eq_self', List.map_nil, beq_self_eq_true, Nat.reduceEqDiff, Nat.reduceAdd, Nat.reduceMul, Nat.reduceLT, Nat.reduceLeDiff, Nat.reducePow, Nat.reduceDiv, Nat.reduceMod, Nat.succ_ne_self, Nat.reduceBEq, Nat.reduceBNe, Tryti24, Trytf24, Trytz24, Trytp24, vint, TyS, TyF, BdS, Int.cast_ofNat_Int, d0, d1, d2, d3, d4, d5, d6, d7, d8, d9, d10, g1, g2, Int.toNat_natCast] <;> with_reducible rfl) (by decide) ?_
      refine aops_pure (by simp only [acall, awanted, LS, SS, SX, HS, mkS_cons, mkS_nil, ↓reduceIte, eq_self', List.map_nil, beq_self_eq_true, Nat.reduceEqDiff, Nat.reduceAdd, Nat.reduceMul, Nat.reduceLT, Nat.reduceLeDiff, Nat.reducePow, Nat.reduceDiv, Nat.reduceMod, Nat.succ_ne_self, Nat.reduceBEq, Nat.reduceBNe, vint, TyS, TyF, BdS, Int.cast_ofNat_Int, d0, d1, d2, d3, d4, d5, d6, d7, d8, d9, d10, g1, g2, Int.toNat_natCast] <;> with_reducible rfl) (by simp only [acall, awanted, LS, SS, SX, HS, mkS_cons, mkS_nil, ↓reduceIte, eq_self', List.map_nil, beq_self_eq_true, Nat.reduceEqDiff, Nat.reduceAdd, Nat.reduceMul, Nat.reduceLT, Nat.reduceLeDiff, Nat.reducePow, Nat.reduceDiv, Nat.reduceMod, Nat.succ_ne_self, Nat.reduceBEq, Nat.reduceBNe, vint, TyS, TyF, BdS, Int.cast_ofNat_Int, d0, d1, d2, d3, d4, d5, d6, d7, d8, d9, d10, g1, g2, Int.toNat_natCast]) (by decide) Trygo93 (ih t.args[i] hmem _) ?_
      refine e_end (by simp only [asq, as0, as1, as2, awanted, aop, aun, ajust, LS, SS, SX, HS, mkS_cons, mkS_nil, ↓reduceIte, eq_self', List.map_nil, beq_self_eq_true, Nat.reduceEqDiff, Nat.reduceAdd, Nat.reduceMul, Nat.reduceLT, Nat.reduceLeDiff, Nat.reducePow, Nat.reduceDiv, Nat.reduceMod, Nat.succ_ne_self, Nat.reduceBEq, Nat.reduceBNe, vint, TyS, TyF, BdS, Int.cast_ofNat_Int, d0, d1, d2, d3, d4, d5, d6, d7, d8, d9, d10, g1, g2, Int.toNat_natCast] <;> with_reducible rfl) (by decide) ?_
      repeat (refine awp_seq ?_)
      refine awp_cond rfl (by simp only [LS, SS, SX, HS, mkS_cons, mkS_nil, ↓reduceIte, eq_self', List.map_nil, beq_self_eq_true, Nat.reduceEqDiff, Nat.reduceAdd, Nat.succ_ne_self, vint, TyS, TyF, BdS, Int.cast_ofNat_Int, d0, d1, d2, d3, d4, d5, d6, d7, d8, d9, d10, g1, g2, Int.toNat_natCast] <;> with_reducible rfl) (fun bt64 => ?_) (fun bt64 => ?_)
      · -- if t64
        have hbad : (t.args.any fun u => !wfT u) = true := List.any_eq_true.2 ⟨_, hmem, bt64⟩
        have hwf : wfT t = false := by rw [wfT_eq, hn, hbad]; rfl
        -- region 26
        repeat (refine awp_seq ?_)
        refine e_eval (by simp only [asq, as0, as1, as2, awanted, aop, LS, SS, SX, HS, mkS_cons, mkS_nil, ↓reduceIte, eq_self', List.map_nil, beq_self_eq_true, Nat.reduceEqDiff, Nat.reduceAdd, Nat.reduceMul, Nat.reduceLT, Nat.reduceLeDiff, Nat.reducePow, Nat.reduceDiv, Nat.reduceMod, Nat.succ_ne_self, Nat.reduceBEq, Nat.reduceBNe, vint, TyS, TyF, BdS, Int.cast_ofNat_Int, d0, d1, d2, d3, d4, d5, d6, d7, d8, d9, d10, g1, g2, Int.toNat_natCast] <;> with_reducible rfl) (by decide) ?_
        repeat (refine awp_seq ?_)
        -- leaf 1 ret
        refine awp_ret ⟨.inr rfl, _, rfl, ?_⟩
        rw [hwf]; rfl
      · -- else t64
        repeat (refine awp_seq ?_)
        refine awp_skip ?_
        -- leaf 2 next1
        exact ⟨⟨rfl, rfl, trivial⟩, (), _, ⟨rfl, trivial⟩, rfl, any_take_succ hi hg bt64⟩
    · intro s hg
      rw [List.take_length] at hg
      have hwf : wfT t = true := by rw [wfT_eq, hn, hg]; rfl
      -- region 28
      repeat (refine awp_seq ?_)
      refine e_eval (by simp only [asq, as0, as1, as2, awanted, aop, LS, SS, SX, HS, mkS_cons, mkS_nil, ↓reduceIte, eq_self', List.map_nil, beq_self_eq_true, Nat.reduceEqDiff, Nat.reduceAdd, Nat.reduceMul, Nat.reduceLT, Nat.reduceLeDiff, Nat.reducePow, Nat.reduceDiv, Nat.reduceMod, Nat.succ_ne_self, Nat.reduceBEq, Nat.reduceBNe, vint, TyS, TyF, BdS, Int.cast_ofNat_Int, d0, d1, d2, d3, d4, d5, d6, d7, d8, d9, d10] <;> with_reducible rfl) (by decide) ?_
      repeat (refine awp_seq ?_)
      -- leaf 3 ret
      refine awp_ret ⟨.inr rfl, _, rfl, ?_⟩
      rw [hwf]; rfl

theorem typeWF_7 (t : Ty) (hk : t.kind = 7) (hw : t.W) (ih : ∀ u ∈ t.args, PC Try.prog 93 [u.enc] (.bool (wfT u))) : PC Try.prog 93 [t.enc] (.bool (wfT t)) := by
  have hlen0 : (0 : Int) ≤ (t.args.length : Int) := by omega
  have d0 : decide (t.kind = 0) = false := decide_eq_false (by omega)
  have d1 : decide (t.kind = 1) = false := decide_eq_false (by omega)
  have d2 : decide (t.kind = 2) = false := decide_eq_false (by omega)
  have d3 : decide (t.kind = 3) = false := decide_eq_false (by omega)
  have d4 : decide (t.kind = 4) = false := decide_eq_false (by omega)
  have d5 : decide (t.kind = 5) = false := decide_eq_false (by omega)
  have d6 : decide (t.kind = 6) = false := decide_eq_false (by omega)
  have d7 : decide (t.kind = 7) = true := decide_eq_true hk
  have d8 : decide (t.kind = 8) = false := decide_eq_false (by omega)
  have d9 : decide (t.kind = 9) = false := decide_eq_false (by omega)
  have d10 : decide (t.kind = 10) = false := decide_eq_false (by omega)
  refine pc_of (N := 66) Try.func93 rfl rfl (by simp) (by simp [Ty.bel]) (.bool _) ?_
  -- region 0
  repeat (refine awp_seq ?_)
  refine e_eval (by simp only [asq, as0, as1, as2, awanted, aop, LS, SS, SX, HS, mkS_cons, mkS_nil, ↓reduceIte, eq_self', List.map_nil, beq_self_eq_true, Nat.reduceEqDiff, Nat.reduceAdd, Nat.reduceMul, Nat.reduceLT, Nat.reduceLeDiff, Nat.reducePow, Nat.reduceDiv, Nat.reduceMod, Nat.succ_ne_self, Nat.reduceBEq, Nat.reduceBNe, Tryti24, Trytf24, Trytz24, Trytp24, vint, TyS, TyF, BdS, Int.cast_ofNat_Int, d0, d1, d2, d3, d4, d5, d6, d7, d8, d9, d10] <;> with_reducible rfl) (by decide) ?_
  -- region 1
  repeat (refine awp_seq ?_)
  refine e_eval (by simp only [asq, as0, as1, as2, awanted, aop, LS, SS, SX, HS, mkS_cons, mkS_nil, ↓reduceIte, eq_self', List.map_nil, beq_self_eq_true, Nat.reduceEqDiff, Nat.reduceAdd, Nat.reduceMul, Nat.reduceLT, Nat.reduceLeDiff, Nat.reducePow, Nat.reduceDiv, Nat.reduceMod, Nat.succ_ne_self, Nat.reduceBEq, Nat.reduceBNe, vint, TyS, TyF, BdS, Int.cast_ofNat_Int, d0, d1, d2, d3, d4, d5, d6, d7, d8, d9, d10] <;> with_reducible rfl) (by decide) ?_
  -- region 2
  repeat (refine awp_seq ?_)
  refine e_eval (by simp only [asq, as0, as1, as2, awanted, aop, afldAddr, ajust, aload, LS, SS, SX, HS, mkS_cons, mkS_nil, ↓reduceIte, eq_self', List.map_nil, beq_self_eq_true, Nat.reduceEqDiff, Nat.reduceAdd, Nat.reduceMul, Nat.reduceLT, Nat.reduceLeDiff, Nat.reducePow, Nat.reduceDiv, Nat.reduceMod, Nat.succ_ne_self, Nat.reduceBEq, Nat.reduceBNe, Tryti3, Trytz3, Trytp3, Trytk3, Tryti24, Trytf24, Trytz24, Trytp24, vint, TyS, TyF, BdS, Int.cast_ofNat_Int, d0, d1, d2, d3, d4, d5, d6, d7, d8, d9, d10] <;> with_reducible rfl) (by decide) ?_
  repeat (refine awp_seq ?_)
  refine awp_block ?_
  -- region 4
  repeat (refine awp_seq ?_)
  refine e_eval (by simp only [asq, as0, as1, as2, awanted, aop, abin, ajust, LS, SS, SX, HS, mkS_cons, mkS_nil, ↓reduceIte, eq_self', List.map_nil, beq_self_eq_true, Nat.reduceEqDiff, Nat.reduceAdd, Nat.reduceMul, Nat.reduceLT, Nat.reduceLeDiff, Nat.reducePow, Nat.reduceDiv, Nat.reduceMod, Nat.succ_ne_self, Nat.reduceBEq, Nat.reduceBNe, Tryti3, Trytz3, Trytp3, Trytk3, vint, TyS, TyF, BdS, Int.cast_ofNat_Int, d0, d1, d2, d3, d4, d5, d6, d7, d8, d9, d10] <;> with_reducible rfl) (by decide) ?_
  repeat (refine awp_seq ?_)
  refine awp_cond_false rfl (by simp only [LS, SS, SX, HS, mkS_cons, mkS_nil, ↓reduceIte, eq_self', List.map_nil, beq_self_eq_true, Nat.reduceEqDiff, Nat.reduceAdd, Nat.succ_ne_self, vint, TyS, TyF, BdS, Int.cast_ofNat_Int, d0, d1, d2, d3, d4, d5, d6, d7, d8, d9, d10] <;> with_reducible rfl) ?_
  -- region 5
  repeat (refine awp_seq ?_)
  refine e_eval (by simp only [asq, as0, as1, as2, awanted, aop, abin, ajust, LS, SS, SX, HS, mkS_cons, mkS_nil, ↓reduceIte, eq_self', List.map_nil, beq_self_eq_true, Nat.reduceEqDiff, Nat.reduceAdd, Nat.reduceMul, Nat.reduceLT, Nat.reduceLeDiff, Nat.reducePow, Nat.reduceDiv, Nat.reduceMod, Nat.succ_ne_self, Nat.reduceBEq, Nat.reduceBNe, Tryti3, Trytz3, Trytp3, Trytk3, vint, TyS, TyF, BdS, Int.cast_ofNat_Int, d0, d1, d2, d3, d4, d5, d6, d7, d8, d9, d10] <;> with_reducible rfl) (by decide) ?_
  repeat (refine awp_seq ?_)
  refine awp_cond_false rfl (by simp only [LS, SS, SX, HS, mkS_cons, mkS_nil, ↓reduceIte, eq_self', List.map_nil, beq_self_eq_true, Nat.reduceEqDiff, Nat.reduceAdd, Nat.succ_ne_self, vint, TyS, TyF, BdS, Int.cast_ofNat_Int, d0, d1, d2, d3, d4, d5, d6, d7, d8, d9, d10] <;> with_reducible rfl) ?_
  -- region 6
  repeat (refine awp_seq ?_)
  refine e_eval (by simp only [asq, as0, as1, as2, awanted, aop, abin, ajust, LS, SS, SX, HS, mkS_cons, mkS_nil, ↓reduceIte, eq_self', List.map_nil, beq_self_eq_true, Nat.reduceEqDiff, Nat.reduceAdd, Nat.reduceMul, Nat.reduceLT, Nat.reduceLeDiff, Nat.reducePow, Nat.reduceDiv, Nat.reduceMod, Nat.succ_ne_self, Nat.reduceBEq, Nat.reduceBNe, Tryti3, Trytz3, Trytp3, Trytk3, vint, TyS, TyF, BdS, Int.cast_ofNat_Int, d0, d1, d2, d3, d4, d5, d6, d7, d8, d9, d10] <;> with_reducible rfl) (by decide) ?_
  repeat (refine awp_seq ?_)
  refine awp_cond_false rfl (by simp only [LS, SS, SX, HS, mkS_cons, mkS_nil, ↓reduceIte, eq_self', List.map_nil, beq_self_eq_true, Nat.reduceEqDiff, Nat.reduceAdd, Nat.succ_ne_self, vint, TyS, TyF, BdS, Int.cast_ofNat_Int, d0, d1, d2, d3, d4, d5, d6, d7, d8, d9, d10] <;> with_reducible rfl) ?_
  -- region 7
  repeat (refine awp_seq ?_)
  refine e_eval (by simp only [asq, as0, as1, as2, awanted, aop, abin, ajust, LS, SS, SX, HS, mkS_cons, mkS_nil, ↓reduceIte, eq_self', List.map_nil, beq_self_eq_true, Nat.reduceEqDiff, Nat.reduceAdd, Nat.reduceMul, Nat.reduceLT, Nat.reduceLeDiff, Nat.reducePow, Nat.reduceDiv, Nat.reduceMod, Nat.succ_ne_self, Nat.reduceBEq, Nat.reduceBNe, Tryti3, Trytz3, Trytp3, Trytk3, vint, TyS, TyF, BdS, Int.cast_ofNat_Int, d0, d1, d2, d3, d4, d5, d6, d7, d8, d9, d10] <;> with_reducible rfl) (by decide) ?_
  repeat (refine awp_seq ?_)
  refine awp_cond_false rfl (by simp only [LS, SS, SX, HS, mkS_cons, mkS_nil, ↓reduceIte, eq_self', List.map_nil, beq_self_eq_true, Nat.reduceEqDiff, Nat.reduceAdd, Nat.succ_ne_self, vint, TyS, TyF, BdS, Int.cast_ofNat_Int, d0, d1, d2, d3, d4, d5, d6, d7, d8, d9, d10] <;> with_reducible rfl) ?_
  refine awp_sel [1, 3, 4, 5, 9] (by simp only [LS, SS, SX, HS, mkS_cons, mkS_nil, ↓reduceIte, eq_self', List.map_nil, beq_self_eq_true, Nat.reduceEqDiff, Nat.reduceAdd, Nat.succ_ne_self, vint, TyS, TyF, BdS, Int.cast_ofNat_Int, d0, d1, d2, d3, d4, d5, d6, d7, d8, d9, d10] <;> with_reducible rfl) ?_
  -- region 8
  repeat (refine awp_seq ?_)
  refine e_eval (by simp only [asq, as0, as1, as2, awanted, aop, abin, ajust, LS, SS, SX, HS, mkS_cons, mkS_nil, ↓reduceIte, eq_self', List.map_nil, beq_self_eq_true, Nat.reduceEqDiff, Nat.reduceAdd, Nat.reduceMul, Nat.reduceLT, Nat.reduceLeDiff, Nat.reducePow, Nat.reduceDiv, Nat.reduceMod, Nat.succ_ne_self, Nat.reduceBEq, Nat.reduceBNe, Tryti3, Trytz3, Trytp3, Trytk3, vint, TyS, TyF, BdS, Int.cast_ofNat_Int, d0, d1, d2, d3, d4, d5, d6, d7, d8, d9, d10] <;> with_reducible rfl) (by decide) ?_
  repeat (refine awp_seq ?_)
  refine awp_cond_false rfl (by simp only [LS, SS, SX, HS, mkS_cons, mkS_nil, ↓reduceIte, eq_self', List.map_nil, beq_self_eq_true, Nat.reduceEqDiff, Nat.reduceAdd, Nat.succ_ne_self, vint, TyS, TyF, BdS, Int.cast_ofNat_Int, d0, d1, d2, d3, d4, d5, d6, d7, d8, d9, d10] <;> with_reducible rfl) ?_
  -- region 9
  repeat (refine awp_seq ?_)
  refine e_eval (by simp only [asq, as0, as1, as2, awanted, aop, abin, ajust, LS, SS, SX, HS, mkS_cons, mkS_nil, ↓reduceIte, eq_self', List.map_nil, beq_self_eq_true, Nat.reduceEqDiff, Nat.reduceAdd, Nat.reduceMul, Nat.reduceLT, Nat.reduceLeDiff, Nat.reducePow, Nat.reduceDiv, Nat.reduceMod, Nat.succ_ne_self, Nat.reduceBEq, Nat.reduceBNe, Tryti3, Trytz3, Trytp3, Trytk3, vint, TyS, TyF, BdS, Int.cast_ofNat_Int, d0, d1, d2, d3, d4, d5, d6, d7, d8, d9, d10] <;> with_reducible rfl) (by decide) ?_
  repeat (refine awp_seq ?_)
  refine awp_cond_false rfl (by simp only [LS, SS, SX, HS, mkS_cons, mkS_nil, ↓reduceIte, eq_self', List.map_nil, beq_self_eq_true, Nat.reduceEqDiff, Nat.reduceAdd, Nat.succ_ne_self, vint, TyS, TyF, BdS, Int.cast_ofNat_Int, d0, d1, d2, d3, d4, d5, d6, d7, d8, d9, d10] <;> with_reducible rfl) ?_
  -- region 10
  repeat (refine awp_seq ?_)
  refine e_eval (by simp only [asq, as0, as1, as2, awanted, aop, abin, ajust, LS, SS, SX, HS, mkS_cons, mkS_nil, ↓reduceIte, eq_self', List.map_nil, beq_self_eq_true, Nat.reduceEqDiff, Nat.reduceAdd, Nat.reduceMul, Nat.reduceLT, Nat.reduceLeDiff, Nat.reducePow, Nat.reduceDiv, Nat.reduceMod, Nat.succ_ne_self, Nat.reduceBEq, Nat.reduceBNe, Tryti3, Trytz3, Trytp3, Trytk3, vint, TyS, TyF, BdS, Int.cast_ofNat_Int, d0, d1, d2, d3, d4, d5, d6, d7, d8, d9, d10] <;> with_reducible rfl) (by decide) ?_
  repeat (refine awp_seq ?_)
  refine awp_cond_false rfl (by simp only [LS, SS, SX, HS, mkS_cons, mkS_nil, ↓reduceIte, eq_self', List.map_nil, beq_self_eq_true, Nat.reduceEqDiff, Nat.reduceAdd, Nat.succ_ne_self, vint, TyS, TyF, BdS, Int.cast_ofNat_Int, d0, d1, d2, d3, d4, d5, d6, d7, d8, d9, d10] <;> with_reducible rfl) ?_
  -- region 12
  repeat (refine awp_seq ?_)
  refine e_eval (by simp only [asq, as0, as1, as2, awanted, aop, abin, ajust, LS, SS, SX, HS, mkS_cons, mkS_nil, ↓reduceIte, eq_self', List.map_nil, beq_self_eq_true, Nat.reduceEqDiff, Nat.reduceAdd, Nat.reduceMul, Nat.reduceLT, Nat.reduceLeDiff, Nat.reducePow, Nat.reduceDiv, Nat.reduceMod, Nat.succ_ne_self, Nat.reduceBEq, Nat.reduceBNe, Tryti3, Trytz3, Trytp3, Trytk3, vint, TyS, TyF, BdS, Int.cast_ofNat_Int, d0, d1, d2, d3, d4, d5, d6, d7, d8, d9, d10] <;> with_reducible rfl) (by decide) ?_
  repeat (refine awp_seq ?_)
  refine awp_cond_true rfl (by simp only [LS, SS, SX, HS, mkS_cons, mkS_nil, ↓reduceIte, eq_self', List.map_nil, beq_self_eq_true, Nat.reduceEqDiff, Nat.reduceAdd, Nat.succ_ne_self, vint, TyS, TyF, BdS, Int.cast_ofNat_Int, d0, d1, d2, d3, d4, d5, d6, d7, d8, d9, d10] <;> with_reducible rfl) ?_
  -- region 13
  repeat (refine awp_seq ?_)
  refine awp_draw 0 (by kernel_rfl) ?_
  refine d_end (bm := [0, 1, 3, 0, 15]) (fresh := 0) (by kernel_rfl) (by simp only [dsq, ds0, ds1, ds2, ds3, awanted, hapB, effIds, effSet, nextFresh, ard, freshOk, isUnborn, aop, afldAddr, ajust, aload, abuiltin, LS, SS, SX, HS, mkS_cons, mkS_nil, ↓reduceIte, eq_self', List.map_nil, beq_self_eq_true, Nat.reduceEqDiff, Nat.reduceAdd, Nat.reduceMul, Nat.reduceLT, Nat.reduceLeDiff, Nat.reducePow, Nat.reduceDiv, Nat.reduceMod, Nat.succ_ne_self, Nat.reduceBEq, Nat.reduceBNe, Tryti22, Tryte22, Trytz22, Trytp22, Tryti24, Trytf24, Trytz24, Trytp24, vint, TyS, TyF, BdS, Int.cast_ofNat_Int, d0, d1, d2, d3, d4, d5, d6, d7, d8, d9, d10] <;> with_reducible rfl) (by decide) ?_
  -- region 20
  repeat (refine awp_seq ?_)
  refine awp_region ?_
  refine aops_gstart ?_
  refine g_take 5 (by simp only [gsq, gs0, gs1, gs2, gcond, gop, SG, Op.operands, Call.operands, Array.toList_append, aop, afldAddr, ajust, aload, abuiltin, LS, SS, SX, HS, mkS_cons, mkS_nil, ↓reduceIte, eq_self', List.map_nil, beq_self_eq_true, Nat.reduceEqDiff, Nat.reduceAdd, Nat.reduceMul, Nat.reduceLT, Nat.reduceLeDiff, Nat.reducePow, Nat.reduceDiv, Nat.reduceMod, Nat.succ_ne_self, Nat.reduceBEq, Nat.reduceBNe, Tryti22, Tryte22, Trytz22, Trytp22, Tryti24, Trytf24, Trytz24, Trytp24, vint, TyS, TyF, BdS, Int.cast_ofNat_Int, d0, d1, d2, d3, d4, d5, d6, d7, d8, d9, d10] <;> with_reducible rfl) (by decide) ?_
  refine aops_gpure (by simp only [acall, gcond, SG, Op.operands, Call.operands, Array.toList_append, LS, SS, SX, HS, mkS_cons, mkS_nil, ↓reduceIte, eq_self', List.map_nil, beq_self_eq_true, Nat.reduceEqDiff, Nat.reduceAdd, Nat.reduceMul, Nat.reduceLT, Nat.reduceLeDiff, Nat.reducePow, Nat.reduceDiv, Nat.reduceMod, Nat.succ_ne_self, Nat.reduceBEq, Nat.reduceBNe, vint, TyS, TyF, BdS, Int.cast_ofNat_Int, d0, d1, d2, d3, d4, d5, d6, d7, d8, d9, d10] <;> with_reducible rfl) (by simp only [acall, gcond, SG, Op.operands, Call.operands, Array.toList_append, LS, SS, SX, HS, mkS_cons, mkS_nil, ↓reduceIte, eq_self', List.map_nil, beq_self_eq_true, Nat.reduceEqDiff, Nat.reduceAdd, Nat.reduceMul, Nat.reduceLT, Nat.reduceLeDiff, Nat.reducePow, Nat.reduceDiv, Nat.reduceMod, Nat.succ_ne_self, Nat.reduceBEq, Nat.reduceBNe, vint, TyS, TyF, BdS, Int.cast_ofNat_Int, d0, d1, d2, d3, d4, d5, d6, d7, d8, d9, d10] <;> with_reducible rfl) (by simp only [acall, gcond, SG, Op.operands, Call.operands, Array.toList_append, LS, SS, SX, HS, mkS_cons, mkS_nil, ↓reduceIte, eq_self', List.map_nil, beq_self_eq_true, Nat.reduceEqDiff, Nat.reduceAdd, Nat.reduceMul, Nat.reduceLT, Nat.reduceLeDiff, Nat.reducePow, Nat.reduceDiv, Nat.reduceMod, Nat.succ_ne_self, Nat.reduceBEq, Nat.reduceBNe, vint, TyS, TyF, BdS, Int.cast_ofNat_Int, d0, d1, d2, d3, d4, d5, d6, d7, d8, d9, d10]) (by decide) Trygo98 (fun hc => inRange _ _ _ _) ?_
  refine g_end (by simp only [gsq, gs0, gs1, gs2, gcond, gop, SG, Op.operands, Call.operands, Array.toList_append, aop, aun, ajust, afldAddr, aload, abin, LS, SS, SX, HS, mkS_cons, mkS_nil, ↓reduceIte, eq_self', List.map_nil, beq_self_eq_true, Nat.reduceEqDiff, Nat.reduceAdd, Nat.reduceMul, Nat.reduceLT, Nat.reduceLeDiff, Nat.reducePow, Nat.reduceDiv, Nat.reduceMod, Nat.succ_ne_self, Nat.reduceBEq, Nat.reduceBNe, Tryti3, Trytz3, Trytp3, Trytk3, Tryti24, Trytf24, Trytz24, Trytp24, vint, TyS, TyF, BdS, Int.cast_ofNat_Int, d0, d1, d2, d3, d4, d5, d6, d7, d8, d9, d10] <;> with_reducible rfl) (by decide) (by repeat (first | exact Fin.base _ | with_reducible apply Fin.keep | apply Fin.drop)) ?_
  repeat (refine awp_seq ?_)
  refine awp_cond rfl (by simp only [LS, SS, SX, HS, mkS_cons, mkS_nil, ↓reduceIte, eq_self', List.map_nil, beq_self_eq_true, Nat.reduceEqDiff, Nat.reduceAdd, Nat.succ_ne_self, vint, TyS, TyF, BdS, Int.cast_ofNat_Int, d0, d1, d2, d3, d4, d5, d6, d7, d8, d9, d10] <;> with_reducible rfl) (fun bt54 => ?_) (fun bt54 => ?_)
  · -- if t54
    have hn : nwf t = false := by
      unfold nwf
      simp only [d0, d1, d2, d3, d4, d5, d6, d7, d8, d9, d10, Bool.or_false, Bool.or_true, Bool.false_or, Bool.true_or, if_true, if_false, Bool.false_eq_true]
      rw [Bool.eq_false_iff]
      intro hh
      simp only [Bool.or_eq_true, Bool.and_eq_true, Bool.not_eq_true', Bool.and_eq_false_iff, Bool.or_eq_false_iff, Bool.not_eq_false', decide_eq_true_eq, decide_eq_false_iff_not] at hh bt54
      omega
    have hwf : wfT t = false := by rw [wfT_eq, hn]; rfl
    refine awp_sel [] (by simp only [LS, SS, SX, HS, mkS_cons, mkS_nil, ↓reduceIte, eq_self', List.map_nil, beq_self_eq_true, Nat.reduceEqDiff, Nat.reduceAdd, Nat.succ_ne_self, vint, TyS, TyF, BdS, Int.cast_ofNat_Int, d0, d1, d2, d3, d4, d5, d6, d7, d8, d9, d10] <;> with_reducible rfl) ?_
    -- region 21
    repeat (refine awp_seq ?_)
    refine e_eval (by simp only [asq, as0, as1, as2, awanted, aop, LS, SS, SX, HS, mkS_cons, mkS_nil, ↓reduceIte, eq_self', List.map_nil, beq_self_eq_true, Nat.reduceEqDiff, Nat.reduceAdd, Nat.reduceMul, Nat.reduceLT, Nat.reduceLeDiff, Nat.reducePow, Nat.reduceDiv, Nat.reduceMod, Nat.succ_ne_self, Nat.reduceBEq, Nat.reduceBNe, vint, TyS, TyF, BdS, Int.cast_ofNat_Int, d0, d1, d2, d3, d4, d5, d6, d7, d8, d9, d10] <;> with_reducible rfl) (by decide) ?_
    repeat (refine awp_seq ?_)
    -- leaf 0 ret
    refine awp_ret ⟨.inr rfl, _, rfl, ?_⟩
    rw [hwf]; rfl
  · -- else t54
    have hn : nwf t = true := by
      unfold nwf
      simp only [d0, d1, d2, d3, d4, d5, d6, d7, d8, d9, d10, Bool.or_false, Bool.or_true, Bool.false_or, Bool.true_or, if_true, if_false, Bool.false_eq_true]
      simp only [Bool.or_eq_true, Bool.and_eq_true, Bool.not_eq_true', Bool.and_eq_false_iff, Bool.or_eq_false_iff, Bool.not_eq_false', decide_eq_true_eq, decide_eq_false_iff_not] at bt54 ⊢
      omega
    repeat (refine awp_seq ?_)
    refine awp_skip ?_
    refine awp_sel [1] (by simp only [LS, SS, SX, HS, mkS_cons, mkS_nil, ↓reduceIte, eq_self', List.map_nil, beq_self_eq_true, Nat.reduceEqDiff, Nat.reduceAdd, Nat.succ_ne_self, vint, TyS, TyF, BdS, Int.cast_ofNat_Int, d0, d1, d2, d3, d4, d5, d6, d7, d8, d9, d10] <;> with_reducible rfl) ?_
    -- region 22
    repeat (refine awp_seq ?_)
    refine e_eval (by simp only [asq, as0, as1, as2, awanted, aop, afldAddr, ajust, aload, abuiltin, LS, SS, SX, HS, mkS_cons, mkS_nil, ↓reduceIte, eq_self', List.map_nil, beq_self_eq_true, Nat.reduceEqDiff, Nat.reduceAdd, Nat.reduceMul, Nat.reduceLT, Nat.reduceLeDiff, Nat.reducePow, Nat.reduceDiv, Nat.reduceMod, Nat.succ_ne_self, Nat.reduceBEq, Nat.reduceBNe, Tryti22, Tryte22, Trytz22, Trytp22, Tryti24, Trytf24, Trytz24, Trytp24, vint, TyS, TyF, BdS, Int.cast_ofNat_Int, d0, d1, d2, d3, d4, d5, d6, d7, d8, d9, d10] <;> with_reducible rfl) (by decide) ?_
    repeat (refine awp_seq ?_)
    refine awp_forS (σ := Unit) (t.args.length) (fun (s : Unit) => [(56, .slice (t.args.map Ty.enc) .none)]) [56] ([]) (fun (s : Unit) => []) (fun (i : Nat) (s : Unit) => (t.args.take i).any (fun u => !wfT u) = false) (()) (_) rfl rfl rfl rfl rfl rfl rfl rfl rfl (by decide) (by decide) (by decide) (fun _ => rfl) (hw.lenMax) ⟨(by first | rfl | (simp only [LS, SS, SX, HS, mkS_cons, mkS_nil, ↓reduceIte, eq_self', List.map_nil, beq_self_eq_true, Nat.reduceEqDiff, Nat.reduceAdd, Nat.succ_ne_self, vint, TyS, TyF, BdS, Int.cast_ofNat_Int, d0, d1, d2, d3, d4, d5, d6, d7, d8, d9, d10] <;> first | done | with_reducible rfl)), (by first | rfl | (simp only [LS, SS, SX, HS, mkS_cons, mkS_nil, ↓reduceIte, eq_self', List.map_nil, beq_self_eq_true, Nat.reduceEqDiff, Nat.reduceAdd, Nat.succ_ne_self, vint, TyS, TyF, BdS, Int.cast_ofNat_Int, d0, d1, d2, d3, d4, d5, d6, d7, d8, d9, d10] <;> first | done | with_reducible rfl)), (by first | rfl | (simp only [LS, SS, SX, HS, mkS_cons, mkS_nil, ↓reduceIte, eq_self', List.map_nil, beq_self_eq_true, Nat.reduceEqDiff, Nat.reduceAdd, Nat.succ_ne_self, vint, TyS, TyF, BdS, Int.cast_ofNat_Int, d0, d1, d2, d3, d4, d5, d6, d7, d8, d9, d10] <;> first | done | with_reducible rfl)), trivial⟩ (by first | rfl | (simp only [LS, SS, SX, HS, mkS_cons, mkS_nil, ↓reduceIte, eq_self', List.map_nil, beq_self_eq_true, Nat.reduceEqDiff, Nat.reduceAdd, Nat.succ_ne_self, vint, TyS, TyF, BdS, Int.cast_ofNat_Int, d0, d1, d2, d3, d4, d5, d6, d7, d8, d9, d10] <;> first | done | with_reducible rfl)) (by simp) (fun _ _ _ => by first | exact Nat.zero_le _ | (simp only [List.length_append]; omega)) ?_ ?_ ?_
    · exact fun i s hg => ⟨by first | exact hbel_nil _ | (simp only [List.append_nil]; assumption) | (refine hbel_app' hb' (by simp) ?_; repeat (first | exact hbel_nil _ | exact trivial | exact obel_row_nil _ | (refine HBel.cons ?_ ?_) | (refine obel_row_cons (by first | exact bel_Bd _ _ | exact Bd.bel _ _ | exact bel_int_tok _ (by simp) | exact bel_ints0 _ _ | exact bel_slice_ty _ _ | exact Ty.bel _ _ | exact bel_ty_tok _ (by simp) | exact Bel.int _ _ | exact Bel.bool _ | exact Bel.str _ | exact Bel.nilp | exact Bel.nilfn | exact Bel.optr _ _ (by simp) | exact bel_nil0 _ | exact bel_nil1 _ | exact bel_fn0 _ _ | assumption) ?_))), by repeat (first | exact BelL.nil | refine BelL.cons (by first | exact bel_Bd _ _ | exact Bd.bel _ _ | exact bel_int_tok _ (by simp) | exact bel_ints0 _ _ | exact bel_slice_ty _ _ | exact Ty.bel _ _ | exact bel_ty_tok _ (by simp) | exact Bel.int _ _ | exact Bel.bool _ | exact Bel.str _ | exact Bel.nilp | exact Bel.nilfn | exact Bel.optr _ _ (by simp) | exact bel_nil0 _ | exact bel_nil1 _ | exact bel_fn0 _ _ | assumption) ?_)⟩
    · intro i s hi hg
      have g1 := ix_nat hi
      have g2 := get_enc Ty.enc hi
      have hmem : t.args[i] ∈ t.args := List.getElem_mem hi
      -- region 24
      repeat (refine awp_seq ?_)
      refine e_eval (by simp only [asq, as0, as1, as2, awanted, aop, aidxAddr, aidx, ajust, aload, astore, splice, LS, SS, SX, HS, mkS_cons, mkS_nil, ↓reduceIte, eq_self', List.map_nil, beq_self_eq_true, Nat.reduceEqDiff, Nat.reduceAdd, Nat.reduceMul, Nat.reduceLT, Nat.reduceLeDiff, Nat.reducePow, Nat.reduceDiv, Nat.reduceMod, Nat.succ_ne_self, Nat.reduceBEq, Nat.reduceBNe, Tryti22, Tryte22, Trytz22, Trytp22, Tryti24, Trytf24, Trytz24, Trytp24, vint, TyS, TyF, BdS, Int.cast_ofNat_Int, d0, d1, d2, d3, d4, d5, d6, d7, d8, d9, d10, g1, g2, Int.toNat_natCast] <;> with_reducible rfl) (by decide) ?_
      -- region 25
      repeat (refine awp_seq ?_)
      refine awp_region ?_
      refine e_take 1 (by simp only [asq, as0, as1, as2, awanted, aop, aload, ajust, LS, SS, SX, HS, mkS_cons, mkS_nil, ↓reduceIte, eq_self', List.map_nil, beq_self_eq_true, Nat.reduceEqDiff, Nat.reduceAdd, Nat.reduceMul, Nat.reduceLT, Nat.reduceLeDiff, Nat.reducePow, Nat.reduceDiv, Nat.reduceMod, Nat.succ_ne_self, Nat.reduceBEq, Nat.reduceBNe, Tryti24, Trytf24, Trytz24, Trytp24, vint, TyS, TyF, BdS, Int.cast_ofNat_Int, d0, d1, d2, d3, d4, d5, d6, d7, d8, d9, d10, g1, g2, Int.toNat_natCast] <;> with_reducible rfl) (by decide) ?_
      refine aops_pure (by simp only [acall, awanted, LS, SS, SX, HS, mkS_cons, mkS_nil, ↓reduceIte, eq_self', List.map_nil, beq_self_eq_true, Nat.reduceEqDiff, Nat.reduceAdd, Nat.reduceMul, Nat.reduceLT, Nat.reduceLeDiff, Nat.reducePow, Nat.reduceDiv, Nat.reduceMod, Nat.succ_ne_self, Nat.reduceBEq, Nat.reduceBNe, vint, TyS, TyF, BdS, Int.cast_ofNat_Int, d0, d1, d2, d3, d4, d5, d6, d7, d8, d9, d10, g1, g2, Int.toNat_natCast] <;> with_reducible rfl) (by simp only [acall, awanted, LS, SS, SX, HS, mkS_cons, mkS_nil, ↓reduceIte, eq_self', List.map_nil, beq_self_eq_true, Nat.reduceEqDiff, Nat.reduceAdd, Nat.reduceMul, Nat.reduceLT, Nat.reduceLeDiff, Nat.reducePow, Nat.reduceDiv, Nat.reduceMod, Nat.succ_ne_self, Nat.reduceBEq, Nat.reduceBNe, vint, TyS, TyF, BdS, Int.cast_ofNat_Int, d0, d1, d2, d3, d4, d5, d6, d7, d8, d9, d10, g1, g2, Int.toNat_natCast]) (by decide) Trygo93 (ih t.args[i] hmem _) ?_
      refine e_end (by simp only [asq, as0, as1, as2, awanted, aop, aun, ajust, LS, SS, SX, HS, mkS_cons, mkS_nil, ↓reduceIte, eq_self', List.map_nil, beq_self_eq_true, Nat.reduceEqDiff, Nat.reduceAdd, Nat.reduceMul, Nat.reduceLT, Nat.reduceLeDiff, Nat.reducePow, Nat.reduceDiv, Nat.reduceMod, Nat.succ_ne_self, Nat.reduceBEq, Nat.reduceBNe, vint, TyS, TyF, BdS, Int.cast_ofNat_Int, d0, d1, d2, d3, d4, d5, d6, d7, d8, d9, d10, g1, g2, Int.toNat_natCast] <;> with_reducible rfl) (by decide) ?_
      repeat (refine awp_seq ?_)
      refine awp_cond rfl (by simp only [LS, SS, SX, HS, mkS_cons, mkS_nil, ↓reduceIte, eq_self', List.map_nil, beq_self_eq_true, Nat.reduceEqDiff, Nat.reduceAdd, Nat.succ_ne_self, vint, TyS, TyF, BdS, Int.cast_ofNat_Int, d0, d1, d2, d3, d4, d5, d6, d7, d8, d9, d10, g1, g2, Int.toNat_natCast] <;> with_reducible rfl) (fun bt64 => ?_) (fun bt64 => ?_)
      · -- if t64
        have hbad : (t.args.any fun u => !wfT u) = true := List.any_eq_true.2 ⟨_, hmem, bt64⟩
        have hwf : wfT t = false := by rw [wfT_eq, hn, hbad]; rfl
        -- region 26
        repeat (refine awp_seq ?_)
        refine e_eval (by simp only [asq, as0, as1, as2, awanted, aop, LS, SS, SX, HS, mkS_cons, mkS_nil, ↓reduceIte, eq_self', List.map_nil, beq_self_eq_true, Nat.reduceEqDiff, Nat.reduceAdd, Nat.reduceMul, Nat.reduceLT, Nat.reduceLeDiff, Nat.reducePow, Nat.reduceDiv, Nat.reduceMod, Nat.succ_ne_self, Nat.reduceBEq, Nat.reduceBNe, vint, TyS, TyF, BdS, Int.cast_ofNat_Int, d0, d1, d2, d3, d4, d5, d6, d7, d8, d9, d10, g1, g2, Int.toNat_natCast] <;> with_reducible rfl) (by decide) ?_
        repeat (refine awp_seq ?_)
        -- leaf 1 ret
        refine awp_ret ⟨.inr rfl, _, rfl, ?_⟩
        rw [hwf]; rfl
      · -- else t64
        repeat (refine awp_seq ?_)
        refine awp_skip ?_
        -- leaf 2 next1
        exact ⟨⟨rfl, rfl, trivial⟩, (), _, ⟨rfl, trivial⟩, rfl, any_take_succ hi hg bt64⟩
    · intro s hg
      rw [List.take_length] at hg
      have hwf : wfT t = true := by rw [wfT_eq, hn, hg]; rfl
      -- region 28
      repeat (refine awp_seq ?_)
      refine e_eval (by simp only [asq, as0, as1, as2, awanted, aop, LS, SS, SX, HS, mkS_cons, mkS_nil, ↓reduceIte, eq_self', List.map_nil, beq_self_eq_true, Nat.reduceEqDiff, Nat.reduceAdd, Nat.reduceMul, Nat.reduceLT, Nat.reduceLeDiff, Nat.reducePow, Nat.reduceDiv, Nat.reduceMod, Nat.succ_ne_self, Nat.reduceBEq, Nat.reduceBNe, vint, TyS, TyF, BdS, Int.cast_ofNat_Int, d0, d1, d2, d3, d4, d5, d6, d7, d8, d9, d10] <;> with_reducible rfl) (by decide) ?_
      repeat (refine awp_seq ?_)
      -- leaf 3 ret
      refine awp_ret ⟨.inr rfl, _, rfl, ?_⟩
      rw [hwf]; rfl

theorem typeWF_8 (t : Ty) (hk : t.kind = 8) (hw : t.W) (ih : ∀ u ∈ t.args, PC Try.prog 93 [u.enc] (.bool (wfT u))) : PC Try.prog 93 [t.enc] (.bool (wfT t)) := by
  have hlen0 : (0 : Int) ≤ (t.args.length : Int) := by omega
  have d0 : decide (t.kind = 0) = false := decide_eq_false (by omega)
  have d1 : decide (t.kind = 1) = false := decide_eq_false (by omega)
  have d2 : decide (t.kind = 2) = false := decide_eq_false (by omega)
  have d3 : decide (t.kind = 3) = false := decide_eq_false (by omega)
  have d4 : decide (t.kind = 4) = false := decide_eq_false (by omega)
  have d5 : decide (t.kind = 5) = false := decide_eq_false (by omega)
  have d6 : decide (t.kind = 6) = false := decide_eq_false (by omega)
  have d7 : decide (t.kind = 7) = false := decide_eq_false (by omega)
  have d8 : decide (t.kind = 8) = true := decide_eq_true hk
  have d9 : decide (t.kind = 9) = false := decide_eq_false (by omega)
  have d10 : decide (t.kind = 10) = false := decide_eq_false (by omega)
  refine pc_of (N := 66) Try.func93 rfl rfl (by simp) (by simp [Ty.bel]) (.bool _) ?_
  -- region 0
  repeat (refine awp_seq ?_)
  refine e_eval (by simp only [asq, as0, as1, as2, awanted, aop, LS, SS, SX, HS, mkS_cons, mkS_nil, ↓reduceIte, eq_self', List.map_nil, beq_self_eq_true, Nat.reduceEqDiff, Nat.reduceAdd, Nat.reduceMul, Nat.reduceLT, Nat.reduceLeDiff, Nat.reducePow, Nat.reduceDiv, Nat.reduceMod, Nat.succ_ne_self, Nat.reduceBEq, Nat.reduceBNe, Tryti24, Trytf24, Trytz24, Trytp24, vint, TyS, TyF, BdS, Int.cast_ofNat_Int, d0, d1, d2, d3, d4, d5, d6, d7, d8, d9, d10] <;> with_reducible rfl) (by decide) ?_
  -- region 1
  repeat (refine awp_seq ?_)
  refine e_eval (by simp only [asq, as0, as1, as2, awanted, aop, LS, SS, SX, HS, mkS_cons, mkS_nil, ↓reduceIte, eq_self', List.map_nil, beq_self_eq_true, Nat.reduceEqDiff, Nat.reduceAdd, Nat.reduceMul, Nat.reduceLT, Nat.reduceLeDiff, Nat.reducePow, Nat.reduceDiv, Nat.reduceMod, Nat.succ_ne_self, Nat.reduceBEq, Nat.reduceBNe, vint, TyS, TyF, BdS, Int.cast_ofNat_Int, d0, d1, d2, d3, d4, d5, d6, d7, d8, d9, d10] <;> with_reducible rfl) (by decide) ?_
  -- region 2
  repeat (refine awp_seq ?_)
  refine e_eval (by simp only [asq, as0, as1, as2, awanted, aop, afldAddr, ajust, aload, LS, SS, SX, HS, mkS_cons, mkS_nil, ↓reduceIte, eq_self', List.map_nil, beq_self_eq_true, Nat.reduceEqDiff, Nat.reduceAdd, Nat.reduceMul, Nat.reduceLT, Nat.reduceLeDiff, Nat.reducePow, Nat.reduceDiv, Nat.reduceMod, Nat.succ_ne_self, Nat.reduceBEq, Nat.reduceBNe, Tryti3, Trytz3, Trytp3, Trytk3, Tryti24, Trytf24, Trytz24, Trytp24, vint, TyS, TyF, BdS, Int.cast_ofNat_Int, d0, d1, d2, d3, d4, d5, d6, d7, d8, d9, d10] <;> with_reducible rfl) (by decide) ?_
  repeat (refine awp_seq ?_)
  refine awp_block ?_
  -- region 4
  repeat (refine awp_seq ?_)
  refine e_eval (by simp only [asq, as0, as1, as2, awanted, aop, abin, ajust, LS, SS, SX, HS, mkS_cons, mkS_nil, ↓reduceIte, eq_self', List.map_nil, beq_self_eq_true, Nat.reduceEqDiff, Nat.reduceAdd, Nat.reduceMul, Nat.reduceLT, Nat.reduceLeDiff, Nat.reducePow, Nat.reduceDiv, Nat.reduceMod, Nat.succ_ne_self, Nat.reduceBEq, Nat.reduceBNe, Tryti3, Trytz3, Trytp3, Trytk3, vint, TyS, TyF, BdS, Int.cast_ofNat_Int, d0, d1, d2, d3, d4, d5, d6, d7, d8, d9, d10] <;> with_reducible rfl) (by decide) ?_
  repeat (refine awp_seq ?_)
  refine awp_cond_false rfl (by simp only [LS, SS, SX, HS, mkS_cons, mkS_nil, ↓reduceIte, eq_self', List.map_nil, beq_self_eq_true, Nat.reduceEqDiff, Nat.reduceAdd, Nat.succ_ne_self, vint, TyS, TyF, BdS, Int.cast_ofNat_Int, d0, d1, d2, d3, d4, d5, d6, d7, d8, d9, d10] <;> with_reducible rfl) ?_
  -- region 5
  repeat (refine awp_seq ?_)
  refine e_eval (by simp only [asq, as0, as1, as2, awanted, aop, abin, ajust, LS, SS, SX, HS, mkS_cons, mkS_nil, ↓reduceIte, eq_self', List.map_nil, beq_self_eq_true, Nat.reduceEqDiff, Nat.reduceAdd, Nat.reduceMul, Nat.reduceLT, Nat.reduceLeDiff, Nat.reducePow, Nat.reduceDiv, Nat.reduceMod, Nat.succ_ne_self, Nat.reduceBEq, Nat.reduceBNe, Tryti3, Trytz3, Trytp3, Trytk3, vint, TyS, TyF, BdS, Int.cast_ofNat_Int, d0, d1, d2, d3, d4, d5, d6, d7, d8, d9, d10] <;> with_reducible rfl) (by decide) ?_
  repeat (refine awp_seq ?_)
  refine awp_cond_false rfl (by simp only [LS, SS, SX, HS, mkS_cons, mkS_nil, ↓reduceIte, eq_self', List.map_nil, beq_self_eq_true, Nat.reduceEqDiff, Nat.reduceAdd, Nat.succ_ne_self, vint, TyS, TyF, BdS, Int.cast_ofNat_Int, d0, d1, d2, d3, d4, d5, d6, d7, d8, d9, d10] <;> with_reducible rfl) ?_
  -- region 6
  repeat (refine awp_seq ?_)
  refine e_eval (by simp only [asq, as0, as1, as2, awanted, aop, abin, ajust, LS, SS, SX, HS, mkS_cons, mkS_nil, ↓reduceIte, eq_self', List.map_nil, beq_self_eq_true, Nat.reduceEqDiff, Nat.reduceAdd, Nat.reduceMul, Nat.reduceLT, Nat.reduceLeDiff, Nat.reducePow, Nat.reduceDiv, Nat.reduceMod, Nat.succ_ne_self, Nat.reduceBEq, Nat.reduceBNe, Tryti3, Trytz3, Trytp3, Trytk3, vint, TyS, TyF, BdS, Int.cast_ofNat_Int, d0, d1, d2, d3, d4, d5, d6, d7, d8, d9, d10] <;> with_reducible rfl) (by decide) ?_
  repeat (refine awp_seq ?_)
  refine awp_cond_false rfl (by simp only [LS, SS, SX, HS, mkS_cons, mkS_nil, ↓reduceIte, eq_self', List.map_nil, beq_self_eq_true, Nat.reduceEqDiff, Nat.reduceAdd, Nat.succ_ne_self, vint, TyS, TyF, BdS, Int.cast_ofNat_Int, d0, d1, d2, d3, d4, d5, d6, d7, d8, d9, d10] <;> with_reducible rfl) ?_
  -- region 7
  repeat (refine awp_seq ?_)
  refine e_eval (by simp only [asq, as0, as1, as2, awanted, aop, abin, ajust, LS, SS, SX, HS, mkS_cons, mkS_nil, ↓reduceIte, eq_self', List.map_nil, beq_self_eq_true, Nat.reduceEqDiff, Nat.reduceAdd, Nat.reduceMul, Nat.reduceLT, Nat.reduceLeDiff, Nat.reducePow, Nat.reduceDiv, Nat.reduceMod, Nat.succ_ne_self, Nat.reduceBEq, Nat.reduceBNe, Tryti3, Trytz3, Trytp3, Trytk3, vint, TyS, TyF, BdS, Int.cast_ofNat_Int, d0, d1, d2, d3, d4, d5, d6, d7, d8, d9, d10] <;> with_reducible rfl) (by decide) ?_
  repeat (refine awp_seq ?_)
  refine awp_cond_false rfl (by simp only [LS, SS, SX, HS, mkS_cons, mkS_nil, ↓reduceIte, eq_self', List.map_nil, beq_self_eq_true, Nat.reduceEqDiff, Nat.reduceAdd, Nat.succ_ne_self, vint, TyS, TyF, BdS, Int.cast_ofNat_Int, d0, d1, d2, d3, d4, d5, d6, d7, d8, d9, d10] <;> with_reducible rfl) ?_
  refine awp_sel [1, 3, 4, 5, 9] (by simp only [LS, SS, SX, HS, mkS_cons, mkS_nil, ↓reduceIte, eq_self', List.map_nil, beq_self_eq_true, Nat.reduceEqDiff, Nat.reduceAdd, Nat.succ_ne_self, vint, TyS, TyF, BdS, Int.cast_ofNat_Int, d0, d1, d2, d3, d4, d5, d6, d7, d8, d9, d10] <;> with_reducible rfl) ?_
  -- region 8
  repeat (refine awp_seq ?_)
  refine e_eval (by simp only [asq, as0, as1, as2, awanted, aop, abin, ajust, LS, SS, SX, HS, mkS_cons, mkS_nil, ↓reduceIte, eq_self', List.map_nil, beq_self_eq_true, Nat.reduceEqDiff, Nat.reduceAdd, Nat.reduceMul, Nat.reduceLT, Nat.reduceLeDiff, Nat.reducePow, Nat.reduceDiv, Nat.reduceMod, Nat.succ_ne_self, Nat.reduceBEq, Nat.reduceBNe, Tryti3, Trytz3, Trytp3, Trytk3, vint, TyS, TyF, BdS, Int.cast_ofNat_Int, d0, d1, d2, d3, d4, d5, d6, d7, d8, d9, d10] <;> with_reducible rfl) (by decide) ?_
  repeat (refine awp_seq ?_)
  refine awp_cond_false rfl (by simp only [LS, SS, SX, HS, mkS_cons, mkS_nil, ↓reduceIte, eq_self', List.map_nil, beq_self_eq_true, Nat.reduceEqDiff, Nat.reduceAdd, Nat.succ_ne_self, vint, TyS, TyF, BdS, Int.cast_ofNat_Int, d0, d1, d2, d3, d4, d5, d6, d7, d8, d9, d10] <;> with_reducible rfl) ?_
  -- region 9
  repeat (refine awp_seq ?_)
  refine e_eval (by simp only [asq, as0, as1, as2, awanted, aop, abin, ajust, LS, SS, SX, HS, mkS_cons, mkS_nil, ↓reduceIte, eq_self', List.map_nil, beq_self_eq_true, Nat.reduceEqDiff, Nat.reduceAdd, Nat.reduceMul, Nat.reduceLT, Nat.reduceLeDiff, Nat.reducePow, Nat.reduceDiv, Nat.reduceMod, Nat.succ_ne_self, Nat.reduceBEq, Nat.reduceBNe, Tryti3, Trytz3, Trytp3, Trytk3, vint, TyS, TyF, BdS, Int.cast_ofNat_Int, d0, d1, d2, d3, d4, d5, d6, d7, d8, d9, d10] <;> with_reducible rfl) (by decide) ?_
  repeat (refine awp_seq ?_)
  refine awp_cond_false rfl (by simp only [LS, SS, SX, HS, mkS_cons, mkS_nil, ↓reduceIte, eq_self', List.map_nil, beq_self_eq_true, Nat.reduceEqDiff, Nat.reduceAdd, Nat.succ_ne_self, vint, TyS, TyF, BdS, Int.cast_ofNat_Int, d0, d1, d2, d3, d4, d5, d6, d7, d8, d9, d10] <;> with_reducible rfl) ?_
  -- region 10
  repeat (refine awp_seq ?_)
  refine e_eval (by simp only [asq, as0, as1, as2, awanted, aop, abin, ajust, LS, SS, SX, HS, mkS_cons, mkS_nil, ↓reduceIte, eq_self', List.map_nil, beq_self_eq_true, Nat.reduceEqDiff, Nat.reduceAdd, Nat.reduceMul, Nat.reduceLT, Nat.reduceLeDiff, Nat.reducePow, Nat.reduceDiv, Nat.reduceMod, Nat.succ_ne_self, Nat.reduceBEq, Nat.reduceBNe, Tryti3, Trytz3, Trytp3, Trytk3, vint, TyS, TyF, BdS, Int.cast_ofNat_Int, d0, d1, d2, d3, d4, d5, d6, d7, d8, d9, d10] <;> with_reducible rfl) (by decide) ?_
  repeat (refine awp_seq ?_)
  refine awp_cond_false rfl (by simp only [LS, SS, SX, HS, mkS_cons, mkS_nil, ↓reduceIte, eq_self', List.map_nil, beq_self_eq_true, Nat.reduceEqDiff, Nat.reduceAdd, Nat.succ_ne_self, vint, TyS, TyF, BdS, Int.cast_ofNat_Int, d0, d1, d2, d3, d4, d5, d6, d7, d8, d9, d10] <;> with_reducible rfl) ?_
  -- region 12
  repeat (refine awp_seq ?_)
  refine e_eval (by simp only [asq, as0, as1, as2, awanted, aop, abin, ajust, LS, SS, SX, HS, mkS_cons, mkS_nil, ↓reduceIte, eq_self', List.map_nil, beq_self_eq_true, Nat.reduceEqDiff, Nat.reduceAdd, Nat.reduceMul, Nat.reduceLT, Nat.reduceLeDiff, Nat.reducePow, Nat.reduceDiv, Nat.reduceMod, Nat.succ_ne_self, Nat.reduceBEq, Nat.reduceBNe, Tryti3, Trytz3, Trytp3, Trytk3, vint, TyS, TyF, BdS, Int.cast_ofNat_Int, d0, d1, d2, d3, d4, d5, d6, d7, d8, d9, d10] <;> with_reducible rfl) (by decide) ?_
  repeat (refine awp_seq ?_)
  refine awp_cond_false rfl (by simp only [LS, SS, SX, HS, mkS_cons, mkS_nil, ↓reduceIte, eq_self', List.map_nil, beq_self_eq_true, Nat.reduceEqDiff, Nat.reduceAdd, Nat.succ_ne_self, vint, TyS, TyF, BdS, Int.cast_ofNat_Int, d0, d1, d2, d3, d4, d5, d6, d7, d8, d9, d10] <;> with_reducible rfl) ?_
  -- region 14
  repeat (refine awp_seq ?_)
  refine e_eval (by simp only [asq, as0, as1, as2, awanted, aop, abin, ajust, LS, SS, SX, HS, mkS_cons, mkS_nil, ↓reduceIte, eq_self', List.map_nil, beq_self_eq_true, Nat.reduceEqDiff, Nat.reduceAdd, Nat.reduceMul, Nat.reduceLT, Nat.reduceLeDiff, Nat.reducePow, Nat.reduceDiv, Nat.reduceMod, Nat.succ_ne_self, Nat.reduceBEq, Nat.reduceBNe, Tryti3, Trytz3, Trytp3, Trytk3, vint, TyS, TyF, BdS, Int.cast_ofNat_Int, d0, d1, d2, d3, d4, d5, d6, d7, d8, d9, d10] <;> with_reducible rfl) (by decide) ?_
  repeat (refine awp_seq ?_)
  refine awp_cond_true rfl (by simp only [LS, SS, SX, HS, mkS_cons, mkS_nil, ↓reduceIte, eq_self', List.map_nil, beq_self_eq_true, Nat.reduceEqDiff, Nat.reduceAdd, Nat.succ_ne_self, vint, TyS, TyF, BdS, Int.cast_ofNat_Int, d0, d1, d2, d3, d4, d5, d6, d7, d8, d9, d10] <;> with_reducible rfl) ?_
  -- region 15
  repeat (refine awp_seq ?_)
  refine e_eval (by simp only [asq, as0, as1, as2, awanted, aop, LS, SS, SX, HS, mkS_cons, mkS_nil, ↓reduceIte, eq_self', List.map_nil, beq_self_eq_true, Nat.reduceEqDiff, Nat.reduceAdd, Nat.reduceMul, Nat.reduceLT, Nat.reduceLeDiff, Nat.reducePow, Nat.reduceDiv, Nat.reduceMod, Nat.succ_ne_self, Nat.reduceBEq, Nat.reduceBNe, vint, TyS, TyF, BdS, Int.cast_ofNat_Int, d0, d1, d2, d3, d4, d5, d6, d7, d8, d9, d10] <;> with_reducible rfl) (by decide) ?_
  -- region 20
  repeat (refine awp_seq ?_)
  refine awp_region ?_
  refine aops_gstart ?_
  refine g_take 5 (by simp only [gsq, gs0, gs1, gs2, gcond, gop, SG, Op.operands, Call.operands, Array.toList_append, aop, afldAddr, ajust, aload, abuiltin, LS, SS, SX, HS, mkS_cons, mkS_nil, ↓reduceIte, eq_self', List.map_nil, beq_self_eq_true, Nat.reduceEqDiff, Nat.reduceAdd, Nat.reduceMul, Nat.reduceLT, Nat.reduceLeDiff, Nat.reducePow, Nat.reduceDiv, Nat.reduceMod, Nat.succ_ne_self, Nat.reduceBEq, Nat.reduceBNe, Tryti22, Tryte22, Trytz22, Trytp22, Tryti24, Trytf24, Trytz24, Trytp24, vint, TyS, TyF, BdS, Int.cast_ofNat_Int, d0, d1, d2, d3, d4, d5, d6, d7, d8, d9, d10] <;> with_reducible rfl) (by decide) ?_
  refine aops_gpure (by simp only [acall, gcond, SG, Op.operands, Call.operands, Array.toList_append, LS, SS, SX, HS, mkS_cons, mkS_nil, ↓reduceIte, eq_self', List.map_nil, beq_self_eq_true, Nat.reduceEqDiff, Nat.reduceAdd, Nat.reduceMul, Nat.reduceLT, Nat.reduceLeDiff, Nat.reducePow, Nat.reduceDiv, Nat.reduceMod, Nat.succ_ne_self, Nat.reduceBEq, Nat.reduceBNe, vint, TyS, TyF, BdS, Int.cast_ofNat_Int, d0, d1, d2, d3, d4, d5, d6, d7, d8, d9, d10] <;> with_reducible rfl) (by simp only [acall, gcond, SG, Op.operands, Call.operands, Array.toList_append, LS, SS, SX, HS, mkS_cons, mkS_nil, ↓reduceIte, eq_self', List.map_nil, beq_self_eq_true, Nat.reduceEqDiff, Nat.reduceAdd, Nat.reduceMul, Nat.reduceLT, Nat.reduceLeDiff, Nat.reducePow, Nat.reduceDiv, Nat.reduceMod, Nat.succ_ne_self, Nat.reduceBEq, Nat.reduceBNe, vint, TyS, TyF, BdS, Int.cast_ofNat_Int, d0, d1, d2, d3, d4, d5, d6, d7, d8, d9, d10] <;> with_reducible rfl) (by simp only [acall, gcond, SG, Op.operands, Call.operands, Array.toList_append, LS, SS, SX, HS, mkS_cons, mkS_nil, ↓reduceIte, eq_self', List.map_nil, beq_self_eq_true, Nat.reduceEqDiff, Nat.reduceAdd, Nat.reduceMul, Nat.reduceLT, Nat.reduceLeDiff, Nat.reducePow, Nat.reduceDiv, Nat.reduceMod, Nat.succ_ne_self, Nat.reduceBEq, Nat.reduceBNe, vint, TyS, TyF, BdS, Int.cast_ofNat_Int, d0, d1, d2, d3, d4, d5, d6, d7, d8, d9, d10]) (by decide) Trygo98 (fun hc => inRange _ _ _ _) ?_
  refine g_end (by simp only [gsq, gs0, gs1, gs2, gcond, gop, SG, Op.operands, Call.operands, Array.toList_append, aop, aun, ajust, afldAddr, aload, abin, LS, SS, SX, HS, mkS_cons, mkS_nil, ↓reduceIte, eq_self', List.map_nil, beq_self_eq_true, Nat.reduceEqDiff, Nat.reduceAdd, Nat.reduceMul, Nat.reduceLT, Nat.reduceLeDiff, Nat.reducePow, Nat.reduceDiv, Nat.reduceMod, Nat.succ_ne_self, Nat.reduceBEq, Nat.reduceBNe, Tryti3, Trytz3, Trytp3, Trytk3, Tryti24, Trytf24, Trytz24, Trytp24, vint, TyS, TyF, BdS, Int.cast_ofNat_Int, d0, d1, d2, d3, d4, d5, d6, d7, d8, d9, d10] <;> with_reducible rfl) (by decide) (by repeat (first | exact Fin.base _ | with_reducible apply Fin.keep | apply Fin.drop)) ?_
  repeat (refine awp_seq ?_)
  refine awp_cond rfl (by simp only [LS, SS, SX, HS, mkS_cons, mkS_nil, ↓reduceIte, eq_self', List.map_nil, beq_self_eq_true, Nat.reduceEqDiff, Nat.reduceAdd, Nat.succ_ne_self, vint, TyS, TyF, BdS, Int.cast_ofNat_Int, d0, d1, d2, d3, d4, d5, d6, d7, d8, d9, d10] <;> with_reducible rfl) (fun bt54 => ?_) (fun bt54 => ?_)
  · -- if t54
    have hn : nwf t = false := by
      unfold nwf
      simp only [d0, d1, d2, d3, d4, d5, d6, d7, d8, d9, d10, Bool.or_false, Bool.or_true, Bool.false_or, Bool.true_or, if_true, if_false, Bool.false_eq_true]
      rw [Bool.eq_false_iff]
      intro hh
      simp only [Bool.or_eq_true, Bool.and_eq_true, Bool.not_eq_true', Bool.and_eq_false_iff, Bool.or_eq_false_iff, Bool.not_eq_false', decide_eq_true_eq, decide_eq_false_iff_not] at hh bt54
      omega
    have hwf : wfT t = false := by rw [wfT_eq, hn]; rfl
    refine awp_sel [] (by simp only [LS, SS, SX, HS, mkS_cons, mkS_nil, ↓reduceIte, eq_self', List.map_nil, beq_self_eq_true, Nat.reduceEqDiff, Nat.reduceAdd, Nat.succ_ne_self, vint, TyS, TyF, BdS, Int.cast_ofNat_Int, d0, d1, d2, d3, d4, d5, d6, d7, d8, d9, d10] <;> with_reducible rfl) ?_
    -- region 21
    repeat (refine awp_seq ?_)
    refine e_eval (by simp only [asq, as0, as1, as2, awanted, aop, LS, SS, SX, HS, mkS_cons, mkS_nil, ↓reduceIte, eq_self', List.map_nil, beq_self_eq_true, Nat.reduceEqDiff, Nat.reduceAdd, Nat.reduceMul, Nat.reduceLT, Nat.reduceLeDiff, Nat.reducePow, Nat.reduceDiv, Nat.reduceMod, Nat.succ_ne_self, Nat.reduceBEq, Nat.reduceBNe, vint, TyS, TyF, BdS, Int.cast_ofNat_Int, d0, d1, d2, d3, d4, d5, d6, d7, d8, d9, d10] <;> with_reducible rfl) (by decide) ?_
    repeat (refine awp_seq ?_)
    -- leaf 0 ret
    refine awp_ret ⟨.inr rfl, _, rfl, ?_⟩
    rw [hwf]; rfl
  · -- else t54
    have hn : nwf t = true := by
      unfold nwf
      simp only [d0, d1, d2, d3, d4, d5, d6, d7, d8, d9, d10, Bool.or_false, Bool.or_true, Bool.false_or, Bool.true_or, if_true, if_false, Bool.false_eq_true]
      simp only [Bool.or_eq_true, Bool.and_eq_true, Bool.not_eq_true', Bool.and_eq_false_iff, Bool.or_eq_false_iff, Bool.not_eq_false', decide_eq_true_eq, decide_eq_false_iff_not] at bt54 ⊢
      omega
    repeat (refine awp_seq ?_)
    refine awp_skip ?_
    refine awp_sel [1] (by simp only [LS, SS, SX, HS, mkS_cons, mkS_nil, ↓reduceIte, eq_self', List.map_nil, beq_self_eq_true, Nat.reduceEqDiff, Nat.reduceAdd, Nat.succ_ne_self, vint, TyS, TyF, BdS, Int.cast_ofNat_Int, d0, d1, d2, d3, d4, d5, d6, d7, d8, d9, d10] <;> with_reducible rfl) ?_
    -- region 22
    repeat (refine awp_seq ?_)
    refine e_eval (by simp only [asq, as0, as1, as2, awanted, aop, afldAddr, ajust, aload, abuiltin, LS, SS, SX, HS, mkS_cons, mkS_nil, ↓reduceIte, eq_self', List.map_nil, beq_self_eq_true, Nat.reduceEqDiff, Nat.reduceAdd, Nat.reduceMul, Nat.reduceLT, Nat.reduceLeDiff, Nat.reducePow, Nat.reduceDiv, Nat.reduceMod, Nat.succ_ne_self, Nat.reduceBEq, Nat.reduceBNe, Tryti22, Tryte22, Trytz22, Trytp22, Tryti24, Trytf24, Trytz24, Trytp24, vint, TyS, TyF, BdS, Int.cast_ofNat_Int, d0, d1, d2, d3, d4, d5, d6, d7, d8, d9, d10] <;> with_reducible rfl) (by decide) ?_
    repeat (refine awp_seq ?_)
    refine awp_forS (σ := Unit) (t.args.length) (fun (s : Unit) => [(56, .slice (t.args.map Ty.enc) .none)]) [56] ([]) (fun (s : Unit) => []) (fun (i : Nat) (s : Unit) => (t.args.take i).any (fun u => !wfT u) = false) (()) (_) rfl rfl rfl rfl rfl rfl rfl rfl rfl (by decide) (by decide) (by decide) (fun _ => rfl) (hw.lenMax) ⟨(by first | rfl | (simp only [LS, SS, SX, HS, mkS_cons, mkS_nil, ↓reduceIte, eq_self', List.map_nil, beq_self_eq_true, Nat.reduceEqDiff, Nat.reduceAdd, Nat.succ_ne_self, vint, TyS, TyF, BdS, Int.cast_ofNat_Int, d0, d1, d2, d3, d4, d5, d6, d7, d8, d9, d10] <;> first | done | with_reducible rfl)), (by first | rfl | (simp only [LS, SS, SX, HS, mkS_cons, mkS_nil, ↓reduceIte, eq_self', List.map_nil, beq_self_eq_true, Nat.reduceEqDiff, Nat.reduceAdd, Nat.succ_ne_self, vint, TyS, TyF, BdS, Int.cast_ofNat_Int, d0, d1, d2, d3, d4, d5, d6, d7, d8, d9, d10] <;> first | done | with_reducible rfl)), (by first | rfl | (simp only [LS, SS, SX, HS, mkS_cons, mkS_nil, ↓reduceIte, eq_self', List.map_nil, beq_self_eq_true, Nat.reduceEqDiff, Nat.reduceAdd, Nat.succ_ne_self, vint, TyS, TyF, BdS, Int.cast_ofNat_Int, d0, d1, d2, d3, d4, d5, d6, d7, d8, d9, d10] <;> first | done | with_reducible rfl)), trivial⟩ (by first | rfl | (simp only [LS, SS, SX, HS, mkS_cons, mkS_nil, ↓reduceIte, eq_self', List.map_nil, beq_self_eq_true, Nat.reduceEqDiff, Nat.reduceAdd, Nat.succ_ne_self, vint, TyS, TyF, BdS, Int.cast_ofNat_Int, d0, d1, d2, d3, d4, d5, d6, d7, d8, d9, d10] <;> first | done | with_reducible rfl)) (by simp) (fun _ _ _ => by first | exact Nat.zero_le _ | (simp only [List.length_append]; omega)) ?_ ?_ ?_
    · exact fun i s hg => ⟨by first | exact hbel_nil _ | (simp only [List.append_nil]; assumption) | (refine hbel_app' hb' (by simp) ?_; repeat (first | exact hbel_nil _ | exact trivial | exact obel_row_nil _ | (refine HBel.cons ?_ ?_) | (refine obel_row_cons (by first | exact bel_Bd _ _ | exact Bd.bel _ _ | exact bel_int_tok _ (by simp) | exact bel_ints0 _ _ | exact bel_slice_ty _ _ | exact Ty.bel _ _ | exact bel_ty_tok _ (by simp) | exact Bel.int _ _ | exact Bel.bool _ | exact Bel.str _ | exact Bel.nilp | exact Bel.nilfn | exact Bel.optr _ _ (by simp) | exact bel_nil0 _ | exact bel_nil1 _ | exact bel_fn0 _ _ | assumption) ?_))), by repeat (first | exact BelL.nil | refine BelL.cons (by first | exact bel_Bd _ _ | exact Bd.bel _ _ | exact bel_int_tok _ (by simp) | exact bel_ints0 _ _ | exact bel_slice_ty _ _ | exact Ty.bel _ _ | exact bel_ty_tok _ (by simp) | exact Bel.int _ _ | exact Bel.bool _ | exact Bel.str _ | exact Bel.nilp | exact Bel.nilfn | exact Bel.optr _ _ (by simp) | exact bel_nil0 _ | exact bel_nil1 _ | exact bel_fn0 _ _ | assumption) ?_)⟩
    · intro i s hi hg
      have g1 := ix_nat hi
      have g2 := get_enc Ty.enc hi
      have hmem : t.args[i] ∈ t.args := List.getElem_mem hi
      -- region 24
      repeat (refine awp_seq ?_)
      refine e_eval (by simp only [asq, as0, as1, as2, awanted, aop, aidxAddr, aidx, ajust, aload, astore, splice, LS, SS, SX, HS, mkS_cons, mkS_nil, ↓reduceIte, eq_self', List.map_nil, beq_self_eq_true, Nat.reduceEqDiff, Nat.reduceAdd, Nat.reduceMul, Nat.reduceLT, Nat.reduceLeDiff, Nat.reducePow, Nat.reduceDiv, Nat.reduceMod, Nat.succ_ne_self, Nat.reduceBEq, Nat.reduceBNe, Tryti22, Tryte22, Trytz22, Trytp22, Tryti24, Trytf24, Trytz24, Trytp24, vint, TyS, TyF, BdS, Int.cast_ofNat_Int, d0, d1, d2, d3, d4, d5, d6, d7, d8, d9, d10, g1, g2, Int.toNat_natCast] <;> with_reducible rfl) (by decide) ?_
      -- region 25
      repeat (refine awp_seq ?_)
      refine awp_region ?_
      refine e_take 1 (by simp only [asq, as0, as1, as2, awanted, aop, aload, ajust, LS, SS, SX, HS, mkS_cons, mkS_nil, ↓reduceIte, eq_self', List.map_nil, beq_self_eq_true, Nat.reduceEqDiff, Nat.reduceAdd, Nat.reduceMul, Nat.reduceLT, Nat.reduceLeDiff, Nat.reducePow, Nat.reduceDiv, Nat.reduceMod, Nat.succ_ne_self, Nat.reduceBEq, Nat.reduceBNe, Tryti24, Trytf24, Trytz24, Trytp24, vint, TyS, TyF, BdS, Int.cast_ofNat_Int, d0, d1, d2, d3, d4, d5, d6, d7, d8, d9, d10, g1, g2, Int.toNat_natCast] <;> with_reducible rfl) (by decide) ?_
      refine aops_pure (by simp only [acall, awanted, LS, SS, SX, HS, mkS_cons, mkS_nil, ↓reduceIte, eq_self', List.map_nil, beq_self_eq_true, Nat.reduceEqDiff, Nat.reduceAdd, Nat.reduceMul, Nat.reduceLT, Nat.reduceLeDiff, Nat.reducePow, Nat.reduceDiv, Nat.reduceMod, Nat.succ_ne_self, Nat.reduceBEq, Nat.reduceBNe, vint, TyS, TyF, BdS, Int.cast_ofNat_Int, d0, d1, d2, d3, d4, d5, d6, d7, d8, d9, d10, g1, g2, Int.toNat_natCast] <;> with_reducible rfl) (by simp only [acall, awanted, LS, SS, SX, HS, mkS_cons, mkS_nil, ↓reduceIte, eq_self', List.map_nil, beq_self_eq_true, Nat.reduceEqDiff, Nat.reduceAdd, Nat.reduceMul, Nat.reduceLT, Nat.reduceLeDiff, Nat.reducePow, Nat.reduceDiv, Nat.reduceMod, Nat.succ_ne_self, Nat.reduceBEq, Nat.reduceBNe, vint, TyS, TyF, BdS, Int.cast_ofNat_Int, d0, d1, d2, d3, d4, d5, d6, d7, d8, d9, d10, g1, g2, Int.toNat_natCast]) (by decide) Trygo93 (ih t.args[i] hmem _) ?_
      refine e_end (by simp only [asq, as0, as1, as2, awanted, aop, aun, ajust, LS, SS, SX, HS, mkS_cons, mkS_nil, ↓reduceIte, eq_self', List.map_nil, beq_self_eq_true, Nat.reduceEqDiff, Nat.reduceAdd, Nat.reduceMul, Nat.reduceLT, Nat.reduceLeDiff, Nat.reducePow, Nat.reduceDiv, Nat.reduceMod, Nat.succ_ne_self, Nat.reduceBEq, Nat.reduceBNe, vint, TyS, TyF, BdS, Int.cast_ofNat_Int, d0, d1, d2, d3, d4, d5, d6, d7, d8, d9, d10, g1, g2, Int.toNat_natCast] <;> with_reducible rfl) (by decide) ?_
      repeat (refine awp_seq ?_)
      refine awp_cond rfl (by simp only [LS, SS, SX, HS, mkS_cons, mkS_nil, ↓reduceIte, eq_self', List.map_nil, beq_self_eq_true, Nat.reduceEqDiff, Nat.reduceAdd, Nat.succ_ne_self, vint, TyS, TyF, BdS, Int.cast_ofNat_Int, d0, d1, d2, d3, d4, d5, d6, d7, d8, d9, d10, g1, g2, Int.toNat_natCast] <;> with_reducible rfl) (fun bt64 => ?_) (fun bt64 => ?_)
      · -- if t64
        have hbad : (t.args.any fun u => !wfT u) = true := List.any_eq_true.2 ⟨_, hmem, bt64⟩
        have hwf : wfT t = false := by rw [wfT_eq, hn, hbad]; rfl
        -- region 26
        repeat (refine awp_seq ?_)
        refine e_eval (by simp only [asq, as0, as1, as2, awanted, aop, LS, SS, SX, HS, mkS_cons, mkS_nil, ↓reduceIte, eq_self', List.map_nil, beq_self_eq_true, Nat.reduceEqDiff, Nat.reduceAdd, Nat.reduceMul, Nat.reduceLT, Nat.reduceLeDiff, Nat.reducePow, Nat.reduceDiv, Nat.reduceMod, Nat.succ_ne_self, Nat.reduceBEq, Nat.reduceBNe, vint, TyS, TyF, BdS, Int.cast_ofNat_Int, d0, d1, d2, d3, d4, d5, d6, d7, d8, d9, d10, g1, g2, Int.toNat_natCast] <;> with_reducible rfl) (by decide) ?_
        repeat (refine awp_seq ?_)
        -- leaf 1 ret
        refine awp_ret ⟨.inr rfl, _, rfl, ?_⟩
        rw [hwf]; rfl
      · -- else t64
        repeat (refine awp_seq ?_)
        refine awp_skip ?_
        -- leaf 2 next1
        exact ⟨⟨rfl, rfl, trivial⟩, (), _, ⟨rfl, trivial⟩, rfl, any_take_succ hi hg bt64⟩
    · intro s hg
      rw [List.take_length] at hg
      have hwf : wfT t = true := by rw [wfT_eq, hn, hg]; rfl
      -- region 28
      repeat (refine awp_seq ?_)
      refine e_eval (by simp only [asq, as0, as1, as2, awanted, aop, LS, SS, SX, HS, mkS_cons, mkS_nil, ↓reduceIte, eq_self', List.map_nil, beq_self_eq_true, Nat.reduceEqDiff, Nat.reduceAdd, Nat.reduceMul, Nat.reduceLT, Nat.reduceLeDiff, Nat.reducePow, Nat.reduceDiv, Nat.reduceMod, Nat.succ_ne_self, Nat.reduceBEq, Nat.reduceBNe, vint, TyS, TyF, BdS, Int.cast_ofNat_Int, d0, d1, d2, d3, d4, d5, d6, d7, d8, d9, d10] <;> with_reducible rfl) (by decide) ?_
      repeat (refine awp_seq ?_)
      -- leaf 3 ret
      refine awp_ret ⟨.inr rfl, _, rfl, ?_⟩
      rw [hwf]; rfl

theorem typeWF_9 (t : Ty) (hk : t.kind = 9) (hw : t.W) (ih : ∀ u ∈ t.args, PC Try.prog 93 [u.enc] (.bool (wfT u))) : PC Try.prog 93 [t.enc] (.bool (wfT t)) := by
  have hlen0 : (0 : Int) ≤ (t.args.length : Int) := by omega
  have d0 : decide (t.kind = 0) = false := decide_eq_false (by omega)
  have d1 : decide (t.kind = 1) = false := decide_eq_false (by omega)
  have d2 : decide (t.kind = 2) = false := decide_eq_false (by omega)
  have d3 : decide (t.kind = 3) = false := decide_eq_false (by omega)
  have d4 : decide (t.kind = 4) = false := decide_eq_false (by omega)
  have d5 : decide (t.kind = 5) = false := decide_eq_false (by omega)
  have d6 : decide (t.kind = 6) = false := decide_eq_false (by omega)
  have d7 : decide (t.kind = 7) = false := decide_eq_false (by omega)
  have d8 : decide (t.kind = 8) = false := decide_eq_false (by omega)
  have d9 : decide (t.kind = 9) = true := decide_eq_true hk
  have d10 : decide (t.kind = 10) = false := decide_eq_false (by omega)
  refine pc_of (N := 66) Try.func93 rfl rfl (by simp) (by simp [Ty.bel]) (.bool _) ?_
  -- region 0
  repeat (refine awp_seq ?_)
  refine e_eval (by simp only [asq, as0, as1, as2, awanted, aop, LS, SS, SX, HS, mkS_cons, mkS_nil, ↓reduceIte, eq_self', List.map_nil, beq_self_eq_true, Nat.reduceEqDiff, Nat.reduceAdd, Nat.reduceMul, Nat.reduceLT, Nat.reduceLeDiff, Nat.reducePow, Nat.reduceDiv, Nat.reduceMod, Nat.succ_ne_self, Nat.reduceBEq, Nat.reduceBNe, Tryti24, Trytf24, Trytz24, Trytp24, vint, TyS, TyF, BdS, Int.cast_ofNat_Int, d0, d1, d2, d3, d4, d5, d6, d7, d8, d9, d10] <;> with_reducible rfl) (by decide) ?_
  -- region 1
  repeat (refine awp_seq ?_)
  refine e_eval (by simp only [asq, as0, as1, as2, awanted, aop, LS, SS, SX, HS, mkS_cons, mkS_nil, ↓reduceIte, eq_self', List.map_nil, beq_self_eq_true, Nat.reduceEqDiff, Nat.reduceAdd, Nat.reduceMul, Nat.reduceLT, Nat.reduceLeDiff, Nat.reducePow, Nat.reduceDiv, Nat.reduceMod, Nat.succ_ne_self, Nat.reduceBEq, Nat.reduceBNe, vint, TyS, TyF, BdS, Int.cast_ofNat_Int, d0, d1, d2, d3, d4, d5, d6, d7, d8, d9, d10] <;> with_reducible rfl) (by decide) ?_
  -- region 2
  repeat (refine awp_seq ?_)
  refine e_eval (by simp only [asq, as0, as1, as2, awanted, aop, afldAddr, ajust, aload, LS, SS, SX, HS, mkS_cons, mkS_nil, ↓reduceIte, eq_self', List.map_nil, beq_self_eq_true, Nat.reduceEqDiff, Nat.reduceAdd, Nat.reduceMul, Nat.reduceLT, Nat.reduceLeDiff, Nat.reducePow, Nat.reduceDiv, Nat.reduceMod, Nat.succ_ne_self, Nat.reduceBEq, Nat.reduceBNe, Tryti3, Trytz3, Trytp3, Trytk3, Tryti24, Trytf24, Trytz24, Trytp24, vint, TyS, TyF, BdS, Int.cast_ofNat_Int, d0, d1, d2, d3, d4, d5, d6, d7, d8, d9, d10] <;> with_reducible rfl) (by decide) ?_
  repeat (refine awp_seq ?_)
  refine awp_block ?_
  -- region 4
  repeat (refine awp_seq ?_)
  refine e_eval (by simp only [asq, as0, as1, as2, awanted, aop, abin, ajust, LS, SS, SX, HS, mkS_cons, mkS_nil, ↓reduceIte, eq_self', List.map_nil, beq_self_eq_true, Nat.reduceEqDiff, Nat.reduceAdd, Nat.reduceMul, Nat.reduceLT, Nat.reduceLeDiff, Nat.reducePow, Nat.reduceDiv, Nat.reduceMod, Nat.succ_ne_self, Nat.reduceBEq, Nat.reduceBNe, Tryti3, Trytz3, Trytp3, Trytk3, vint, TyS, TyF, BdS, Int.cast_ofNat_Int, d0, d1, d2, d3, d4, d5, d6, d7, d8, d9, d10] <;> with_reducible rfl) (by decide) ?_
  repeat (refine awp_seq ?_)
  refine awp_cond_false rfl (by simp only [LS, SS, SX, HS, mkS_cons, mkS_nil, ↓reduceIte, eq_self', List.map_nil, beq_self_eq_true, Nat.reduceEqDiff, Nat.reduceAdd, Nat.succ_ne_self, vint, TyS, TyF, BdS, Int.cast_ofNat_Int, d0, d1, d2, d3, d4, d5, d6, d7, d8, d9, d10] <;> with_reducible rfl) ?_
  -- region 5
  repeat (refine awp_seq ?_)
  refine e_eval (by simp only [asq, as0, as1, as2, awanted, aop, abin, ajust, LS, SS, SX, HS, mkS_cons, mkS_nil, ↓reduceIte, eq_self', List.map_nil, beq_self_eq_true, Nat.reduceEqDiff, Nat.reduceAdd, Nat.reduceMul, Nat.reduceLT, Nat.reduceLeDiff, Nat.reducePow, Nat.reduceDiv, Nat.reduceMod, Nat.succ_ne_self, Nat.reduceBEq, Nat.reduceBNe, Tryti3, Trytz3, Trytp3, Trytk3, vint, TyS, TyF, BdS, Int.cast_ofNat_Int, d0, d1, d2, d3, d4, d5, d6, d7, d8, d9, d10] <;> with_reducible rfl) (by decide) ?_
  repeat (refine awp_seq ?_)
  refine awp_cond_false rfl (by simp only [LS, SS, SX, HS, mkS_cons, mkS_nil, ↓reduceIte, eq_self', List.map_nil, beq_self_eq_true, Nat.reduceEqDiff, Nat.reduceAdd, Nat.succ_ne_self, vint, TyS, TyF, BdS, Int.cast_ofNat_Int, d0, d1, d2, d3, d4, d5, d6, d7, d8, d9, d10] <;> with_reducible rfl) ?_
  -- region 6
  repeat (refine awp_seq ?_)
  refine e_eval (by simp only [asq, as0, as1, as2, awanted, aop, abin, ajust, LS, SS, SX, HS, mkS_cons, mkS_nil, ↓reduceIte, eq_self', List.map_nil, beq_self_eq_true, Nat.reduceEqDiff, Nat.reduceAdd, Nat.reduceMul, Nat.reduceLT, Nat.reduceLeDiff, Nat.reducePow, Nat.reduceDiv, Nat.reduceMod, Nat.succ_ne_self, Nat.reduceBEq, Nat.reduceBNe, Tryti3, Trytz3, Trytp3, Trytk3, vint, TyS, TyF, BdS, Int.cast_ofNat_Int, d0, d1, d2, d3, d4, d5, d6, d7, d8, d9, d10] <;> with_reducible rfl) (by decide) ?_
  repeat (refine awp_seq ?_)
  refine awp_cond_false rfl (by simp only [LS, SS, SX, HS, mkS_cons, mkS_nil, ↓reduceIte, eq_self', List.map_nil, beq_self_eq_true, Nat.reduceEqDiff, Nat.reduceAdd, Nat.succ_ne_self, vint, TyS, TyF, BdS, Int.cast_ofNat_Int, d0, d1, d2, d3, d4, d5, d6, d7, d8, d9, d10] <;> with_reducible rfl) ?_
  -- region 7
  repeat (refine awp_seq ?_)
  refine e_eval (by simp only [asq, as0, as1, as2, awanted, aop, abin, ajust, LS, SS, SX, HS, mkS_cons, mkS_nil, ↓reduceIte, eq_self', List.map_nil, beq_self_eq_true, Nat.reduceEqDiff, Nat.reduceAdd, Nat.reduceMul, Nat.reduceLT, Nat.reduceLeDiff, Nat.reducePow, Nat.reduceDiv, Nat.reduceMod, Nat.succ_ne_self, Nat.reduceBEq, Nat.reduceBNe, Tryti3, Trytz3, Trytp3, Trytk3, vint, TyS, TyF, BdS, Int.cast_ofNat_Int, d0, d1, d2, d3, d4, d5, d6, d7, d8, d9, d10] <;> with_reducible rfl) (by decide) ?_
  repeat (refine awp_seq ?_)
  refine awp_cond_false rfl (by simp only [LS, SS, SX, HS, mkS_cons, mkS_nil, ↓reduceIte, eq_self', List.map_nil, beq_self_eq_true, Nat.reduceEqDiff, Nat.reduceAdd, Nat.succ_ne_self, vint, TyS, TyF, BdS, Int.cast_ofNat_Int, d0, d1, d2, d3, d4, d5, d6, d7, d8, d9, d10] <;> with_reducible rfl) ?_
  refine awp_sel [1, 3, 4, 5, 9] (by simp only [LS, SS, SX, HS, mkS_cons, mkS_nil, ↓reduceIte, eq_self', List.map_nil, beq_self_eq_true, Nat.reduceEqDiff, Nat.reduceAdd, Nat.succ_ne_self, vint, TyS, TyF, BdS, Int.cast_ofNat_Int, d0, d1, d2, d3, d4, d5, d6, d7, d8, d9, d10] <;> with_reducible rfl) ?_
  -- region 8
  repeat (refine awp_seq ?_)
  refine e_eval (by simp only [asq, as0, as1, as2, awanted, aop, abin, ajust, LS, SS, SX, HS, mkS_cons, mkS_nil, ↓reduceIte, eq_self', List.map_nil, beq_self_eq_true, Nat.reduceEqDiff, Nat.reduceAdd, Nat.reduceMul, Nat.reduceLT, Nat.reduceLeDiff, Nat.reducePow, Nat.reduceDiv, Nat.reduceMod, Nat.succ_ne_self, Nat.reduceBEq, Nat.reduceBNe, Tryti3, Trytz3, Trytp3, Trytk3, vint, TyS, TyF, BdS, Int.cast_ofNat_Int, d0, d1, d2, d3, d4, d5, d6, d7, d8, d9, d10] <;> with_reducible rfl) (by decide) ?_
  repeat (refine awp_seq ?_)
  refine awp_cond_false rfl (by simp only [LS, SS, SX, HS, mkS_cons, mkS_nil, ↓reduceIte, eq_self', List.map_nil, beq_self_eq_true, Nat.reduceEqDiff, Nat.reduceAdd, Nat.succ_ne_self, vint, TyS, TyF, BdS, Int.cast_ofNat_Int, d0, d1, d2, d3, d4, d5, d6, d7, d8, d9, d10] <;> with_reducible rfl) ?_
  -- region 9
  repeat (refine awp_seq ?_)
  refine e_eval (by simp only [asq, as0, as1, as2, awanted, aop, abin, ajust, LS, SS, SX, HS, mkS_cons, mkS_nil, ↓reduceIte, eq_self', List.map_nil, beq_self_eq_true, Nat.reduceEqDiff, Nat.reduceAdd, Nat.reduceMul, Nat.reduceLT, Nat.reduceLeDiff, Nat.reducePow, Nat.reduceDiv, Nat.reduceMod, Nat.succ_ne_self, Nat.reduceBEq, Nat.reduceBNe, Tryti3, Trytz3, Trytp3, Trytk3, vint, TyS, TyF, BdS, Int.cast_ofNat_Int, d0, d1, d2, d3, d4, d5, d6, d7, d8, d9, d10] <;> with_reducible rfl) (by decide) ?_
  repeat (refine awp_seq ?_)
  refine awp_cond_false rfl (by simp only [LS, SS, SX, HS, mkS_cons, mkS_nil, ↓reduceIte, eq_self', List.map_nil, beq_self_eq_true, Nat.reduceEqDiff, Nat.reduceAdd, Nat.succ_ne_self, vint, TyS, TyF, BdS, Int.cast_ofNat_Int, d0, d1, d2, d3, d4, d5, d6, d7, d8, d9, d10] <;> with_reducible rfl) ?_
  -- region 10
  repeat (refine awp_seq ?_)
  refine e_eval (by simp only [asq, as0, as1, as2, awanted, aop, abin, ajust, LS, SS, SX, HS, mkS_cons, mkS_nil, ↓reduceIte, eq_self', List.map_nil, beq_self_eq_true, Nat.reduceEqDiff, Nat.reduceAdd, Nat.reduceMul, Nat.reduceLT, Nat.reduceLeDiff, Nat.reducePow, Nat.reduceDiv, Nat.reduceMod, Nat.succ_ne_self, Nat.reduceBEq, Nat.reduceBNe, Tryti3, Trytz3, Trytp3, Trytk3, vint, TyS, TyF, BdS, Int.cast_ofNat_Int, d0, d1, d2, d3, d4, d5, d6, d7, d8, d9, d10] <;> with_reducible rfl) (by decide) ?_
  repeat (refine awp_seq ?_)
  refine awp_cond_false rfl (by simp only [LS, SS, SX, HS, mkS_cons, mkS_nil, ↓reduceIte, eq_self', List.map_nil, beq_self_eq_true, Nat.reduceEqDiff, Nat.reduceAdd, Nat.succ_ne_self, vint, TyS, TyF, BdS, Int.cast_ofNat_Int, d0, d1, d2, d3, d4, d5, d6, d7, d8, d9, d10] <;> with_reducible rfl) ?_
  -- region 12
  repeat (refine awp_seq ?_)
  refine e_eval (by simp only [asq, as0, as1, as2, awanted, aop, abin, ajust, LS, SS, SX, HS, mkS_cons, mkS_nil, ↓reduceIte, eq_self', List.map_nil, beq_self_eq_true, Nat.reduceEqDiff, Nat.reduceAdd, Nat.reduceMul, Nat.reduceLT, Nat.reduceLeDiff, Nat.reducePow, Nat.reduceDiv, Nat.reduceMod, Nat.succ_ne_self, Nat.reduceBEq, Nat.reduceBNe, Tryti3, Trytz3, Trytp3, Trytk3, vint, TyS, TyF, BdS, Int.cast_ofNat_Int, d0, d1, d2, d3, d4, d5, d6, d7, d8, d9, d10] <;> with_reducible rfl) (by decide) ?_
  repeat (refine awp_seq ?_)
  refine awp_cond_false rfl (by simp only [LS, SS, SX, HS, mkS_cons, mkS_nil, ↓reduceIte, eq_self', List.map_nil, beq_self_eq_true, Nat.reduceEqDiff, Nat.reduceAdd, Nat.succ_ne_self, vint, TyS, TyF, BdS, Int.cast_ofNat_Int, d0, d1, d2, d3, d4, d5, d6, d7, d8, d9, d10] <;> with_reducible rfl) ?_
  -- region 14
  repeat (refine awp_seq ?_)
  refine e_eval (by simp only [asq, as0, as1, as2, awanted, aop, abin, ajust, LS, SS, SX, HS, mkS_cons, mkS_nil, ↓reduceIte, eq_self', List.map_nil, beq_self_eq_true, Nat.reduceEqDiff, Nat.reduceAdd, Nat.reduceMul, Nat.reduceLT, Nat.reduceLeDiff, Nat.reducePow, Nat.reduceDiv, Nat.reduceMod, Nat.succ_ne_self, Nat.reduceBEq, Nat.reduceBNe, Tryti3, Trytz3, Trytp3, Trytk3, vint, TyS, TyF, BdS, Int.cast_ofNat_Int, d0, d1, d2, d3, d4, d5, d6, d7, d8, d9, d10] <;> with_reducible rfl) (by decide) ?_
  repeat (refine awp_seq ?_)
  refine awp_cond_false rfl (by simp only [LS, SS, SX, HS, mkS_cons, mkS_nil, ↓reduceIte, eq_self', List.map_nil, beq_self_eq_true, Nat.reduceEqDiff, Nat.reduceAdd, Nat.succ_ne_self, vint, TyS, TyF, BdS, Int.cast_ofNat_Int, d0, d1, d2, d3, d4, d5, d6, d7, d8, d9, d10] <;> with_reducible rfl) ?_
  -- region 16
  repeat (refine awp_seq ?_)
  refine e_eval (by simp only [asq, as0, as1, as2, awanted, aop, abin, ajust, LS, SS, SX, HS, mkS_cons, mkS_nil, ↓reduceIte, eq_self', List.map_nil, beq_self_eq_true, Nat.reduceEqDiff, Nat.reduceAdd, Nat.reduceMul, Nat.reduceLT, Nat.reduceLeDiff, Nat.reducePow, Nat.reduceDiv, Nat.reduceMod, Nat.succ_ne_self, Nat.reduceBEq, Nat.reduceBNe, Tryti3, Trytz3, Trytp3, Trytk3, vint, TyS, TyF, BdS, Int.cast_ofNat_Int, d0, d1, d2, d3, d4, d5, d6, d7, d8, d9, d10] <;> with_reducible rfl) (by decide) ?_
  repeat (refine awp_seq ?_)
  refine awp_cond_true rfl (by simp only [LS, SS, SX, HS, mkS_cons, mkS_nil, ↓reduceIte, eq_self', List.map_nil, beq_self_eq_true, Nat.reduceEqDiff, Nat.reduceAdd, Nat.succ_ne_self, vint, TyS, TyF, BdS, Int.cast_ofNat_Int, d0, d1, d2, d3, d4, d5, d6, d7, d8, d9, d10] <;> with_reducible rfl) ?_
  -- region 17
  repeat (refine awp_seq ?_)
  refine awp_draw 0 (by kernel_rfl) ?_
  refine d_end (bm := [0, 1, 3, 0, 15]) (fresh := 0) (by kernel_rfl) (by simp only [dsq, ds0, ds1, ds2, ds3, awanted, hapB, effIds, effSet, nextFresh, ard, freshOk, isUnborn, aop, afldAddr, ajust, aload, abuiltin, LS, SS, SX, HS, mkS_cons, mkS_nil, ↓reduceIte, eq_self', List.map_nil, beq_self_eq_true, Nat.reduceEqDiff, Nat.reduceAdd, Nat.reduceMul, Nat.reduceLT, Nat.reduceLeDiff, Nat.reducePow, Nat.reduceDiv, Nat.reduceMod, Nat.succ_ne_self, Nat.reduceBEq, Nat.reduceBNe, Tryti22, Tryte22, Trytz22, Trytp22, Tryti24, Trytf24, Trytz24, Trytp24, vint, TyS, TyF, BdS, Int.cast_ofNat_Int, d0, d1, d2, d3, d4, d5, d6, d7, d8, d9, d10] <;> with_reducible rfl) (by decide) ?_
  refine awp_sel [1, 3, 4, 5] (by simp only [LS, SS, SX, HS, mkS_cons, mkS_nil, ↓reduceIte, eq_self', List.map_nil, beq_self_eq_true, Nat.reduceEqDiff, Nat.reduceAdd, Nat.succ_ne_self, vint, TyS, TyF, BdS, Int.cast_ofNat_Int, d0, d1, d2, d3, d4, d5, d6, d7, d8, d9, d10] <;> with_reducible rfl) ?_
  -- region 20
  repeat (refine awp_seq ?_)
  refine awp_region ?_
  refine aops_gstart ?_
  refine g_take 5 (by simp only [gsq, gs0, gs1, gs2, gcond, gop, SG, Op.operands, Call.operands, Array.toList_append, aop, afldAddr, ajust, aload, abuiltin, LS, SS, SX, HS, mkS_cons, mkS_nil, ↓reduceIte, eq_self', List.map_nil, beq_self_eq_true, Nat.reduceEqDiff, Nat.reduceAdd, Nat.reduceMul, Nat.reduceLT, Nat.reduceLeDiff, Nat.reducePow, Nat.reduceDiv, Nat.reduceMod, Nat.succ_ne_self, Nat.reduceBEq, Nat.reduceBNe, Tryti22, Tryte22, Trytz22, Trytp22, Tryti24, Trytf24, Trytz24, Trytp24, vint, TyS, TyF, BdS, Int.cast_ofNat_Int, d0, d1, d2, d3, d4, d5, d6, d7, d8, d9, d10] <;> with_reducible rfl) (by decide) ?_
  refine aops_gpure (by simp only [acall, gcond, SG, Op.operands, Call.operands, Array.toList_append, LS, SS, SX, HS, mkS_cons, mkS_nil, ↓reduceIte, eq_self', List.map_nil, beq_self_eq_true, Nat.reduceEqDiff, Nat.reduceAdd, Nat.reduceMul, Nat.reduceLT, Nat.reduceLeDiff, Nat.reducePow, Nat.reduceDiv, Nat.reduceMod, Nat.succ_ne_self, Nat.reduceBEq, Nat.reduceBNe, vint, TyS, TyF, BdS, Int.cast_ofNat_Int, d0, d1, d2, d3, d4, d5, d6, d7, d8, d9, d10] <;> with_reducible rfl) (by simp only [acall, gcond, SG, Op.operands, Call.operands, Array.toList_append, LS, SS, SX, HS, mkS_cons, mkS_nil, ↓reduceIte, eq_self', List.map_nil, beq_self_eq_true, Nat.reduceEqDiff, Nat.reduceAdd, Nat.reduceMul, Nat.reduceLT, Nat.reduceLeDiff, Nat.reducePow, Nat.reduceDiv, Nat.reduceMod, Nat.succ_ne_self, Nat.reduceBEq, Nat.reduceBNe, vint, TyS, TyF, BdS, Int.cast_ofNat_Int, d0, d1, d2, d3, d4, d5, d6, d7, d8, d9, d10] <;> with_reducible rfl) (by simp only [acall, gcond, SG, Op.operands, Call.operands, Array.toList_append, LS, SS, SX, HS, mkS_cons, mkS_nil, ↓reduceIte, eq_self', List.map_nil, beq_self_eq_true, Nat.reduceEqDiff, Nat.reduceAdd, Nat.reduceMul, Nat.reduceLT, Nat.reduceLeDiff, Nat.reducePow, Nat.reduceDiv, Nat.reduceMod, Nat.succ_ne_self, Nat.reduceBEq, Nat.reduceBNe, vint, TyS, TyF, BdS, Int.cast_ofNat_Int, d0, d1, d2, d3, d4, d5, d6, d7, d8, d9, d10]) (by decide) Trygo98 (fun hc => inRange _ _ _ _) ?_
  refine g_end (by simp only [gsq, gs0, gs1, gs2, gcond, gop, SG, Op.operands, Call.operands, Array.toList_append, aop, aun, ajust, afldAddr, aload, abin, LS, SS, SX, HS, mkS_cons, mkS_nil, ↓reduceIte, eq_self', List.map_nil, beq_self_eq_true, Nat.reduceEqDiff, Nat.reduceAdd, Nat.reduceMul, Nat.reduceLT, Nat.reduceLeDiff, Nat.reducePow, Nat.reduceDiv, Nat.reduceMod, Nat.succ_ne_self, Nat.reduceBEq, Nat.reduceBNe, Tryti3, Trytz3, Trytp3, Trytk3, Tryti24, Trytf24, Trytz24, Trytp24, vint, TyS, TyF, BdS, Int.cast_ofNat_Int, d0, d1, d2, d3, d4, d5, d6, d7, d8, d9, d10] <;> with_reducible rfl) (by decide) (by repeat (first | exact Fin.base _ | with_reducible apply Fin.keep | apply Fin.drop)) ?_
  repeat (refine awp_seq ?_)
  refine awp_cond rfl (by simp only [LS, SS, SX, HS, mkS_cons, mkS_nil, ↓reduceIte, eq_self', List.map_nil, beq_self_eq_true, Nat.reduceEqDiff, Nat.reduceAdd, Nat.succ_ne_self, vint, TyS, TyF, BdS, Int.cast_ofNat_Int, d0, d1, d2, d3, d4, d5, d6, d7, d8, d9, d10] <;> with_reducible rfl) (fun bt54 => ?_) (fun bt54 => ?_)
  · -- if t54
    have hn : nwf t = false := by
      unfold nwf
      simp only [d0, d1, d2, d3, d4, d5, d6, d7, d8, d9, d10, Bool.or_false, Bool.or_true, Bool.false_or, Bool.true_or, if_true, if_false, Bool.false_eq_true]
      rw [Bool.eq_false_iff]
      intro hh
      simp only [Bool.or_eq_true, Bool.and_eq_true, Bool.not_eq_true', Bool.and_eq_false_iff, Bool.or_eq_false_iff, Bool.not_eq_false', decide_eq_true_eq, decide_eq_false_iff_not] at hh bt54
      omega
    have hwf : wfT t = false := by rw [wfT_eq, hn]; rfl
    refine awp_sel [] (by simp only [LS, SS, SX, HS, mkS_cons, mkS_nil, ↓reduceIte, eq_self', List.map_nil, beq_self_eq_true, Nat.reduceEqDiff, Nat.reduceAdd, Nat.succ_ne_self, vint, TyS, TyF, BdS, Int.cast_ofNat_Int, d0, d1, d2, d3, d4, d5, d6, d7, d8, d9, d10] <;> with_reducible rfl) ?_
    -- region 21
    repeat (refine awp_seq ?_)
    refine e_eval (by simp only [asq, as0, as1, as2, awanted, aop, LS, SS, SX, HS, mkS_cons, mkS_nil, ↓reduceIte, eq_self', List.map_nil, beq_self_eq_true, Nat.reduceEqDiff, Nat.reduceAdd, Nat.reduceMul, Nat.reduceLT, Nat.reduceLeDiff, Nat.reducePow, Nat.reduceDiv, Nat.reduceMod, Nat.succ_ne_self, Nat.reduceBEq, Nat.reduceBNe, vint, TyS, TyF, BdS, Int.cast_ofNat_Int, d0, d1, d2, d3, d4, d5, d6, d7, d8, d9, d10] <;> with_reducible rfl) (by decide) ?_
    repeat (refine awp_seq ?_)
    -- leaf 0 ret
    refine awp_ret ⟨.inr rfl, _, rfl, ?_⟩
    rw [hwf]; rfl
  · -- else t54
    have hn : nwf t = true := by
      unfold nwf
      simp only [d0, d1, d2, d3, d4, d5, d6, d7, d8, d9, d10, Bool.or_false, Bool.or_true, Bool.false_or, Bool.true_or, if_true, if_false, Bool.false_eq_true]
      simp only [Bool.or_eq_true, Bool.and_eq_true, Bool.not_eq_true', Bool.and_eq_false_iff, Bool.or_eq_false_iff, Bool.not_eq_false', decide_eq_true_eq, decide_eq_false_iff_not] at bt54 ⊢
      omega
    repeat (refine awp_seq ?_)
    refine awp_skip ?_
    refine awp_sel [1] (by simp only [LS, SS, SX, HS, mkS_cons, mkS_nil, ↓reduceIte, eq_self', List.map_nil, beq_self_eq_true, Nat.reduceEqDiff, Nat.reduceAdd, Nat.succ_ne_self, vint, TyS, TyF, BdS, Int.cast_ofNat_Int, d0, d1, d2, d3, d4, d5, d6, d7, d8, d9, d10] <;> with_reducible rfl) ?_
    -- region 22
    repeat (refine awp_seq ?_)
    refine e_eval (by simp only [asq, as0, as1, as2, awanted, aop, afldAddr, ajust, aload, abuiltin, LS, SS, SX, HS, mkS_cons, mkS_nil, ↓reduceIte, eq_self', List.map_nil, beq_self_eq_true, Nat.reduceEqDiff, Nat.reduceAdd, Nat.reduceMul, Nat.reduceLT, Nat.reduceLeDiff, Nat.reducePow, Nat.reduceDiv, Nat.reduceMod, Nat.succ_ne_self, Nat.reduceBEq, Nat.reduceBNe, Tryti22, Tryte22, Trytz22, Trytp22, Tryti24, Trytf24, Trytz24, Trytp24, vint, TyS, TyF, BdS, Int.cast_ofNat_Int, d0, d1, d2, d3, d4, d5, d6, d7, d8, d9, d10] <;> with_reducible rfl) (by decide) ?_
    repeat (refine awp_seq ?_)
    refine awp_forS (σ := Unit) (t.args.length) (fun (s : Unit) => [(56, .slice (t.args.map Ty.enc) .none)]) [56] ([]) (fun (s : Unit) => []) (fun (i : Nat) (s : Unit) => (t.args.take i).any (fun u => !wfT u) = false) (()) (_) rfl rfl rfl rfl rfl rfl rfl rfl rfl (by decide) (by decide) (by decide) (fun _ => rfl) (hw.lenMax) ⟨(by first | rfl | (simp only [LS, SS, SX, HS, mkS_cons, mkS_nil, ↓reduceIte, eq_self', List.map_nil, beq_self_eq_true, Nat.reduceEqDiff, Nat.reduceAdd, Nat.succ_ne_self, vint, TyS, TyF, BdS, Int.cast_ofNat_Int, d0, d1, d2, d3, d4, d5, d6, d7, d8, d9, d10] <;> first | done | with_reducible rfl)), (by first | rfl | (simp only [LS, SS, SX, HS, mkS_cons, mkS_nil, ↓reduceIte, eq_self', List.map_nil, beq_self_eq_true, Nat.reduceEqDiff, Nat.reduceAdd, Nat.succ_ne_self, vint, TyS, TyF, BdS, Int.cast_ofNat_Int, d0, d1, d2, d3, d4, d5, d6, d7, d8, d9, d10] <;> first | done | with_reducible rfl)), (by first | rfl | (simp only [LS, SS, SX, HS, mkS_cons, mkS_nil, ↓reduceIte, eq_self', List.map_nil, beq_self_eq_true, Nat.reduceEqDiff, Nat.reduceAdd, Nat.succ_ne_self, vint, TyS, TyF, BdS, Int.cast_ofNat_Int, d0, d1, d2, d3, d4, d5, d6, d7, d8, d9, d10] <;> first | done | with_reducible rfl)), trivial⟩ (by first | rfl | (simp only [LS, SS, SX, HS, mkS_cons, mkS_nil, ↓reduceIte, eq_self', List.map_nil, beq_self_eq_true, Nat.reduceEqDiff, Nat.reduceAdd, Nat.succ_ne_self, vint, TyS, TyF, BdS, Int.cast_ofNat_Int, d0, d1, d2, d3, d4, d5, d6, d7, d8, d9, d10] <;> first | done | with_reducible rfl)) (by simp) (fun _ _ _ => by first | exact Nat.zero_le _ | (simp only [List.length_append]; omega)) ?_ ?_ ?_
    · exact fun i s hg => ⟨by first | exact hbel_nil _ | (simp only [List.append_nil]; assumption) | (refine hbel_app' hb' (by simp) ?_; repeat (first | exact hbel_nil _ | exact trivial | exact obel_row_nil _ | (refine HBel.cons ?_ ?_) | (refine obel_row_cons (by first | exact bel_Bd _ _ | exact Bd.bel _ _ | exact bel_int_tok _ (by simp) | exact bel_ints0 _ _ | exact bel_slice_ty _ _ | exact Ty.bel _ _ | exact bel_ty_tok _ (by simp) | exact Bel.int _ _ | exact Bel.bool _ | exact Bel.str _ | exact Bel.nilp | exact Bel.nilfn | exact Bel.optr _ _ (by simp) | exact bel_nil0 _ | exact bel_nil1 _ | exact bel_fn0 _ _ | assumption) ?_))), by repeat (first | exact BelL.nil | refine BelL.cons (by first | exact bel_Bd _ _ | exact Bd.bel _ _ | exact bel_int_tok _ (by simp) | exact bel_ints0 _ _ | exact bel_slice_ty _ _ | exact Ty.bel _ _ | exact bel_ty_tok _ (by simp) | exact Bel.int _ _ | exact Bel.bool _ | exact Bel.str _ | exact Bel.nilp | exact Bel.nilfn | exact Bel.optr _ _ (by simp) | exact bel_nil0 _ | exact bel_nil1 _ | exact bel_fn0 _ _ | assumption) ?_)⟩
    · intro i s hi hg
      have g1 := ix_nat hi
      have g2 := get_enc Ty.enc hi
      have hmem : t.args[i] ∈ t.args := List.getElem_mem hi
      -- region 24
      repeat (refine awp_seq ?_)
      refine e_eval (by simp only [asq, as0, as1, as2, awanted, aop, aidxAddr, aidx, ajust, aload, astore, splice, LS, SS, SX, HS, mkS_cons, mkS_nil, ↓reduceIte, eq_self', List.map_nil, beq_self_eq_true, Nat.reduceEqDiff, Nat.reduceAdd, Nat.reduceMul, Nat.reduceLT, Nat.reduceLeDiff, Nat.reducePow, Nat.reduceDiv, Nat.reduceMod, Nat.succ_ne_self, Nat.reduceBEq, Nat.reduceBNe, Tryti22, Tryte22, Trytz22, Trytp22, Tryti24, Trytf24, Trytz24, Trytp24, vint, TyS, TyF, BdS, Int.cast_ofNat_Int, d0, d1, d2, d3, d4, d5, d6, d7, d8, d9, d10, g1, g2, Int.toNat_natCast] <;> with_reducible rfl) (by decide) ?_
      -- region 25
      repeat (refine awp_seq ?_)
      refine awp_region ?_
      refine e_take 1 (by simp only [asq, as0, as1, as2, awanted, aop, aload, ajust, LS, SS, SX, HS, mkS_cons, mkS_nil, ↓reduceIte, eq_self', List.map_nil, beq_self_eq_true, Nat.reduceEqDiff, Nat.reduceAdd, Nat.reduceMul, Nat.reduceLT, Nat.reduceLeDiff, Nat.reducePow, Nat.reduceDiv, Nat.reduceMod, Nat.succ_ne_self, Nat.reduceBEq, Nat.reduceBNe, Tryti24, Trytf24, Trytz24, Trytp24, vint, TyS, TyF, BdS, Int.cast_ofNat_Int, d0, d1, d2, d3, d4, d5, d6, d7, d8, d9, d10, g1, g2, Int.toNat_natCast] <;> with_reducible rfl) (by decide) ?_
      refine aops_pure (by simp only [acall, awanted, LS, SS, SX, HS, mkS_cons, mkS_nil, ↓reduceIte, eq_self', List.map_nil, beq_self_eq_true, Nat.reduceEqDiff, Nat.reduceAdd, Nat.reduceMul, Nat.reduceLT, Nat.reduceLeDiff, Nat.reducePow, Nat.reduceDiv, Nat.reduceMod, Nat.succ_ne_self, Nat.reduceBEq, Nat.reduceBNe, vint, TyS, TyF, BdS, Int.cast_ofNat_Int, d0, d1, d2, d3, d4, d5, d6, d7, d8, d9, d10, g1, g2, Int.toNat_natCast] <;> with_reducible rfl) (by simp only [acall, awanted, LS, SS, SX, HS, mkS_cons, mkS_nil, ↓reduceIte, eq_self', List.map_nil, beq_self_eq_true, Nat.reduceEqDiff, Nat.reduceAdd, Nat.reduceMul, Nat.reduceLT, Nat.reduceLeDiff, Nat.reducePow, Nat.reduceDiv, Nat.reduceMod, Nat.succ_ne_self, Nat.reduceBEq, Nat.reduceBNe, vint, TyS, TyF, BdS, Int.cast_ofNat_Int, d0, d1, d2, d3, d4, d5, d6, d7, d8, d9, d10, g1, g2, Int.toNat_natCast]) (by decide) Trygo93 (ih t.args[i] hmem _) ?_
      refine e_end (by simp only [asq, as0, as1, as2, awanted, aop, aun, ajust, LS, SS, SX, HS, mkS_cons, mkS_nil, ↓reduceIte, eq_self', List.map_nil, beq_self_eq_true, Nat.reduceEqDiff, Nat.reduceAdd, Nat.reduceMul, Nat.reduceLT, Nat.reduceLeDiff, Nat.reducePow, Nat.reduceDiv, Nat.reduceMod, Nat.succ_ne_self, Nat.reduceBEq, Nat.reduceBNe, vint, TyS, TyF, BdS, Int.cast_ofNat_Int, d0, d1, d2, d3, d4, d5, d6, d7, d8, d9, d10, g1, g2, Int.toNat_natCast] <;> with_reducible rfl) (by decide) ?_
      repeat (refine awp_seq ?_)
      refine awp_cond rfl (by simp only [LS, SS, SX, HS, mkS_cons, mkS_nil, ↓reduceIte, eq_self', List.map_nil, beq_self_eq_true, Nat.reduceEqDiff, Nat.reduceAdd, Nat.succ_ne_self, vint, TyS, TyF, BdS, Int.cast_ofNat_Int, d0, d1, d2, d3, d4, d5, d6, d7, d8, d9, d10, g1, g2, Int.toNat_natCast] <;> with_reducible rfl) (fun bt64 => ?_) (fun bt64 => ?_)
      · -- if t64
        have hbad : (t.args.any fun u => !wfT u) = true := List.any_eq_true.2 ⟨_, hmem, bt64⟩
        have hwf : wfT t = false := by rw [wfT_eq, hn, hbad]; rfl
        -- region 26
        repeat (refine awp_seq ?_)
        refine e_eval (by simp only [asq, as0, as1, as2, awanted, aop, LS, SS, SX, HS, mkS_cons, mkS_nil, ↓reduceIte, eq_self', List.map_nil, beq_self_eq_true, Nat.reduceEqDiff, Nat.reduceAdd, Nat.reduceMul, Nat.reduceLT, Nat.reduceLeDiff, Nat.reducePow, Nat.reduceDiv, Nat.reduceMod, Nat.succ_ne_self, Nat.reduceBEq, Nat.reduceBNe, vint, TyS, TyF, BdS, Int.cast_ofNat_Int, d0, d1, d2, d3, d4, d5, d6, d7, d8, d9, d10, g1, g2, Int.toNat_natCast] <;> with_reducible rfl) (by decide) ?_
        repeat (refine awp_seq ?_)
        -- leaf 1 ret
        refine awp_ret ⟨.inr rfl, _, rfl, ?_⟩
        rw [hwf]; rfl
      · -- else t64
        repeat (refine awp_seq ?_)
        refine awp_skip ?_
        -- leaf 2 next1
        exact ⟨⟨rfl, rfl, trivial⟩, (), _, ⟨rfl, trivial⟩, rfl, any_take_succ hi hg bt64⟩
    · intro s hg
      rw [List.take_length] at hg
      have hwf : wfT t = true := by rw [wfT_eq, hn, hg]; rfl
      -- region 28
      repeat (refine awp_seq ?_)
      refine e_eval (by simp only [asq, as0, as1, as2, awanted, aop, LS, SS, SX, HS, mkS_cons, mkS_nil, ↓reduceIte, eq_self', List.map_nil, beq_self_eq_true, Nat.reduceEqDiff, Nat.reduceAdd, Nat.reduceMul, Nat.reduceLT, Nat.reduceLeDiff, Nat.reducePow, Nat.reduceDiv, Nat.reduceMod, Nat.succ_ne_self, Nat.reduceBEq, Nat.reduceBNe, vint, TyS, TyF, BdS, Int.cast_ofNat_Int, d0, d1, d2, d3, d4, d5, d6, d7, d8, d9, d10] <;> with_reducible rfl) (by decide) ?_
      repeat (refine awp_seq ?_)
      -- leaf 3 ret
      refine awp_ret ⟨.inr rfl, _, rfl, ?_⟩
      rw [hwf]; rfl

theorem typeWF_10 (t : Ty) (hk : t.kind = 10) (hw : t.W) (ih : ∀ u ∈ t.args, PC Try.prog 93 [u.enc] (.bool (wfT u))) : PC Try.prog 93 [t.enc] (.bool (wfT t)) := by
  have hlen0 : (0 : Int) ≤ (t.args.length : Int) := by omega
  have d0 : decide (t.kind = 0) = false := decide_eq_false (by omega)
  have d1 : decide (t.kind = 1) = false := decide_eq_false (by omega)
  have d2 : decide (t.kind = 2) = false := decide_eq_false (by omega)
  have d3 : decide (t.kind = 3) = false := decide_eq_false (by omega)
  have d4 : decide (t.kind = 4) = false := decide_eq_false (by omega)
  have d5 : decide (t.kind = 5) = false := decide_eq_false (by omega)
  have d6 : decide (t.kind = 6) = false := decide_eq_false (by omega)
  have d7 : decide (t.kind = 7) = false := decide_eq_false (by omega)
  have d8 : decide (t.kind = 8) = false := decide_eq_false (by omega)
  have d9 : decide (t.kind = 9) = false := decide_eq_false (by omega)
  have d10 : decide (t.kind = 10) = true := decide_eq_true hk
  refine pc_of (N := 66) Try.func93 rfl rfl (by simp) (by simp [Ty.bel]) (.bool _) ?_
  -- region 0
  repeat (refine awp_seq ?_)
  refine e_eval (by simp only [asq, as0, as1, as2, awanted, aop, LS, SS, SX, HS, mkS_cons, mkS_nil, ↓reduceIte, eq_self', List.map_nil, beq_self_eq_true, Nat.reduceEqDiff, Nat.reduceAdd, Nat.reduceMul, Nat.reduceLT, Nat.reduceLeDiff, Nat.reducePow, Nat.reduceDiv, Nat.reduceMod, Nat.succ_ne_self, Nat.reduceBEq, Nat.reduceBNe, Tryti24, Trytf24, Trytz24, Trytp24, vint, TyS, TyF, BdS, Int.cast_ofNat_Int, d0, d1, d2, d3, d4, d5, d6, d7, d8, d9, d10] <;> with_reducible rfl) (by decide) ?_
  -- region 1
  repeat (refine awp_seq ?_)
  refine e_eval (by simp only [asq, as0, as1, as2, awanted, aop, LS, SS, SX, HS, mkS_cons, mkS_nil, ↓reduceIte, eq_self', List.map_nil, beq_self_eq_true, Nat.reduceEqDiff, Nat.reduceAdd, Nat.reduceMul, Nat.reduceLT, Nat.reduceLeDiff, Nat.reducePow, Nat.reduceDiv, Nat.reduceMod, Nat.succ_ne_self, Nat.reduceBEq, Nat.reduceBNe, vint, TyS, TyF, BdS, Int.cast_ofNat_Int, d0, d1, d2, d3, d4, d5, d6, d7, d8, d9, d10] <;> with_reducible rfl) (by decide) ?_
  -- region 2
  repeat (refine awp_seq ?_)
  refine e_eval (by simp only [asq, as0, as1, as2, awanted, aop, afldAddr, ajust, aload, LS, SS, SX, HS, mkS_cons, mkS_nil, ↓reduceIte, eq_self', List.map_nil, beq_self_eq_true, Nat.reduceEqDiff, Nat.reduceAdd, Nat.reduceMul, Nat.reduceLT, Nat.reduceLeDiff, Nat.reducePow, Nat.reduceDiv, Nat.reduceMod, Nat.succ_ne_self, Nat.reduceBEq, Nat.reduceBNe, Tryti3, Trytz3, Trytp3, Trytk3, Tryti24, Trytf24, Trytz24, Trytp24, vint, TyS, TyF, BdS, Int.cast_ofNat_Int, d0, d1, d2, d3, d4, d5, d6, d7, d8, d9, d10] <;> with_reducible rfl) (by decide) ?_
  repeat (refine awp_seq ?_)
  refine awp_block ?_
  -- region 4
  repeat (refine awp_seq ?_)
  refine e_eval (by simp only [asq, as0, as1, as2, awanted, aop, abin, ajust, LS, SS, SX, HS, mkS_cons, mkS_nil, ↓reduceIte, eq_self', List.map_nil, beq_self_eq_true, Nat.reduceEqDiff, Nat.reduceAdd, Nat.reduceMul, Nat.reduceLT, Nat.reduceLeDiff, Nat.reducePow, Nat.reduceDiv, Nat.reduceMod, Nat.succ_ne_self, Nat.reduceBEq, Nat.reduceBNe, Tryti3, Trytz3, Trytp3, Trytk3, vint, TyS, TyF, BdS, Int.cast_ofNat_Int, d0, d1, d2, d3, d4, d5, d6, d7, d8, d9, d10] <;> with_reducible rfl) (by decide) ?_
  repeat (refine awp_seq ?_)
  refine awp_cond_false rfl (by simp only [LS, SS, SX, HS, mkS_cons, mkS_nil, ↓reduceIte, eq_self', List.map_nil, beq_self_eq_true, Nat.reduceEqDiff, Nat.reduceAdd, Nat.succ_ne_self, vint, TyS, TyF, BdS, Int.cast_ofNat_Int, d0, d1, d2, d3, d4, d5, d6, d7, d8, d9, d10] <;> with_reducible rfl) ?_
  -- region 5
  repeat (refine awp_seq ?_)
  refine e_eval (by simp only [asq, as0, as1, as2, awanted, aop, abin, ajust, LS, SS, SX, HS, mkS_cons, mkS_nil, ↓reduceIte, eq_self', List.map_nil, beq_self_eq_true, Nat.reduceEqDiff, Nat.reduceAdd, Nat.reduceMul, Nat.reduceLT, Nat.reduceLeDiff, Nat.reducePow, Nat.reduceDiv, Nat.reduceMod, Nat.succ_ne_self, Nat.reduceBEq, Nat.reduceBNe, Tryti3, Trytz3, Trytp3, Trytk3, vint, TyS, TyF, BdS, Int.cast_ofNat_Int, d0, d1, d2, d3, d4, d5, d6, d7, d8, d9, d10] <;> with_reducible rfl) (by decide) ?_
  repeat (refine awp_seq ?_)
  refine awp_cond_false rfl (by simp only [LS, SS, SX, HS, mkS_cons, mkS_nil, ↓reduceIte, eq_self', List.map_nil, beq_self_eq_true, Nat.reduceEqDiff, Nat.reduceAdd, Nat.succ_ne_self, vint, TyS, TyF, BdS, Int.cast_ofNat_Int, d0, d1, d2, d3, d4, d5, d6, d7, d8, d9, d10] <;> with_reducible rfl) ?_
  -- region 6
  repeat (refine awp_seq ?_)
  refine e_eval (by simp only [asq, as0, as1, as2, awanted, aop, abin, ajust, LS, SS, SX, HS, mkS_cons, mkS_nil, ↓reduceIte, eq_self', List.map_nil, beq_self_eq_true, Nat.reduceEqDiff, Nat.reduceAdd, Nat.reduceMul, Nat.reduceLT, Nat.reduceLeDiff, Nat.reducePow, Nat.reduceDiv, Nat.reduceMod, Nat.succ_ne_self, Nat.reduceBEq, Nat.reduceBNe, Tryti3, Trytz3, Trytp3, Trytk3, vint, TyS, TyF, BdS, Int.cast_ofNat_Int, d0, d1, d2, d3, d4, d5, d6, d7, d8, d9, d10] <;> with_reducible rfl) (by decide) ?_
  repeat (refine awp_seq ?_)
  refine awp_cond_false rfl (by simp only [LS, SS, SX, HS, mkS_cons, mkS_nil, ↓reduceIte, eq_self', List.map_nil, beq_self_eq_true, Nat.reduceEqDiff, Nat.reduceAdd, Nat.succ_ne_self, vint, TyS, TyF, BdS, Int.cast_ofNat_Int, d0, d1, d2, d3, d4, d5, d6, d7, d8, d9, d10] <;> with_reducible rfl) ?_
  -- region 7
  repeat (refine awp_seq ?_)
  refine e_eval (by simp only [asq, as0, as1, as2, awanted, aop, abin, ajust, LS, SS, SX, HS, mkS_cons, mkS_nil, ↓reduceIte, eq_self', List.map_nil, beq_self_eq_true, Nat.reduceEqDiff, Nat.reduceAdd, Nat.reduceMul, Nat.reduceLT, Nat.reduceLeDiff, Nat.reducePow, Nat.reduceDiv, Nat.reduceMod, Nat.succ_ne_self, Nat.reduceBEq, Nat.reduceBNe, Tryti3, Trytz3, Trytp3, Trytk3, vint, TyS, TyF, BdS, Int.cast_ofNat_Int, d0, d1, d2, d3, d4, d5, d6, d7, d8, d9, d10] <;> with_reducible rfl) (by decide) ?_
  repeat (refine awp_seq ?_)
  refine awp_cond_false rfl (by simp only [LS, SS, SX, HS, mkS_cons, mkS_nil, ↓reduceIte, eq_self', List.map_nil, beq_self_eq_true, Nat.reduceEqDiff, Nat.reduceAdd, Nat.succ_ne_self, vint, TyS, TyF, BdS, Int.cast_ofNat_Int, d0, d1, d2, d3, d4, d5, d6, d7, d8, d9, d10] <;> with_reducible rfl) ?_
  refine awp_sel [1, 3, 4, 5, 9] (by simp only [LS, SS, SX, HS, mkS_cons, mkS_nil, ↓reduceIte, eq_self', List.map_nil, beq_self_eq_true, Nat.reduceEqDiff, Nat.reduceAdd, Nat.succ_ne_self, vint, TyS, TyF, BdS, Int.cast_ofNat_Int, d0, d1, d2, d3, d4, d5, d6, d7, d8, d9, d10] <;> with_reducible rfl) ?_
  -- region 8
  repeat (refine awp_seq ?_)
  refine e_eval (by simp only [asq, as0, as1, as2, awanted, aop, abin, ajust, LS, SS, SX, HS, mkS_cons, mkS_nil, ↓reduceIte, eq_self', List.map_nil, beq_self_eq_true, Nat.reduceEqDiff, Nat.reduceAdd, Nat.reduceMul, Nat.reduceLT, Nat.reduceLeDiff, Nat.reducePow, Nat.reduceDiv, Nat.reduceMod, Nat.succ_ne_self, Nat.reduceBEq, Nat.reduceBNe, Tryti3, Trytz3, Trytp3, Trytk3, vint, TyS, TyF, BdS, Int.cast_ofNat_Int, d0, d1, d2, d3, d4, d5, d6, d7, d8, d9, d10] <;> with_reducible rfl) (by decide) ?_
  repeat (refine awp_seq ?_)
  refine awp_cond_false rfl (by simp only [LS, SS, SX, HS, mkS_cons, mkS_nil, ↓reduceIte, eq_self', List.map_nil, beq_self_eq_true, Nat.reduceEqDiff, Nat.reduceAdd, Nat.succ_ne_self, vint, TyS, TyF, BdS, Int.cast_ofNat_Int, d0, d1, d2, d3, d4, d5, d6, d7, d8, d9, d10] <;> with_reducible rfl) ?_
  -- region 9
  repeat (refine awp_seq ?_)
  refine e_eval (by simp only [asq, as0, as1, as2, awanted, aop, abin, ajust, LS, SS, SX, HS, mkS_cons, mkS_nil, ↓reduceIte, eq_self', List.map_nil, beq_self_eq_true, Nat.reduceEqDiff, Nat.reduceAdd, Nat.reduceMul, Nat.reduceLT, Nat.reduceLeDiff, Nat.reducePow, Nat.reduceDiv, Nat.reduceMod, Nat.succ_ne_self, Nat.reduceBEq, Nat.reduceBNe, Tryti3, Trytz3, Trytp3, Trytk3, vint, TyS, TyF, BdS, Int.cast_ofNat_Int, d0, d1, d2, d3, d4, d5, d6, d7, d8, d9, d10] <;> with_reducible rfl) (by decide) ?_
  repeat (refine awp_seq ?_)
  refine awp_cond_false rfl (by simp only [LS, SS, SX, HS, mkS_cons, mkS_nil, ↓reduceIte, eq_self', List.map_nil, beq_self_eq_true, Nat.reduceEqDiff, Nat.reduceAdd, Nat.succ_ne_self, vint, TyS, TyF, BdS, Int.cast_ofNat_Int, d0, d1, d2, d3, d4, d5, d6, d7, d8, d9, d10] <;> with_reducible rfl) ?_
  -- region 10
  repeat (refine awp_seq ?_)
  refine e_eval (by simp only [asq, as0, as1, as2, awanted, aop, abin, ajust, LS, SS, SX, HS, mkS_cons, mkS_nil, ↓reduceIte, eq_self', List.map_nil, beq_self_eq_true, Nat.reduceEqDiff, Nat.reduceAdd, Nat.reduceMul, Nat.reduceLT, Nat.reduceLeDiff, Nat.reducePow, Nat.reduceDiv, Nat.reduceMod, Nat.succ_ne_self, Nat.reduceBEq, Nat.reduceBNe, Tryti3, Trytz3, Trytp3, Trytk3, vint, TyS, TyF, BdS, Int.cast_ofNat_Int, d0, d1, d2, d3, d4, d5, d6, d7, d8, d9, d10] <;> with_reducible rfl) (by decide) ?_
  repeat (refine awp_seq ?_)
  refine awp_cond_false rfl (by simp only [LS, SS, SX, HS, mkS_cons, mkS_nil, ↓reduceIte, eq_self', List.map_nil, beq_self_eq_true, Nat.reduceEqDiff, Nat.reduceAdd, Nat.succ_ne_self, vint, TyS, TyF, BdS, Int.cast_ofNat_Int, d0, d1, d2, d3, d4, d5, d6, d7, d8, d9, d10] <;> with_reducible rfl) ?_
  -- region 12
  repeat (refine awp_seq ?_)
  refine e_eval (by simp only [asq, as0, as1, as2, awanted, aop, abin, ajust, LS, SS, SX, HS, mkS_cons, mkS_nil, ↓reduceIte, eq_self', List.map_nil, beq_self_eq_true, Nat.reduceEqDiff, Nat.reduceAdd, Nat.reduceMul, Nat.reduceLT, Nat.reduceLeDiff, Nat.reducePow, Nat.reduceDiv, Nat.reduceMod, Nat.succ_ne_self, Nat.reduceBEq, Nat.reduceBNe, Tryti3, Trytz3, Trytp3, Trytk3, vint, TyS, TyF, BdS, Int.cast_ofNat_Int, d0, d1, d2, d3, d4, d5, d6, d7, d8, d9, d10] <;> with_reducible rfl) (by decide) ?_
  repeat (refine awp_seq ?_)
  refine awp_cond_false rfl (by simp only [LS, SS, SX, HS, mkS_cons, mkS_nil, ↓reduceIte, eq_self', List.map_nil, beq_self_eq_true, Nat.reduceEqDiff, Nat.reduceAdd, Nat.succ_ne_self, vint, TyS, TyF, BdS, Int.cast_ofNat_Int, d0, d1, d2, d3, d4, d5, d6, d7, d8, d9, d10] <;> with_reducible rfl) ?_
  -- region 14
  repeat (refine awp_seq ?_)
  refine e_eval (by simp only [asq, as0, as1, as2, awanted, aop, abin, ajust, LS, SS, SX, HS, mkS_cons, mkS_nil, ↓reduceIte, eq_self', List.map_nil, beq_self_eq_true, Nat.reduceEqDiff, Nat.reduceAdd, Nat.reduceMul, Nat.reduceLT, Nat.reduceLeDiff, Nat.reducePow, Nat.reduceDiv, Nat.reduceMod, Nat.succ_ne_self, Nat.reduceBEq, Nat.reduceBNe, Tryti3, Trytz3, Trytp3, Trytk3, vint, TyS, TyF, BdS, Int.cast_ofNat_Int, d0, d1, d2, d3, d4, d5, d6, d7, d8, d9, d10] <;> with_reducible rfl) (by decide) ?_
  repeat (refine awp_seq ?_)
  refine awp_cond_false rfl (by simp only [LS, SS, SX, HS, mkS_cons, mkS_nil, ↓reduceIte, eq_self', List.map_nil, beq_self_eq_true, Nat.reduceEqDiff, Nat.reduceAdd, Nat.succ_ne_self, vint, TyS, TyF, BdS, Int.cast_ofNat_Int, d0, d1, d2, d3, d4, d5, d6, d7, d8, d9, d10] <;> with_reducible rfl) ?_
  -- region 16
  repeat (refine awp_seq ?_)
  refine e_eval (by simp only [asq, as0, as1, as2, awanted, aop, abin, ajust, LS, SS, SX, HS, mkS_cons, mkS_nil, ↓reduceIte, eq_self', List.map_nil, beq_self_eq_true, Nat.reduceEqDiff, Nat.reduceAdd, Nat.reduceMul, Nat.reduceLT, Nat.reduceLeDiff, Nat.reducePow, Nat.reduceDiv, Nat.reduceMod, Nat.succ_ne_self, Nat.reduceBEq, Nat.reduceBNe, Tryti3, Trytz3, Trytp3, Trytk3, vint, TyS, TyF, BdS, Int.cast_ofNat_Int, d0, d1, d2, d3, d4, d5, d6, d7, d8, d9, d10] <;> with_reducible rfl) (by decide) ?_
  repeat (refine awp_seq ?_)
  refine awp_cond_false rfl (by simp only [LS, SS, SX, HS, mkS_cons, mkS_nil, ↓reduceIte, eq_self', List.map_nil, beq_self_eq_true, Nat.reduceEqDiff, Nat.reduceAdd, Nat.succ_ne_self, vint, TyS, TyF, BdS, Int.cast_ofNat_Int, d0, d1, d2, d3, d4, d5, d6, d7, d8, d9, d10] <;> with_reducible rfl) ?_
  -- region 18
  repeat (refine awp_seq ?_)
  refine e_eval (by simp only [asq, as0, as1, as2, awanted, aop, abin, ajust, LS, SS, SX, HS, mkS_cons, mkS_nil, ↓reduceIte, eq_self', List.map_nil, beq_self_eq_true, Nat.reduceEqDiff, Nat.reduceAdd, Nat.reduceMul, Nat.reduceLT, Nat.reduceLeDiff, Nat.reducePow, Nat.reduceDiv, Nat.reduceMod, Nat.succ_ne_self, Nat.reduceBEq, Nat.reduceBNe, Tryti3, Trytz3, Trytp3, Trytk3, vint, TyS, TyF, BdS, Int.cast_ofNat_Int, d0, d1, d2, d3, d4, d5, d6, d7, d8, d9, d10] <;> with_reducible rfl) (by decide) ?_
  repeat (refine awp_seq ?_)
  refine awp_cond_true rfl (by simp only [LS, SS, SX, HS, mkS_cons, mkS_nil, ↓reduceIte, eq_self', List.map_nil, beq_self_eq_true, Nat.reduceEqDiff, Nat.reduceAdd, Nat.succ_ne_self, vint, TyS, TyF, BdS, Int.cast_ofNat_Int, d0, d1, d2, d3, d4, d5, d6, d7, d8, d9, d10] <;> with_reducible rfl) ?_
  -- region 19
  repeat (refine awp_seq ?_)
  refine e_eval (by simp only [asq, as0, as1, as2, awanted, aop, LS, SS, SX, HS, mkS_cons, mkS_nil, ↓reduceIte, eq_self', List.map_nil, beq_self_eq_true, Nat.reduceEqDiff, Nat.reduceAdd, Nat.reduceMul, Nat.reduceLT, Nat.reduceLeDiff, Nat.reducePow, Nat.reduceDiv, Nat.reduceMod, Nat.succ_ne_self, Nat.reduceBEq, Nat.reduceBNe, vint, TyS, TyF, BdS, Int.cast_ofNat_Int, d0, d1, d2, d3, d4, d5, d6, d7, d8, d9, d10] <;> with_reducible rfl) (by decide) ?_
  refine awp_sel [1, 3, 4, 5] (by simp only [LS, SS, SX, HS, mkS_cons, mkS_nil, ↓reduceIte, eq_self', List.map_nil, beq_self_eq_true, Nat.reduceEqDiff, Nat.reduceAdd, Nat.succ_ne_self, vint, TyS, TyF, BdS, Int.cast_ofNat_Int, d0, d1, d2, d3, d4, d5, d6, d7, d8, d9, d10] <;> with_reducible rfl) ?_
  -- region 20
  repeat (refine awp_seq ?_)
  refine awp_region ?_
  refine aops_gstart ?_
  refine g_take 5 (by simp only [gsq, gs0, gs1, gs2, gcond, gop, SG, Op.operands, Call.operands, Array.toList_append, aop, afldAddr, ajust, aload, abuiltin, LS, SS, SX, HS, mkS_cons, mkS_nil, ↓reduceIte, eq_self', List.map_nil, beq_self_eq_true, Nat.reduceEqDiff, Nat.reduceAdd, Nat.reduceMul, Nat.reduceLT, Nat.reduceLeDiff, Nat.reducePow, Nat.reduceDiv, Nat.reduceMod, Nat.succ_ne_self, Nat.reduceBEq, Nat.reduceBNe, Tryti22, Tryte22, Trytz22, Trytp22, Tryti24, Trytf24, Trytz24, Trytp24, vint, TyS, TyF, BdS, Int.cast_ofNat_Int, d0, d1, d2, d3, d4, d5, d6, d7, d8, d9, d10] <;> with_reducible rfl) (by decide) ?_
  refine aops_gpure (by simp only [acall, gcond, SG, Op.operands, Call.operands, Array.toList_append, LS, SS, SX, HS, mkS_cons, mkS_nil, ↓reduceIte, eq_self', List.map_nil, beq_self_eq_true, Nat.reduceEqDiff, Nat.reduceAdd, Nat.reduceMul, Nat.reduceLT, Nat.reduceLeDiff, Nat.reducePow, Nat.reduceDiv, Nat.reduceMod, Nat.succ_ne_self, Nat.reduceBEq, Nat.reduceBNe, vint, TyS, TyF, BdS, Int.cast_ofNat_Int, d0, d1, d2, d3, d4, d5, d6, d7, d8, d9, d10] <;> with_reducible rfl) (by simp only [acall, gcond, SG, Op.operands, Call.operands, Array.toList_append, LS, SS, SX, HS, mkS_cons, mkS_nil, ↓reduceIte, eq_self', List.map_nil, beq_self_eq_true, Nat.reduceEqDiff, Nat.reduceAdd, Nat.reduceMul, Nat.reduceLT, Nat.reduceLeDiff, Nat.reducePow, Nat.reduceDiv, Nat.reduceMod, Nat.succ_ne_self, Nat.reduceBEq, Nat.reduceBNe, vint, TyS, TyF, BdS, Int.cast_ofNat_Int, d0, d1, d2, d3, d4, d5, d6, d7, d8, d9, d10] <;> with_reducible rfl) (by simp only [acall, gcond, SG, Op.operands, Call.operands, Array.toList_append, LS, SS, SX, HS, mkS_cons, mkS_nil, ↓reduceIte, eq_self', List.map_nil, beq_self_eq_true, Nat.reduceEqDiff, Nat.reduceAdd, Nat.reduceMul, Nat.reduceLT, Nat.reduceLeDiff, Nat.reducePow, Nat.reduceDiv, Nat.reduceMod, Nat.succ_ne_self, Nat.reduceBEq, Nat.reduceBNe, vint, TyS, TyF, BdS, Int.cast_ofNat_Int, d0, d1, d2, d3, d4, d5, d6, d7, d8, d9, d10]) (by decide) Trygo98 (fun hc => inRange _ _ _ _) ?_
  refine g_end (by simp only [gsq, gs0, gs1, gs2, gcond, gop, SG, Op.operands, Call.operands, Array.toList_append, aop, aun, ajust, afldAddr, aload, abin, LS, SS, SX, HS, mkS_cons, mkS_nil, ↓reduceIte, eq_self', List.map_nil, beq_self_eq_true, Nat.reduceEqDiff, Nat.reduceAdd, Nat.reduceMul, Nat.reduceLT, Nat.reduceLeDiff, Nat.reducePow, Nat.reduceDiv, Nat.reduceMod, Nat.succ_ne_self, Nat.reduceBEq, Nat.reduceBNe, Tryti3, Trytz3, Trytp3, Trytk3, Tryti24, Trytf24, Trytz24, Trytp24, vint, TyS, TyF, BdS, Int.cast_ofNat_Int, d0, d1, d2, d3, d4, d5, d6, d7, d8, d9, d10] <;> with_reducible rfl) (by decide) (by repeat (first | exact Fin.base _ | with_reducible apply Fin.keep | apply Fin.drop)) ?_
  repeat (refine awp_seq ?_)
  refine awp_cond rfl (by simp only [LS, SS, SX, HS, mkS_cons, mkS_nil, ↓reduceIte, eq_self', List.map_nil, beq_self_eq_true, Nat.reduceEqDiff, Nat.reduceAdd, Nat.succ_ne_self, vint, TyS, TyF, BdS, Int.cast_ofNat_Int, d0, d1, d2, d3, d4, d5, d6, d7, d8, d9, d10] <;> with_reducible rfl) (fun bt54 => ?_) (fun bt54 => ?_)
  · -- if t54
    have hn : nwf t = false := by
      unfold nwf
      simp only [d0, d1, d2, d3, d4, d5, d6, d7, d8, d9, d10, Bool.or_false, Bool.or_true, Bool.false_or, Bool.true_or, if_true, if_false, Bool.false_eq_true]
      rw [Bool.eq_false_iff]
      intro hh
      simp only [Bool.or_eq_true, Bool.and_eq_true, Bool.not_eq_true', Bool.and_eq_false_iff, Bool.or_eq_false_iff, Bool.not_eq_false', decide_eq_true_eq, decide_eq_false_iff_not] at hh bt54
      omega
    have hwf : wfT t = false := by rw [wfT_eq, hn]; rfl
    refine awp_sel [] (by simp only [LS, SS, SX, HS, mkS_cons, mkS_nil, ↓reduceIte, eq_self', List.map_nil, beq_self_eq_true, Nat.reduceEqDiff, Nat.reduceAdd, Nat.succ_ne_self, vint, TyS, TyF, BdS, Int.cast_ofNat_Int, d0, d1, d2, d3, d4, d5, d6, d7, d8, d9, d10] <;> with_reducible rfl) ?_
    -- region 21
    repeat (refine awp_seq ?_)
    refine e_eval (by simp only [asq, as0, as1, as2, awanted, aop, LS, SS, SX, HS, mkS_cons, mkS_nil, ↓reduceIte, eq_self', List.map_nil, beq_self_eq_true, Nat.reduceEqDiff, Nat.reduceAdd, Nat.reduceMul, Nat.reduceLT, Nat.reduceLeDiff, Nat.reducePow, Nat.reduceDiv, Nat.reduceMod, Nat.succ_ne_self, Nat.reduceBEq, Nat.reduceBNe, vint, TyS, TyF, BdS, Int.cast_ofNat_Int, d0, d1, d2, d3, d4, d5, d6, d7, d8, d9, d10] <;> with_reducible rfl) (by decide) ?_
    repeat (refine awp_seq ?_)
    -- leaf 0 ret
    refine awp_ret ⟨.inr rfl, _, rfl, ?_⟩
    rw [hwf]; rfl
  · -- else t54
    have hn : nwf t = true := by
      unfold nwf
      simp only [d0, d1, d2, d3, d4, d5, d6, d7, d8, d9, d10, Bool.or_false, Bool.or_true, Bool.false_or, Bool.true_or, if_true, if_false, Bool.false_eq_true]
      simp only [Bool.or_eq_true, Bool.and_eq_true, Bool.not_eq_true', Bool.and_eq_false_iff, Bool.or_eq_false_iff, Bool.not_eq_false', decide_eq_true_eq, decide_eq_false_iff_not] at bt54 ⊢
      omega
    repeat (refine awp_seq ?_)
    refine awp_skip ?_
    refine awp_sel [1] (by simp only [LS, SS, SX, HS, mkS_cons, mkS_nil, ↓reduceIte, eq_self', List.map_nil, beq_self_eq_true, Nat.reduceEqDiff, Nat.reduceAdd, Nat.succ_ne_self, vint, TyS, TyF, BdS, Int.cast_ofNat_Int, d0, d1, d2, d3, d4, d5, d6, d7, d8, d9, d10] <;> with_reducible rfl) ?_
    -- region 22
    repeat (refine awp_seq ?_)
    refine e_eval (by simp only [asq, as0, as1, as2, awanted, aop, afldAddr, ajust, aload, abuiltin, LS, SS, SX, HS, mkS_cons, mkS_nil, ↓reduceIte, eq_self', List.map_nil, beq_self_eq_true, Nat.reduceEqDiff, Nat.reduceAdd, Nat.reduceMul, Nat.reduceLT, Nat.reduceLeDiff, Nat.reducePow, Nat.reduceDiv, Nat.reduceMod, Nat.succ_ne_self, Nat.reduceBEq, Nat.reduceBNe, Tryti22, Tryte22, Trytz22, Trytp22, Tryti24, Trytf24, Trytz24, Trytp24, vint, TyS, TyF, BdS, Int.cast_ofNat_Int, d0, d1, d2, d3, d4, d5, d6, d7, d8, d9, d10] <;> with_reducible rfl) (by decide) ?_
    repeat (refine awp_seq ?_)
    refine awp_forS (σ := Unit) (t.args.length) (fun (s : Unit) => [(56, .slice (t.args.map Ty.enc) .none)]) [56] ([]) (fun (s : Unit) => []) (fun (i : Nat) (s : Unit) => (t.args.take i).any (fun u => !wfT u) = false) (()) (_) rfl rfl rfl rfl rfl rfl rfl rfl rfl (by decide) (by decide) (by decide) (fun _ => rfl) (hw.lenMax) ⟨(by first | rfl | (simp only [LS, SS, SX, HS, mkS_cons, mkS_nil, ↓reduceIte, eq_self', List.map_nil, beq_self_eq_true, Nat.reduceEqDiff, Nat.reduceAdd, Nat.succ_ne_self, vint, TyS, TyF, BdS, Int.cast_ofNat_Int, d0, d1, d2, d3, d4, d5, d6, d7, d8, d9, d10] <;> first | done | with_reducible rfl)), (by first | rfl | (simp only [LS, SS, SX, HS, mkS_cons, mkS_nil, ↓reduceIte, eq_self', List.map_nil, beq_self_eq_true, Nat.reduceEqDiff, Nat.reduceAdd, Nat.succ_ne_self, vint, TyS, TyF, BdS, Int.cast_ofNat_Int, d0, d1, d2, d3, d4, d5, d6, d7, d8, d9, d10] <;> first | done | with_reducible rfl)), (by first | rfl | (simp only [LS, SS, SX, HS, mkS_cons, mkS_nil, ↓reduceIte, eq_self', List.map_nil, beq_self_eq_true, Nat.reduceEqDiff, Nat.reduceAdd, Nat.succ_ne_self, vint, TyS, TyF, BdS, Int.cast_ofNat_Int, d0, d1, d2, d3, d4, d5, d6, d7, d8, d9, d10] <;> first | done | with_reducible rfl)), trivial⟩ (by first | rfl | (simp only [LS, SS, SX, HS, mkS_cons, mkS_nil, ↓reduceIte, eq_self', List.map_nil, beq_self_eq_true, Nat.reduceEqDiff, Nat.reduceAdd, Nat.succ_ne_self, vint, TyS, TyF, BdS, Int.cast_ofNat_Int, d0, d1, d2, d3, d4, d5, d6, d7, d8, d9, d10] <;> first | done | with_reducible rfl)) (by simp) (fun _ _ _ => by first | exact Nat.zero_le _ | (simp only [List.length_append]; omega)) ?_ ?_ ?_
    · exact fun i s hg => ⟨by first | exact hbel_nil _ | (simp only [List.append_nil]; assumption) | (refine hbel_app' hb' (by simp) ?_; repeat (first | exact hbel_nil _ | exact trivial | exact obel_row_nil _ | (refine HBel.cons ?_ ?_) | (refine obel_row_cons (by first | exact bel_Bd _ _ | exact Bd.bel _ _ | exact bel_int_tok _ (by simp) | exact bel_ints0 _ _ | exact bel_slice_ty _ _ | exact Ty.bel _ _ | exact bel_ty_tok _ (by simp) | exact Bel.int _ _ | exact Bel.bool _ | exact Bel.str _ | exact Bel.nilp | exact Bel.nilfn | exact Bel.optr _ _ (by simp) | exact bel_nil0 _ | exact bel_nil1 _ | exact bel_fn0 _ _ | assumption) ?_))), by repeat (first | exact BelL.nil | refine BelL.cons (by first | exact bel_Bd _ _ | exact Bd.bel _ _ | exact bel_int_tok _ (by simp) | exact bel_ints0 _ _ | exact bel_slice_ty _ _ | exact Ty.bel _ _ | exact bel_ty_tok _ (by simp) | exact Bel.int _ _ | exact Bel.bool _ | exact Bel.str _ | exact Bel.nilp | exact Bel.nilfn | exact Bel.optr _ _ (by simp) | exact bel_nil0 _ | exact bel_nil1 _ | exact bel_fn0 _ _ | assumption) ?_)⟩
    · intro i s hi hg
      have g1 := ix_nat hi
      have g2 := get_enc Ty.enc hi
      have hmem : t.args[i] ∈ t.args := List.getElem_mem hi
      -- region 24
      repeat (refine awp_seq ?_)
      refine e_eval (by simp only [asq, as0, as1, as2, awanted, aop, aidxAddr, aidx, ajust, aload, astore, splice, LS, SS, SX, HS, mkS_cons, mkS_nil, ↓reduceIte, eq_self', List.map_nil, beq_self_eq_true, Nat.reduceEqDiff, Nat.reduceAdd, Nat.reduceMul, Nat.reduceLT, Nat.reduceLeDiff, Nat.reducePow, Nat.reduceDiv, Nat.reduceMod, Nat.succ_ne_self, Nat.reduceBEq, Nat.reduceBNe, Tryti22, Tryte22, Trytz22, Trytp22, Tryti24, Trytf24, Trytz24, Trytp24, vint, TyS, TyF, BdS, Int.cast_ofNat_Int, d0, d1, d2, d3, d4, d5, d6, d7, d8, d9, d10, g1, g2, Int.toNat_natCast] <;> with_reducible rfl) (by decide) ?_
      -- region 25
      repeat (refine awp_seq ?_)
      refine awp_region ?_
      refine e_take 1 (by simp only [asq, as0, as1, as2, awanted, aop, aload, ajust, LS, SS, SX, HS, mkS_cons, mkS_nil, ↓reduceIte, eq_self', List.map_nil, beq_self_eq_true, Nat.reduceEqDiff, Nat.reduceAdd, Nat.reduceMul, Nat.reduceLT, Nat.reduceLeDiff, Nat.reducePow, Nat.reduceDiv, Nat.reduceMod, Nat.succ_ne_self, Nat.reduceBEq, Nat.reduceBNe, Tryti24, Trytf24, Trytz24, Trytp24, vint, TyS, TyF, BdS, Int.cast_ofNat_Int, d0, d1, d2, d3, d4, d5, d6, d7, d8, d9, d10, g1, g2, Int.toNat_natCast] <;> with_reducible rfl) (by decide) ?_
      refine aops_pure (by simp only [acall, awanted, LS, SS, SX, HS, mkS_cons, mkS_nil, ↓reduceIte, eq_self', List.map_nil, beq_self_eq_true, Nat.reduceEqDiff, Nat.reduceAdd, Nat.reduceMul, Nat.reduceLT, Nat.reduceLeDiff, Nat.reducePow, Nat.reduceDiv, Nat.reduceMod, Nat.succ_ne_self, Nat.reduceBEq, Nat.reduceBNe, vint, TyS, TyF, BdS, Int.cast_ofNat_Int, d0, d1, d2, d3, d4, d5, d6, d7, d8, d9, d10, g1, g2, Int.toNat_natCast] <;> with_reducible rfl) (by simp only [acall, awanted, LS, SS, SX, HS, mkS_cons, mkS_nil, ↓reduceIte, eq_self', List.map_nil, beq_self_eq_true, Nat.reduceEqDiff, Nat.reduceAdd, Nat.reduceMul, Nat.reduceLT, Nat.reduceLeDiff, Nat.reducePow, Nat.reduceDiv, Nat.reduceMod, Nat.succ_ne_self, Nat.reduceBEq, Nat.reduceBNe, vint, TyS, TyF, BdS, Int.cast_ofNat_Int, d0, d1, d2, d3, d4, d5, d6, d7, d8, d9, d10, g1, g2, Int.toNat_natCast]) (by decide) Trygo93 (ih t.args[i] hmem _) ?_
      refine e_end (by simp only [asq, as0, as1, as2, awanted, aop, aun, ajust, LS, SS, SX, HS, mkS_cons, mkS_nil, ↓reduceIte, eq_self', List.map_nil, beq_self_eq_true, Nat.reduceEqDiff, Nat.reduceAdd, Nat.reduceMul, Nat.reduceLT, Nat.reduceLeDiff, Nat.reducePow, Nat.reduceDiv, Nat.reduceMod, Nat.succ_ne_self, Nat.reduceBEq, Nat.reduceBNe, vint, TyS, TyF, BdS, Int.cast_ofNat_Int, d0, d1, d2, d3, d4, d5, d6, d7, d8, d9, d10, g1, g2, Int.toNat_natCast] <;> with_reducible rfl) (by decide) ?_
      repeat (refine awp_seq ?_)
      refine awp_cond rfl (by simp only [LS, SS, SX, HS, mkS_cons, mkS_nil, ↓reduceIte, eq_self', List.map_nil, beq_self_eq_true, Nat.reduceEqDiff, Nat.reduceAdd, Nat.succ_ne_self, vint, TyS, TyF, BdS, Int.cast_ofNat_Int, d0, d1, d2, d3, d4, d5, d6, d7, d8, d9, d10, g1, g2, Int.toNat_natCast] <;> with_reducible rfl) (fun bt64 => ?_) (fun bt64 => ?_)
      · -- if t64
        have hbad : (t.args.any fun u => !wfT u) = true := List.any_eq_true.2 ⟨_, hmem, bt64⟩
        have hwf : wfT t = false := by rw [wfT_eq, hn, hbad]; rfl
        -- region 26
        repeat (refine awp_seq ?_)
        refine e_eval (by simp only [asq, as0, as1, as2, awanted, aop, LS, SS, SX, HS, mkS_cons, mkS_nil, ↓reduceIte, eq_self', List.map_nil, beq_self_eq_true, Nat.reduceEqDiff, Nat.reduceAdd, Nat.reduceMul, Nat.reduceLT, Nat.reduceLeDiff, Nat.reducePow, Nat.reduceDiv, Nat.reduceMod, Nat.succ_ne_self, Nat.reduceBEq, Nat.reduceBNe, vint, TyS, TyF, BdS, Int.cast_ofNat_Int, d0, d1, d2, d3, d4, d5, d6, d7, d8, d9, d10, g1, g2, Int.toNat_natCast] <;> with_reducible rfl) (by decide) ?_
        repeat (refine awp_seq ?_)
        -- leaf 1 ret
        refine awp_ret ⟨.inr rfl, _, rfl, ?_⟩
        rw [hwf]; rfl
      · -- else t64
        repeat (refine awp_seq ?_)
        refine awp_skip ?_
        -- leaf 2 next1
        exact ⟨⟨rfl, rfl, trivial⟩, (), _, ⟨rfl, trivial⟩, rfl, any_take_succ hi hg bt64⟩
    · intro s hg
      rw [List.take_length] at hg
      have hwf : wfT t = true := by rw [wfT_eq, hn, hg]; rfl
      -- region 28
      repeat (refine awp_seq ?_)
      refine e_eval (by simp only [asq, as0, as1, as2, awanted, aop, LS, SS, SX, HS, mkS_cons, mkS_nil, ↓reduceIte, eq_self', List.map_nil, beq_self_eq_true, Nat.reduceEqDiff, Nat.reduceAdd, Nat.reduceMul, Nat.reduceLT, Nat.reduceLeDiff, Nat.reducePow, Nat.reduceDiv, Nat.reduceMod, Nat.succ_ne_self, Nat.reduceBEq, Nat.reduceBNe, vint, TyS, TyF, BdS, Int.cast_ofNat_Int, d0, d1, d2, d3, d4, d5, d6, d7, d8, d9, d10] <;> with_reducible rfl) (by decide) ?_
      repeat (refine awp_seq ?_)
      -- leaf 3 ret
      refine awp_ret ⟨.inr rfl, _, rfl, ?_⟩
      rw [hwf]; rfl

theorem typeWF_O (t : Ty) (hk : t.kind ≠ 0 ∧ t.kind ≠ 1 ∧ t.kind ≠ 2 ∧ t.kind ≠ 3 ∧ t.kind ≠ 4 ∧ t.kind ≠ 5 ∧ t.kind ≠ 6 ∧ t.kind ≠ 7 ∧ t.kind ≠ 8 ∧ t.kind ≠ 9 ∧ t.kind ≠ 10) (hw : t.W) (ih : ∀ u ∈ t.args, PC Try.prog 93 [u.enc] (.bool (wfT u))) : PC Try.prog 93 [t.enc] (.bool (wfT t)) := by
  have hlen0 : (0 : Int) ≤ (t.args.length : Int) := by omega
  have d0 : decide (t.kind = 0) = false := decide_eq_false (by omega)
  have d1 : decide (t.kind = 1) = false := decide_eq_false (by omega)
  have d2 : decide (t.kind = 2) = false := decide_eq_false (by omega)
  have d3 : decide (t.kind = 3) = false := decide_eq_false (by omega)
  have d4 : decide (t.kind = 4) = false := decide_eq_false (by omega)
  have d5 : decide (t.kind = 5) = false := decide_eq_false (by omega)
  have d6 : decide (t.kind = 6) = false := decide_eq_false (by omega)
  have d7 : decide (t.kind = 7) = false := decide_eq_false (by omega)
  have d8 : decide (t.kind = 8) = false := decide_eq_false (by omega)
  have d9 : decide (t.kind = 9) = false := decide_eq_false (by omega)
  have d10 : decide (t.kind = 10) = false := decide_eq_false (by omega)
  refine pc_of (N := 66) Try.func93 rfl rfl (by simp) (by simp [Ty.bel]) (.bool _) ?_
  -- region 0
  repeat (refine awp_seq ?_)
  refine e_eval (by simp only [asq, as0, as1, as2, awanted, aop, LS, SS, SX, HS, mkS_cons, mkS_nil, ↓reduceIte, eq_self', List.map_nil, beq_self_eq_true, Nat.reduceEqDiff, Nat.reduceAdd, Nat.reduceMul, Nat.reduceLT, Nat.reduceLeDiff, Nat.reducePow, Nat.reduceDiv, Nat.reduceMod, Nat.succ_ne_self, Nat.reduceBEq, Nat.reduceBNe, Tryti24, Trytf24, Trytz24, Trytp24, vint, TyS, TyF, BdS, Int.cast_ofNat_Int, d0, d1, d2, d3, d4, d5, d6, d7, d8, d9, d10] <;> with_reducible rfl) (by decide) ?_
  -- region 1
  repeat (refine awp_seq ?_)
  refine e_eval (by simp only [asq, as0, as1, as2, awanted, aop, LS, SS, SX, HS, mkS_cons, mkS_nil, ↓reduceIte, eq_self', List.map_nil, beq_self_eq_true, Nat.reduceEqDiff, Nat.reduceAdd, Nat.reduceMul, Nat.reduceLT, Nat.reduceLeDiff, Nat.reducePow, Nat.reduceDiv, Nat.reduceMod, Nat.succ_ne_self, Nat.reduceBEq, Nat.reduceBNe, vint, TyS, TyF, BdS, Int.cast_ofNat_Int, d0, d1, d2, d3, d4, d5, d6, d7, d8, d9, d10] <;> with_reducible rfl) (by decide) ?_
  -- region 2
  repeat (refine awp_seq ?_)
  refine e_eval (by simp only [asq, as0, as1, as2, awanted, aop, afldAddr, ajust, aload, LS, SS, SX, HS, mkS_cons, mkS_nil, ↓reduceIte, eq_self', List.map_nil, beq_self_eq_true, Nat.reduceEqDiff, Nat.reduceAdd, Nat.reduceMul, Nat.reduceLT, Nat.reduceLeDiff, Nat.reducePow, Nat.reduceDiv, Nat.reduceMod, Nat.succ_ne_self, Nat.reduceBEq, Nat.reduceBNe, Tryti3, Trytz3, Trytp3, Trytk3, Tryti24, Trytf24, Trytz24, Trytp24, vint, TyS, TyF, BdS, Int.cast_ofNat_Int, d0, d1, d2, d3, d4, d5, d6, d7, d8, d9, d10] <;> with_reducible rfl) (by decide) ?_
  repeat (refine awp_seq ?_)
  refine awp_block ?_
  -- region 4
  repeat (refine awp_seq ?_)
  refine e_eval (by simp only [asq, as0, as1, as2, awanted, aop, abin, ajust, LS, SS, SX, HS, mkS_cons, mkS_nil, ↓reduceIte, eq_self', List.map_nil, beq_self_eq_true, Nat.reduceEqDiff, Nat.reduceAdd, Nat.reduceMul, Nat.reduceLT, Nat.reduceLeDiff, Nat.reducePow, Nat.reduceDiv, Nat.reduceMod, Nat.succ_ne_self, Nat.reduceBEq, Nat.reduceBNe, Tryti3, Trytz3, Trytp3, Trytk3, vint, TyS, TyF, BdS, Int.cast_ofNat_Int, d0, d1, d2, d3, d4, d5, d6, d7, d8, d9, d10] <;> with_reducible rfl) (by decide) ?_
  repeat (refine awp_seq ?_)
  refine awp_cond_false rfl (by simp only [LS, SS, SX, HS, mkS_cons, mkS_nil, ↓reduceIte, eq_self', List.map_nil, beq_self_eq_true, Nat.reduceEqDiff, Nat.reduceAdd, Nat.succ_ne_self, vint, TyS, TyF, BdS, Int.cast_ofNat_Int, d0, d1, d2, d3, d4, d5, d6, d7, d8, d9, d10] <;> with_reducible rfl) ?_
  -- region 5
  repeat (refine awp_seq ?_)
  refine e_eval (by simp only [asq, as0, as1, as2, awanted, aop, abin, ajust, LS, SS, SX, HS, mkS_cons, mkS_nil, ↓reduceIte, eq_self', List.map_nil, beq_self_eq_true, Nat.reduceEqDiff, Nat.reduceAdd, Nat.reduceMul, Nat.reduceLT, Nat.reduceLeDiff, Nat.reducePow, Nat.reduceDiv, Nat.reduceMod, Nat.succ_ne_self, Nat.reduceBEq, Nat.reduceBNe, Tryti3, Trytz3, Trytp3, Trytk3, vint, TyS, TyF, BdS, Int.cast_ofNat_Int, d0, d1, d2, d3, d4, d5, d6, d7, d8, d9, d10] <;> with_reducible rfl) (by decide) ?_
  repeat (refine awp_seq ?_)
  refine awp_cond_false rfl (by simp only [LS, SS, SX, HS, mkS_cons, mkS_nil, ↓reduceIte, eq_self', List.map_nil, beq_self_eq_true, Nat.reduceEqDiff, Nat.reduceAdd, Nat.succ_ne_self, vint, TyS, TyF, BdS, Int.cast_ofNat_Int, d0, d1, d2, d3, d4, d5, d6, d7, d8, d9, d10] <;> with_reducible rfl) ?_
  -- region 6
  repeat (refine awp_seq ?_)
  refine e_eval (by simp only [asq, as0, as1, as2, awanted, aop, abin, ajust, LS, SS, SX, HS, mkS_cons, mkS_nil, ↓reduceIte, eq_self', List.map_nil, beq_self_eq_true, Nat.reduceEqDiff, Nat.reduceAdd, Nat.reduceMul, Nat.reduceLT, Nat.reduceLeDiff, Nat.reducePow, Nat.reduceDiv, Nat.reduceMod, Nat.succ_ne_self, Nat.reduceBEq, Nat.reduceBNe, Tryti3, Trytz3, Trytp3, Trytk3, vint, TyS, TyF, BdS, Int.cast_ofNat_Int, d0, d1, d2, d3, d4, d5, d6, d7, d8, d9, d10] <;> with_reducible rfl) (by decide) ?_
  repeat (refine awp_seq ?_)
  refine awp_cond_false rfl (by simp only [LS, SS, SX, HS, mkS_cons, mkS_nil, ↓reduceIte, eq_self', List.map_nil, beq_self_eq_true, Nat.reduceEqDiff, Nat.reduceAdd, Nat.succ_ne_self, vint, TyS, TyF, BdS, Int.cast_ofNat_Int, d0, d1, d2, d3, d4, d5, d6, d7, d8, d9, d10] <;> with_reducible rfl) ?_
  -- region 7
  repeat (refine awp_seq ?_)
  refine e_eval (by simp only [asq, as0, as1, as2, awanted, aop, abin, ajust, LS, SS, SX, HS, mkS_cons, mkS_nil, ↓reduceIte, eq_self', List.map_nil, beq_self_eq_true, Nat.reduceEqDiff, Nat.reduceAdd, Nat.reduceMul, Nat.reduceLT, Nat.reduceLeDiff, Nat.reducePow, Nat.reduceDiv, Nat.reduceMod, Nat.succ_ne_self, Nat.reduceBEq, Nat.reduceBNe, Tryti3, Trytz3, Trytp3, Trytk3, vint, TyS, TyF, BdS, Int.cast_ofNat_Int, d0, d1, d2, d3, d4, d5, d6, d7, d8, d9, d10] <;> with_reducible rfl) (by decide) ?_
  repeat (refine awp_seq ?_)
  refine awp_cond_false rfl (by simp only [LS, SS, SX, HS, mkS_cons, mkS_nil, ↓reduceIte, eq_self', List.map_nil, beq_self_eq_true, Nat.reduceEqDiff, Nat.reduceAdd, Nat.succ_ne_self, vint, TyS, TyF, BdS, Int.cast_ofNat_Int, d0, d1, d2, d3, d4, d5, d6, d7, d8, d9, d10] <;> with_reducible rfl) ?_
  refine awp_sel [1, 3, 4, 5, 9] (by simp only [LS, SS, SX, HS, mkS_cons, mkS_nil, ↓reduceIte, eq_self', List.map_nil, beq_self_eq_true, Nat.reduceEqDiff, Nat.reduceAdd, Nat.succ_ne_self, vint, TyS, TyF, BdS, Int.cast_ofNat_Int, d0, d1, d2, d3, d4, d5, d6, d7, d8, d9, d10] <;> with_reducible rfl) ?_
  -- region 8
  repeat (refine awp_seq ?_)
  refine e_eval (by simp only [asq, as0, as1, as2, awanted, aop, abin, ajust, LS, SS, SX, HS, mkS_cons, mkS_nil, ↓reduceIte, eq_self', List.map_nil, beq_self_eq_true, Nat.reduceEqDiff, Nat.reduceAdd, Nat.reduceMul, Nat.reduceLT, Nat.reduceLeDiff, Nat.reducePow, Nat.reduceDiv, Nat.reduceMod, Nat.succ_ne_self, Nat.reduceBEq, Nat.reduceBNe, Tryti3, Trytz3, Trytp3, Trytk3, vint, TyS, TyF, BdS, Int.cast_ofNat_Int, d0, d1, d2, d3, d4, d5, d6, d7, d8, d9, d10] <;> with_reducible rfl) (by decide) ?_
  repeat (refine awp_seq ?_)
  refine awp_cond_false rfl (by simp only [LS, SS, SX, HS, mkS_cons, mkS_nil, ↓reduceIte, eq_self', List.map_nil, beq_self_eq_true, Nat.reduceEqDiff, Nat.reduceAdd, Nat.succ_ne_self, vint, TyS, TyF, BdS, Int.cast_ofNat_Int, d0, d1, d2, d3, d4, d5, d6, d7, d8, d9, d10] <;> with_reducible rfl) ?_
  -- region 9
  repeat (refine awp_seq ?_)
  refine e_eval (by simp only [asq, as0, as1, as2, awanted, aop, abin, ajust, LS, SS, SX, HS, mkS_cons, mkS_nil, ↓reduceIte, eq_self', List.map_nil, beq_self_eq_true, Nat.reduceEqDiff, Nat.reduceAdd, Nat.reduceMul, Nat.reduceLT, Nat.reduceLeDiff, Nat.reducePow, Nat.reduceDiv, Nat.reduceMod, Nat.succ_ne_self, Nat.reduceBEq, Nat.reduceBNe, Tryti3, Trytz3, Trytp3, Trytk3, vint, TyS, TyF, BdS, Int.cast_ofNat_Int, d0, d1, d2, d3, d4, d5, d6, d7, d8, d9, d10] <;> with_reducible rfl) (by decide) ?_
  repeat (refine awp_seq ?_)
  refine awp_cond_false rfl (by simp only [LS, SS, SX, HS, mkS_cons, mkS_nil, ↓reduceIte, eq_self', List.map_nil, beq_self_eq_true, Nat.reduceEqDiff, Nat.reduceAdd, Nat.succ_ne_self, vint, TyS, TyF, BdS, Int.cast_ofNat_Int, d0, d1, d2, d3, d4, d5, d6, d7, d8, d9, d10] <;> with_reducible rfl) ?_
  -- region 10
  repeat (refine awp_seq ?_)
  refine e_eval (by simp only [asq, as0, as1, as2, awanted, aop, abin, ajust, LS, SS, SX, HS, mkS_cons, mkS_nil, ↓reduceIte, eq_self', List.map_nil, beq_self_eq_true, Nat.reduceEqDiff, Nat.reduceAdd, Nat.reduceMul, Nat.reduceLT, Nat.reduceLeDiff, Nat.reducePow, Nat.reduceDiv, Nat.reduceMod, Nat.succ_ne_self, Nat.reduceBEq, Nat.reduceBNe, Tryti3, Trytz3, Trytp3, Trytk3, vint, TyS, TyF, BdS, Int.cast_ofNat_Int, d0, d1, d2, d3, d4, d5, d6, d7, d8, d9, d10] <;> with_reducible rfl) (by decide) ?_
  repeat (refine awp_seq ?_)
  refine awp_cond_false rfl (by simp only [LS, SS, SX, HS, mkS_cons, mkS_nil, ↓reduceIte, eq_self', List.map_nil, beq_self_eq_true, Nat.reduceEqDiff, Nat.reduceAdd, Nat.succ_ne_self, vint, TyS, TyF, BdS, Int.cast_ofNat_Int, d0, d1, d2, d3, d4, d5, d6, d7, d8, d9, d10] <;> with_reducible rfl) ?_
  -- region 12
  repeat (refine awp_seq ?_)
  refine e_eval (by simp only [asq, as0, as1, as2, awanted, aop, abin, ajust, LS, SS, SX, HS, mkS_cons, mkS_nil, ↓reduceIte, eq_self', List.map_nil, beq_self_eq_true, Nat.reduceEqDiff, Nat.reduceAdd, Nat.reduceMul, Nat.reduceLT, Nat.reduceLeDiff, Nat.reducePow, Nat.reduceDiv, Nat.reduceMod, Nat.succ_ne_self, Nat.reduceBEq, Nat.reduceBNe, Tryti3, Trytz3, Trytp3, Trytk3, vint, TyS, TyF, BdS, Int.cast_ofNat_Int, d0, d1, d2, d3, d4, d5, d6, d7, d8, d9, d10] <;> with_reducible rfl) (by decide) ?_
  repeat (refine awp_seq ?_)
  refine awp_cond_false rfl (by simp only [LS, SS, SX, HS, mkS_cons, mkS_nil, ↓reduceIte, eq_self', List.map_nil, beq_self_eq_true, Nat.reduceEqDiff, Nat.reduceAdd, Nat.succ_ne_self, vint, TyS, TyF, BdS, Int.cast_ofNat_Int, d0, d1, d2, d3, d4, d5, d6, d7, d8, d9, d10] <;> with_reducible rfl) ?_
  -- region 14
  repeat (refine awp_seq ?_)
  refine e_eval (by simp only [asq, as0, as1, as2, awanted, aop, abin, ajust, LS, SS, SX, HS, mkS_cons, mkS_nil, ↓reduceIte, eq_self', List.map_nil, beq_self_eq_true, Nat.reduceEqDiff, Nat.reduceAdd, Nat.reduceMul, Nat.reduceLT, Nat.reduceLeDiff, Nat.reducePow, Nat.reduceDiv, Nat.reduceMod, Nat.succ_ne_self, Nat.reduceBEq, Nat.reduceBNe, Tryti3, Trytz3, Trytp3, Trytk3, vint, TyS, TyF, BdS, Int.cast_ofNat_Int, d0, d1, d2, d3, d4, d5, d6, d7, d8, d9, d10] <;> with_reducible rfl) (by decide) ?_
  repeat (refine awp_seq ?_)
  refine awp_cond_false rfl (by simp only [LS, SS, SX, HS, mkS_cons, mkS_nil, ↓reduceIte, eq_self', List.map_nil, beq_self_eq_true, Nat.reduceEqDiff, Nat.reduceAdd, Nat.succ_ne_self, vint, TyS, TyF, BdS, Int.cast_ofNat_Int, d0, d1, d2, d3, d4, d5, d6, d7, d8, d9, d10] <;> with_reducible rfl) ?_
  -- region 16
  repeat (refine awp_seq ?_)
  refine e_eval (by simp only [asq, as0, as1, as2, awanted, aop, abin, ajust, LS, SS, SX, HS, mkS_cons, mkS_nil, ↓reduceIte, eq_self', List.map_nil, beq_self_eq_true, Nat.reduceEqDiff, Nat.reduceAdd, Nat.reduceMul, Nat.reduceLT, Nat.reduceLeDiff, Nat.reducePow, Nat.reduceDiv, Nat.reduceMod, Nat.succ_ne_self, Nat.reduceBEq, Nat.reduceBNe, Tryti3, Trytz3, Trytp3, Trytk3, vint, TyS, TyF, BdS, Int.cast_ofNat_Int, d0, d1, d2, d3, d4, d5, d6, d7, d8, d9, d10] <;> with_reducible rfl) (by decide) ?_
  repeat (refine awp_seq ?_)
  refine awp_cond_false rfl (by simp only [LS, SS, SX, HS, mkS_cons, mkS_nil, ↓reduceIte, eq_self', List.map_nil, beq_self_eq_true, Nat.reduceEqDiff, Nat.reduceAdd, Nat.succ_ne_self, vint, TyS, TyF, BdS, Int.cast_ofNat_Int, d0, d1, d2, d3, d4, d5, d6, d7, d8, d9, d10] <;> with_reducible rfl) ?_
  -- region 18
  repeat (refine awp_seq ?_)
  refine e_eval (by simp only [asq, as0, as1, as2, awanted, aop, abin, ajust, LS, SS, SX, HS, mkS_cons, mkS_nil, ↓reduceIte, eq_self', List.map_nil, beq_self_eq_true, Nat.reduceEqDiff, Nat.reduceAdd, Nat.reduceMul, Nat.reduceLT, Nat.reduceLeDiff, Nat.reducePow, Nat.reduceDiv, Nat.reduceMod, Nat.succ_ne_self, Nat.reduceBEq, Nat.reduceBNe, Tryti3, Trytz3, Trytp3, Trytk3, vint, TyS, TyF, BdS, Int.cast_ofNat_Int, d0, d1, d2, d3, d4, d5, d6, d7, d8, d9, d10] <;> with_reducible rfl) (by decide) ?_
  repeat (refine awp_seq ?_)
  refine awp_cond_false rfl (by simp only [LS, SS, SX, HS, mkS_cons, mkS_nil, ↓reduceIte, eq_self', List.map_nil, beq_self_eq_true, Nat.reduceEqDiff, Nat.reduceAdd, Nat.succ_ne_self, vint, TyS, TyF, BdS, Int.cast_ofNat_Int, d0, d1, d2, d3, d4, d5, d6, d7, d8, d9, d10] <;> with_reducible rfl) ?_
  -- region 3
  repeat (refine awp_seq ?_)
  refine e_eval (by simp only [asq, as0, as1, as2, awanted, aop, LS, SS, SX, HS, mkS_cons, mkS_nil, ↓reduceIte, eq_self', List.map_nil, beq_self_eq_true, Nat.reduceEqDiff, Nat.reduceAdd, Nat.reduceMul, Nat.reduceLT, Nat.reduceLeDiff, Nat.reducePow, Nat.reduceDiv, Nat.reduceMod, Nat.succ_ne_self, Nat.reduceBEq, Nat.reduceBNe, vint, TyS, TyF, BdS, Int.cast_ofNat_Int, d0, d1, d2, d3, d4, d5, d6, d7, d8, d9, d10] <;> with_reducible rfl) (by decide) ?_
  repeat (refine awp_seq ?_)
  -- leaf 0 ret
  refine awp_ret ⟨.inr rfl, _, rfl, ?_⟩
  have hn : nwf t = false := by
    unfold nwf
    simp only [d0, d1, d2, d3, d4, d5, d6, d7, d8, d9, d10, Bool.or_false, Bool.or_true, Bool.false_or, Bool.true_or, if_true, if_false, Bool.false_eq_true]
  rw [wfT_eq, hn]; rfl

theorem typeWF_k : ∀ (k : Nat) (t : Ty), t.size ≤ k → t.W → PC Try.prog 93 [t.enc] (.bool (wfT t))
  | 0, t, h, _ => by cases t; simp [Ty.size] at h
  | k + 1, t, h, hw => by
    have ih : ∀ u ∈ t.args, PC Try.prog 93 [u.enc] (.bool (wfT u)) := fun u hu => typeWF_k k u (by have := Ty.size_arg hu; omega) (hw.arg hu)
    by_cases h0 : t.kind = 0
    · exact typeWF_0 t h0 hw ih
    by_cases h1 : t.kind = 1
    · exact typeWF_1 t h1 hw ih
    by_cases h2 : t.kind = 2
    · exact typeWF_2 t h2 hw ih
    by_cases h3 : t.kind = 3
    · exact typeWF_3 t h3 hw ih
    by_cases h4 : t.kind = 4
    · exact typeWF_4 t h4 hw ih
    by_cases h5 : t.kind = 5
    · exact typeWF_5 t h5 hw ih
    by_cases h6 : t.kind = 6
    · exact typeWF_6 t h6 hw ih
    by_cases h7 : t.kind = 7
    · exact typeWF_7 t h7 hw ih
    by_cases h8 : t.kind = 8
    · exact typeWF_8 t h8 hw ih
    by_cases h9 : t.kind = 9
    · exact typeWF_9 t h9 hw ih
    by_cases h10 : t.kind = 10
    · exact typeWF_10 t h10 hw ih
    exact typeWF_O t ⟨h0, h1, h2, h3, h4, h5, h6, h7, h8, h9, h10⟩ hw ih

theorem typeWF (t : Ty) (hw : t.W) : PC Try.prog 93 [t.enc] (.bool (wfT t)) := typeWF_k t.size t (Nat.le_refl _) hw

end Go.Abs
