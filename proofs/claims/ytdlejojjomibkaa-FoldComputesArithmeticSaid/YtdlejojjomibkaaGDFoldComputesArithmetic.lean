/- Part 4 of a proof of the law FoldComputesArithmetic: Go data as trees, the walks of the functions that the law reaches, the plain laws. -/
import Derived.Test.YtdlejojjomibkaaGCFoldComputesArithmetic
import GoSem.ClaimJoined
import Derived.ChangeArms
import Derived.Carry
import Derived.SizedLaws
import Derived.JoinedCond
import Derived.Deep.CondSized
import Derived.JoinedOf
import Derived.KernelRfl
set_option linter.unusedVariables false
set_option linter.unusedSimpArgs false
set_option maxRecDepth 4000
namespace Go.Abs
open Go.Proofs

theorem cw_fold : foldN (Nd.mk 39 0 [60] 0 0 (-1) [Nd.mk 39 0 [43] 0 0 (-1) [Nd.mk 27 1 [] 0 0 (-1) [], Nd.mk 39 0 [42] 0 0 (-1) [Nd.mk 27 2 [] 0 0 (-1) [], Nd.mk 27 3 [] 0 0 (-1) []]], Nd.mk 27 8 [] 0 0 (-1) []]) = Nd.mk 28 1 [] 0 0 (-1) [] := by
  simp [foldN, stepN, foldBin, litV, arith, arithN, intN, boolN, Nd.kind, Nd.value, Nd.text, Nd.kids, Nd.st, Nd.en]
theorem cw_val : (litV (Nd.mk 28 1 [] 0 0 (-1) [])).1 = 1 ∧ (litV (Nd.mk 28 1 [] 0 0 (-1) [])).2.1 = true ∧ (litV (Nd.mk 28 1 [] 0 0 (-1) [])).2.2 = true := by
  simp [litV, Nd.kind, Nd.value]
theorem step_W (m : Nd) (h : m.W) : (stepN m).W := by
  rcases step_cases m with h1 | h1 | ⟨b, h1⟩ | ⟨v, h1⟩
  · rw [h1]; exact h
  · exact h.kid h1
  · rw [h1]; unfold boolN; simp [Nd.W_iff]
  · rw [h1]; unfold intN; split <;> simp [Nd.W_iff]
theorem fold_W : ∀ t : Nd, t.W → (foldN t).W
  | .mk k v x s e n us, h => by
    rw [foldN]
    refine step_W _ (Nd.W_iff.2 ⟨by rw [List.length_map]; exact h.len, fun u hu => ?_⟩)
    obtain ⟨c, hc, rfl⟩ := List.mem_map.1 hu
    exact fold_W c (h.kid hc)

theorem constfoldWorksK : PC Try.prog 6 [] (.bool true) := by
  refine pc_of (N := 25) Try.func6 rfl rfl (by simp) (by simp) (.bool _) ?_
  -- region 0
  repeat (refine awp_seq ?_)
  refine e_eval (by simp only [asq, as0, as1, as2, awanted, aop, LS, SS, SX, HS, mkS_cons, mkS_nil, ↓reduceIte, eq_self', List.map_nil, beq_self_eq_true, Nat.reduceEqDiff, Nat.reduceAdd, Nat.reduceMul, Nat.reduceLT, Nat.reduceLeDiff, Nat.reducePow, Nat.reduceDiv, Nat.reduceMod, Nat.succ_ne_self, Nat.reduceBEq, Nat.reduceBNe, vint, NdS, NdF, Int.cast_ofNat_Int, Int.reduceLT, Int.reduceLE, Int.reduceEq, Int.toNat_one, Int.toNat_zero, Int.reduceToNat, Int.reduceNeg, decide_true, decide_false] <;> with_reducible rfl) (by decide) ?_
  -- region 1
  repeat (refine awp_seq ?_)
  refine awp_region ?_
  refine aops_pure (by simp only [acall, awanted, LS, SS, SX, HS, mkS_cons, mkS_nil, ↓reduceIte, eq_self', List.map_nil, beq_self_eq_true, Nat.reduceEqDiff, Nat.reduceAdd, Nat.reduceMul, Nat.reduceLT, Nat.reduceLeDiff, Nat.reducePow, Nat.reduceDiv, Nat.reduceMod, Nat.succ_ne_self, Nat.reduceBEq, Nat.reduceBNe, vint, NdS, NdF, Int.cast_ofNat_Int, Int.reduceLT, Int.reduceLE, Int.reduceEq, Int.toNat_one, Int.toNat_zero, Int.reduceToNat, Int.reduceNeg, decide_true, decide_false, cw_fold, cw_val] <;> with_reducible rfl) (by simp only [acall, awanted, LS, SS, SX, HS, mkS_cons, mkS_nil, ↓reduceIte, eq_self', List.map_nil, beq_self_eq_true, Nat.reduceEqDiff, Nat.reduceAdd, Nat.reduceMul, Nat.reduceLT, Nat.reduceLeDiff, Nat.reducePow, Nat.reduceDiv, Nat.reduceMod, Nat.succ_ne_self, Nat.reduceBEq, Nat.reduceBNe, vint, NdS, NdF, Int.cast_ofNat_Int, Int.reduceLT, Int.reduceLE, Int.reduceEq, Int.toNat_one, Int.toNat_zero, Int.reduceToNat, Int.reduceNeg, decide_true, decide_false, cw_fold, cw_val]) (by decide) Trygo10 (intLitK 1 _) ?_
  refine aops_pure (by simp only [acall, awanted, LS, SS, SX, HS, mkS_cons, mkS_nil, ↓reduceIte, eq_self', List.map_nil, beq_self_eq_true, Nat.reduceEqDiff, Nat.reduceAdd, Nat.reduceMul, Nat.reduceLT, Nat.reduceLeDiff, Nat.reducePow, Nat.reduceDiv, Nat.reduceMod, Nat.succ_ne_self, Nat.reduceBEq, Nat.reduceBNe, vint, NdS, NdF, Int.cast_ofNat_Int, Int.reduceLT, Int.reduceLE, Int.reduceEq, Int.toNat_one, Int.toNat_zero, Int.reduceToNat, Int.reduceNeg, decide_true, decide_false, cw_fold, cw_val] <;> with_reducible rfl) (by simp only [acall, awanted, LS, SS, SX, HS, mkS_cons, mkS_nil, ↓reduceIte, eq_self', List.map_nil, beq_self_eq_true, Nat.reduceEqDiff, Nat.reduceAdd, Nat.reduceMul, Nat.reduceLT, Nat.reduceLeDiff, Nat.reducePow, Nat.reduceDiv, Nat.reduceMod, Nat.succ_ne_self, Nat.reduceBEq, Nat.reduceBNe, vint, NdS, NdF, Int.cast_ofNat_Int, Int.reduceLT, Int.reduceLE, Int.reduceEq, Int.toNat_one, Int.toNat_zero, Int.reduceToNat, Int.reduceNeg, decide_true, decide_false, cw_fold, cw_val]) (by decide) Trygo10 (intLitK 2 _) ?_
  refine aops_pure (by simp only [acall, awanted, LS, SS, SX, HS, mkS_cons, mkS_nil, ↓reduceIte, eq_self', List.map_nil, beq_self_eq_true, Nat.reduceEqDiff, Nat.reduceAdd, Nat.reduceMul, Nat.reduceLT, Nat.reduceLeDiff, Nat.reducePow, Nat.reduceDiv, Nat.reduceMod, Nat.succ_ne_self, Nat.reduceBEq, Nat.reduceBNe, vint, NdS, NdF, Int.cast_ofNat_Int, Int.reduceLT, Int.reduceLE, Int.reduceEq, Int.toNat_one, Int.toNat_zero, Int.reduceToNat, Int.reduceNeg, decide_true, decide_false, cw_fold, cw_val] <;> with_reducible rfl) (by simp only [acall, awanted, LS, SS, SX, HS, mkS_cons, mkS_nil, ↓reduceIte, eq_self', List.map_nil, beq_self_eq_true, Nat.reduceEqDiff, Nat.reduceAdd, Nat.reduceMul, Nat.reduceLT, Nat.reduceLeDiff, Nat.reducePow, Nat.reduceDiv, Nat.reduceMod, Nat.succ_ne_self, Nat.reduceBEq, Nat.reduceBNe, vint, NdS, NdF, Int.cast_ofNat_Int, Int.reduceLT, Int.reduceLE, Int.reduceEq, Int.toNat_one, Int.toNat_zero, Int.reduceToNat, Int.reduceNeg, decide_true, decide_false, cw_fold, cw_val]) (by decide) Trygo10 (intLitK 3 _) ?_
  refine aops_pure (by simp only [acall, awanted, LS, SS, SX, HS, mkS_cons, mkS_nil, ↓reduceIte, eq_self', List.map_nil, beq_self_eq_true, Nat.reduceEqDiff, Nat.reduceAdd, Nat.reduceMul, Nat.reduceLT, Nat.reduceLeDiff, Nat.reducePow, Nat.reduceDiv, Nat.reduceMod, Nat.succ_ne_self, Nat.reduceBEq, Nat.reduceBNe, vint, NdS, NdF, Int.cast_ofNat_Int, Int.reduceLT, Int.reduceLE, Int.reduceEq, Int.toNat_one, Int.toNat_zero, Int.reduceToNat, Int.reduceNeg, decide_true, decide_false, cw_fold, cw_val] <;> with_reducible rfl) (by simp only [acall, awanted, LS, SS, SX, HS, mkS_cons, mkS_nil, ↓reduceIte, eq_self', List.map_nil, beq_self_eq_true, Nat.reduceEqDiff, Nat.reduceAdd, Nat.reduceMul, Nat.reduceLT, Nat.reduceLeDiff, Nat.reducePow, Nat.reduceDiv, Nat.reduceMod, Nat.succ_ne_self, Nat.reduceBEq, Nat.reduceBNe, vint, NdS, NdF, Int.cast_ofNat_Int, Int.reduceLT, Int.reduceLE, Int.reduceEq, Int.toNat_one, Int.toNat_zero, Int.reduceToNat, Int.reduceNeg, decide_true, decide_false, cw_fold, cw_val]) (by decide) Trygo12 (binK [42] (Nd.mk 27 2 [] 0 0 (-1) []) (Nd.mk 27 3 [] 0 0 (-1) []) _) ?_
  refine aops_pure (by simp only [acall, awanted, LS, SS, SX, HS, mkS_cons, mkS_nil, ↓reduceIte, eq_self', List.map_nil, beq_self_eq_true, Nat.reduceEqDiff, Nat.reduceAdd, Nat.reduceMul, Nat.reduceLT, Nat.reduceLeDiff, Nat.reducePow, Nat.reduceDiv, Nat.reduceMod, Nat.succ_ne_self, Nat.reduceBEq, Nat.reduceBNe, vint, NdS, NdF, Int.cast_ofNat_Int, Int.reduceLT, Int.reduceLE, Int.reduceEq, Int.toNat_one, Int.toNat_zero, Int.reduceToNat, Int.reduceNeg, decide_true, decide_false, cw_fold, cw_val] <;> with_reducible rfl) (by simp only [acall, awanted, LS, SS, SX, HS, mkS_cons, mkS_nil, ↓reduceIte, eq_self', List.map_nil, beq_self_eq_true, Nat.reduceEqDiff, Nat.reduceAdd, Nat.reduceMul, Nat.reduceLT, Nat.reduceLeDiff, Nat.reducePow, Nat.reduceDiv, Nat.reduceMod, Nat.succ_ne_self, Nat.reduceBEq, Nat.reduceBNe, vint, NdS, NdF, Int.cast_ofNat_Int, Int.reduceLT, Int.reduceLE, Int.reduceEq, Int.toNat_one, Int.toNat_zero, Int.reduceToNat, Int.reduceNeg, decide_true, decide_false, cw_fold, cw_val]) (by decide) Trygo12 (binK [43] (Nd.mk 27 1 [] 0 0 (-1) []) (Nd.mk 39 0 [42] 0 0 (-1) [Nd.mk 27 2 [] 0 0 (-1) [], Nd.mk 27 3 [] 0 0 (-1) []]) _) ?_
  refine aops_pure (by simp only [acall, awanted, LS, SS, SX, HS, mkS_cons, mkS_nil, ↓reduceIte, eq_self', List.map_nil, beq_self_eq_true, Nat.reduceEqDiff, Nat.reduceAdd, Nat.reduceMul, Nat.reduceLT, Nat.reduceLeDiff, Nat.reducePow, Nat.reduceDiv, Nat.reduceMod, Nat.succ_ne_self, Nat.reduceBEq, Nat.reduceBNe, vint, NdS, NdF, Int.cast_ofNat_Int, Int.reduceLT, Int.reduceLE, Int.reduceEq, Int.toNat_one, Int.toNat_zero, Int.reduceToNat, Int.reduceNeg, decide_true, decide_false, cw_fold, cw_val] <;> with_reducible rfl) (by simp only [acall, awanted, LS, SS, SX, HS, mkS_cons, mkS_nil, ↓reduceIte, eq_self', List.map_nil, beq_self_eq_true, Nat.reduceEqDiff, Nat.reduceAdd, Nat.reduceMul, Nat.reduceLT, Nat.reduceLeDiff, Nat.reducePow, Nat.reduceDiv, Nat.reduceMod, Nat.succ_ne_self, Nat.reduceBEq, Nat.reduceBNe, vint, NdS, NdF, Int.cast_ofNat_Int, Int.reduceLT, Int.reduceLE, Int.reduceEq, Int.toNat_one, Int.toNat_zero, Int.reduceToNat, Int.reduceNeg, decide_true, decide_false, cw_fold, cw_val]) (by decide) Trygo10 (intLitK 8 _) ?_
  refine aops_pure (by simp only [acall, awanted, LS, SS, SX, HS, mkS_cons, mkS_nil, ↓reduceIte, eq_self', List.map_nil, beq_self_eq_true, Nat.reduceEqDiff, Nat.reduceAdd, Nat.reduceMul, Nat.reduceLT, Nat.reduceLeDiff, Nat.reducePow, Nat.reduceDiv, Nat.reduceMod, Nat.succ_ne_self, Nat.reduceBEq, Nat.reduceBNe, vint, NdS, NdF, Int.cast_ofNat_Int, Int.reduceLT, Int.reduceLE, Int.reduceEq, Int.toNat_one, Int.toNat_zero, Int.reduceToNat, Int.reduceNeg, decide_true, decide_false, cw_fold, cw_val] <;> with_reducible rfl) (by simp only [acall, awanted, LS, SS, SX, HS, mkS_cons, mkS_nil, ↓reduceIte, eq_self', List.map_nil, beq_self_eq_true, Nat.reduceEqDiff, Nat.reduceAdd, Nat.reduceMul, Nat.reduceLT, Nat.reduceLeDiff, Nat.reducePow, Nat.reduceDiv, Nat.reduceMod, Nat.succ_ne_self, Nat.reduceBEq, Nat.reduceBNe, vint, NdS, NdF, Int.cast_ofNat_Int, Int.reduceLT, Int.reduceLE, Int.reduceEq, Int.toNat_one, Int.toNat_zero, Int.reduceToNat, Int.reduceNeg, decide_true, decide_false, cw_fold, cw_val]) (by decide) Trygo12 (binK [60] (Nd.mk 39 0 [43] 0 0 (-1) [Nd.mk 27 1 [] 0 0 (-1) [], Nd.mk 39 0 [42] 0 0 (-1) [Nd.mk 27 2 [] 0 0 (-1) [], Nd.mk 27 3 [] 0 0 (-1) []]]) (Nd.mk 27 8 [] 0 0 (-1) []) _) ?_
  refine aops_pure (by simp only [acall, awanted, LS, SS, SX, HS, mkS_cons, mkS_nil, ↓reduceIte, eq_self', List.map_nil, beq_self_eq_true, Nat.reduceEqDiff, Nat.reduceAdd, Nat.reduceMul, Nat.reduceLT, Nat.reduceLeDiff, Nat.reducePow, Nat.reduceDiv, Nat.reduceMod, Nat.succ_ne_self, Nat.reduceBEq, Nat.reduceBNe, vint, NdS, NdF, Int.cast_ofNat_Int, Int.reduceLT, Int.reduceLE, Int.reduceEq, Int.toNat_one, Int.toNat_zero, Int.reduceToNat, Int.reduceNeg, decide_true, decide_false, cw_fold, cw_val] <;> with_reducible rfl) (by simp only [acall, awanted, LS, SS, SX, HS, mkS_cons, mkS_nil, ↓reduceIte, eq_self', List.map_nil, beq_self_eq_true, Nat.reduceEqDiff, Nat.reduceAdd, Nat.reduceMul, Nat.reduceLT, Nat.reduceLeDiff, Nat.reducePow, Nat.reduceDiv, Nat.reduceMod, Nat.succ_ne_self, Nat.reduceBEq, Nat.reduceBNe, vint, NdS, NdF, Int.cast_ofNat_Int, Int.reduceLT, Int.reduceLE, Int.reduceEq, Int.toNat_one, Int.toNat_zero, Int.reduceToNat, Int.reduceNeg, decide_true, decide_false, cw_fold, cw_val]) (by decide) Trygo7 (fold_k _ (Nd.mk 39 0 [60] 0 0 (-1) [Nd.mk 39 0 [43] 0 0 (-1) [Nd.mk 27 1 [] 0 0 (-1) [], Nd.mk 39 0 [42] 0 0 (-1) [Nd.mk 27 2 [] 0 0 (-1) [], Nd.mk 27 3 [] 0 0 (-1) []]], Nd.mk 27 8 [] 0 0 (-1) []]) (Nat.le_refl _) (by simp [Nd.W_iff]) _) ?_
  refine aops_pure (by simp only [acall, awanted, LS, SS, SX, HS, mkS_cons, mkS_nil, ↓reduceIte, eq_self', List.map_nil, beq_self_eq_true, Nat.reduceEqDiff, Nat.reduceAdd, Nat.reduceMul, Nat.reduceLT, Nat.reduceLeDiff, Nat.reducePow, Nat.reduceDiv, Nat.reduceMod, Nat.succ_ne_self, Nat.reduceBEq, Nat.reduceBNe, vint, NdS, NdF, Int.cast_ofNat_Int, Int.reduceLT, Int.reduceLE, Int.reduceEq, Int.toNat_one, Int.toNat_zero, Int.reduceToNat, Int.reduceNeg, decide_true, decide_false, cw_fold, cw_val] <;> with_reducible rfl) (by simp only [acall, awanted, LS, SS, SX, HS, mkS_cons, mkS_nil, ↓reduceIte, eq_self', List.map_nil, beq_self_eq_true, Nat.reduceEqDiff, Nat.reduceAdd, Nat.reduceMul, Nat.reduceLT, Nat.reduceLeDiff, Nat.reducePow, Nat.reduceDiv, Nat.reduceMod, Nat.succ_ne_self, Nat.reduceBEq, Nat.reduceBNe, vint, NdS, NdF, Int.cast_ofNat_Int, Int.reduceLT, Int.reduceLE, Int.reduceEq, Int.toNat_one, Int.toNat_zero, Int.reduceToNat, Int.reduceNeg, decide_true, decide_false, cw_fold, cw_val]) (by decide) Trygo11 (value_c (Nd.mk 28 1 [] 0 0 (-1) []) _) ?_
  refine e_end (by simp only [asq, as0, as1, as2, awanted, aop, ajust, LS, SS, SX, HS, mkS_cons, mkS_nil, ↓reduceIte, eq_self', List.map_nil, beq_self_eq_true, Nat.reduceEqDiff, Nat.reduceAdd, Nat.reduceMul, Nat.reduceLT, Nat.reduceLeDiff, Nat.reducePow, Nat.reduceDiv, Nat.reduceMod, Nat.succ_ne_self, Nat.reduceBEq, Nat.reduceBNe, vint, NdS, NdF, Int.cast_ofNat_Int, Int.reduceLT, Int.reduceLE, Int.reduceEq, Int.toNat_one, Int.toNat_zero, Int.reduceToNat, Int.reduceNeg, decide_true, decide_false, cw_fold, cw_val] <;> with_reducible rfl) (by decide) ?_
  refine awp_sel [1, 2, 3] (by simp only [LS, SS, SX, HS, mkS_cons, mkS_nil, ↓reduceIte, eq_self', List.map_nil, beq_self_eq_true, Nat.reduceEqDiff, Nat.reduceAdd, Nat.succ_ne_self, vint, NdS, NdF, Int.cast_ofNat_Int, Int.reduceLT, Int.reduceLE, Int.reduceEq, Int.toNat_one, Int.toNat_zero, Int.reduceToNat, Int.reduceNeg, decide_true, decide_false] <;> with_reducible rfl) ?_
  -- region 2
  repeat (refine awp_seq ?_)
  refine g_eval (by simp only [gsq, gs0, gs1, gs2, gcond, gop, SG, Op.operands, Call.operands, Array.toList_append, aop, abin, ajust, LS, SS, SX, HS, mkS_cons, mkS_nil, ↓reduceIte, eq_self', List.map_nil, beq_self_eq_true, Nat.reduceEqDiff, Nat.reduceAdd, Nat.reduceMul, Nat.reduceLT, Nat.reduceLeDiff, Nat.reducePow, Nat.reduceDiv, Nat.reduceMod, Nat.succ_ne_self, Nat.reduceBEq, Nat.reduceBNe, Tryti3, Trytz3, Trytp3, Trytk3, vint, NdS, NdF, Int.cast_ofNat_Int, Int.reduceLT, Int.reduceLE, Int.reduceEq, Int.toNat_one, Int.toNat_zero, Int.reduceToNat, Int.reduceNeg, decide_true, decide_false, cw_val] <;> with_reducible rfl) (by decide) (by repeat (first | exact Fin.base _ | with_reducible apply Fin.keep | apply Fin.drop)) ?_
  repeat (refine awp_seq ?_)
  -- leaf 0 ret
  refine awp_ret ⟨.inr rfl, _, rfl, ?_⟩
  simp only [LS, SS, SX, HS, mkS_cons, mkS_nil, ↓reduceIte, eq_self', List.map_nil, beq_self_eq_true, Nat.reduceEqDiff, Nat.reduceAdd, Nat.succ_ne_self, vint, NdS, NdF]

theorem law_idem (t : Nd) (ht : t.W) : PC Try.prog 3 [t.enc] (.bool true) := by
  have hf := fold_fold2 t
  have hs := Nd.eqb_self (foldN t)
  have hW := fold_W t ht
  refine pc_of (N := 15) Try.func3 rfl rfl (by simp) (by simp [Nd.bel]) (.bool _) ?_
  -- region 0
  repeat (refine awp_seq ?_)
  refine e_eval (by simp only [asq, as0, as1, as2, awanted, aop, LS, SS, SX, HS, mkS_cons, mkS_nil, ↓reduceIte, eq_self', List.map_nil, beq_self_eq_true, Nat.reduceEqDiff, Nat.reduceAdd, Nat.reduceMul, Nat.reduceLT, Nat.reduceLeDiff, Nat.reducePow, Nat.reduceDiv, Nat.reduceMod, Nat.succ_ne_self, Nat.reduceBEq, Nat.reduceBNe, Tryti24, Trytf24, Trytz24, Trytp24, vint, NdS, NdF, Bool.not_true, Int.cast_ofNat_Int, Int.reduceLT, Int.reduceLE, Int.reduceEq, Int.toNat_one, Int.toNat_zero, Int.reduceToNat, Int.reduceNeg, decide_true, decide_false] <;> with_reducible rfl) (by decide) ?_
  -- region 1
  repeat (refine awp_seq ?_)
  refine awp_region ?_
  refine aops_pure (by simp only [acall, awanted, LS, SS, SX, HS, mkS_cons, mkS_nil, ↓reduceIte, eq_self', List.map_nil, beq_self_eq_true, Nat.reduceEqDiff, Nat.reduceAdd, Nat.reduceMul, Nat.reduceLT, Nat.reduceLeDiff, Nat.reducePow, Nat.reduceDiv, Nat.reduceMod, Nat.succ_ne_self, Nat.reduceBEq, Nat.reduceBNe, vint, NdS, NdF, Bool.not_true, Int.cast_ofNat_Int, Int.reduceLT, Int.reduceLE, Int.reduceEq, Int.toNat_one, Int.toNat_zero, Int.reduceToNat, Int.reduceNeg, decide_true, decide_false] <;> with_reducible rfl) (by simp only [acall, awanted, LS, SS, SX, HS, mkS_cons, mkS_nil, ↓reduceIte, eq_self', List.map_nil, beq_self_eq_true, Nat.reduceEqDiff, Nat.reduceAdd, Nat.reduceMul, Nat.reduceLT, Nat.reduceLeDiff, Nat.reducePow, Nat.reduceDiv, Nat.reduceMod, Nat.succ_ne_self, Nat.reduceBEq, Nat.reduceBNe, vint, NdS, NdF, Bool.not_true, Int.cast_ofNat_Int, Int.reduceLT, Int.reduceLE, Int.reduceEq, Int.toNat_one, Int.toNat_zero, Int.reduceToNat, Int.reduceNeg, decide_true, decide_false]) (by decide) Trygo6 (constfoldWorksK _) ?_
  refine e_end (by simp only [asq, as0, as1, as2, awanted, aop, aun, ajust, LS, SS, SX, HS, mkS_cons, mkS_nil, ↓reduceIte, eq_self', List.map_nil, beq_self_eq_true, Nat.reduceEqDiff, Nat.reduceAdd, Nat.reduceMul, Nat.reduceLT, Nat.reduceLeDiff, Nat.reducePow, Nat.reduceDiv, Nat.reduceMod, Nat.succ_ne_self, Nat.reduceBEq, Nat.reduceBNe, vint, NdS, NdF, Bool.not_true, Int.cast_ofNat_Int, Int.reduceLT, Int.reduceLE, Int.reduceEq, Int.toNat_one, Int.toNat_zero, Int.reduceToNat, Int.reduceNeg, decide_true, decide_false] <;> with_reducible rfl) (by decide) ?_
  repeat (refine awp_seq ?_)
  refine awp_cond_false rfl (by simp only [LS, SS, SX, HS, mkS_cons, mkS_nil, ↓reduceIte, eq_self', List.map_nil, beq_self_eq_true, Nat.reduceEqDiff, Nat.reduceAdd, Nat.succ_ne_self, vint, NdS, NdF, Bool.not_true, Int.cast_ofNat_Int, Int.reduceLT, Int.reduceLE, Int.reduceEq, Int.toNat_one, Int.toNat_zero, Int.reduceToNat, Int.reduceNeg, decide_true, decide_false] <;> with_reducible rfl) ?_
  repeat (refine awp_seq ?_)
  refine awp_skip ?_
  -- region 3
  repeat (refine awp_seq ?_)
  refine awp_region ?_
  refine e_take 1 (by simp only [asq, as0, as1, as2, awanted, aop, aload, ajust, LS, SS, SX, HS, mkS_cons, mkS_nil, ↓reduceIte, eq_self', List.map_nil, beq_self_eq_true, Nat.reduceEqDiff, Nat.reduceAdd, Nat.reduceMul, Nat.reduceLT, Nat.reduceLeDiff, Nat.reducePow, Nat.reduceDiv, Nat.reduceMod, Nat.succ_ne_self, Nat.reduceBEq, Nat.reduceBNe, Tryti24, Trytf24, Trytz24, Trytp24, vint, NdS, NdF, Bool.not_true, Int.cast_ofNat_Int, Int.reduceLT, Int.reduceLE, Int.reduceEq, Int.toNat_one, Int.toNat_zero, Int.reduceToNat, Int.reduceNeg, decide_true, decide_false] <;> with_reducible rfl) (by decide) ?_
  refine aops_pure (by simp only [acall, awanted, LS, SS, SX, HS, mkS_cons, mkS_nil, ↓reduceIte, eq_self', List.map_nil, beq_self_eq_true, Nat.reduceEqDiff, Nat.reduceAdd, Nat.reduceMul, Nat.reduceLT, Nat.reduceLeDiff, Nat.reducePow, Nat.reduceDiv, Nat.reduceMod, Nat.succ_ne_self, Nat.reduceBEq, Nat.reduceBNe, vint, NdS, NdF, Bool.not_true, Int.cast_ofNat_Int, Int.reduceLT, Int.reduceLE, Int.reduceEq, Int.toNat_one, Int.toNat_zero, Int.reduceToNat, Int.reduceNeg, decide_true, decide_false] <;> with_reducible rfl) (by simp only [acall, awanted, LS, SS, SX, HS, mkS_cons, mkS_nil, ↓reduceIte, eq_self', List.map_nil, beq_self_eq_true, Nat.reduceEqDiff, Nat.reduceAdd, Nat.reduceMul, Nat.reduceLT, Nat.reduceLeDiff, Nat.reducePow, Nat.reduceDiv, Nat.reduceMod, Nat.succ_ne_self, Nat.reduceBEq, Nat.reduceBNe, vint, NdS, NdF, Bool.not_true, Int.cast_ofNat_Int, Int.reduceLT, Int.reduceLE, Int.reduceEq, Int.toNat_one, Int.toNat_zero, Int.reduceToNat, Int.reduceNeg, decide_true, decide_false]) (by decide) Trygo7 (fold_k _ t (Nat.le_refl _) ht _) ?_
  refine e_end (by simp only [asq, as0, as1, as2, awanted, aop, astore, splice, LS, SS, SX, HS, mkS_cons, mkS_nil, ↓reduceIte, eq_self', List.map_nil, beq_self_eq_true, Nat.reduceEqDiff, Nat.reduceAdd, Nat.reduceMul, Nat.reduceLT, Nat.reduceLeDiff, Nat.reducePow, Nat.reduceDiv, Nat.reduceMod, Nat.succ_ne_self, Nat.reduceBEq, Nat.reduceBNe, Tryti24, Trytf24, Trytz24, Trytp24, vint, NdS, NdF, Bool.not_true, Int.cast_ofNat_Int, Int.reduceLT, Int.reduceLE, Int.reduceEq, Int.toNat_one, Int.toNat_zero, Int.reduceToNat, Int.reduceNeg, decide_true, decide_false] <;> with_reducible rfl) (by decide) ?_
  -- region 4
  repeat (refine awp_seq ?_)
  refine awp_drawW 0 (by kernel_rfl) ?_
  refine dops_gstart ?_
  refine dops_gkeep (bm := [0, 1, 3, 7, 3, 31, 63, 127]) ([]) (by kernel_rfl) (by simp only [acall, gcond, SG, Op.operands, Call.operands, Array.toList_append, LS, SS, SX, HS, mkS_cons, mkS_nil, ↓reduceIte, eq_self', List.map_nil, beq_self_eq_true, Nat.reduceEqDiff, Nat.reduceAdd, Nat.reduceMul, Nat.reduceLT, Nat.reduceLeDiff, Nat.reducePow, Nat.reduceDiv, Nat.reduceMod, Nat.succ_ne_self, Nat.reduceBEq, Nat.reduceBNe, vint, NdS, NdF, Bool.not_true, Int.cast_ofNat_Int, Int.reduceLT, Int.reduceLE, Int.reduceEq, Int.toNat_one, Int.toNat_zero, Int.reduceToNat, Int.reduceNeg, decide_true, decide_false, hf, hs] <;> with_reducible rfl) (by simp only [acall, gcond, SG, Op.operands, Call.operands, Array.toList_append, LS, SS, SX, HS, mkS_cons, mkS_nil, ↓reduceIte, eq_self', List.map_nil, beq_self_eq_true, Nat.reduceEqDiff, Nat.reduceAdd, Nat.reduceMul, Nat.reduceLT, Nat.reduceLeDiff, Nat.reducePow, Nat.reduceDiv, Nat.reduceMod, Nat.succ_ne_self, Nat.reduceBEq, Nat.reduceBNe, vint, NdS, NdF, Bool.not_true, Int.cast_ofNat_Int, Int.reduceLT, Int.reduceLE, Int.reduceEq, Int.toNat_one, Int.toNat_zero, Int.reduceToNat, Int.reduceNeg, decide_true, decide_false, hf, hs] <;> with_reducible rfl) (by simp only [acall, gcond, SG, Op.operands, Call.operands, Array.toList_append, LS, SS, SX, HS, mkS_cons, mkS_nil, ↓reduceIte, eq_self', List.map_nil, beq_self_eq_true, Nat.reduceEqDiff, Nat.reduceAdd, Nat.reduceMul, Nat.reduceLT, Nat.reduceLeDiff, Nat.reducePow, Nat.reduceDiv, Nat.reduceMod, Nat.succ_ne_self, Nat.reduceBEq, Nat.reduceBNe, vint, NdS, NdF, Bool.not_true, Int.cast_ofNat_Int, Int.reduceLT, Int.reduceLE, Int.reduceEq, Int.toNat_one, Int.toNat_zero, Int.reduceToNat, Int.reduceNeg, decide_true, decide_false, hf, hs]) (by decide) Trygo6 (fun hc => fun H' _ => constfoldWorksK H') (by simp only [gdq, gd0, gd1, gd2, gd3, gcond, gop, SG, Op.operands, Call.operands, Array.toList_append, hapB, effIds, effSet, nextFresh, ard, freshOk, isUnborn, aop, LS, SS, SX, HS, mkS_cons, mkS_nil, ↓reduceIte, eq_self', List.map_nil, beq_self_eq_true, Nat.reduceEqDiff, Nat.reduceAdd, Nat.reduceMul, Nat.reduceLT, Nat.reduceLeDiff, Nat.reducePow, Nat.reduceDiv, Nat.reduceMod, Nat.succ_ne_self, Nat.reduceBEq, Nat.reduceBNe, vint, NdS, NdF, Bool.not_true, Int.cast_ofNat_Int, Int.reduceLT, Int.reduceLE, Int.reduceEq, Int.toNat_one, Int.toNat_zero, Int.reduceToNat, Int.reduceNeg, decide_true, decide_false, hf, hs] <;> first | done | rfl) ?_
  refine gd_take (bm := [0, 1, 3, 7, 3, 31, 63, 127]) 2 (fresh := 0) (by kernel_rfl) (by simp only [gdq, gd0, gd1, gd2, gd3, gcond, gop, SG, Op.operands, Call.operands, Array.toList_append, hapB, effIds, effSet, nextFresh, ard, freshOk, isUnborn, aop, aload, ajust, LS, SS, SX, HS, mkS_cons, mkS_nil, ↓reduceIte, eq_self', List.map_nil, beq_self_eq_true, Nat.reduceEqDiff, Nat.reduceAdd, Nat.reduceMul, Nat.reduceLT, Nat.reduceLeDiff, Nat.reducePow, Nat.reduceDiv, Nat.reduceMod, Nat.succ_ne_self, Nat.reduceBEq, Nat.reduceBNe, Tryti24, Trytf24, Trytz24, Trytp24, vint, NdS, NdF, Bool.not_true, Int.cast_ofNat_Int, Int.reduceLT, Int.reduceLE, Int.reduceEq, Int.toNat_one, Int.toNat_zero, Int.reduceToNat, Int.reduceNeg, decide_true, decide_false, hf, hs] <;> with_reducible rfl) (by decide) (by decide) ?_
  refine dops_gkeep (bm := [0, 1, 3, 7, 3, 31, 63, 127]) ([]) (by kernel_rfl) (by simp only [acall, gcond, SG, Op.operands, Call.operands, Array.toList_append, LS, SS, SX, HS, mkS_cons, mkS_nil, ↓reduceIte, eq_self', List.map_nil, beq_self_eq_true, Nat.reduceEqDiff, Nat.reduceAdd, Nat.reduceMul, Nat.reduceLT, Nat.reduceLeDiff, Nat.reducePow, Nat.reduceDiv, Nat.reduceMod, Nat.succ_ne_self, Nat.reduceBEq, Nat.reduceBNe, vint, NdS, NdF, Bool.not_true, Int.cast_ofNat_Int, Int.reduceLT, Int.reduceLE, Int.reduceEq, Int.toNat_one, Int.toNat_zero, Int.reduceToNat, Int.reduceNeg, decide_true, decide_false, hf, hs] <;> with_reducible rfl) (by simp only [acall, gcond, SG, Op.operands, Call.operands, Array.toList_append, LS, SS, SX, HS, mkS_cons, mkS_nil, ↓reduceIte, eq_self', List.map_nil, beq_self_eq_true, Nat.reduceEqDiff, Nat.reduceAdd, Nat.reduceMul, Nat.reduceLT, Nat.reduceLeDiff, Nat.reducePow, Nat.reduceDiv, Nat.reduceMod, Nat.succ_ne_self, Nat.reduceBEq, Nat.reduceBNe, vint, NdS, NdF, Bool.not_true, Int.cast_ofNat_Int, Int.reduceLT, Int.reduceLE, Int.reduceEq, Int.toNat_one, Int.toNat_zero, Int.reduceToNat, Int.reduceNeg, decide_true, decide_false, hf, hs] <;> with_reducible rfl) (by simp only [acall, gcond, SG, Op.operands, Call.operands, Array.toList_append, LS, SS, SX, HS, mkS_cons, mkS_nil, ↓reduceIte, eq_self', List.map_nil, beq_self_eq_true, Nat.reduceEqDiff, Nat.reduceAdd, Nat.reduceMul, Nat.reduceLT, Nat.reduceLeDiff, Nat.reducePow, Nat.reduceDiv, Nat.reduceMod, Nat.succ_ne_self, Nat.reduceBEq, Nat.reduceBNe, vint, NdS, NdF, Bool.not_true, Int.cast_ofNat_Int, Int.reduceLT, Int.reduceLE, Int.reduceEq, Int.toNat_one, Int.toNat_zero, Int.reduceToNat, Int.reduceNeg, decide_true, decide_false, hf, hs]) (by decide) Trygo7 (fun hc => fun H' _ => fold_k _ (foldN t) (Nat.le_refl _) hW H') (by simp only [gdq, gd0, gd1, gd2, gd3, gcond, gop, SG, Op.operands, Call.operands, Array.toList_append, hapB, effIds, effSet, nextFresh, ard, freshOk, isUnborn, aop, LS, SS, SX, HS, mkS_cons, mkS_nil, ↓reduceIte, eq_self', List.map_nil, beq_self_eq_true, Nat.reduceEqDiff, Nat.reduceAdd, Nat.reduceMul, Nat.reduceLT, Nat.reduceLeDiff, Nat.reducePow, Nat.reduceDiv, Nat.reduceMod, Nat.succ_ne_self, Nat.reduceBEq, Nat.reduceBNe, vint, NdS, NdF, Bool.not_true, Int.cast_ofNat_Int, Int.reduceLT, Int.reduceLE, Int.reduceEq, Int.toNat_one, Int.toNat_zero, Int.reduceToNat, Int.reduceNeg, decide_true, decide_false, hf, hs] <;> first | done | rfl) ?_
  refine gd_take (bm := [0, 1, 3, 7, 3, 31, 63, 127]) 1 (fresh := 0) (by kernel_rfl) (by simp only [gdq, gd0, gd1, gd2, gd3, gcond, gop, SG, Op.operands, Call.operands, Array.toList_append, hapB, effIds, effSet, nextFresh, ard, freshOk, isUnborn, aop, aload, ajust, LS, SS, SX, HS, mkS_cons, mkS_nil, ↓reduceIte, eq_self', List.map_nil, beq_self_eq_true, Nat.reduceEqDiff, Nat.reduceAdd, Nat.reduceMul, Nat.reduceLT, Nat.reduceLeDiff, Nat.reducePow, Nat.reduceDiv, Nat.reduceMod, Nat.succ_ne_self, Nat.reduceBEq, Nat.reduceBNe, Tryti24, Trytf24, Trytz24, Trytp24, vint, NdS, NdF, Bool.not_true, Int.cast_ofNat_Int, Int.reduceLT, Int.reduceLE, Int.reduceEq, Int.toNat_one, Int.toNat_zero, Int.reduceToNat, Int.reduceNeg, decide_true, decide_false, hf, hs] <;> with_reducible rfl) (by decide) (by decide) ?_
  refine dops_gkeep (bm := [0, 1, 3, 7, 3, 31, 63, 127]) ([]) (by kernel_rfl) (by simp only [acall, gcond, SG, Op.operands, Call.operands, Array.toList_append, LS, SS, SX, HS, mkS_cons, mkS_nil, ↓reduceIte, eq_self', List.map_nil, beq_self_eq_true, Nat.reduceEqDiff, Nat.reduceAdd, Nat.reduceMul, Nat.reduceLT, Nat.reduceLeDiff, Nat.reducePow, Nat.reduceDiv, Nat.reduceMod, Nat.succ_ne_self, Nat.reduceBEq, Nat.reduceBNe, vint, NdS, NdF, Bool.not_true, Int.cast_ofNat_Int, Int.reduceLT, Int.reduceLE, Int.reduceEq, Int.toNat_one, Int.toNat_zero, Int.reduceToNat, Int.reduceNeg, decide_true, decide_false, hf, hs] <;> with_reducible rfl) (by simp only [acall, gcond, SG, Op.operands, Call.operands, Array.toList_append, LS, SS, SX, HS, mkS_cons, mkS_nil, ↓reduceIte, eq_self', List.map_nil, beq_self_eq_true, Nat.reduceEqDiff, Nat.reduceAdd, Nat.reduceMul, Nat.reduceLT, Nat.reduceLeDiff, Nat.reducePow, Nat.reduceDiv, Nat.reduceMod, Nat.succ_ne_self, Nat.reduceBEq, Nat.reduceBNe, vint, NdS, NdF, Bool.not_true, Int.cast_ofNat_Int, Int.reduceLT, Int.reduceLE, Int.reduceEq, Int.toNat_one, Int.toNat_zero, Int.reduceToNat, Int.reduceNeg, decide_true, decide_false, hf, hs] <;> with_reducible rfl) (by simp only [acall, gcond, SG, Op.operands, Call.operands, Array.toList_append, LS, SS, SX, HS, mkS_cons, mkS_nil, ↓reduceIte, eq_self', List.map_nil, beq_self_eq_true, Nat.reduceEqDiff, Nat.reduceAdd, Nat.reduceMul, Nat.reduceLT, Nat.reduceLeDiff, Nat.reducePow, Nat.reduceDiv, Nat.reduceMod, Nat.succ_ne_self, Nat.reduceBEq, Nat.reduceBNe, vint, NdS, NdF, Bool.not_true, Int.cast_ofNat_Int, Int.reduceLT, Int.reduceLE, Int.reduceEq, Int.toNat_one, Int.toNat_zero, Int.reduceToNat, Int.reduceNeg, decide_true, decide_false, hf, hs]) (by decide) Trygo8 (fun hc => fun H' _ => nodesEqual_k _ (foldN t) (foldN t) (Nat.le_refl _) hW H') (by simp only [gdq, gd0, gd1, gd2, gd3, gcond, gop, SG, Op.operands, Call.operands, Array.toList_append, hapB, effIds, effSet, nextFresh, ard, freshOk, isUnborn, aop, LS, SS, SX, HS, mkS_cons, mkS_nil, ↓reduceIte, eq_self', List.map_nil, beq_self_eq_true, Nat.reduceEqDiff, Nat.reduceAdd, Nat.reduceMul, Nat.reduceLT, Nat.reduceLeDiff, Nat.reducePow, Nat.reduceDiv, Nat.reduceMod, Nat.succ_ne_self, Nat.reduceBEq, Nat.reduceBNe, vint, NdS, NdF, Bool.not_true, Int.cast_ofNat_Int, Int.reduceLT, Int.reduceLE, Int.reduceEq, Int.toNat_one, Int.toNat_zero, Int.reduceToNat, Int.reduceNeg, decide_true, decide_false, hf, hs] <;> first | done | rfl) ?_
  refine gd_end (bm := [0, 1, 3, 7, 3, 31, 63, 127]) (fresh := 0) (by kernel_rfl) (by simp only [gdq, gd0, gd1, gd2, gd3, gcond, gop, SG, Op.operands, Call.operands, Array.toList_append, hapB, effIds, effSet, nextFresh, ard, freshOk, isUnborn, aop, LS, SS, SX, HS, mkS_cons, mkS_nil, ↓reduceIte, eq_self', List.map_nil, beq_self_eq_true, Nat.reduceEqDiff, Nat.reduceAdd, Nat.reduceMul, Nat.reduceLT, Nat.reduceLeDiff, Nat.reducePow, Nat.reduceDiv, Nat.reduceMod, Nat.succ_ne_self, Nat.reduceBEq, Nat.reduceBNe, vint, NdS, NdF, Bool.not_true, Int.cast_ofNat_Int, Int.reduceLT, Int.reduceLE, Int.reduceEq, Int.toNat_one, Int.toNat_zero, Int.reduceToNat, Int.reduceNeg, decide_true, decide_false, hf, hs] <;> with_reducible rfl) (by decide) (by repeat (first | exact Fin.base _ | with_reducible apply Fin.keep | apply Fin.drop)) ?_
  repeat (refine awp_seq ?_)
  -- leaf 0 ret
  refine awp_ret ⟨.inr rfl, _, rfl, ?_⟩
  simp only [LS, SS, SX, HS, mkS_cons, mkS_nil, ↓reduceIte, eq_self', List.map_nil, beq_self_eq_true, Nat.reduceEqDiff, Nat.reduceAdd, Nat.succ_ne_self, vint, NdS, NdF]

end Go.Abs
set_option linter.unusedVariables false
namespace Go.Abs
section
variable {P : Program} {N nb : Nat} {Q : Post}
/-- Paths that meet: from here on a state, its slots and its heap alone. -/
theorem awp_join {x y : Code} {T : Slots} {H : Heap} {σ : Type} (rep : σ → List (Nat × PV)) (hp : σ → Heap) (good : σ → Prop)
    (bel : ∀ s, good s → nb ≤ (hp s).length ∧ HBel (hp s).length (hp s) ∧ BelL (hp s).length (rep s))
    (hx : AWP P N nb x (thenQ (fun T' H' => ∃ s L, Fits T' (rep s) ∧ H' = hp s ++ L ∧ good s) Q) T H)
    (hy : ∀ s, good s → AWP P N nb y Q (mkS (rep s)) (hp s)) : AWP P N nb (.seq x y) Q T H := by
  refine awp_seq (hx.mono fun e T' H' he => ?_)
  cases e with
  | normal =>
    obtain ⟨s, L, h1, h2, h3⟩ := he
    obtain ⟨b1, b2, b3⟩ := bel s h3
    exact awp_fix (rep s) h1 h2 b1 b2 b3 (hy s h3)
  | _ => exact he
theorem awp_joinT {x y : Code} {Q0 : Post} {T : Slots} {H : Heap} {σ : Type} (rep : σ → List (Nat × PV)) (hp : σ → Heap) (good : σ → Prop)
    (bel : ∀ s, good s → nb ≤ (hp s).length ∧ HBel (hp s).length (hp s) ∧ BelL (hp s).length (rep s))
    (hx : AWP P N nb x (thenQ (fun T' H' => ∃ s L, Fits T' (rep s) ∧ H' = hp s ++ L ∧ good s) Q) T H)
    (hy : ∀ s, good s → AWP P N nb y Q0 (mkS (rep s)) (hp s)) : AWP P N nb x (thenQ (AWP P N nb y Q0) Q) T H := by
  refine hx.mono fun e T' H' he => ?_
  cases e with
  | normal =>
    obtain ⟨s, L, h1, h2, h3⟩ := he
    obtain ⟨b1, b2, b3⟩ := bel s h3
    exact awp_fix (rep s) h1 h2 b1 b2 b3 (hy s h3)
  | _ => exact he
end
end Go.Abs
set_option linter.unusedVariables false
set_option linter.unusedSimpArgs false
set_option maxRecDepth 4000
namespace Go.Abs
open Go.Proofs

def opdN (n : Int) : Nd := if n < 0 then .mk 40 0 [45] 0 0 (-1) [.mk 27 (-n) [] 0 0 (-1) []] else .mk 27 n [] 0 0 (-1) []
theorem lit_opd {n : Int} (h1 : -2147483648 < n) (h2 : n ≤ 2147483647) : litV (opdN n) = (n, false, true) := by
  unfold opdN litV
  split <;> simp [Nd.kind, Nd.value, Nd.text, Nd.kids] <;> grind
theorem fold_opd {n : Int} (h1 : -2147483648 < n) (h2 : n ≤ 2147483647) : foldN (opdN n) = opdN n := by
  unfold opdN
  split
  · have : litV (Nd.mk 27 (-n) [] 0 0 (-1) []) = (-n, false, true) := by unfold litV; simp [Nd.kind, Nd.value]; omega
    have hn : ¬ (-n ≤ 0) := by omega
    simp [foldN, stepN, foldUn, litV, Nd.kind, Nd.value, Nd.text, Nd.kids]
    grind
  · simp [foldN, stepN, Nd.kind]
theorem opd_W (n : Int) : (opdN n).W := by
  unfold opdN
  split <;> simp [Nd.W_iff]
theorem lit_intN {m : Nd} {r : Int} (h1 : -2147483648 < r) (h2 : r ≤ 2147483647) : litV (intN m r) = (r, false, true) := by
  unfold intN litV
  split <;> simp [Nd.kind, Nd.value, Nd.text, Nd.kids] <;> grind
theorem fold_op (op : List UInt8) (a b : Int) (ha : -2147483648 < a ∧ a ≤ 2147483647) (hb : -2147483648 < b ∧ b ≤ 2147483647) (r : Int)
    (hop : op = [43] ∧ r = a + b ∨ op = [45] ∧ r = a - b ∨ op = [42] ∧ r = a * b) :
    litV (foldN (Nd.mk 39 0 op 0 0 (-1) [opdN a, opdN b])) = if -2147483648 < r ∧ r ≤ 2147483647 then (r, false, true) else (0, false, false) := by
  have e1 : foldN (Nd.mk 39 0 op 0 0 (-1) [opdN a, opdN b]) = foldBin (Nd.mk 39 0 op 0 0 (-1) [opdN a, opdN b]) (opdN a) (opdN b) := by
    simp [foldN, fold_opd ha.1 ha.2, fold_opd hb.1 hb.2, stepN, Nd.kind, Nd.kids]
  have e2 : arith op a b = if -2147483648 < r ∧ r ≤ 2147483647 then some r else none := by
    unfold arith
    rcases hop with ⟨rfl, rfl⟩ | ⟨rfl, rfl⟩ | ⟨rfl, rfl⟩ <;> simp
  have e3 : foldBin (Nd.mk 39 0 op 0 0 (-1) [opdN a, opdN b]) (opdN a) (opdN b) = arithN (Nd.mk 39 0 op 0 0 (-1) [opdN a, opdN b]) (arith op a b) := by
    unfold foldBin
    rw [lit_opd ha.1 ha.2, lit_opd hb.1 hb.2]
    rcases hop with ⟨rfl, _⟩ | ⟨rfl, _⟩ | ⟨rfl, _⟩ <;> simp [Nd.text]
  rw [e1, e3, e2]
  split
  · rename_i h
    exact lit_intN h.1 h.2
  · simp [arithN, litV, Nd.kind]

theorem operand_c (n : Int) (h1 : -2147483648 < n) (h2 : n ≤ 2147483647) : PC Try.prog 9 [vint n] (opdN n).enc := by
  have hw : IntKind.i64.wrap (-n) = -n := wrap_id (by omega) (by omega)
  refine pc_of (N := 12) Try.func9 rfl rfl (by simp) (by simp [Bel.int]) (Nd.bel _ _) ?_
  -- region 0
  repeat (refine awp_seq ?_)
  refine e_eval (by simp only [asq, as0, as1, as2, awanted, aop, LS, SS, SX, HS, mkS_cons, mkS_nil, ↓reduceIte, eq_self', List.map_nil, beq_self_eq_true, Nat.reduceEqDiff, Nat.reduceAdd, Nat.reduceMul, Nat.reduceLT, Nat.reduceLeDiff, Nat.reducePow, Nat.reduceDiv, Nat.reduceMod, Nat.succ_ne_self, Nat.reduceBEq, Nat.reduceBNe, Tryti24, Trytf24, Trytz24, Trytp24, vint, NdS, NdF, hw, Int.zero_sub, splice, astore] <;> with_reducible rfl) (by decide) ?_
  -- region 1
  repeat (refine awp_seq ?_)
  refine e_eval (by simp only [asq, as0, as1, as2, awanted, aop, abin, ajust, LS, SS, SX, HS, mkS_cons, mkS_nil, ↓reduceIte, eq_self', List.map_nil, beq_self_eq_true, Nat.reduceEqDiff, Nat.reduceAdd, Nat.reduceMul, Nat.reduceLT, Nat.reduceLeDiff, Nat.reducePow, Nat.reduceDiv, Nat.reduceMod, Nat.succ_ne_self, Nat.reduceBEq, Nat.reduceBNe, Tryti3, Trytz3, Trytp3, Trytk3, vint, NdS, NdF, hw, Int.zero_sub, splice, astore] <;> with_reducible rfl) (by decide) ?_
  repeat (refine awp_seq ?_)
  refine awp_cond rfl (by simp only [LS, SS, SX, HS, mkS_cons, mkS_nil, ↓reduceIte, eq_self', List.map_nil, beq_self_eq_true, Nat.reduceEqDiff, Nat.reduceAdd, Nat.succ_ne_self, vint, NdS, NdF, hw, Int.zero_sub, splice, astore] <;> with_reducible rfl) (fun b0 => ?_) (fun b0 => ?_)
  · -- if t4
    -- region 2
    repeat (refine awp_seq ?_)
    refine awp_region ?_
    refine e_take 2 (by simp only [asq, as0, as1, as2, awanted, aop, aun, ajust, LS, SS, SX, HS, mkS_cons, mkS_nil, ↓reduceIte, eq_self', List.map_nil, beq_self_eq_true, Nat.reduceEqDiff, Nat.reduceAdd, Nat.reduceMul, Nat.reduceLT, Nat.reduceLeDiff, Nat.reducePow, Nat.reduceDiv, Nat.reduceMod, Nat.succ_ne_self, Nat.reduceBEq, Nat.reduceBNe, vint, NdS, NdF, hw, Int.zero_sub, splice, astore] <;> with_reducible rfl) (by decide) ?_
    refine aops_pure (by simp only [acall, awanted, LS, SS, SX, HS, mkS_cons, mkS_nil, ↓reduceIte, eq_self', List.map_nil, beq_self_eq_true, Nat.reduceEqDiff, Nat.reduceAdd, Nat.reduceMul, Nat.reduceLT, Nat.reduceLeDiff, Nat.reducePow, Nat.reduceDiv, Nat.reduceMod, Nat.succ_ne_self, Nat.reduceBEq, Nat.reduceBNe, vint, NdS, NdF, hw, Int.zero_sub, splice, astore] <;> with_reducible rfl) (by simp only [acall, awanted, LS, SS, SX, HS, mkS_cons, mkS_nil, ↓reduceIte, eq_self', List.map_nil, beq_self_eq_true, Nat.reduceEqDiff, Nat.reduceAdd, Nat.reduceMul, Nat.reduceLT, Nat.reduceLeDiff, Nat.reducePow, Nat.reduceDiv, Nat.reduceMod, Nat.succ_ne_self, Nat.reduceBEq, Nat.reduceBNe, vint, NdS, NdF, hw, Int.zero_sub, splice, astore]) (by decide) Trygo10 (intLitK (-n) _) ?_
    refine e_end (by simp only [asq, as0, as1, as2, awanted, aop, abuildS, abuild, splice, astore, LS, SS, SX, HS, mkS_cons, mkS_nil, ↓reduceIte, eq_self', List.map_nil, beq_self_eq_true, Nat.reduceEqDiff, Nat.reduceAdd, Nat.reduceMul, Nat.reduceLT, Nat.reduceLeDiff, Nat.reducePow, Nat.reduceDiv, Nat.reduceMod, Nat.succ_ne_self, Nat.reduceBEq, Nat.reduceBNe, Tryti22, Tryte22, Trytz22, Trytp22, Tryti24, Trytf24, Trytz24, Trytp24, vint, NdS, NdF, hw, Int.zero_sub, splice, astore] <;> with_reducible rfl) (by decide) ?_
    repeat (refine awp_seq ?_)
    -- leaf 0 ret
    refine awp_ret ⟨.inr rfl, _, (ares_cell 2 24 rfl Tryti24 (by decide) (by simp only [aload, LS, SS, SX, HS, mkS_cons, mkS_nil, ↓reduceIte, eq_self', List.map_nil, beq_self_eq_true, Nat.reduceEqDiff, Nat.reduceAdd, Nat.reduceMul, Nat.reduceLT, Nat.reduceLeDiff, Nat.reducePow, Nat.reduceDiv, Nat.reduceMod, Nat.succ_ne_self, Nat.reduceBEq, Nat.reduceBNe, vint, NdS, NdF, hw, Int.zero_sub, splice, astore] <;> with_reducible rfl)), ?_⟩
    have hv : n < 0 := of_decide_eq_true b0
    have hi : opdN n = .mk 40 0 [45] 0 0 (-1) [.mk 27 (-n) [] 0 0 (-1) []] := if_pos hv
    rw [hi]
    exact Nd.enc_drop1 _
  · -- else t4
    repeat (refine awp_seq ?_)
    refine awp_skip ?_
    -- region 3
    repeat (refine awp_seq ?_)
    refine awp_region ?_
    refine e_take 1 (by simp only [asq, as0, as1, as2, awanted, aop, LS, SS, SX, HS, mkS_cons, mkS_nil, ↓reduceIte, eq_self', List.map_nil, beq_self_eq_true, Nat.reduceEqDiff, Nat.reduceAdd, Nat.reduceMul, Nat.reduceLT, Nat.reduceLeDiff, Nat.reducePow, Nat.reduceDiv, Nat.reduceMod, Nat.succ_ne_self, Nat.reduceBEq, Nat.reduceBNe, vint, NdS, NdF, hw, Int.zero_sub, splice, astore] <;> with_reducible rfl) (by decide) ?_
    refine aops_pure (by simp only [acall, awanted, LS, SS, SX, HS, mkS_cons, mkS_nil, ↓reduceIte, eq_self', List.map_nil, beq_self_eq_true, Nat.reduceEqDiff, Nat.reduceAdd, Nat.reduceMul, Nat.reduceLT, Nat.reduceLeDiff, Nat.reducePow, Nat.reduceDiv, Nat.reduceMod, Nat.succ_ne_self, Nat.reduceBEq, Nat.reduceBNe, vint, NdS, NdF, hw, Int.zero_sub, splice, astore] <;> with_reducible rfl) (by simp only [acall, awanted, LS, SS, SX, HS, mkS_cons, mkS_nil, ↓reduceIte, eq_self', List.map_nil, beq_self_eq_true, Nat.reduceEqDiff, Nat.reduceAdd, Nat.reduceMul, Nat.reduceLT, Nat.reduceLeDiff, Nat.reducePow, Nat.reduceDiv, Nat.reduceMod, Nat.succ_ne_self, Nat.reduceBEq, Nat.reduceBNe, vint, NdS, NdF, hw, Int.zero_sub, splice, astore]) (by decide) Trygo10 (intLitK n _) ?_
    refine e_end (by simp only [asq, as0, as1, as2, awanted, aop, astore, splice, LS, SS, SX, HS, mkS_cons, mkS_nil, ↓reduceIte, eq_self', List.map_nil, beq_self_eq_true, Nat.reduceEqDiff, Nat.reduceAdd, Nat.reduceMul, Nat.reduceLT, Nat.reduceLeDiff, Nat.reducePow, Nat.reduceDiv, Nat.reduceMod, Nat.succ_ne_self, Nat.reduceBEq, Nat.reduceBNe, Tryti24, Trytf24, Trytz24, Trytp24, vint, NdS, NdF, hw, Int.zero_sub, splice, astore] <;> with_reducible rfl) (by decide) ?_
    repeat (refine awp_seq ?_)
    -- leaf 1 ret
    refine awp_ret ⟨.inr rfl, _, (ares_cell 2 24 rfl Tryti24 (by decide) (by simp only [aload, LS, SS, SX, HS, mkS_cons, mkS_nil, ↓reduceIte, eq_self', List.map_nil, beq_self_eq_true, Nat.reduceEqDiff, Nat.reduceAdd, Nat.reduceMul, Nat.reduceLT, Nat.reduceLeDiff, Nat.reducePow, Nat.reduceDiv, Nat.reduceMod, Nat.succ_ne_self, Nat.reduceBEq, Nat.reduceBNe, vint, NdS, NdF, hw, Int.zero_sub, splice, astore] <;> with_reducible rfl)), ?_⟩
    have hv : ¬ n < 0 := of_decide_eq_false b0
    have hi : opdN n = .mk 27 n [] 0 0 (-1) [] := if_neg hv
    rw [hi]
    exact Nd.enc_drop1 _

theorem law_arith (a b op : Int) : PC Try.prog 4 [vint a, vint b, vint op] (.bool true) := by
  have hmod : (IntKind.u64.wrap op).tmod 3 = 0 ∨ (IntKind.u64.wrap op).tmod 3 = 1 ∨ (IntKind.u64.wrap op).tmod 3 = 2 := by
    have h0 : 0 ≤ IntKind.u64.wrap op := by unfold IntKind.wrap; simp [IntKind.signed, IntKind.bits]; omega
    have h1 := Int.tmod_nonneg 3 h0
    have h2 := Int.tmod_lt_of_pos (IntKind.u64.wrap op) (by decide : (0 : Int) < 3)
    omega
  refine pc_of (N := 99) Try.func4 rfl rfl (by simp) (by simp [Bel.int]) (.bool _) ?_
  -- region 0
  repeat (refine awp_seq ?_)
  refine e_eval (by simp only [asq, as0, as1, as2, awanted, aop, LS, SS, SX, HS, mkS_cons, mkS_nil, ↓reduceIte, eq_self', List.map_nil, beq_self_eq_true, Nat.reduceEqDiff, Nat.reduceAdd, Nat.reduceMul, Nat.reduceLT, Nat.reduceLeDiff, Nat.reducePow, Nat.reduceDiv, Nat.reduceMod, Nat.succ_ne_self, Nat.reduceBEq, Nat.reduceBNe, vint, NdS, NdF, Bool.not_true, Int.cast_ofNat_Int, Int.reduceLT, Int.reduceLE, Int.reduceEq, Int.toNat_one, Int.toNat_zero, Int.reduceToNat, Int.reduceNeg, decide_true, decide_false] <;> with_reducible rfl) (by decide) ?_
  -- region 1
  repeat (refine awp_seq ?_)
  refine awp_region ?_
  refine aops_pure (by simp only [acall, awanted, LS, SS, SX, HS, mkS_cons, mkS_nil, ↓reduceIte, eq_self', List.map_nil, beq_self_eq_true, Nat.reduceEqDiff, Nat.reduceAdd, Nat.reduceMul, Nat.reduceLT, Nat.reduceLeDiff, Nat.reducePow, Nat.reduceDiv, Nat.reduceMod, Nat.succ_ne_self, Nat.reduceBEq, Nat.reduceBNe, vint, NdS, NdF, Bool.not_true, Int.cast_ofNat_Int, Int.reduceLT, Int.reduceLE, Int.reduceEq, Int.toNat_one, Int.toNat_zero, Int.reduceToNat, Int.reduceNeg, decide_true, decide_false] <;> with_reducible rfl) (by simp only [acall, awanted, LS, SS, SX, HS, mkS_cons, mkS_nil, ↓reduceIte, eq_self', List.map_nil, beq_self_eq_true, Nat.reduceEqDiff, Nat.reduceAdd, Nat.reduceMul, Nat.reduceLT, Nat.reduceLeDiff, Nat.reducePow, Nat.reduceDiv, Nat.reduceMod, Nat.succ_ne_self, Nat.reduceBEq, Nat.reduceBNe, vint, NdS, NdF, Bool.not_true, Int.cast_ofNat_Int, Int.reduceLT, Int.reduceLE, Int.reduceEq, Int.toNat_one, Int.toNat_zero, Int.reduceToNat, Int.reduceNeg, decide_true, decide_false]) (by decide) Trygo6 (constfoldWorksK _) ?_
  refine e_end (by simp only [asq, as0, as1, as2, awanted, aop, aun, ajust, LS, SS, SX, HS, mkS_cons, mkS_nil, ↓reduceIte, eq_self', List.map_nil, beq_self_eq_true, Nat.reduceEqDiff, Nat.reduceAdd, Nat.reduceMul, Nat.reduceLT, Nat.reduceLeDiff, Nat.reducePow, Nat.reduceDiv, Nat.reduceMod, Nat.succ_ne_self, Nat.reduceBEq, Nat.reduceBNe, vint, NdS, NdF, Bool.not_true, Int.cast_ofNat_Int, Int.reduceLT, Int.reduceLE, Int.reduceEq, Int.toNat_one, Int.toNat_zero, Int.reduceToNat, Int.reduceNeg, decide_true, decide_false] <;> with_reducible rfl) (by decide) ?_
  repeat (refine awp_seq ?_)
  refine awp_cond_false rfl (by simp only [LS, SS, SX, HS, mkS_cons, mkS_nil, ↓reduceIte, eq_self', List.map_nil, beq_self_eq_true, Nat.reduceEqDiff, Nat.reduceAdd, Nat.succ_ne_self, vint, NdS, NdF, Bool.not_true, Int.cast_ofNat_Int, Int.reduceLT, Int.reduceLE, Int.reduceEq, Int.toNat_one, Int.toNat_zero, Int.reduceToNat, Int.reduceNeg, decide_true, decide_false] <;> with_reducible rfl) ?_
  repeat (refine awp_seq ?_)
  refine awp_skip ?_
  -- region 3
  repeat (refine awp_seq ?_)
  refine awp_region ?_
  refine aops_gstart ?_
  refine aops_gpure (by simp only [acall, gcond, SG, Op.operands, Call.operands, Array.toList_append, LS, SS, SX, HS, mkS_cons, mkS_nil, ↓reduceIte, eq_self', List.map_nil, beq_self_eq_true, Nat.reduceEqDiff, Nat.reduceAdd, Nat.reduceMul, Nat.reduceLT, Nat.reduceLeDiff, Nat.reducePow, Nat.reduceDiv, Nat.reduceMod, Nat.succ_ne_self, Nat.reduceBEq, Nat.reduceBNe, vint, NdS, NdF, Bool.not_true, Int.cast_ofNat_Int, Int.reduceLT, Int.reduceLE, Int.reduceEq, Int.toNat_one, Int.toNat_zero, Int.reduceToNat, Int.reduceNeg, decide_true, decide_false] <;> with_reducible rfl) (by simp only [acall, gcond, SG, Op.operands, Call.operands, Array.toList_append, LS, SS, SX, HS, mkS_cons, mkS_nil, ↓reduceIte, eq_self', List.map_nil, beq_self_eq_true, Nat.reduceEqDiff, Nat.reduceAdd, Nat.reduceMul, Nat.reduceLT, Nat.reduceLeDiff, Nat.reducePow, Nat.reduceDiv, Nat.reduceMod, Nat.succ_ne_self, Nat.reduceBEq, Nat.reduceBNe, vint, NdS, NdF, Bool.not_true, Int.cast_ofNat_Int, Int.reduceLT, Int.reduceLE, Int.reduceEq, Int.toNat_one, Int.toNat_zero, Int.reduceToNat, Int.reduceNeg, decide_true, decide_false] <;> with_reducible rfl) (by simp only [acall, gcond, SG, Op.operands, Call.operands, Array.toList_append, LS, SS, SX, HS, mkS_cons, mkS_nil, ↓reduceIte, eq_self', List.map_nil, beq_self_eq_true, Nat.reduceEqDiff, Nat.reduceAdd, Nat.reduceMul, Nat.reduceLT, Nat.reduceLeDiff, Nat.reducePow, Nat.reduceDiv, Nat.reduceMod, Nat.succ_ne_self, Nat.reduceBEq, Nat.reduceBNe, vint, NdS, NdF, Bool.not_true, Int.cast_ofNat_Int, Int.reduceLT, Int.reduceLE, Int.reduceEq, Int.toNat_one, Int.toNat_zero, Int.reduceToNat, Int.reduceNeg, decide_true, decide_false]) (by decide) Trygo6 (fun hc => constfoldWorksK _) ?_
  refine g_end (by simp only [gsq, gs0, gs1, gs2, gcond, gop, SG, Op.operands, Call.operands, Array.toList_append, aop, aun, ajust, abin, LS, SS, SX, HS, mkS_cons, mkS_nil, ↓reduceIte, eq_self', List.map_nil, beq_self_eq_true, Nat.reduceEqDiff, Nat.reduceAdd, Nat.reduceMul, Nat.reduceLT, Nat.reduceLeDiff, Nat.reducePow, Nat.reduceDiv, Nat.reduceMod, Nat.succ_ne_self, Nat.reduceBEq, Nat.reduceBNe, Tryti3, Trytz3, Trytp3, Trytk3, vint, NdS, NdF, Bool.not_true, Int.cast_ofNat_Int, Int.reduceLT, Int.reduceLE, Int.reduceEq, Int.toNat_one, Int.toNat_zero, Int.reduceToNat, Int.reduceNeg, decide_true, decide_false] <;> with_reducible rfl) (by decide) (by repeat (first | exact Fin.base _ | with_reducible apply Fin.keep | apply Fin.drop)) ?_
  repeat (refine awp_seq ?_)
  refine awp_cond rfl (by simp only [LS, SS, SX, HS, mkS_cons, mkS_nil, ↓reduceIte, eq_self', List.map_nil, beq_self_eq_true, Nat.reduceEqDiff, Nat.reduceAdd, Nat.succ_ne_self, vint, NdS, NdF, Bool.not_true, Int.cast_ofNat_Int, Int.reduceLT, Int.reduceLE, Int.reduceEq, Int.toNat_one, Int.toNat_zero, Int.reduceToNat, Int.reduceNeg, decide_true, decide_false] <;> with_reducible rfl) (fun b1 => ?_) (fun b1 => ?_)
  · -- if t34
    refine awp_sel [] (by simp only [LS, SS, SX, HS, mkS_cons, mkS_nil, ↓reduceIte, eq_self', List.map_nil, beq_self_eq_true, Nat.reduceEqDiff, Nat.reduceAdd, Nat.succ_ne_self, vint, NdS, NdF, Bool.not_true, Int.cast_ofNat_Int, Int.reduceLT, Int.reduceLE, Int.reduceEq, Int.toNat_one, Int.toNat_zero, Int.reduceToNat, Int.reduceNeg, decide_true, decide_false] <;> with_reducible rfl) ?_
    -- region 4
    repeat (refine awp_seq ?_)
    refine awp_region ?_
    refine aops_pure (by simp only [acall, awanted, LS, SS, SX, HS, mkS_cons, mkS_nil, ↓reduceIte, eq_self', List.map_nil, beq_self_eq_true, Nat.reduceEqDiff, Nat.reduceAdd, Nat.reduceMul, Nat.reduceLT, Nat.reduceLeDiff, Nat.reducePow, Nat.reduceDiv, Nat.reduceMod, Nat.succ_ne_self, Nat.reduceBEq, Nat.reduceBNe, vint, NdS, NdF, Bool.not_true, Int.cast_ofNat_Int, Int.reduceLT, Int.reduceLE, Int.reduceEq, Int.toNat_one, Int.toNat_zero, Int.reduceToNat, Int.reduceNeg, decide_true, decide_false] <;> with_reducible rfl) (by simp only [acall, awanted, LS, SS, SX, HS, mkS_cons, mkS_nil, ↓reduceIte, eq_self', List.map_nil, beq_self_eq_true, Nat.reduceEqDiff, Nat.reduceAdd, Nat.reduceMul, Nat.reduceLT, Nat.reduceLeDiff, Nat.reducePow, Nat.reduceDiv, Nat.reduceMod, Nat.succ_ne_self, Nat.reduceBEq, Nat.reduceBNe, vint, NdS, NdF, Bool.not_true, Int.cast_ofNat_Int, Int.reduceLT, Int.reduceLE, Int.reduceEq, Int.toNat_one, Int.toNat_zero, Int.reduceToNat, Int.reduceNeg, decide_true, decide_false]) (by decide) Trygo6 (constfoldWorksK _) ?_
    refine e_end (by simp only [asq, as0, as1, as2, awanted, aop, LS, SS, SX, HS, mkS_cons, mkS_nil, ↓reduceIte, eq_self', List.map_nil, beq_self_eq_true, Nat.reduceEqDiff, Nat.reduceAdd, Nat.reduceMul, Nat.reduceLT, Nat.reduceLeDiff, Nat.reducePow, Nat.reduceDiv, Nat.reduceMod, Nat.succ_ne_self, Nat.reduceBEq, Nat.reduceBNe, vint, NdS, NdF, Bool.not_true, Int.cast_ofNat_Int, Int.reduceLT, Int.reduceLE, Int.reduceEq, Int.toNat_one, Int.toNat_zero, Int.reduceToNat, Int.reduceNeg, decide_true, decide_false] <;> with_reducible rfl) (by decide) ?_
    repeat (refine awp_seq ?_)
    -- leaf 0 ret
    refine awp_ret ⟨.inr rfl, _, rfl, ?_⟩
    simp only [LS, SS, SX, HS, mkS_cons, mkS_nil, ↓reduceIte, eq_self', List.map_nil, beq_self_eq_true, Nat.reduceEqDiff, Nat.reduceAdd, Nat.succ_ne_self, vint, NdS, NdF]
  · -- else t34
    have k0 : IntKind.i64.wrap 0 = 0 := by decide
    have k1 : IntKind.i64.wrap 1 = 1 := by decide
    have k2 : IntKind.i64.wrap 2 = 2 := by decide
    have hab : (-2147483648 < a ∧ a ≤ 2147483647) ∧ (-2147483648 < b ∧ b ≤ 2147483647) := by simp at b1; omega
    obtain ⟨ha, hb⟩ := hab
    have hm := mul_rng (a := a) (b := b) (by omega) (by omega)
    have w1 : IntKind.i64.wrap (a + b) = a + b := wrap_id (by omega) (by omega)
    have w2 : IntKind.i64.wrap (a - b) = a - b := wrap_id (by omega) (by omega)
    have w3 : IntKind.i64.wrap (a * b) = a * b := wrap_id (by omega) (by omega)
    repeat (refine awp_seq ?_)
    refine awp_skip ?_
    refine awp_sel [0, 1, 2] (by simp only [LS, SS, SX, HS, mkS_cons, mkS_nil, ↓reduceIte, eq_self', List.map_nil, beq_self_eq_true, Nat.reduceEqDiff, Nat.reduceAdd, Nat.succ_ne_self, vint, NdS, NdF, Bool.not_true, Int.cast_ofNat_Int, Int.reduceLT, Int.reduceLE, Int.reduceEq, Int.toNat_one, Int.toNat_zero, Int.reduceToNat, Int.reduceNeg, decide_true, decide_false] <;> with_reducible rfl) ?_
    -- region 5
    repeat (refine awp_seq ?_)
    refine e_eval (by simp only [asq, as0, as1, as2, awanted, aop, LS, SS, SX, HS, mkS_cons, mkS_nil, ↓reduceIte, eq_self', List.map_nil, beq_self_eq_true, Nat.reduceEqDiff, Nat.reduceAdd, Nat.reduceMul, Nat.reduceLT, Nat.reduceLeDiff, Nat.reducePow, Nat.reduceDiv, Nat.reduceMod, Nat.succ_ne_self, Nat.reduceBEq, Nat.reduceBNe, vint, NdS, NdF, Bool.not_true, Int.cast_ofNat_Int, Int.reduceLT, Int.reduceLE, Int.reduceEq, Int.toNat_one, Int.toNat_zero, Int.reduceToNat, Int.reduceNeg, decide_true, decide_false] <;> with_reducible rfl) (by decide) ?_
    -- region 6
    repeat (refine awp_seq ?_)
    refine e_eval (by simp only [asq, as0, as1, as2, awanted, aop, abuildS, LS, SS, SX, HS, mkS_cons, mkS_nil, ↓reduceIte, eq_self', List.map_nil, beq_self_eq_true, Nat.reduceEqDiff, Nat.reduceAdd, Nat.reduceMul, Nat.reduceLT, Nat.reduceLeDiff, Nat.reducePow, Nat.reduceDiv, Nat.reduceMod, Nat.succ_ne_self, Nat.reduceBEq, Nat.reduceBNe, Tryti9, Trytz9, Trytp9, Tryts9, Tryti30, Tryte30, Trytz30, Trytp30, vint, NdS, NdF, Bool.not_true, Int.cast_ofNat_Int, Int.reduceLT, Int.reduceLE, Int.reduceEq, Int.toNat_one, Int.toNat_zero, Int.reduceToNat, Int.reduceNeg, decide_true, decide_false] <;> with_reducible rfl) (by decide) ?_
    -- region 7
    repeat (refine awp_seq ?_)
    refine e_eval (by simp only [asq, as0, as1, as2, awanted, aop, abin, ajust, abuildS, LS, SS, SX, HS, mkS_cons, mkS_nil, ↓reduceIte, eq_self', List.map_nil, beq_self_eq_true, Nat.reduceEqDiff, Nat.reduceAdd, Nat.reduceMul, Nat.reduceLT, Nat.reduceLeDiff, Nat.reducePow, Nat.reduceDiv, Nat.reduceMod, Nat.succ_ne_self, Nat.reduceBEq, Nat.reduceBNe, Tryti3, Trytz3, Trytp3, Trytk3, Tryti31, Tryte31, Trytz31, Trytp31, vint, NdS, NdF, Bool.not_true, Int.cast_ofNat_Int, Int.reduceLT, Int.reduceLE, Int.reduceEq, Int.toNat_one, Int.toNat_zero, Int.reduceToNat, Int.reduceNeg, decide_true, decide_false, w1, w2, w3] <;> with_reducible rfl) (by decide) ?_
    rcases hmod with h3 | h3 | h3
    · -- case
      have hf := fold_op [43] a b ha hb (a + b) (by simp)
      -- region 8
      repeat (refine awp_seq ?_)
      refine e_eval (by simp only [asq, as0, as1, as2, awanted, aop, abin, ajust, LS, SS, SX, HS, mkS_cons, mkS_nil, ↓reduceIte, eq_self', List.map_nil, beq_self_eq_true, Nat.reduceEqDiff, Nat.reduceAdd, Nat.reduceMul, Nat.reduceLT, Nat.reduceLeDiff, Nat.reducePow, Nat.reduceDiv, Nat.reduceMod, Nat.succ_ne_self, Nat.reduceBEq, Nat.reduceBNe, Tryti3, Trytz3, Trytp3, Trytk3, Tryti32, Trytz32, Trytp32, Trytk32, vint, NdS, NdF, Bool.not_true, Int.cast_ofNat_Int, Int.reduceLT, Int.reduceLE, Int.reduceEq, Int.toNat_one, Int.toNat_zero, Int.reduceToNat, Int.reduceNeg, decide_true, decide_false, h3, k0, k1, k2, Int.reduceToNat] <;> with_reducible rfl) (by decide) ?_
      refine awp_sel [0, 1, 7, 8, 9, 10] (by simp only [LS, SS, SX, HS, mkS_cons, mkS_nil, ↓reduceIte, eq_self', List.map_nil, beq_self_eq_true, Nat.reduceEqDiff, Nat.reduceAdd, Nat.succ_ne_self, vint, NdS, NdF, Bool.not_true, Int.cast_ofNat_Int, Int.reduceLT, Int.reduceLE, Int.reduceEq, Int.toNat_one, Int.toNat_zero, Int.reduceToNat, Int.reduceNeg, decide_true, decide_false, h3, k0, k1, k2, Int.reduceToNat] <;> with_reducible rfl) ?_
      -- region 9
      repeat (refine awp_seq ?_)
      refine awp_draw 0 (by kernel_rfl) ?_
      refine d_take (bm := [0, 0, 3, 7, 0, 0, 48, 0, 0, 496, 1023, 2047, 4095, 8191, 16383, 16383, 16383, 32767, 196607, 524287]) 6 (fresh := 0) (by kernel_rfl) (by simp only [dsq, ds0, ds1, ds2, ds3, awanted, hapB, effIds, effSet, nextFresh, ard, freshOk, isUnborn, aop, aidxAddr, aidx, ajust, aload, LS, SS, SX, HS, mkS_cons, mkS_nil, ↓reduceIte, eq_self', List.map_nil, beq_self_eq_true, Nat.reduceEqDiff, Nat.reduceAdd, Nat.reduceMul, Nat.reduceLT, Nat.reduceLeDiff, Nat.reducePow, Nat.reduceDiv, Nat.reduceMod, Nat.succ_ne_self, Nat.reduceBEq, Nat.reduceBNe, Tryti9, Trytz9, Trytp9, Tryts9, Tryti30, Tryte30, Trytz30, Trytp30, vint, NdS, NdF, Bool.not_true, Int.cast_ofNat_Int, Int.reduceLT, Int.reduceLE, Int.reduceEq, Int.toNat_one, Int.toNat_zero, Int.reduceToNat, Int.reduceNeg, decide_true, decide_false, h3, k0, k1, k2, Int.reduceToNat, hf] <;> with_reducible rfl) (by decide) (by decide) ?_
      refine dops_keep (bm := [0, 0, 3, 7, 0, 0, 48, 0, 0, 496, 1023, 2047, 4095, 8191, 16383, 16383, 16383, 32767, 196607, 524287]) ([]) (by kernel_rfl) (by simp only [acall, awanted, LS, SS, SX, HS, mkS_cons, mkS_nil, ↓reduceIte, eq_self', List.map_nil, beq_self_eq_true, Nat.reduceEqDiff, Nat.reduceAdd, Nat.reduceMul, Nat.reduceLT, Nat.reduceLeDiff, Nat.reducePow, Nat.reduceDiv, Nat.reduceMod, Nat.succ_ne_self, Nat.reduceBEq, Nat.reduceBNe, vint, NdS, NdF, Bool.not_true, Int.cast_ofNat_Int, Int.reduceLT, Int.reduceLE, Int.reduceEq, Int.toNat_one, Int.toNat_zero, Int.reduceToNat, Int.reduceNeg, decide_true, decide_false, h3, k0, k1, k2, Int.reduceToNat, hf] <;> with_reducible rfl) (by simp only [acall, awanted, LS, SS, SX, HS, mkS_cons, mkS_nil, ↓reduceIte, eq_self', List.map_nil, beq_self_eq_true, Nat.reduceEqDiff, Nat.reduceAdd, Nat.reduceMul, Nat.reduceLT, Nat.reduceLeDiff, Nat.reducePow, Nat.reduceDiv, Nat.reduceMod, Nat.succ_ne_self, Nat.reduceBEq, Nat.reduceBNe, vint, NdS, NdF, Bool.not_true, Int.cast_ofNat_Int, Int.reduceLT, Int.reduceLE, Int.reduceEq, Int.toNat_one, Int.toNat_zero, Int.reduceToNat, Int.reduceNeg, decide_true, decide_false, h3, k0, k1, k2, Int.reduceToNat, hf]) (by decide) Trygo9 (fun H' _ => operand_c a ha.1 ha.2 H') (by simp only [dsq, ds0, ds1, ds2, ds3, awanted, hapB, effIds, effSet, nextFresh, ard, freshOk, isUnborn, aop, LS, SS, SX, HS, mkS_cons, mkS_nil, ↓reduceIte, eq_self', List.map_nil, beq_self_eq_true, Nat.reduceEqDiff, Nat.reduceAdd, Nat.reduceMul, Nat.reduceLT, Nat.reduceLeDiff, Nat.reducePow, Nat.reduceDiv, Nat.reduceMod, Nat.succ_ne_self, Nat.reduceBEq, Nat.reduceBNe, vint, NdS, NdF, Bool.not_true, Int.cast_ofNat_Int, Int.reduceLT, Int.reduceLE, Int.reduceEq, Int.toNat_one, Int.toNat_zero, Int.reduceToNat, Int.reduceNeg, decide_true, decide_false, h3, k0, k1, k2, Int.reduceToNat, hf] <;> first | done | rfl) ?_
      refine d_take (bm := [0, 0, 3, 7, 0, 0, 48, 0, 0, 496, 1023, 2047, 4095, 8191, 16383, 16383, 16383, 32767, 196607, 524287]) 2 (fresh := 0) (by kernel_rfl) (by simp only [dsq, ds0, ds1, ds2, ds3, awanted, hapB, effIds, effSet, nextFresh, ard, freshOk, isUnborn, aop, LS, SS, SX, HS, mkS_cons, mkS_nil, ↓reduceIte, eq_self', List.map_nil, beq_self_eq_true, Nat.reduceEqDiff, Nat.reduceAdd, Nat.reduceMul, Nat.reduceLT, Nat.reduceLeDiff, Nat.reducePow, Nat.reduceDiv, Nat.reduceMod, Nat.succ_ne_self, Nat.reduceBEq, Nat.reduceBNe, vint, NdS, NdF, Bool.not_true, Int.cast_ofNat_Int, Int.reduceLT, Int.reduceLE, Int.reduceEq, Int.toNat_one, Int.toNat_zero, Int.reduceToNat, Int.reduceNeg, decide_true, decide_false, h3, k0, k1, k2, Int.reduceToNat, hf] <;> with_reducible rfl) (by decide) (by decide) ?_
      refine dops_keep (bm := [0, 0, 3, 7, 0, 0, 48, 0, 0, 496, 1023, 2047, 4095, 8191, 16383, 16383, 16383, 32767, 196607, 524287]) ([]) (by kernel_rfl) (by simp only [acall, awanted, LS, SS, SX, HS, mkS_cons, mkS_nil, ↓reduceIte, eq_self', List.map_nil, beq_self_eq_true, Nat.reduceEqDiff, Nat.reduceAdd, Nat.reduceMul, Nat.reduceLT, Nat.reduceLeDiff, Nat.reducePow, Nat.reduceDiv, Nat.reduceMod, Nat.succ_ne_self, Nat.reduceBEq, Nat.reduceBNe, vint, NdS, NdF, Bool.not_true, Int.cast_ofNat_Int, Int.reduceLT, Int.reduceLE, Int.reduceEq, Int.toNat_one, Int.toNat_zero, Int.reduceToNat, Int.reduceNeg, decide_true, decide_false, h3, k0, k1, k2, Int.reduceToNat, hf] <;> with_reducible rfl) (by simp only [acall, awanted, LS, SS, SX, HS, mkS_cons, mkS_nil, ↓reduceIte, eq_self', List.map_nil, beq_self_eq_true, Nat.reduceEqDiff, Nat.reduceAdd, Nat.reduceMul, Nat.reduceLT, Nat.reduceLeDiff, Nat.reducePow, Nat.reduceDiv, Nat.reduceMod, Nat.succ_ne_self, Nat.reduceBEq, Nat.reduceBNe, vint, NdS, NdF, Bool.not_true, Int.cast_ofNat_Int, Int.reduceLT, Int.reduceLE, Int.reduceEq, Int.toNat_one, Int.toNat_zero, Int.reduceToNat, Int.reduceNeg, decide_true, decide_false, h3, k0, k1, k2, Int.reduceToNat, hf]) (by decide) Trygo9 (fun H' _ => operand_c b hb.1 hb.2 H') (by simp only [dsq, ds0, ds1, ds2, ds3, awanted, hapB, effIds, effSet, nextFresh, ard, freshOk, isUnborn, aop, LS, SS, SX, HS, mkS_cons, mkS_nil, ↓reduceIte, eq_self', List.map_nil, beq_self_eq_true, Nat.reduceEqDiff, Nat.reduceAdd, Nat.reduceMul, Nat.reduceLT, Nat.reduceLeDiff, Nat.reducePow, Nat.reduceDiv, Nat.reduceMod, Nat.succ_ne_self, Nat.reduceBEq, Nat.reduceBNe, vint, NdS, NdF, Bool.not_true, Int.cast_ofNat_Int, Int.reduceLT, Int.reduceLE, Int.reduceEq, Int.toNat_one, Int.toNat_zero, Int.reduceToNat, Int.reduceNeg, decide_true, decide_false, h3, k0, k1, k2, Int.reduceToNat, hf] <;> first | done | rfl) ?_
      refine dops_keep (bm := [0, 0, 3, 7, 0, 0, 48, 0, 0, 496, 1023, 2047, 4095, 8191, 16383, 16383, 16383, 32767, 196607, 524287]) ([]) (by kernel_rfl) (by simp only [acall, awanted, LS, SS, SX, HS, mkS_cons, mkS_nil, ↓reduceIte, eq_self', List.map_nil, beq_self_eq_true, Nat.reduceEqDiff, Nat.reduceAdd, Nat.reduceMul, Nat.reduceLT, Nat.reduceLeDiff, Nat.reducePow, Nat.reduceDiv, Nat.reduceMod, Nat.succ_ne_self, Nat.reduceBEq, Nat.reduceBNe, vint, NdS, NdF, Bool.not_true, Int.cast_ofNat_Int, Int.reduceLT, Int.reduceLE, Int.reduceEq, Int.toNat_one, Int.toNat_zero, Int.reduceToNat, Int.reduceNeg, decide_true, decide_false, h3, k0, k1, k2, Int.reduceToNat, hf] <;> with_reducible rfl) (by simp only [acall, awanted, LS, SS, SX, HS, mkS_cons, mkS_nil, ↓reduceIte, eq_self', List.map_nil, beq_self_eq_true, Nat.reduceEqDiff, Nat.reduceAdd, Nat.reduceMul, Nat.reduceLT, Nat.reduceLeDiff, Nat.reducePow, Nat.reduceDiv, Nat.reduceMod, Nat.succ_ne_self, Nat.reduceBEq, Nat.reduceBNe, vint, NdS, NdF, Bool.not_true, Int.cast_ofNat_Int, Int.reduceLT, Int.reduceLE, Int.reduceEq, Int.toNat_one, Int.toNat_zero, Int.reduceToNat, Int.reduceNeg, decide_true, decide_false, h3, k0, k1, k2, Int.reduceToNat, hf]) (by decide) Trygo12 (fun H' _ => binK _ (opdN a) (opdN b) H') (by simp only [dsq, ds0, ds1, ds2, ds3, awanted, hapB, effIds, effSet, nextFresh, ard, freshOk, isUnborn, aop, LS, SS, SX, HS, mkS_cons, mkS_nil, ↓reduceIte, eq_self', List.map_nil, beq_self_eq_true, Nat.reduceEqDiff, Nat.reduceAdd, Nat.reduceMul, Nat.reduceLT, Nat.reduceLeDiff, Nat.reducePow, Nat.reduceDiv, Nat.reduceMod, Nat.succ_ne_self, Nat.reduceBEq, Nat.reduceBNe, vint, NdS, NdF, Bool.not_true, Int.cast_ofNat_Int, Int.reduceLT, Int.reduceLE, Int.reduceEq, Int.toNat_one, Int.toNat_zero, Int.reduceToNat, Int.reduceNeg, decide_true, decide_false, h3, k0, k1, k2, Int.reduceToNat, hf] <;> first | done | rfl) ?_
      refine dops_keep (bm := [0, 0, 3, 7, 0, 0, 48, 0, 0, 496, 1023, 2047, 4095, 8191, 16383, 16383, 16383, 32767, 196607, 524287]) ([]) (by kernel_rfl) (by simp only [acall, awanted, LS, SS, SX, HS, mkS_cons, mkS_nil, ↓reduceIte, eq_self', List.map_nil, beq_self_eq_true, Nat.reduceEqDiff, Nat.reduceAdd, Nat.reduceMul, Nat.reduceLT, Nat.reduceLeDiff, Nat.reducePow, Nat.reduceDiv, Nat.reduceMod, Nat.succ_ne_self, Nat.reduceBEq, Nat.reduceBNe, vint, NdS, NdF, Bool.not_true, Int.cast_ofNat_Int, Int.reduceLT, Int.reduceLE, Int.reduceEq, Int.toNat_one, Int.toNat_zero, Int.reduceToNat, Int.reduceNeg, decide_true, decide_false, h3, k0, k1, k2, Int.reduceToNat, hf] <;> with_reducible rfl) (by simp only [acall, awanted, LS, SS, SX, HS, mkS_cons, mkS_nil, ↓reduceIte, eq_self', List.map_nil, beq_self_eq_true, Nat.reduceEqDiff, Nat.reduceAdd, Nat.reduceMul, Nat.reduceLT, Nat.reduceLeDiff, Nat.reducePow, Nat.reduceDiv, Nat.reduceMod, Nat.succ_ne_self, Nat.reduceBEq, Nat.reduceBNe, vint, NdS, NdF, Bool.not_true, Int.cast_ofNat_Int, Int.reduceLT, Int.reduceLE, Int.reduceEq, Int.toNat_one, Int.toNat_zero, Int.reduceToNat, Int.reduceNeg, decide_true, decide_false, h3, k0, k1, k2, Int.reduceToNat, hf]) (by decide) Trygo7 (fun H' _ => fold_k _ (Nd.mk 39 0 _ 0 0 (-1) [opdN a, opdN b]) (Nat.le_refl _) (by simp [Nd.W_iff, opd_W]) H') (by simp only [dsq, ds0, ds1, ds2, ds3, awanted, hapB, effIds, effSet, nextFresh, ard, freshOk, isUnborn, aop, LS, SS, SX, HS, mkS_cons, mkS_nil, ↓reduceIte, eq_self', List.map_nil, beq_self_eq_true, Nat.reduceEqDiff, Nat.reduceAdd, Nat.reduceMul, Nat.reduceLT, Nat.reduceLeDiff, Nat.reducePow, Nat.reduceDiv, Nat.reduceMod, Nat.succ_ne_self, Nat.reduceBEq, Nat.reduceBNe, vint, NdS, NdF, Bool.not_true, Int.cast_ofNat_Int, Int.reduceLT, Int.reduceLE, Int.reduceEq, Int.toNat_one, Int.toNat_zero, Int.reduceToNat, Int.reduceNeg, decide_true, decide_false, h3, k0, k1, k2, Int.reduceToNat, hf] <;> first | done | rfl) ?_
      refine dops_keep (bm := [0, 0, 3, 7, 0, 0, 48, 0, 0, 496, 1023, 2047, 4095, 8191, 16383, 16383, 16383, 32767, 196607, 524287]) ([]) (by kernel_rfl) (by simp only [acall, awanted, LS, SS, SX, HS, mkS_cons, mkS_nil, ↓reduceIte, eq_self', List.map_nil, beq_self_eq_true, Nat.reduceEqDiff, Nat.reduceAdd, Nat.reduceMul, Nat.reduceLT, Nat.reduceLeDiff, Nat.reducePow, Nat.reduceDiv, Nat.reduceMod, Nat.succ_ne_self, Nat.reduceBEq, Nat.reduceBNe, vint, NdS, NdF, Bool.not_true, Int.cast_ofNat_Int, Int.reduceLT, Int.reduceLE, Int.reduceEq, Int.toNat_one, Int.toNat_zero, Int.reduceToNat, Int.reduceNeg, decide_true, decide_false, h3, k0, k1, k2, Int.reduceToNat, hf] <;> with_reducible rfl) (by simp only [acall, awanted, LS, SS, SX, HS, mkS_cons, mkS_nil, ↓reduceIte, eq_self', List.map_nil, beq_self_eq_true, Nat.reduceEqDiff, Nat.reduceAdd, Nat.reduceMul, Nat.reduceLT, Nat.reduceLeDiff, Nat.reducePow, Nat.reduceDiv, Nat.reduceMod, Nat.succ_ne_self, Nat.reduceBEq, Nat.reduceBNe, vint, NdS, NdF, Bool.not_true, Int.cast_ofNat_Int, Int.reduceLT, Int.reduceLE, Int.reduceEq, Int.toNat_one, Int.toNat_zero, Int.reduceToNat, Int.reduceNeg, decide_true, decide_false, h3, k0, k1, k2, Int.reduceToNat, hf]) (by decide) Trygo11 (fun H' _ => value_c (foldN (Nd.mk 39 0 _ 0 0 (-1) [opdN a, opdN b])) H') (by simp only [dsq, ds0, ds1, ds2, ds3, awanted, hapB, effIds, effSet, nextFresh, ard, freshOk, isUnborn, aop, LS, SS, SX, HS, mkS_cons, mkS_nil, ↓reduceIte, eq_self', List.map_nil, beq_self_eq_true, Nat.reduceEqDiff, Nat.reduceAdd, Nat.reduceMul, Nat.reduceLT, Nat.reduceLeDiff, Nat.reducePow, Nat.reduceDiv, Nat.reduceMod, Nat.succ_ne_self, Nat.reduceBEq, Nat.reduceBNe, vint, NdS, NdF, Bool.not_true, Int.cast_ofNat_Int, Int.reduceLT, Int.reduceLE, Int.reduceEq, Int.toNat_one, Int.toNat_zero, Int.reduceToNat, Int.reduceNeg, decide_true, decide_false, h3, k0, k1, k2, Int.reduceToNat, hf] <;> first | done | rfl) ?_
      refine d_end (bm := [0, 0, 3, 7, 0, 0, 48, 0, 0, 496, 1023, 2047, 4095, 8191, 16383, 16383, 16383, 32767, 196607, 524287]) (fresh := 0) (by kernel_rfl) (by simp only [dsq, ds0, ds1, ds2, ds3, awanted, hapB, effIds, effSet, nextFresh, ard, freshOk, isUnborn, aop, ajust, LS, SS, SX, HS, mkS_cons, mkS_nil, ↓reduceIte, eq_self', List.map_nil, beq_self_eq_true, Nat.reduceEqDiff, Nat.reduceAdd, Nat.reduceMul, Nat.reduceLT, Nat.reduceLeDiff, Nat.reducePow, Nat.reduceDiv, Nat.reduceMod, Nat.succ_ne_self, Nat.reduceBEq, Nat.reduceBNe, vint, NdS, NdF, Bool.not_true, Int.cast_ofNat_Int, Int.reduceLT, Int.reduceLE, Int.reduceEq, Int.toNat_one, Int.toNat_zero, Int.reduceToNat, Int.reduceNeg, decide_true, decide_false, h3, k0, k1, k2, Int.reduceToNat, hf] <;> with_reducible rfl) (by decide) ?_
      refine awp_sel [9, 10, 11, 12, 13] (by simp only [LS, SS, SX, HS, mkS_cons, mkS_nil, ↓reduceIte, eq_self', List.map_nil, beq_self_eq_true, Nat.reduceEqDiff, Nat.reduceAdd, Nat.succ_ne_self, vint, NdS, NdF, Bool.not_true, Int.cast_ofNat_Int, Int.reduceLT, Int.reduceLE, Int.reduceEq, Int.toNat_one, Int.toNat_zero, Int.reduceToNat, Int.reduceNeg, decide_true, decide_false, h3, k0, k1, k2, Int.reduceToNat] <;> with_reducible rfl) ?_
      -- region 10
      repeat (refine awp_seq ?_)
      refine g_eval (by simp only [gsq, gs0, gs1, gs2, gcond, gop, SG, Op.operands, Call.operands, Array.toList_append, aop, aidxAddr, aidx, ajust, aload, abin, LS, SS, SX, HS, mkS_cons, mkS_nil, ↓reduceIte, eq_self', List.map_nil, beq_self_eq_true, Nat.reduceEqDiff, Nat.reduceAdd, Nat.reduceMul, Nat.reduceLT, Nat.reduceLeDiff, Nat.reducePow, Nat.reduceDiv, Nat.reduceMod, Nat.succ_ne_self, Nat.reduceBEq, Nat.reduceBNe, Tryti3, Trytz3, Trytp3, Trytk3, Tryti31, Tryte31, Trytz31, Trytp31, vint, NdS, NdF, Bool.not_true, Int.cast_ofNat_Int, Int.reduceLT, Int.reduceLE, Int.reduceEq, Int.toNat_one, Int.toNat_zero, Int.reduceToNat, Int.reduceNeg, decide_true, decide_false, h3, k0, k1, k2, Int.reduceToNat] <;> with_reducible rfl) (by decide) (by repeat (first | exact Fin.base _ | with_reducible apply Fin.keep | apply Fin.drop)) ?_
      -- region 11
      repeat (refine awp_seq ?_)
      refine g_eval (by simp only [gsq, gs0, gs1, gs2, gcond, gop, SG, Op.operands, Call.operands, Array.toList_append, aop, abin, ajust, aun, aidxAddr, aidx, aload, LS, SS, SX, HS, mkS_cons, mkS_nil, ↓reduceIte, eq_self', List.map_nil, beq_self_eq_true, Nat.reduceEqDiff, Nat.reduceAdd, Nat.reduceMul, Nat.reduceLT, Nat.reduceLeDiff, Nat.reducePow, Nat.reduceDiv, Nat.reduceMod, Nat.succ_ne_self, Nat.reduceBEq, Nat.reduceBNe, Tryti3, Trytz3, Trytp3, Trytk3, Tryti4, Trytz4, Trytp4, Trytb4, Tryti31, Tryte31, Trytz31, Trytp31, vint, NdS, NdF, Bool.not_true, Int.cast_ofNat_Int, Int.reduceLT, Int.reduceLE, Int.reduceEq, Int.toNat_one, Int.toNat_zero, Int.reduceToNat, Int.reduceNeg, decide_true, decide_false, h3, k0, k1, k2, Int.reduceToNat] <;> with_reducible rfl) (by decide) (by repeat (first | exact Fin.base _ | with_reducible apply Fin.keep | apply Fin.drop)) ?_
      repeat (refine awp_seq ?_)
      -- leaf 1 ret
      refine awp_ret ⟨.inr rfl, _, rfl, ?_⟩
      simp only [LS, SS, SX, HS, mkS_cons, mkS_nil, ↓reduceIte, eq_self', List.map_nil, beq_self_eq_true, Nat.reduceEqDiff, Nat.reduceAdd, Nat.succ_ne_self, vint, NdS, NdF]
      by_cases hr : -2147483648 < a + b ∧ a + b ≤ 2147483647 <;> grind
    · -- case
      have hf := fold_op [45] a b ha hb (a - b) (by simp)
      -- region 8
      repeat (refine awp_seq ?_)
      refine e_eval (by simp only [asq, as0, as1, as2, awanted, aop, abin, ajust, LS, SS, SX, HS, mkS_cons, mkS_nil, ↓reduceIte, eq_self', List.map_nil, beq_self_eq_true, Nat.reduceEqDiff, Nat.reduceAdd, Nat.reduceMul, Nat.reduceLT, Nat.reduceLeDiff, Nat.reducePow, Nat.reduceDiv, Nat.reduceMod, Nat.succ_ne_self, Nat.reduceBEq, Nat.reduceBNe, Tryti3, Trytz3, Trytp3, Trytk3, Tryti32, Trytz32, Trytp32, Trytk32, vint, NdS, NdF, Bool.not_true, Int.cast_ofNat_Int, Int.reduceLT, Int.reduceLE, Int.reduceEq, Int.toNat_one, Int.toNat_zero, Int.reduceToNat, Int.reduceNeg, decide_true, decide_false, h3, k0, k1, k2, Int.reduceToNat] <;> with_reducible rfl) (by decide) ?_
      refine awp_sel [0, 1, 7, 8, 9, 10] (by simp only [LS, SS, SX, HS, mkS_cons, mkS_nil, ↓reduceIte, eq_self', List.map_nil, beq_self_eq_true, Nat.reduceEqDiff, Nat.reduceAdd, Nat.succ_ne_self, vint, NdS, NdF, Bool.not_true, Int.cast_ofNat_Int, Int.reduceLT, Int.reduceLE, Int.reduceEq, Int.toNat_one, Int.toNat_zero, Int.reduceToNat, Int.reduceNeg, decide_true, decide_false, h3, k0, k1, k2, Int.reduceToNat] <;> with_reducible rfl) ?_
      -- region 9
      repeat (refine awp_seq ?_)
      refine awp_draw 0 (by kernel_rfl) ?_
      refine d_take (bm := [0, 0, 3, 7, 0, 0, 48, 0, 0, 496, 1023, 2047, 4095, 8191, 16383, 16383, 16383, 32767, 196607, 524287]) 6 (fresh := 0) (by kernel_rfl) (by simp only [dsq, ds0, ds1, ds2, ds3, awanted, hapB, effIds, effSet, nextFresh, ard, freshOk, isUnborn, aop, aidxAddr, aidx, ajust, aload, LS, SS, SX, HS, mkS_cons, mkS_nil, ↓reduceIte, eq_self', List.map_nil, beq_self_eq_true, Nat.reduceEqDiff, Nat.reduceAdd, Nat.reduceMul, Nat.reduceLT, Nat.reduceLeDiff, Nat.reducePow, Nat.reduceDiv, Nat.reduceMod, Nat.succ_ne_self, Nat.reduceBEq, Nat.reduceBNe, Tryti9, Trytz9, Trytp9, Tryts9, Tryti30, Tryte30, Trytz30, Trytp30, vint, NdS, NdF, Bool.not_true, Int.cast_ofNat_Int, Int.reduceLT, Int.reduceLE, Int.reduceEq, Int.toNat_one, Int.toNat_zero, Int.reduceToNat, Int.reduceNeg, decide_true, decide_false, h3, k0, k1, k2, Int.reduceToNat, hf] <;> with_reducible rfl) (by decide) (by decide) ?_
      refine dops_keep (bm := [0, 0, 3, 7, 0, 0, 48, 0, 0, 496, 1023, 2047, 4095, 8191, 16383, 16383, 16383, 32767, 196607, 524287]) ([]) (by kernel_rfl) (by simp only [acall, awanted, LS, SS, SX, HS, mkS_cons, mkS_nil, ↓reduceIte, eq_self', List.map_nil, beq_self_eq_true, Nat.reduceEqDiff, Nat.reduceAdd, Nat.reduceMul, Nat.reduceLT, Nat.reduceLeDiff, Nat.reducePow, Nat.reduceDiv, Nat.reduceMod, Nat.succ_ne_self, Nat.reduceBEq, Nat.reduceBNe, vint, NdS, NdF, Bool.not_true, Int.cast_ofNat_Int, Int.reduceLT, Int.reduceLE, Int.reduceEq, Int.toNat_one, Int.toNat_zero, Int.reduceToNat, Int.reduceNeg, decide_true, decide_false, h3, k0, k1, k2, Int.reduceToNat, hf] <;> with_reducible rfl) (by simp only [acall, awanted, LS, SS, SX, HS, mkS_cons, mkS_nil, ↓reduceIte, eq_self', List.map_nil, beq_self_eq_true, Nat.reduceEqDiff, Nat.reduceAdd, Nat.reduceMul, Nat.reduceLT, Nat.reduceLeDiff, Nat.reducePow, Nat.reduceDiv, Nat.reduceMod, Nat.succ_ne_self, Nat.reduceBEq, Nat.reduceBNe, vint, NdS, NdF, Bool.not_true, Int.cast_ofNat_Int, Int.reduceLT, Int.reduceLE, Int.reduceEq, Int.toNat_one, Int.toNat_zero, Int.reduceToNat, Int.reduceNeg, decide_true, decide_false, h3, k0, k1, k2, Int.reduceToNat, hf]) (by decide) Trygo9 (fun H' _ => operand_c a ha.1 ha.2 H') (by simp only [dsq, ds0, ds1, ds2, ds3, awanted, hapB, effIds, effSet, nextFresh, ard, freshOk, isUnborn, aop, LS, SS, SX, HS, mkS_cons, mkS_nil, ↓reduceIte, eq_self', List.map_nil, beq_self_eq_true, Nat.reduceEqDiff, Nat.reduceAdd, Nat.reduceMul, Nat.reduceLT, Nat.reduceLeDiff, Nat.reducePow, Nat.reduceDiv, Nat.reduceMod, Nat.succ_ne_self, Nat.reduceBEq, Nat.reduceBNe, vint, NdS, NdF, Bool.not_true, Int.cast_ofNat_Int, Int.reduceLT, Int.reduceLE, Int.reduceEq, Int.toNat_one, Int.toNat_zero, Int.reduceToNat, Int.reduceNeg, decide_true, decide_false, h3, k0, k1, k2, Int.reduceToNat, hf] <;> first | done | rfl) ?_
      refine d_take (bm := [0, 0, 3, 7, 0, 0, 48, 0, 0, 496, 1023, 2047, 4095, 8191, 16383, 16383, 16383, 32767, 196607, 524287]) 2 (fresh := 0) (by kernel_rfl) (by simp only [dsq, ds0, ds1, ds2, ds3, awanted, hapB, effIds, effSet, nextFresh, ard, freshOk, isUnborn, aop, LS, SS, SX, HS, mkS_cons, mkS_nil, ↓reduceIte, eq_self', List.map_nil, beq_self_eq_true, Nat.reduceEqDiff, Nat.reduceAdd, Nat.reduceMul, Nat.reduceLT, Nat.reduceLeDiff, Nat.reducePow, Nat.reduceDiv, Nat.reduceMod, Nat.succ_ne_self, Nat.reduceBEq, Nat.reduceBNe, vint, NdS, NdF, Bool.not_true, Int.cast_ofNat_Int, Int.reduceLT, Int.reduceLE, Int.reduceEq, Int.toNat_one, Int.toNat_zero, Int.reduceToNat, Int.reduceNeg, decide_true, decide_false, h3, k0, k1, k2, Int.reduceToNat, hf] <;> with_reducible rfl) (by decide) (by decide) ?_
      refine dops_keep (bm := [0, 0, 3, 7, 0, 0, 48, 0, 0, 496, 1023, 2047, 4095, 8191, 16383, 16383, 16383, 32767, 196607, 524287]) ([]) (by kernel_rfl) (by simp only [acall, awanted, LS, SS, SX, HS, mkS_cons, mkS_nil, ↓reduceIte, eq_self', List.map_nil, beq_self_eq_true, Nat.reduceEqDiff, Nat.reduceAdd, Nat.reduceMul, Nat.reduceLT, Nat.reduceLeDiff, Nat.reducePow, Nat.reduceDiv, Nat.reduceMod, Nat.succ_ne_self, Nat.reduceBEq, Nat.reduceBNe, vint, NdS, NdF, Bool.not_true, Int.cast_ofNat_Int, Int.reduceLT, Int.reduceLE, Int.reduceEq, Int.toNat_one, Int.toNat_zero, Int.reduceToNat, Int.reduceNeg, decide_true, decide_false, h3, k0, k1, k2, Int.reduceToNat, hf] <;> with_reducible rfl) (by simp only [acall, awanted, LS, SS, SX, HS, mkS_cons, mkS_nil, ↓reduceIte, eq_self', List.map_nil, beq_self_eq_true, Nat.reduceEqDiff, Nat.reduceAdd, Nat.reduceMul, Nat.reduceLT, Nat.reduceLeDiff, Nat.reducePow, Nat.reduceDiv, Nat.reduceMod, Nat.succ_ne_self, Nat.reduceBEq, Nat.reduceBNe, vint, NdS, NdF, Bool.not_true, Int.cast_ofNat_Int, Int.reduceLT, Int.reduceLE, Int.reduceEq, Int.toNat_one, Int.toNat_zero, Int.reduceToNat, Int.reduceNeg, decide_true, decide_false, h3, k0, k1, k2, Int.reduceToNat, hf]) (by decide) Trygo9 (fun H' _ => operand_c b hb.1 hb.2 H') (by simp only [dsq, ds0, ds1, ds2, ds3, awanted, hapB, effIds, effSet, nextFresh, ard, freshOk, isUnborn, aop, LS, SS, SX, HS, mkS_cons, mkS_nil, ↓reduceIte, eq_self', List.map_nil, beq_self_eq_true, Nat.reduceEqDiff, Nat.reduceAdd, Nat.reduceMul, Nat.reduceLT, Nat.reduceLeDiff, Nat.reducePow, Nat.reduceDiv, Nat.reduceMod, Nat.succ_ne_self, Nat.reduceBEq, Nat.reduceBNe, vint, NdS, NdF, Bool.not_true, Int.cast_ofNat_Int, Int.reduceLT, Int.reduceLE, Int.reduceEq, Int.toNat_one, Int.toNat_zero, Int.reduceToNat, Int.reduceNeg, decide_true, decide_false, h3, k0, k1, k2, Int.reduceToNat, hf] <;> first | done | rfl) ?_
      refine dops_keep (bm := [0, 0, 3, 7, 0, 0, 48, 0, 0, 496, 1023, 2047, 4095, 8191, 16383, 16383, 16383, 32767, 196607, 524287]) ([]) (by kernel_rfl) (by simp only [acall, awanted, LS, SS, SX, HS, mkS_cons, mkS_nil, ↓reduceIte, eq_self', List.map_nil, beq_self_eq_true, Nat.reduceEqDiff, Nat.reduceAdd, Nat.reduceMul, Nat.reduceLT, Nat.reduceLeDiff, Nat.reducePow, Nat.reduceDiv, Nat.reduceMod, Nat.succ_ne_self, Nat.reduceBEq, Nat.reduceBNe, vint, NdS, NdF, Bool.not_true, Int.cast_ofNat_Int, Int.reduceLT, Int.reduceLE, Int.reduceEq, Int.toNat_one, Int.toNat_zero, Int.reduceToNat, Int.reduceNeg, decide_true, decide_false, h3, k0, k1, k2, Int.reduceToNat, hf] <;> with_reducible rfl) (by simp only [acall, awanted, LS, SS, SX, HS, mkS_cons, mkS_nil, ↓reduceIte, eq_self', List.map_nil, beq_self_eq_true, Nat.reduceEqDiff, Nat.reduceAdd, Nat.reduceMul, Nat.reduceLT, Nat.reduceLeDiff, Nat.reducePow, Nat.reduceDiv, Nat.reduceMod, Nat.succ_ne_self, Nat.reduceBEq, Nat.reduceBNe, vint, NdS, NdF, Bool.not_true, Int.cast_ofNat_Int, Int.reduceLT, Int.reduceLE, Int.reduceEq, Int.toNat_one, Int.toNat_zero, Int.reduceToNat, Int.reduceNeg, decide_true, decide_false, h3, k0, k1, k2, Int.reduceToNat, hf]) (by decide) Trygo12 (fun H' _ => binK _ (opdN a) (opdN b) H') (by simp only [dsq, ds0, ds1, ds2, ds3, awanted, hapB, effIds, effSet, nextFresh, ard, freshOk, isUnborn, aop, LS, SS, SX, HS, mkS_cons, mkS_nil, ↓reduceIte, eq_self', List.map_nil, beq_self_eq_true, Nat.reduceEqDiff, Nat.reduceAdd, Nat.reduceMul, Nat.reduceLT, Nat.reduceLeDiff, Nat.reducePow, Nat.reduceDiv, Nat.reduceMod, Nat.succ_ne_self, Nat.reduceBEq, Nat.reduceBNe, vint, NdS, NdF, Bool.not_true, Int.cast_ofNat_Int, Int.reduceLT, Int.reduceLE, Int.reduceEq, Int.toNat_one, Int.toNat_zero, Int.reduceToNat, Int.reduceNeg, decide_true, decide_false, h3, k0, k1, k2, Int.reduceToNat, hf] <;> first | done | rfl) ?_
      refine dops_keep (bm := [0, 0, 3, 7, 0, 0, 48, 0, 0, 496, 1023, 2047, 4095, 8191, 16383, 16383, 16383, 32767, 196607, 524287]) ([]) (by kernel_rfl) (by simp only [acall, awanted, LS, SS, SX, HS, mkS_cons, mkS_nil, ↓reduceIte, eq_self', List.map_nil, beq_self_eq_true, Nat.reduceEqDiff, Nat.reduceAdd, Nat.reduceMul, Nat.reduceLT, Nat.reduceLeDiff, Nat.reducePow, Nat.reduceDiv, Nat.reduceMod, Nat.succ_ne_self, Nat.reduceBEq, Nat.reduceBNe, vint, NdS, NdF, Bool.not_true, Int.cast_ofNat_Int, Int.reduceLT, Int.reduceLE, Int.reduceEq, Int.toNat_one, Int.toNat_zero, Int.reduceToNat, Int.reduceNeg, decide_true, decide_false, h3, k0, k1, k2, Int.reduceToNat, hf] <;> with_reducible rfl) (by simp only [acall, awanted, LS, SS, SX, HS, mkS_cons, mkS_nil, ↓reduceIte, eq_self', List.map_nil, beq_self_eq_true, Nat.reduceEqDiff, Nat.reduceAdd, Nat.reduceMul, Nat.reduceLT, Nat.reduceLeDiff, Nat.reducePow, Nat.reduceDiv, Nat.reduceMod, Nat.succ_ne_self, Nat.reduceBEq, Nat.reduceBNe, vint, NdS, NdF, Bool.not_true, Int.cast_ofNat_Int, Int.reduceLT, Int.reduceLE, Int.reduceEq, Int.toNat_one, Int.toNat_zero, Int.reduceToNat, Int.reduceNeg, decide_true, decide_false, h3, k0, k1, k2, Int.reduceToNat, hf]) (by decide) Trygo7 (fun H' _ => fold_k _ (Nd.mk 39 0 _ 0 0 (-1) [opdN a, opdN b]) (Nat.le_refl _) (by simp [Nd.W_iff, opd_W]) H') (by simp only [dsq, ds0, ds1, ds2, ds3, awanted, hapB, effIds, effSet, nextFresh, ard, freshOk, isUnborn, aop, LS, SS, SX, HS, mkS_cons, mkS_nil, ↓reduceIte, eq_self', List.map_nil, beq_self_eq_true, Nat.reduceEqDiff, Nat.reduceAdd, Nat.reduceMul, Nat.reduceLT, Nat.reduceLeDiff, Nat.reducePow, Nat.reduceDiv, Nat.reduceMod, Nat.succ_ne_self, Nat.reduceBEq, Nat.reduceBNe, vint, NdS, NdF, Bool.not_true, Int.cast_ofNat_Int, Int.reduceLT, Int.reduceLE, Int.reduceEq, Int.toNat_one, Int.toNat_zero, Int.reduceToNat, Int.reduceNeg, decide_true, decide_false, h3, k0, k1, k2, Int.reduceToNat, hf] <;> first | done | rfl) ?_
      refine dops_keep (bm := [0, 0, 3, 7, 0, 0, 48, 0, 0, 496, 1023, 2047, 4095, 8191, 16383, 16383, 16383, 32767, 196607, 524287]) ([]) (by kernel_rfl) (by simp only [acall, awanted, LS, SS, SX, HS, mkS_cons, mkS_nil, ↓reduceIte, eq_self', List.map_nil, beq_self_eq_true, Nat.reduceEqDiff, Nat.reduceAdd, Nat.reduceMul, Nat.reduceLT, Nat.reduceLeDiff, Nat.reducePow, Nat.reduceDiv, Nat.reduceMod, Nat.succ_ne_self, Nat.reduceBEq, Nat.reduceBNe, vint, NdS, NdF, Bool.not_true, Int.cast_ofNat_Int, Int.reduceLT, Int.reduceLE, Int.reduceEq, Int.toNat_one, Int.toNat_zero, Int.reduceToNat, Int.reduceNeg, decide_true, decide_false, h3, k0, k1, k2, Int.reduceToNat, hf] <;> with_reducible rfl) (by simp only [acall, awanted, LS, SS, SX, HS, mkS_cons, mkS_nil, ↓reduceIte, eq_self', List.map_nil, beq_self_eq_true, Nat.reduceEqDiff, Nat.reduceAdd, Nat.reduceMul, Nat.reduceLT, Nat.reduceLeDiff, Nat.reducePow, Nat.reduceDiv, Nat.reduceMod, Nat.succ_ne_self, Nat.reduceBEq, Nat.reduceBNe, vint, NdS, NdF, Bool.not_true, Int.cast_ofNat_Int, Int.reduceLT, Int.reduceLE, Int.reduceEq, Int.toNat_one, Int.toNat_zero, Int.reduceToNat, Int.reduceNeg, decide_true, decide_false, h3, k0, k1, k2, Int.reduceToNat, hf]) (by decide) Trygo11 (fun H' _ => value_c (foldN (Nd.mk 39 0 _ 0 0 (-1) [opdN a, opdN b])) H') (by simp only [dsq, ds0, ds1, ds2, ds3, awanted, hapB, effIds, effSet, nextFresh, ard, freshOk, isUnborn, aop, LS, SS, SX, HS, mkS_cons, mkS_nil, ↓reduceIte, eq_self', List.map_nil, beq_self_eq_true, Nat.reduceEqDiff, Nat.reduceAdd, Nat.reduceMul, Nat.reduceLT, Nat.reduceLeDiff, Nat.reducePow, Nat.reduceDiv, Nat.reduceMod, Nat.succ_ne_self, Nat.reduceBEq, Nat.reduceBNe, vint, NdS, NdF, Bool.not_true, Int.cast_ofNat_Int, Int.reduceLT, Int.reduceLE, Int.reduceEq, Int.toNat_one, Int.toNat_zero, Int.reduceToNat, Int.reduceNeg, decide_true, decide_false, h3, k0, k1, k2, Int.reduceToNat, hf] <;> first | done | rfl) ?_
      refine d_end (bm := [0, 0, 3, 7, 0, 0, 48, 0, 0, 496, 1023, 2047, 4095, 8191, 16383, 16383, 16383, 32767, 196607, 524287]) (fresh := 0) (by kernel_rfl) (by simp only [dsq, ds0, ds1, ds2, ds3, awanted, hapB, effIds, effSet, nextFresh, ard, freshOk, isUnborn, aop, ajust, LS, SS, SX, HS, mkS_cons, mkS_nil, ↓reduceIte, eq_self', List.map_nil, beq_self_eq_true, Nat.reduceEqDiff, Nat.reduceAdd, Nat.reduceMul, Nat.reduceLT, Nat.reduceLeDiff, Nat.reducePow, Nat.reduceDiv, Nat.reduceMod, Nat.succ_ne_self, Nat.reduceBEq, Nat.reduceBNe, vint, NdS, NdF, Bool.not_true, Int.cast_ofNat_Int, Int.reduceLT, Int.reduceLE, Int.reduceEq, Int.toNat_one, Int.toNat_zero, Int.reduceToNat, Int.reduceNeg, decide_true, decide_false, h3, k0, k1, k2, Int.reduceToNat, hf] <;> with_reducible rfl) (by decide) ?_
      refine awp_sel [9, 10, 11, 12, 13] (by simp only [LS, SS, SX, HS, mkS_cons, mkS_nil, ↓reduceIte, eq_self', List.map_nil, beq_self_eq_true, Nat.reduceEqDiff, Nat.reduceAdd, Nat.succ_ne_self, vint, NdS, NdF, Bool.not_true, Int.cast_ofNat_Int, Int.reduceLT, Int.reduceLE, Int.reduceEq, Int.toNat_one, Int.toNat_zero, Int.reduceToNat, Int.reduceNeg, decide_true, decide_false, h3, k0, k1, k2, Int.reduceToNat] <;> with_reducible rfl) ?_
      -- region 10
      repeat (refine awp_seq ?_)
      refine g_eval (by simp only [gsq, gs0, gs1, gs2, gcond, gop, SG, Op.operands, Call.operands, Array.toList_append, aop, aidxAddr, aidx, ajust, aload, abin, LS, SS, SX, HS, mkS_cons, mkS_nil, ↓reduceIte, eq_self', List.map_nil, beq_self_eq_true, Nat.reduceEqDiff, Nat.reduceAdd, Nat.reduceMul, Nat.reduceLT, Nat.reduceLeDiff, Nat.reducePow, Nat.reduceDiv, Nat.reduceMod, Nat.succ_ne_self, Nat.reduceBEq, Nat.reduceBNe, Tryti3, Trytz3, Trytp3, Trytk3, Tryti31, Tryte31, Trytz31, Trytp31, vint, NdS, NdF, Bool.not_true, Int.cast_ofNat_Int, Int.reduceLT, Int.reduceLE, Int.reduceEq, Int.toNat_one, Int.toNat_zero, Int.reduceToNat, Int.reduceNeg, decide_true, decide_false, h3, k0, k1, k2, Int.reduceToNat] <;> with_reducible rfl) (by decide) (by repeat (first | exact Fin.base _ | with_reducible apply Fin.keep | apply Fin.drop)) ?_
      -- region 11
      repeat (refine awp_seq ?_)
      refine g_eval (by simp only [gsq, gs0, gs1, gs2, gcond, gop, SG, Op.operands, Call.operands, Array.toList_append, aop, abin, ajust, aun, aidxAddr, aidx, aload, LS, SS, SX, HS, mkS_cons, mkS_nil, ↓reduceIte, eq_self', List.map_nil, beq_self_eq_true, Nat.reduceEqDiff, Nat.reduceAdd, Nat.reduceMul, Nat.reduceLT, Nat.reduceLeDiff, Nat.reducePow, Nat.reduceDiv, Nat.reduceMod, Nat.succ_ne_self, Nat.reduceBEq, Nat.reduceBNe, Tryti3, Trytz3, Trytp3, Trytk3, Tryti4, Trytz4, Trytp4, Trytb4, Tryti31, Tryte31, Trytz31, Trytp31, vint, NdS, NdF, Bool.not_true, Int.cast_ofNat_Int, Int.reduceLT, Int.reduceLE, Int.reduceEq, Int.toNat_one, Int.toNat_zero, Int.reduceToNat, Int.reduceNeg, decide_true, decide_false, h3, k0, k1, k2, Int.reduceToNat] <;> with_reducible rfl) (by decide) (by repeat (first | exact Fin.base _ | with_reducible apply Fin.keep | apply Fin.drop)) ?_
      repeat (refine awp_seq ?_)
      -- leaf 2 ret
      refine awp_ret ⟨.inr rfl, _, rfl, ?_⟩
      simp only [LS, SS, SX, HS, mkS_cons, mkS_nil, ↓reduceIte, eq_self', List.map_nil, beq_self_eq_true, Nat.reduceEqDiff, Nat.reduceAdd, Nat.succ_ne_self, vint, NdS, NdF]
      by_cases hr : -2147483648 < a - b ∧ a - b ≤ 2147483647 <;> grind
    · -- case
      have hf := fold_op [42] a b ha hb (a * b) (by simp)
      -- region 8
      repeat (refine awp_seq ?_)
      refine e_eval (by simp only [asq, as0, as1, as2, awanted, aop, abin, ajust, LS, SS, SX, HS, mkS_cons, mkS_nil, ↓reduceIte, eq_self', List.map_nil, beq_self_eq_true, Nat.reduceEqDiff, Nat.reduceAdd, Nat.reduceMul, Nat.reduceLT, Nat.reduceLeDiff, Nat.reducePow, Nat.reduceDiv, Nat.reduceMod, Nat.succ_ne_self, Nat.reduceBEq, Nat.reduceBNe, Tryti3, Trytz3, Trytp3, Trytk3, Tryti32, Trytz32, Trytp32, Trytk32, vint, NdS, NdF, Bool.not_true, Int.cast_ofNat_Int, Int.reduceLT, Int.reduceLE, Int.reduceEq, Int.toNat_one, Int.toNat_zero, Int.reduceToNat, Int.reduceNeg, decide_true, decide_false, h3, k0, k1, k2, Int.reduceToNat] <;> with_reducible rfl) (by decide) ?_
      refine awp_sel [0, 1, 7, 8, 9, 10] (by simp only [LS, SS, SX, HS, mkS_cons, mkS_nil, ↓reduceIte, eq_self', List.map_nil, beq_self_eq_true, Nat.reduceEqDiff, Nat.reduceAdd, Nat.succ_ne_self, vint, NdS, NdF, Bool.not_true, Int.cast_ofNat_Int, Int.reduceLT, Int.reduceLE, Int.reduceEq, Int.toNat_one, Int.toNat_zero, Int.reduceToNat, Int.reduceNeg, decide_true, decide_false, h3, k0, k1, k2, Int.reduceToNat] <;> with_reducible rfl) ?_
      -- region 9
      repeat (refine awp_seq ?_)
      refine awp_draw 0 (by kernel_rfl) ?_
      refine d_take (bm := [0, 0, 3, 7, 0, 0, 48, 0, 0, 496, 1023, 2047, 4095, 8191, 16383, 16383, 16383, 32767, 196607, 524287]) 6 (fresh := 0) (by kernel_rfl) (by simp only [dsq, ds0, ds1, ds2, ds3, awanted, hapB, effIds, effSet, nextFresh, ard, freshOk, isUnborn, aop, aidxAddr, aidx, ajust, aload, LS, SS, SX, HS, mkS_cons, mkS_nil, ↓reduceIte, eq_self', List.map_nil, beq_self_eq_true, Nat.reduceEqDiff, Nat.reduceAdd, Nat.reduceMul, Nat.reduceLT, Nat.reduceLeDiff, Nat.reducePow, Nat.reduceDiv, Nat.reduceMod, Nat.succ_ne_self, Nat.reduceBEq, Nat.reduceBNe, Tryti9, Trytz9, Trytp9, Tryts9, Tryti30, Tryte30, Trytz30, Trytp30, vint, NdS, NdF, Bool.not_true, Int.cast_ofNat_Int, Int.reduceLT, Int.reduceLE, Int.reduceEq, Int.toNat_one, Int.toNat_zero, Int.reduceToNat, Int.reduceNeg, decide_true, decide_false, h3, k0, k1, k2, Int.reduceToNat, hf] <;> with_reducible rfl) (by decide) (by decide) ?_
      refine dops_keep (bm := [0, 0, 3, 7, 0, 0, 48, 0, 0, 496, 1023, 2047, 4095, 8191, 16383, 16383, 16383, 32767, 196607, 524287]) ([]) (by kernel_rfl) (by simp only [acall, awanted, LS, SS, SX, HS, mkS_cons, mkS_nil, ↓reduceIte, eq_self', List.map_nil, beq_self_eq_true, Nat.reduceEqDiff, Nat.reduceAdd, Nat.reduceMul, Nat.reduceLT, Nat.reduceLeDiff, Nat.reducePow, Nat.reduceDiv, Nat.reduceMod, Nat.succ_ne_self, Nat.reduceBEq, Nat.reduceBNe, vint, NdS, NdF, Bool.not_true, Int.cast_ofNat_Int, Int.reduceLT, Int.reduceLE, Int.reduceEq, Int.toNat_one, Int.toNat_zero, Int.reduceToNat, Int.reduceNeg, decide_true, decide_false, h3, k0, k1, k2, Int.reduceToNat, hf] <;> with_reducible rfl) (by simp only [acall, awanted, LS, SS, SX, HS, mkS_cons, mkS_nil, ↓reduceIte, eq_self', List.map_nil, beq_self_eq_true, Nat.reduceEqDiff, Nat.reduceAdd, Nat.reduceMul, Nat.reduceLT, Nat.reduceLeDiff, Nat.reducePow, Nat.reduceDiv, Nat.reduceMod, Nat.succ_ne_self, Nat.reduceBEq, Nat.reduceBNe, vint, NdS, NdF, Bool.not_true, Int.cast_ofNat_Int, Int.reduceLT, Int.reduceLE, Int.reduceEq, Int.toNat_one, Int.toNat_zero, Int.reduceToNat, Int.reduceNeg, decide_true, decide_false, h3, k0, k1, k2, Int.reduceToNat, hf]) (by decide) Trygo9 (fun H' _ => operand_c a ha.1 ha.2 H') (by simp only [dsq, ds0, ds1, ds2, ds3, awanted, hapB, effIds, effSet, nextFresh, ard, freshOk, isUnborn, aop, LS, SS, SX, HS, mkS_cons, mkS_nil, ↓reduceIte, eq_self', List.map_nil, beq_self_eq_true, Nat.reduceEqDiff, Nat.reduceAdd, Nat.reduceMul, Nat.reduceLT, Nat.reduceLeDiff, Nat.reducePow, Nat.reduceDiv, Nat.reduceMod, Nat.succ_ne_self, Nat.reduceBEq, Nat.reduceBNe, vint, NdS, NdF, Bool.not_true, Int.cast_ofNat_Int, Int.reduceLT, Int.reduceLE, Int.reduceEq, Int.toNat_one, Int.toNat_zero, Int.reduceToNat, Int.reduceNeg, decide_true, decide_false, h3, k0, k1, k2, Int.reduceToNat, hf] <;> first | done | rfl) ?_
      refine d_take (bm := [0, 0, 3, 7, 0, 0, 48, 0, 0, 496, 1023, 2047, 4095, 8191, 16383, 16383, 16383, 32767, 196607, 524287]) 2 (fresh := 0) (by kernel_rfl) (by simp only [dsq, ds0, ds1, ds2, ds3, awanted, hapB, effIds, effSet, nextFresh, ard, freshOk, isUnborn, aop, LS, SS, SX, HS, mkS_cons, mkS_nil, ↓reduceIte, eq_self', List.map_nil, beq_self_eq_true, Nat.reduceEqDiff, Nat.reduceAdd, Nat.reduceMul, Nat.reduceLT, Nat.reduceLeDiff, Nat.reducePow, Nat.reduceDiv, Nat.reduceMod, Nat.succ_ne_self, Nat.reduceBEq, Nat.reduceBNe, vint, NdS, NdF, Bool.not_true, Int.cast_ofNat_Int, Int.reduceLT, Int.reduceLE, Int.reduceEq, Int.toNat_one, Int.toNat_zero, Int.reduceToNat, Int.reduceNeg, decide_true, decide_false, h3, k0, k1, k2, Int.reduceToNat, hf] <;> with_reducible rfl) (by decide) (by decide) ?_
      refine dops_keep (bm := [0, 0, 3, 7, 0, 0, 48, 0, 0, 496, 1023, 2047, 4095, 8191, 16383, 16383, 16383, 32767, 196607, 524287]) ([]) (by kernel_rfl) (by simp only [acall, awanted, LS, SS, SX, HS, mkS_cons, mkS_nil, ↓reduceIte, eq_self', List.map_nil, beq_self_eq_true, Nat.reduceEqDiff, Nat.reduceAdd, Nat.reduceMul, Nat.reduceLT, Nat.reduceLeDiff, Nat.reducePow, Nat.reduceDiv, Nat.reduceMod, Nat.succ_ne_self, Nat.reduceBEq, Nat.reduceBNe, vint, NdS, NdF, Bool.not_true, Int.cast_ofNat_Int, Int.reduceLT, Int.reduceLE, Int.reduceEq, Int.toNat_one, Int.toNat_zero, Int.reduceToNat, Int.reduceNeg, decide_true, decide_false, h3, k0, k1, k2, Int.reduceToNat, hf] <;> with_reducible rfl) (by simp only [acall, awanted, LS, SS, SX, HS, mkS_cons, mkS_nil, ↓reduceIte, eq_self', List.map_nil, beq_self_eq_true, Nat.reduceEqDiff, Nat.reduceAdd, Nat.reduceMul, Nat.reduceLT, Nat.reduceLeDiff, Nat.reducePow, Nat.reduceDiv, Nat.reduceMod, Nat.succ_ne_self, Nat.reduceBEq, Nat.reduceBNe, vint, NdS, NdF, Bool.not_true, Int.cast_ofNat_Int, Int.reduceLT, Int.reduceLE, Int.reduceEq, Int.toNat_one, Int.toNat_zero, Int.reduceToNat, Int.reduceNeg, decide_true, decide_false, h3, k0, k1, k2, Int.reduceToNat, hf]) (by decide) Trygo9 (fun H' _ => operand_c b hb.1 hb.2 H') (by simp only [dsq, ds0, ds1, ds2, ds3, awanted, hapB, effIds, effSet, nextFresh, ard, freshOk, isUnborn, aop, LS, SS, SX, HS, mkS_cons, mkS_nil, ↓reduceIte, eq_self', List.map_nil, beq_self_eq_true, Nat.reduceEqDiff, Nat.reduceAdd, Nat.reduceMul, Nat.reduceLT, Nat.reduceLeDiff, Nat.reducePow, Nat.reduceDiv, Nat.reduceMod, Nat.succ_ne_self, Nat.reduceBEq, Nat.reduceBNe, vint, NdS, NdF, Bool.not_true, Int.cast_ofNat_Int, Int.reduceLT, Int.reduceLE, Int.reduceEq, Int.toNat_one, Int.toNat_zero, Int.reduceToNat, Int.reduceNeg, decide_true, decide_false, h3, k0, k1, k2, Int.reduceToNat, hf] <;> first | done | rfl) ?_
      refine dops_keep (bm := [0, 0, 3, 7, 0, 0, 48, 0, 0, 496, 1023, 2047, 4095, 8191, 16383, 16383, 16383, 32767, 196607, 524287]) ([]) (by kernel_rfl) (by simp only [acall, awanted, LS, SS, SX, HS, mkS_cons, mkS_nil, ↓reduceIte, eq_self', List.map_nil, beq_self_eq_true, Nat.reduceEqDiff, Nat.reduceAdd, Nat.reduceMul, Nat.reduceLT, Nat.reduceLeDiff, Nat.reducePow, Nat.reduceDiv, Nat.reduceMod, Nat.succ_ne_self, Nat.reduceBEq, Nat.reduceBNe, vint, NdS, NdF, Bool.not_true, Int.cast_ofNat_Int, Int.reduceLT, Int.reduceLE, Int.reduceEq, Int.toNat_one, Int.toNat_zero, Int.reduceToNat, Int.reduceNeg, decide_true, decide_false, h3, k0, k1, k2, Int.reduceToNat, hf] <;> with_reducible rfl) (by simp only [acall, awanted, LS, SS, SX, HS, mkS_cons, mkS_nil, ↓reduceIte, eq_self', List.map_nil, beq_self_eq_true, Nat.reduceEqDiff, Nat.reduceAdd, Nat.reduceMul, Nat.reduceLT, Nat.reduceLeDiff, Nat.reducePow, Nat.reduceDiv, Nat.reduceMod, Nat.succ_ne_self, Nat.reduceBEq, Nat.reduceBNe, vint, NdS, NdF, Bool.not_true, Int.cast_ofNat_Int, Int.reduceLT, Int.reduceLE, Int.reduceEq, Int.toNat_one, Int.toNat_zero, Int.reduceToNat, Int.reduceNeg, decide_true, decide_false, h3, k0, k1, k2, Int.reduceToNat, hf]) (by decide) Trygo12 (fun H' _ => binK _ (opdN a) (opdN b) H') (by simp only [dsq, ds0, ds1, ds2, ds3, awanted, hapB, effIds, effSet, nextFresh, ard, freshOk, isUnborn, aop, LS, SS, SX, HS, mkS_cons, mkS_nil, ↓reduceIte, eq_self', List.map_nil, beq_self_eq_true, Nat.reduceEqDiff, Nat.reduceAdd, Nat.reduceMul, Nat.reduceLT, Nat.reduceLeDiff, Nat.reducePow, Nat.reduceDiv, Nat.reduceMod, Nat.succ_ne_self, Nat.reduceBEq, Nat.reduceBNe, vint, NdS, NdF, Bool.not_true, Int.cast_ofNat_Int, Int.reduceLT, Int.reduceLE, Int.reduceEq, Int.toNat_one, Int.toNat_zero, Int.reduceToNat, Int.reduceNeg, decide_true, decide_false, h3, k0, k1, k2, Int.reduceToNat, hf] <;> first | done | rfl) ?_
      refine dops_keep (bm := [0, 0, 3, 7, 0, 0, 48, 0, 0, 496, 1023, 2047, 4095, 8191, 16383, 16383, 16383, 32767, 196607, 524287]) ([]) (by kernel_rfl) (by simp only [acall, awanted, LS, SS, SX, HS, mkS_cons, mkS_nil, ↓reduceIte, eq_self', List.map_nil, beq_self_eq_true, Nat.reduceEqDiff, Nat.reduceAdd, Nat.reduceMul, Nat.reduceLT, Nat.reduceLeDiff, Nat.reducePow, Nat.reduceDiv, Nat.reduceMod, Nat.succ_ne_self, Nat.reduceBEq, Nat.reduceBNe, vint, NdS, NdF, Bool.not_true, Int.cast_ofNat_Int, Int.reduceLT, Int.reduceLE, Int.reduceEq, Int.toNat_one, Int.toNat_zero, Int.reduceToNat, Int.reduceNeg, decide_true, decide_false, h3, k0, k1, k2, Int.reduceToNat, hf] <;> with_reducible rfl) (by simp only [acall, awanted, LS, SS, SX, HS, mkS_cons, mkS_nil, ↓reduceIte, eq_self', List.map_nil, beq_self_eq_true, Nat.reduceEqDiff, Nat.reduceAdd, Nat.reduceMul, Nat.reduceLT, Nat.reduceLeDiff, Nat.reducePow, Nat.reduceDiv, Nat.reduceMod, Nat.succ_ne_self, Nat.reduceBEq, Nat.reduceBNe, vint, NdS, NdF, Bool.not_true, Int.cast_ofNat_Int, Int.reduceLT, Int.reduceLE, Int.reduceEq, Int.toNat_one, Int.toNat_zero, Int.reduceToNat, Int.reduceNeg, decide_true, decide_false, h3, k0, k1, k2, Int.reduceToNat, hf]) (by decide) Trygo7 (fun H' _ => fold_k _ (Nd.mk 39 0 _ 0 0 (-1) [opdN a, opdN b]) (Nat.le_refl _) (by simp [Nd.W_iff, opd_W]) H') (by simp only [dsq, ds0, ds1, ds2, ds3, awanted, hapB, effIds, effSet, nextFresh, ard, freshOk, isUnborn, aop, LS, SS, SX, HS, mkS_cons, mkS_nil, ↓reduceIte, eq_self', List.map_nil, beq_self_eq_true, Nat.reduceEqDiff, Nat.reduceAdd, Nat.reduceMul, Nat.reduceLT, Nat.reduceLeDiff, Nat.reducePow, Nat.reduceDiv, Nat.reduceMod, Nat.succ_ne_self, Nat.reduceBEq, Nat.reduceBNe, vint, NdS, NdF, Bool.not_true, Int.cast_ofNat_Int, Int.reduceLT, Int.reduceLE, Int.reduceEq, Int.toNat_one, Int.toNat_zero, Int.reduceToNat, Int.reduceNeg, decide_true, decide_false, h3, k0, k1, k2, Int.reduceToNat, hf] <;> first | done | rfl) ?_
      refine dops_keep (bm := [0, 0, 3, 7, 0, 0, 48, 0, 0, 496, 1023, 2047, 4095, 8191, 16383, 16383, 16383, 32767, 196607, 524287]) ([]) (by kernel_rfl) (by simp only [acall, awanted, LS, SS, SX, HS, mkS_cons, mkS_nil, ↓reduceIte, eq_self', List.map_nil, beq_self_eq_true, Nat.reduceEqDiff, Nat.reduceAdd, Nat.reduceMul, Nat.reduceLT, Nat.reduceLeDiff, Nat.reducePow, Nat.reduceDiv, Nat.reduceMod, Nat.succ_ne_self, Nat.reduceBEq, Nat.reduceBNe, vint, NdS, NdF, Bool.not_true, Int.cast_ofNat_Int, Int.reduceLT, Int.reduceLE, Int.reduceEq, Int.toNat_one, Int.toNat_zero, Int.reduceToNat, Int.reduceNeg, decide_true, decide_false, h3, k0, k1, k2, Int.reduceToNat, hf] <;> with_reducible rfl) (by simp only [acall, awanted, LS, SS, SX, HS, mkS_cons, mkS_nil, ↓reduceIte, eq_self', List.map_nil, beq_self_eq_true, Nat.reduceEqDiff, Nat.reduceAdd, Nat.reduceMul, Nat.reduceLT, Nat.reduceLeDiff, Nat.reducePow, Nat.reduceDiv, Nat.reduceMod, Nat.succ_ne_self, Nat.reduceBEq, Nat.reduceBNe, vint, NdS, NdF, Bool.not_true, Int.cast_ofNat_Int, Int.reduceLT, Int.reduceLE, Int.reduceEq, Int.toNat_one, Int.toNat_zero, Int.reduceToNat, Int.reduceNeg, decide_true, decide_false, h3, k0, k1, k2, Int.reduceToNat, hf]) (by decide) Trygo11 (fun H' _ => value_c (foldN (Nd.mk 39 0 _ 0 0 (-1) [opdN a, opdN b])) H') (by simp only [dsq, ds0, ds1, ds2, ds3, awanted, hapB, effIds, effSet, nextFresh, ard, freshOk, isUnborn, aop, LS, SS, SX, HS, mkS_cons, mkS_nil, ↓reduceIte, eq_self', List.map_nil, beq_self_eq_true, Nat.reduceEqDiff, Nat.reduceAdd, Nat.reduceMul, Nat.reduceLT, Nat.reduceLeDiff, Nat.reducePow, Nat.reduceDiv, Nat.reduceMod, Nat.succ_ne_self, Nat.reduceBEq, Nat.reduceBNe, vint, NdS, NdF, Bool.not_true, Int.cast_ofNat_Int, Int.reduceLT, Int.reduceLE, Int.reduceEq, Int.toNat_one, Int.toNat_zero, Int.reduceToNat, Int.reduceNeg, decide_true, decide_false, h3, k0, k1, k2, Int.reduceToNat, hf] <;> first | done | rfl) ?_
      refine d_end (bm := [0, 0, 3, 7, 0, 0, 48, 0, 0, 496, 1023, 2047, 4095, 8191, 16383, 16383, 16383, 32767, 196607, 524287]) (fresh := 0) (by kernel_rfl) (by simp only [dsq, ds0, ds1, ds2, ds3, awanted, hapB, effIds, effSet, nextFresh, ard, freshOk, isUnborn, aop, ajust, LS, SS, SX, HS, mkS_cons, mkS_nil, ↓reduceIte, eq_self', List.map_nil, beq_self_eq_true, Nat.reduceEqDiff, Nat.reduceAdd, Nat.reduceMul, Nat.reduceLT, Nat.reduceLeDiff, Nat.reducePow, Nat.reduceDiv, Nat.reduceMod, Nat.succ_ne_self, Nat.reduceBEq, Nat.reduceBNe, vint, NdS, NdF, Bool.not_true, Int.cast_ofNat_Int, Int.reduceLT, Int.reduceLE, Int.reduceEq, Int.toNat_one, Int.toNat_zero, Int.reduceToNat, Int.reduceNeg, decide_true, decide_false, h3, k0, k1, k2, Int.reduceToNat, hf] <;> with_reducible rfl) (by decide) ?_
      refine awp_sel [9, 10, 11, 12, 13] (by simp only [LS, SS, SX, HS, mkS_cons, mkS_nil, ↓reduceIte, eq_self', List.map_nil, beq_self_eq_true, Nat.reduceEqDiff, Nat.reduceAdd, Nat.succ_ne_self, vint, NdS, NdF, Bool.not_true, Int.cast_ofNat_Int, Int.reduceLT, Int.reduceLE, Int.reduceEq, Int.toNat_one, Int.toNat_zero, Int.reduceToNat, Int.reduceNeg, decide_true, decide_false, h3, k0, k1, k2, Int.reduceToNat] <;> with_reducible rfl) ?_
      -- region 10
      repeat (refine awp_seq ?_)
      refine g_eval (by simp only [gsq, gs0, gs1, gs2, gcond, gop, SG, Op.operands, Call.operands, Array.toList_append, aop, aidxAddr, aidx, ajust, aload, abin, LS, SS, SX, HS, mkS_cons, mkS_nil, ↓reduceIte, eq_self', List.map_nil, beq_self_eq_true, Nat.reduceEqDiff, Nat.reduceAdd, Nat.reduceMul, Nat.reduceLT, Nat.reduceLeDiff, Nat.reducePow, Nat.reduceDiv, Nat.reduceMod, Nat.succ_ne_self, Nat.reduceBEq, Nat.reduceBNe, Tryti3, Trytz3, Trytp3, Trytk3, Tryti31, Tryte31, Trytz31, Trytp31, vint, NdS, NdF, Bool.not_true, Int.cast_ofNat_Int, Int.reduceLT, Int.reduceLE, Int.reduceEq, Int.toNat_one, Int.toNat_zero, Int.reduceToNat, Int.reduceNeg, decide_true, decide_false, h3, k0, k1, k2, Int.reduceToNat] <;> with_reducible rfl) (by decide) (by repeat (first | exact Fin.base _ | with_reducible apply Fin.keep | apply Fin.drop)) ?_
      -- region 11
      repeat (refine awp_seq ?_)
      refine g_eval (by simp only [gsq, gs0, gs1, gs2, gcond, gop, SG, Op.operands, Call.operands, Array.toList_append, aop, abin, ajust, aun, aidxAddr, aidx, aload, LS, SS, SX, HS, mkS_cons, mkS_nil, ↓reduceIte, eq_self', List.map_nil, beq_self_eq_true, Nat.reduceEqDiff, Nat.reduceAdd, Nat.reduceMul, Nat.reduceLT, Nat.reduceLeDiff, Nat.reducePow, Nat.reduceDiv, Nat.reduceMod, Nat.succ_ne_self, Nat.reduceBEq, Nat.reduceBNe, Tryti3, Trytz3, Trytp3, Trytk3, Tryti4, Trytz4, Trytp4, Trytb4, Tryti31, Tryte31, Trytz31, Trytp31, vint, NdS, NdF, Bool.not_true, Int.cast_ofNat_Int, Int.reduceLT, Int.reduceLE, Int.reduceEq, Int.toNat_one, Int.toNat_zero, Int.reduceToNat, Int.reduceNeg, decide_true, decide_false, h3, k0, k1, k2, Int.reduceToNat] <;> with_reducible rfl) (by decide) (by repeat (first | exact Fin.base _ | with_reducible apply Fin.keep | apply Fin.drop)) ?_
      repeat (refine awp_seq ?_)
      -- leaf 3 ret
      refine awp_ret ⟨.inr rfl, _, rfl, ?_⟩
      simp only [LS, SS, SX, HS, mkS_cons, mkS_nil, ↓reduceIte, eq_self', List.map_nil, beq_self_eq_true, Nat.reduceEqDiff, Nat.reduceAdd, Nat.succ_ne_self, vint, NdS, NdF]
      by_cases hr : -2147483648 < a * b ∧ a * b ≤ 2147483647 <;> grind

end Go.Abs
set_option linter.unusedVariables false
namespace Go.Abs
def Ty.zero : Ty := .mk 0 0 []
abbrev MSt := List Ty × List Bool
/-- The arguments, one behind the other. -/
def matchL : List (Ty × (Ty → MSt → Bool × MSt)) → MSt → Bool × MSt
  | [], s => (true, s)
  | (a, f) :: r, s => if (f a s).1 then matchL r (f a s).2 else (false, (f a s).2)
/-- What the matcher does. -/
def matchT (ps : List Int) (t : Ty) : Ty → MSt → Bool × MSt
  | .mk pk pi us, s =>
    if (decide (pk = 2) && decide (idxI (fun x => decide (pi = x)) ps ≥ 0)) = true then
      if s.2.getD (idxI (fun x => decide (pi = x)) ps).toNat false = true then ((s.1.getD (idxI (fun x => decide (pi = x)) ps).toNat .zero).eqb t, s)
      else (true, s.1.set (idxI (fun x => decide (pi = x)) ps).toNat t, s.2.set (idxI (fun x => decide (pi = x)) ps).toNat true)
    else if (!decide (t.kind = pk) || !decide (t.id = pi) || !decide ((t.args.length : Int) = us.length)) = true then (false, s)
    else matchL (t.args.zip (us.map fun u => fun a s => matchT ps a u s)) s
theorem matchT_eq (ps : List Int) (t p : Ty) (s : MSt) : matchT ps t p s =
    if (decide (p.kind = 2) && decide (idxI (fun x => decide (p.id = x)) ps ≥ 0)) = true then
      if s.2.getD (idxI (fun x => decide (p.id = x)) ps).toNat false = true then ((s.1.getD (idxI (fun x => decide (p.id = x)) ps).toNat .zero).eqb t, s)
      else (true, s.1.set (idxI (fun x => decide (p.id = x)) ps).toNat t, s.2.set (idxI (fun x => decide (p.id = x)) ps).toNat true)
    else if (!decide (t.kind = p.kind) || !decide (t.id = p.id) || !decide ((t.args.length : Int) = p.args.length)) = true then (false, s)
    else matchL (t.args.zip (p.args.map fun u => fun a s => matchT ps a u s)) s := by
  cases p; rw [matchT]; rfl

/-- What the state keeps. -/
structure MOk (n : Nat) (s : MSt) : Prop where
  l1 : s.1.length = n
  l2 : s.2.length = n
  w : ∀ a ∈ s.1, a.W

theorem idxI_lt {α : Type} {p : α → Bool} {xs : List α} (h : idxI p xs ≥ 0) : idxI p xs < xs.length := by
  unfold idxI at h ⊢
  cases hq : xs.findIdx? p with
  | none => rw [hq] at h; simp at h
  | some i =>
    obtain ⟨hi, _⟩ := List.findIdx?_eq_some_iff_getElem.1 hq
    simp only; omega

theorem matchL_ok {n : Nat} : ∀ (l : List (Ty × (Ty → MSt → Bool × MSt))) (s : MSt), MOk n s → (∀ x ∈ l, ∀ s, MOk n s → MOk n (x.2 x.1 s).2) → MOk n (matchL l s).2
  | [], s, h, _ => h
  | (a, f) :: r, s, h, hl => by
    have h1 := hl _ (List.mem_cons_self ..) s h
    unfold matchL
    split
    · exact matchL_ok r _ h1 (fun x hx => hl x (List.mem_cons_of_mem _ hx))
    · exact h1

theorem matchT_ok (ps : List Int) : ∀ (p t : Ty) (s : MSt), t.W → MOk ps.length s → MOk ps.length (matchT ps t p s).2
  | .mk pk pi us, t, s, hw, h => by
    rw [matchT]
    split
    · split
      · exact h
      · rename_i hb
        refine ⟨by simp [h.l1], by simp [h.l2], fun a ha => ?_⟩
        rcases List.mem_or_eq_of_mem_set ha with h' | h'
        · exact h.w a h'
        · exact h' ▸ hw
    · split
      · exact h
      · refine matchL_ok _ _ h ?_
        rintro ⟨a, f⟩ hx s hs
        have hx1 := List.of_mem_zip hx
        obtain ⟨u, hu, rfl⟩ := List.mem_map.1 hx1.2
        exact matchT_ok ps u a s (hw.arg hx1.1) hs
end Go.Abs
namespace Go.Abs
def mH (H : Heap) (ia ib : Nat) (s : MSt) : Heap := (H.set ia (.row (flatE (s.1.map Ty.enc)))).set ib (.row (s.2.map PV.bool))
theorem mH_len (H : Heap) (ia ib : Nat) (s : MSt) : (mH H ia ib s).length = H.length := by simp [mH]
theorem mH_rules {H : Heap} {im ia ib : Nat} {R : AObj} (hia : ia < H.length) (hib : ib < H.length) (h1 : ia ≠ ib) (h2 : im ≠ ia) (h3 : im ≠ ib) (hR : H[im]? = some R) :
    (∀ s L, (mH H ia ib s ++ L)[im]? = some R) ∧ (∀ s L, (mH H ia ib s ++ L)[ia]? = some (.row (flatE (s.1.map Ty.enc)))) ∧ (∀ s L, (mH H ia ib s ++ L)[ib]? = some (.row (s.2.map PV.bool))) ∧
    (∀ s L xs, (mH H ia ib s ++ L).set ia (.row (flatE (List.map Ty.enc xs))) = mH H ia ib (xs, s.2) ++ L) ∧ (∀ s L bs, (mH H ia ib s ++ L).set ib (.row (List.map PV.bool bs)) = mH H ia ib (s.1, bs) ++ L) ∧
    (∀ s L k, (mH H ia ib s ++ L)[H.length + k]? = L[k]?) ∧ (∀ s L, (mH H ia ib s ++ L)[H.length]? = L[0]?) ∧ (∀ s L k o, (mH H ia ib s ++ L).set (H.length + k) o = mH H ia ib s ++ L.set k o) ∧ (∀ s L o, (mH H ia ib s ++ L).set H.length o = mH H ia ib s ++ L.set 0 o) ∧
    (∀ s, (mH H ia ib s).length = H.length) := by
  have hm := len_of_get hR
  have get : ∀ s L k, k < H.length → (mH H ia ib s ++ L)[k]? = (mH H ia ib s)[k]? := fun s L k hk => List.getElem?_append_left (by rw [mH_len]; exact hk)
  refine ⟨fun s L => ?_, fun s L => ?_, fun s L => ?_, fun s L xs => ?_, fun s L bs => ?_, fun s L k => ?_, fun s L => ?_, fun s L k o => ?_, fun s L o => ?_, fun s => mH_len ..⟩
  · rw [get _ _ _ hm]; simp only [mH]; rw [List.getElem?_set_ne (Ne.symm h3), List.getElem?_set_ne (Ne.symm h2)]; exact hR
  · rw [get _ _ _ hia]; simp only [mH]; rw [List.getElem?_set_ne (Ne.symm h1), List.getElem?_set_self hia]
  · rw [get _ _ _ hib]; simp only [mH]; rw [List.getElem?_set_self (by simpa using hib)]
  · rw [List.set_append_left _ _ (by rw [mH_len]; exact hia)]; simp only [mH]; rw [List.set_comm _ _ (Ne.symm h1), List.set_set]
  · rw [List.set_append_left _ _ (by rw [mH_len]; exact hib)]; simp only [mH]; rw [List.set_set]
  · have := get_app (mH H ia ib s) L k; rwa [mH_len] at this
  · have := get_app0 (mH H ia ib s) L; rwa [mH_len] at this
  · have := set_app (mH H ia ib s) L k o; rwa [mH_len] at this
  · have := set_app0 (mH H ia ib s) L o; rwa [mH_len] at this
theorem mH_self {H : Heap} {ia ib : Nat} {s : MSt} (h1 : H[ia]? = some (.row (flatE (s.1.map Ty.enc)))) (h2 : H[ib]? = some (.row (s.2.map PV.bool))) : mH H ia ib s = H := by
  unfold mH; rw [list_set_self h1, list_set_self h2]
theorem mH_bel {H : Heap} {ia ib : Nat} {s s' : MSt} (hb : HBel H.length (mH H ia ib s)) (hia : ia < H.length) (hib : ib < H.length) (h1 : ia ≠ ib) : HBel H.length (mH H ia ib s') := by
  intro o ho
  obtain ⟨k, hk⟩ := List.mem_iff_getElem?.1 ho
  simp only [mH] at hk
  by_cases e1 : k = ib
  · subst e1
    rw [List.getElem?_set_self (by simpa using hib)] at hk
    cases hk
    intro c hc
    obtain ⟨b, _, rfl⟩ := List.mem_map.1 hc
    exact .bool _
  · rw [List.getElem?_set_ne (Ne.symm e1)] at hk
    by_cases e2 : k = ia
    · subst e2
      rw [List.getElem?_set_self hia] at hk
      cases hk
      intro c hc
      obtain ⟨l, hl, hc⟩ := List.mem_flatten.1 hc
      obtain ⟨e, he, rfl⟩ := List.mem_map.1 hl
      obtain ⟨t, _, rfl⟩ := List.mem_map.1 he
      rw [Ty.enc_cells] at hc
      simp at hc
      rcases hc with rfl | rfl | rfl
      · exact .int _ _
      · exact .int _ _
      · exact bel_slice_ty _ _
    · rw [List.getElem?_set_ne (Ne.symm e2)] at hk
      refine hb o (List.mem_iff_getElem?.2 ⟨k, ?_⟩)
      simp only [mH]
      rw [List.getElem?_set_ne (Ne.symm e1), List.getElem?_set_ne (Ne.symm e2)]; exact hk
end Go.Abs
namespace Go.Abs
theorem Ty.W_iff (k i : Int) (us : List Ty) : (Ty.mk k i us).W ↔ us.length * 40 ≤ 2 ^ 47 ∧ ∀ u ∈ us, u.W := ⟨fun h => by cases h with | mk h1 h2 => exact ⟨h1, h2⟩, fun h => .mk h.1 h.2⟩
theorem Ty.eqb_self (a : Ty) : a.eqb a = true := (Ty.eqb_iff a a).2 rfl
end Go.Abs
set_option linter.unusedVariables false
set_option linter.unusedSimpArgs false
namespace Go.Abs

/-! From a reading of the arguments to the trees, and back. -/

/-- A world as it is handed to a call: all that lies in it stays. -/
def env0 (W : World) : Env := { w := W, κ := fun _ => .fixed, ρ := fun _ => 0, tb := fun _ => none, H := [] }
theorem env0_ok (W : World) : (env0 W).Ok := by
  constructor
  · intro id cs h; simp [env0] at h
  · intro id n sz b h; simp [env0] at h
  · intro id id' cs cs' h; simp [env0] at h
  · intro id id' n sz n' sz' b h; simp [env0] at h
theorem env0_cell (W : World) (a : Addr) : (env0 W).view.cell a = W.cell? a := rfl

theorem calls_of_pc {P : Program} {f : FuncId} {args : List PV} {b : Bool} (h : PC P f args (.bool b)) (W : World) (vargs : Array Value) (hr : RL (env0 W).view vargs args) :
    Calls P f vargs W fun e w' => e = .returned (.bool b) ∧ Go.RowKit.Below W.heap.size W w' := by
  refine (h [] (env0 W) vargs (env0_ok W) rfl hr).mono ?_
  rintro e w' ⟨E', v, r, rfl, rfl, hle, hok, hv, rfl, _⟩
  refine ⟨by rw [hv.bool_inv], hle.os, hle.tape, hle.output, hle.size, fun k hk => (hle.other k hk ?_ ?_).2⟩
  · rintro ⟨id, cs, h, _⟩; simp [env0] at h
  · rintro ⟨id, n, sz, h, _⟩; simp [env0] at h

def RLl (V : View) (cs : List Value) (ps : List PV) : Prop := cs.length = ps.length ∧ ∀ i (h : i < ps.length), VRel V (cs.getD i undef) ps[i]

theorem RLl.nil {V : View} : RLl V [] [] := ⟨rfl, fun i h => by cases h⟩
theorem RLl.cons {V : View} {c : Value} {cs : List Value} {p : PV} {ps : List PV} (h : VRel V c p) (hs : RLl V cs ps) : RLl V (c :: cs) (p :: ps) := by
  refine ⟨by simp [hs.1], fun i hi => ?_⟩
  cases i with
  | zero => exact h
  | succ i => exact hs.2 i (by simpa using hi)
theorem RLl.app {V : View} {c1 c2 : List Value} {p1 p2 : List PV} (h1 : RLl V c1 p1) (h2 : RLl V c2 p2) : RLl V (c1 ++ c2) (p1 ++ p2) := by
  refine ⟨by simp [h1.1, h2.1], fun i hi => ?_⟩
  by_cases h : i < p1.length
  · have := h1.2 i h
    simp only [List.getD_eq_getElem?_getD] at this ⊢
    rw [List.getElem?_append_left (by rw [h1.1]; exact h), List.getElem_append_left h]; exact this
  · have := h2.2 (i - p1.length) (by simp at hi; omega)
    simp only [List.getD_eq_getElem?_getD] at this ⊢
    rw [List.getElem?_append_right (by rw [h1.1]; omega), List.getElem_append_right (by omega), h1.1]; exact this
theorem RLl.agg {V : View} {arr : Array Value} {ps : List PV} (h : RLl V arr.toList ps) : VRel V (.agg arr) (.agg ps) := by
  refine .agg _ _ (by have := h.1; simpa using this) fun i hi => ?_
  have := h.2 i hi
  rw [List.getD_eq_getElem?_getD, Array.getElem?_toList] at this
  rw [Array.getD_eq_getD_getElem?]; exact this
theorem RLl.one {V : View} {v : Value} {p : PV} (h : RLl V [v] [p]) : VRel V v p := h.2 0 (by simp)

theorem exists_list {α : Type} {n : Nat} {p : Nat → α → Prop} (h : ∀ i, i < n → ∃ a, p i a) : ∃ xs : List α, xs.length = n ∧ ∀ i (hi : i < xs.length), p i xs[i] := by
  induction n with
  | zero => exact ⟨[], rfl, fun i hi => by cases hi⟩
  | succ n ih =>
    obtain ⟨xs, h1, h2⟩ := ih fun i hi => h i (by omega)
    obtain ⟨a, ha⟩ := h n (by omega)
    refine ⟨xs ++ [a], by simp [h1], fun i hi => ?_⟩
    by_cases hlt : i < xs.length
    · rw [List.getElem_append_left hlt]; exact h2 i hlt
    · rw [List.getElem_append_right (by omega)]
      simp at hi
      obtain rfl : i = n := by omega
      simpa using ha

/-- A list and the data of a slice. -/
def SlD {α : Type} {H : Type} (D : α → DataW H → Prop) (xs : List α) (d : DataW H) : Prop :=
  (xs = [] ∧ d = .nil) ∨ ∃ els sp, d = .slice els sp ∧ xs.length = els.length ∧ ∀ i (h1 : i < xs.length) (h2 : i < els.length), D xs[i] els[i]

section
variable {H : Type} {enc : TypeId × Value → H} {P : Program} {W : World} {spare : Nat → Bool} {held : Bool}

theorem rd_slice {α : Type} (en : α → PV) (D : α → DataW H → Prop) {t e : TypeId} {fuel : Nat} {cs : List Value} {x : DataW H × List MemPlace} (ht : P.underlying t = some (.slice e)) (hsz : ∀ a, (en a).cells.length = P.cellsOf e)
    (h : DataW.trod enc P W 0 spare held fuel t cs = some x) (ih : ∀ n cs' x', n < fuel → DataW.trod enc P W 0 spare held n e cs' = some x' → ∃ a, RLl (env0 W).view cs' (en a).cells ∧ D a x'.1) :
    ∃ (xs : List α) (v : Value), cs = [v] ∧ VRel (env0 W).view v (.slice (xs.map en) .none) ∧ SlD D xs x.1 := by
  rcases DataW.trod_slice ht h with ⟨rfl, rfl⟩ | ⟨a, len, cap, elems, rest, n, rfl, rfl, rfl, hb, hl, hm, hlen, hel, _, _⟩
  · exact ⟨[], _, rfl, .nils .none trivial, .inl ⟨rfl, rfl⟩⟩
  · obtain ⟨ys, hys, hp⟩ := exists_list (α := α × List Value) (n := len) (p := fun i y => W.cells? 0 (a.add (i * P.cellsOf e)) (P.cellsOf e) = some y.2 ∧ RLl (env0 W).view y.2 (en y.1).cells ∧ ∀ h : i < elems.length, D y.1 elems[i].1) (fun i hi => by
      have := hel i hi
      rw [List.getElem?_eq_getElem (by omega)] at this
      obtain ⟨cs', h1, h2⟩ := Option.bind_eq_some_iff.1 this
      obtain ⟨y, h3, h4⟩ := ih n cs' _ (by omega) h2
      exact ⟨(y, cs'), h1, h3, fun _ => h4⟩)
    refine ⟨ys.map (·.1), _, rfl, ?_, .inr ⟨_, _, rfl, by simp [hys, hlen], fun i h1 h2 => ?_⟩⟩
    · have hget : ∀ i (hi : i < ys.length), ys[i]? = some ys[i] := fun i hi => List.getElem?_eq_getElem hi
      refine .slice a len cap (P.cellsOf e) _ .none (fun i j => match ys[i]? with | some y => y.2.getD j undef | none => undef) (by simp [hys]) hl hm ?_ ?_ ?_ trivial
      · intro i hi; simp only [List.getElem_map]; exact hsz _
      · intro i j hi hj
        have hi' : i < ys.length := by omega
        obtain ⟨h1, h2, _⟩ := hp i hi'
        obtain ⟨_, h4, h5⟩ := World.cells?_some h1
        have := h5 j hj
        rw [hget i hi']
        simp only
        rw [env0_cell, ← add_add, this, List.getD_eq_getElem?_getD, List.getElem?_eq_getElem (by omega)]; rfl
      · intro i j hi hj
        have hi' : i < ys.length := by simpa using hi
        simp only [List.getElem_map] at hj ⊢
        rw [hget i hi']
        exact (hp i hi').2.1.2 j hj
    · simp only [List.getElem_map]
      exact (hp i (by simpa using h1)).2.2 _

/-- The field of a structure. -/
theorem rd_fields {t : TypeId} {fs : Array Field} {fuel : Nat} {cs : List Value} {x : DataW H × List MemPlace} (ht : P.underlying t = some (.struct fs)) (h : DataW.trod enc P W 0 spare held fuel t cs = some x) :
    ∃ (ds : List (DataW H)) (n : Nat), fuel = n + 1 ∧ x.1 = .agg ds ∧ cs.length = P.cellsOf t ∧ ds.length = fs.size ∧ ∀ (i : Nat) (f : Field), fs[i]? = some f → ∃ d ps, ds[i]? = some d ∧ DataW.trod enc P W 0 spare held n f.type ((cs.drop f.offset).take (P.cellsOf f.type)) = some (d, ps) := by
  obtain ⟨xs, n, h1, rfl, h3, h4, h5⟩ := DataW.trod_struct ht h
  refine ⟨xs.map (·.1), n, h1, rfl, h3, by simpa using h4, fun i f hf => ?_⟩
  have hi : i < xs.length := by
    rw [h4]
    rcases Nat.lt_or_ge i fs.size with hl | hl
    · exact hl
    · rw [Array.getElem?_eq_none hl] at hf; cases hf
  have := h5 i f hf
  rw [List.getElem?_eq_getElem hi] at this
  exact ⟨xs[i].1, xs[i].2, by simp [hi], this⟩

theorem rd_int {t : TypeId} {k : IntKind} {fuel : Nat} {cs : List Value} {x : DataW H × List MemPlace} (ht : P.underlying t = some (.int k)) (h : DataW.trod enc P W 0 spare held fuel t cs = some x) : ∃ n, RLl (env0 W).view cs [.int k n] ∧ x.1 = .lit (.int k n) ∧ (Lit.int k n).wf = true ∧ cs = [.int k n] := by
  obtain ⟨n, rfl, rfl, h3⟩ := DataW.trod_int ht h
  exact ⟨n, .cons (.int _ _) .nil, rfl, h3, rfl⟩
theorem rd_bool {t : TypeId} {fuel : Nat} {cs : List Value} {x : DataW H × List MemPlace} (ht : P.underlying t = some .bool) (h : DataW.trod enc P W 0 spare held fuel t cs = some x) : ∃ b, RLl (env0 W).view cs [.bool b] ∧ x.1 = .lit (.bool b) := by
  obtain ⟨n, rfl, rfl⟩ := DataW.trod_bool ht h
  exact ⟨n, .cons (.bool _) .nil, rfl⟩
theorem rd_string {t : TypeId} {fuel : Nat} {cs : List Value} {x : DataW H × List MemPlace} (ht : P.underlying t = some .string) (h : DataW.trod enc P W 0 spare held fuel t cs = some x) : ∃ s : List UInt8, RLl (env0 W).view cs [.str s] ∧ x.1 = .lit (.string s) ∧ s.length ≤ maxLen := by
  obtain ⟨s, rfl, rfl, h3⟩ := DataW.trod_string ht h
  exact ⟨s.data.toList, .cons (.str _) .nil, rfl, by simpa using h3⟩
end

/-- The data of a type. -/
inductive TyD {H : Type} : Ty → DataW H → Prop
  | nil (k i : Int) : TyD (.mk k i []) (.agg [.lit (.int .i64 k), .lit (.int .i64 i), .nil])
  | slice (k i : Int) (xs : List Ty) (es sp : List (DataW H)) (hl : xs.length = es.length) (h : ∀ j (h1 : j < xs.length) (h2 : j < es.length), TyD xs[j] es[j]) : TyD (.mk k i xs) (.agg [.lit (.int .i64 k), .lit (.int .i64 i), .slice es sp])
theorem TyD.of {H : Type} {k i : Int} {xs : List Ty} {d : DataW H} (h : SlD TyD xs d) : TyD (.mk k i xs) (.agg [.lit (.int .i64 k), .lit (.int .i64 i), d]) := by
  rcases h with ⟨rfl, rfl⟩ | ⟨es, sp, rfl, h1, h2⟩
  · exact .nil k i
  · exact .slice k i xs es sp h1 h2

/-- The facts on a program's type 'api.Type' that a reading looks at. -/
structure TyAt (P : Program) (T S : TypeId) : Prop where
  st : ∃ f0 f1 f2 : Field, P.underlying T = some (.struct #[f0, f1, f2]) ∧ P.underlying f0.type = some (.int .i64) ∧ P.underlying f1.type = some (.int .i64) ∧ f2.type = S ∧ f0.offset = 0 ∧ f1.offset = 1 ∧ f2.offset = 2 ∧ P.cellsOf f0.type = 1 ∧ P.cellsOf f1.type = 1
  sl : P.underlying S = some (.slice T)
  c : P.cellsOf T = 3
  cs : P.cellsOf S = 1
  by40 : P.bytesOf T = 40

section
variable {H : Type} {enc : TypeId × Value → H} {P : Program} {W : World} {spare : Nat → Bool} {held : Bool} {T S : TypeId}

theorem rd_ty (F : TyAt P T S) : ∀ (fuel : Nat) (cs : List Value) (x : DataW H × List MemPlace), DataW.trod enc P W 0 spare held fuel T cs = some x → ∃ t : Ty, RLl (env0 W).view cs t.enc.cells ∧ TyD t x.1 := by
  intro fuel
  induction fuel using Nat.strongRecOn with
  | _ fuel ih =>
  intro cs x h
  obtain ⟨f0, f1, f2, hst, u0, u1, e2, o0, o1, o2, c0, c1⟩ := F.st
  obtain ⟨ds, n, rfl, hx, hlen, hdl, hf⟩ := rd_fields hst h
  rw [F.c] at hlen
  match cs, hlen with
  | [v0, v1, v2], _ =>
  obtain ⟨d0, p0, g0, r0⟩ := hf 0 f0 rfl
  obtain ⟨d1, p1, g1, r1⟩ := hf 1 f1 rfl
  obtain ⟨d2, p2, g2, r2⟩ := hf 2 f2 rfl
  rw [o0, c0] at r0
  rw [o1, c1] at r1
  rw [o2, e2, F.cs] at r2
  obtain ⟨k, q0, rfl, w0, _⟩ := rd_int u0 r0
  obtain ⟨i, q1, rfl, w1, _⟩ := rd_int u1 r1
  obtain ⟨xs, v, hv, hr, hd⟩ := rd_slice Ty.enc TyD F.sl (fun a => by rw [F.c, Ty.enc_len]) r2 (fun m cs' x' hm h' => ih m (by omega) cs' x' h')
  simp only [List.drop_succ_cons, List.drop_zero, List.take_succ_cons, List.take_zero, List.cons.injEq, and_true] at hv
  subst hv
  refine ⟨.mk k i xs, ?_, ?_⟩
  · rw [Ty.enc_cells]
    exact .cons q0.one (.cons q1.one (.cons hr .nil))
  · rw [hx]
    have : ds = [.lit (.int .i64 k), .lit (.int .i64 i), d2] := by
      match ds, hdl with
      | [a, b, c], _ =>
        simp at g0 g1 g2
        rw [g0, g1, g2]
    rw [this]
    exact .of hd

/-- No list of arguments is longer than the row's own bound bears. -/
theorem ty_weights (F : TyAt P T S) {t : Ty} {d : DataW H} (h : TyD t d) (hw : (d.weights P T).all (· ≤ reachBytes) = true) : t.W := by
  obtain ⟨f0, f1, f2, hst, u0, u1, e2, _⟩ := F.st
  induction h with
  | nil k i => exact .mk (by simp) (by simp)
  | slice k i xs es sp hl h ih =>
    simp only [DataW.weights, hst, DataW.weightsEach, List.map_cons, List.map_nil, e2, F.sl, F.by40, List.nil_append, List.append_nil, List.all_cons, List.all_append, Bool.and_eq_true, decide_eq_true_eq] at hw
    have hb : reachBytes = 140737488351232 := rfl
    refine .mk (by rw [hl]; have := hw.1; omega) fun u hu => ?_
    obtain ⟨j, hj, rfl⟩ := List.mem_iff_getElem.1 hu
    refine ih j hj (by omega) ?_
    have h2 := hw.2.1
    rw [List.all_eq_true] at h2 ⊢
    intro x hx
    refine h2 x ?_
    have hmem : ∀ (l : List (DataW H)) (e : DataW H), e ∈ l → x ∈ e.weights P T → x ∈ DataW.weightsAll P T l := by
      intro l
      induction l with
      | nil => intro e he; cases he
      | cons a l ihl =>
        intro e he hx
        simp only [DataW.weightsAll, List.mem_append]
        rcases List.mem_cons.1 he with rfl | he
        · exact .inl hx
        · exact .inr (ihl e he hx)
    exact hmem es _ (List.getElem_mem _) hx

theorem weights_mem {l : List (DataW H)} {e : TypeId} {d : DataW H} (hd : d ∈ l) (h : (DataW.weightsAll P e l).all (· ≤ reachBytes) = true) : (d.weights P e).all (· ≤ reachBytes) = true := by
  rw [List.all_eq_true] at h ⊢
  intro x hx
  refine h x ?_
  clear h
  induction l with
  | nil => cases hd
  | cons a l ih =>
    simp only [DataW.weightsAll, List.mem_append]
    rcases List.mem_cons.1 hd with rfl | hd
    · exact .inl hx
    · exact .inr (ih hd)

/-- A slice's elements and its length. -/
theorem sl_weights {α : Type} {D : α → DataW H → Prop} {Sl E : TypeId} (hs : P.underlying Sl = some (.slice E)) {xs : List α} {d : DataW H} (h : SlD D xs d) (hw : (d.weights P Sl).all (· ≤ reachBytes) = true) :
    xs.length * P.bytesOf E ≤ reachBytes ∧ ∀ a ∈ xs, ∃ d', D a d' ∧ (d'.weights P E).all (· ≤ reachBytes) = true := by
  rcases h with ⟨rfl, rfl⟩ | ⟨els, sp, rfl, h1, h2⟩
  · simp
  · simp only [DataW.weights, hs, List.all_cons, List.all_append, Bool.and_eq_true, decide_eq_true_eq] at hw
    refine ⟨?_, fun a ha => ?_⟩
    · rw [h1]
      refine Nat.le_trans (Nat.mul_le_mul_right _ (Nat.le_add_right _ _)) hw.1
    · obtain ⟨j, hj, rfl⟩ := List.mem_iff_getElem.1 ha
      exact ⟨_, h2 j hj (by omega), weights_mem (List.getElem_mem _) hw.2.1⟩
end
end Go.Abs
namespace Go.Abs
theorem RLl.rl {V : View} {arr : Array Value} {ps : List PV} (h : RLl V arr.toList ps) : RL V arr ps := by
  refine ⟨by have := h.1; simpa using this, fun i hi => ?_⟩
  have := h.2 i hi
  rw [List.getD_eq_getElem?_getD, Array.getElem?_toList] at this
  rw [Array.getD_eq_getD_getElem?]; exact this
theorem Ty.enc_agg (t : Ty) : PV.agg t.enc.cells = t.enc := by rw [Ty.enc_cells, Ty.enc_eq]
end Go.Abs
set_option linter.unusedVariables false
namespace Go.Abs
/-! The plain laws of chapter 'scheme'. -/
def mapT (g : Ty → Ty × Bool) : Ty → Ty
  | .mk k i us => if (g (.mk k i us)).2 then (g (.mk k i us)).1 else .mk k i (us.map fun u => mapT g u)
theorem mapT_eq (g : Ty → Ty × Bool) (t : Ty) : mapT g t = if (g t).2 then (g t).1 else .mk t.kind t.id (t.args.map (mapT g)) := by
  cases t; rw [mapT]; rfl
/-- What Apply's function value answers. -/
def appG (ps : List Int) (xs : List Ty) (u : Ty) : Ty × Bool :=
  if (!decide (u.kind = 2) || decide (idxI (fun x => decide (u.id = x)) ps < 0) || decide (idxI (fun x => decide (u.id = x)) ps ≥ xs.length)) = true then (u, false) else (xs.getD (idxI (fun x => decide (u.id = x)) ps).toNat (.mk 0 0 []), true)
def insG (ps : List Int) (v : Int) (u : Ty) : Ty × Bool :=
  if (!decide (u.kind = 2) || decide (idxI (fun x => decide (u.id = x)) ps < 0)) = true then (u, false) else (.mk 1 (IntKind.i64.wrap (v + idxI (fun x => decide (u.id = x)) ps)) [], true)
def cpar (p : Int) : Ty → Bool
  | .mk k i xs => (decide (k = 2) && decide (i = p)) || (xs.map fun a => cpar p a).any id
theorem cpar_eq (p : Int) (t : Ty) : cpar p t = ((decide (t.kind = 2) && decide (t.id = p)) || t.args.any (cpar p)) := by
  cases t; rw [cpar, List.any_map]; rfl
def mS0 (ps : List Int) : MSt := (List.replicate ps.length (.mk 0 0 []), List.replicate ps.length false)
theorem mS0_ok (ps : List Int) : MOk ps.length (mS0 ps) := ⟨by simp [mS0], by simp [mS0], fun a ha => by rw [List.eq_of_mem_replicate ha]; exact .mk (by simp) (by simp)⟩
/-- What Match answers. -/
def matchP (ps : List Int) (t p : Ty) : List Ty × Bool := if (matchT ps t p (mS0 ps)).1 = true then ((matchT ps t p (mS0 ps)).2.1, true) else ([], false)

theorem idxI_neg {ps : List Int} {n : Int} (h : n ∉ ps) : idxI (fun x => decide (n = x)) ps = -1 :=
  idxI_none (by rw [List.any_eq_false]; intro x hx; simp; rintro rfl; exact h hx)
theorem abs_map (ps : List Int) (g : Ty → Ty × Bool) (hg : ∀ u, ¬ (u.kind = 2 ∧ u.id ∈ ps) → (g u).2 = false) : ∀ t, (∀ p ∈ ps, cpar p t = false) → mapT g t = t
  | .mk k i us, h => by
    have h0 : ¬ (k = 2 ∧ i ∈ ps) := by
      rintro ⟨rfl, hi⟩
      have := h i hi
      rw [cpar_eq] at this
      simp [Ty.kind, Ty.id] at this
    rw [mapT, if_neg (by rw [hg (.mk k i us) h0]; simp)]
    congr 1
    have : ∀ u ∈ us, mapT g u = u := fun u hu => abs_map ps g hg u fun p hp => by
      have := h p hp
      rw [cpar_eq, Bool.or_eq_false_iff, List.any_eq_false] at this
      simpa using this.2 u hu
    rw [List.map_congr_left this, List.map_id'']
    intro x; rfl
theorem app_abs (ps : List Int) (xs : List Ty) (t : Ty) (h : (ps.any fun p => cpar p t) = false) : mapT (appG ps xs) t = t :=
  abs_map ps _ (fun u hu => by
    unfold appG
    rw [if_pos]
    by_cases hk : u.kind = 2
    · rw [idxI_neg fun hi => hu ⟨hk, hi⟩]; simp
    · simp [hk]) t (fun p hp => by rw [List.any_eq_false] at h; simpa using h p hp)
theorem ins_abs (ps : List Int) (v : Int) (t : Ty) (h : (ps.any fun p => cpar p t) = false) : mapT (insG ps v) t = t :=
  abs_map ps _ (fun u hu => by
    unfold insG
    rw [if_pos]
    by_cases hk : u.kind = 2
    · rw [idxI_neg fun hi => hu ⟨hk, hi⟩]; simp
    · simp [hk]) t (fun p hp => by rw [List.any_eq_false] at h; simpa using h p hp)

/-- The bound places of a state are those of a list. -/
def Agr (s : MSt) (xs : List Ty) : Prop := ∀ i, s.2.getD i false = true → xs.getD i .zero = s.1.getD i .zero

theorem getD_set {α : Type} (l : List α) (i j : Nat) (a d : α) (hi : i < l.length) : (l.set i a).getD j d = if j = i then a else l.getD j d := by
  simp only [List.getD_eq_getElem?_getD]
  by_cases h : j = i
  · subst h; rw [if_pos rfl, List.getElem?_set_self hi]; rfl
  · rw [if_neg h, List.getElem?_set_ne (Ne.symm h)]

/-- One state after another. -/
def MLe (s s' : MSt) : Prop := ∀ i, s.2.getD i false = true → s'.2.getD i false = true ∧ s'.1.getD i .zero = s.1.getD i .zero
theorem MLe.refl (s : MSt) : MLe s s := fun i h => ⟨h, rfl⟩
theorem MLe.trans {a b c : MSt} (h : MLe a b) (k : MLe b c) : MLe a c := fun i hi => ⟨(k i (h i hi).1).1, (k i (h i hi).1).2.trans (h i hi).2⟩
theorem Agr.mono {s s' : MSt} {xs : List Ty} (h : MLe s s') (k : Agr s' xs) : Agr s xs := fun i hi => (k i (h i hi).1).trans (h i hi).2

theorem matchL_le : ∀ (l : List (Ty × (Ty → MSt → Bool × MSt))) (s : MSt) {n : Nat}, MOk n s → (∀ x ∈ l, ∀ s, MOk n s → MOk n (x.2 x.1 s).2 ∧ MLe s (x.2 x.1 s).2) → MLe s (matchL l s).2
  | [], s, n, _, _ => .refl _
  | (a, f) :: r, s, n, hs, hl => by
    have h1 := hl _ (List.mem_cons_self ..) s hs
    unfold matchL
    split
    · exact h1.2.trans (matchL_le r _ h1.1 fun x hx => hl x (List.mem_cons_of_mem _ hx))
    · exact h1.2

theorem matchT_le (ps : List Int) : ∀ (p t : Ty) (s : MSt), t.W → MOk ps.length s → MLe s (matchT ps t p s).2
  | .mk pk pi us, t, s, hw, hs => by
    rw [matchT]
    split
    · rename_i hc
      rw [Bool.and_eq_true, decide_eq_true_eq, decide_eq_true_eq] at hc
      have hlt := idxI_lt hc.2
      have hk : (idxI (fun x => decide (pi = x)) ps).toNat < ps.length := by omega
      split
      · exact .refl _
      · rename_i hb
        intro i hi
        simp only [getD_set _ _ _ _ _ (show (idxI (fun x => decide (pi = x)) ps).toNat < s.1.length by rw [hs.l1]; exact hk), getD_set _ _ _ _ _ (show (idxI (fun x => decide (pi = x)) ps).toNat < s.2.length by rw [hs.l2]; exact hk)]
        have hne : i ≠ (idxI (fun x => decide (pi = x)) ps).toNat := by rintro rfl; exact hb hi
        rw [if_neg hne, if_neg hne]
        exact ⟨hi, rfl⟩
    · split
      · exact .refl _
      · refine matchL_le _ _ hs ?_
        rintro ⟨a, f⟩ hx s hs
        have hx1 := List.of_mem_zip hx
        obtain ⟨u, hu, rfl⟩ := List.mem_map.1 hx1.2
        exact ⟨matchT_ok ps u a s (hw.arg hx1.1) hs, matchT_le ps u a s (hw.arg hx1.1) hs⟩

/-- What a list of arguments that agrees with the state makes of the pattern. -/
theorem matchL_apply (ps : List Int) (xs : List Ty) (hn : xs.length = ps.length) : ∀ (ts us : List Ty) (s : MSt), ts.length = us.length → MOk ps.length s → (∀ t ∈ ts, t.W) →
    (∀ u ∈ us, ∀ (t : Ty) (s : MSt), t.W → MOk ps.length s → (matchT ps t u s).1 = true → Agr (matchT ps t u s).2 xs → mapT (appG ps xs) u = t) →
    (matchL (ts.zip (us.map fun u => fun a s => matchT ps a u s)) s).1 = true → Agr (matchL (ts.zip (us.map fun u => fun a s => matchT ps a u s)) s).2 xs → us.map (mapT (appG ps xs)) = ts
  | [], [], s, _, _, _, _, _, _ => rfl
  | t :: ts, u :: us, s, hl, hs, hw, ih, h1, h2 => by
    simp only [List.map_cons, List.zip_cons_cons, matchL] at h1 h2
    split at h1
    · rename_i hm
      rw [if_pos hm] at h2
      have hw1 := hw t (List.mem_cons_self ..)
      have hok := matchT_ok ps u t s hw1 hs
      have hle : MLe (matchT ps t u s).2 (matchL (ts.zip (us.map fun u => fun a s => matchT ps a u s)) (matchT ps t u s).2).2 := by
        refine matchL_le _ _ hok ?_
        rintro ⟨a, f⟩ hx s hs
        have hx1 := List.of_mem_zip hx
        obtain ⟨u, hu, rfl⟩ := List.mem_map.1 hx1.2
        have hwa := hw a (List.mem_cons_of_mem _ hx1.1)
        exact ⟨matchT_ok ps u a s hwa hs, matchT_le ps u a s hwa hs⟩
      rw [List.map_cons, ih u (List.mem_cons_self ..) t s hw1 hs hm (h2.mono hle),
        matchL_apply ps xs hn ts us _ (by simpa using hl) hok (fun t ht => hw t (List.mem_cons_of_mem _ ht)) (fun u hu => ih u (List.mem_cons_of_mem _ hu)) h1 h2]
    · cases h1

theorem matchT_apply (ps : List Int) (xs : List Ty) (hn : xs.length = ps.length) : ∀ (p t : Ty) (s : MSt), t.W → MOk ps.length s → (matchT ps t p s).1 = true → Agr (matchT ps t p s).2 xs → mapT (appG ps xs) p = t
  | .mk pk pi us, t, s, hw, hs, h1, h2 => by
    rw [matchT] at h1 h2
    rw [mapT]
    by_cases hc : (decide (pk = 2) && decide (idxI (fun x => decide (pi = x)) ps ≥ 0)) = true
    · rw [if_pos hc] at h1 h2
      rw [Bool.and_eq_true, decide_eq_true_eq, decide_eq_true_eq] at hc
      have hlt := idxI_lt hc.2
      have hk : (idxI (fun x => decide (pi = x)) ps).toNat < ps.length := by omega
      have hg : appG ps xs (.mk pk pi us) = (xs.getD (idxI (fun x => decide (pi = x)) ps).toNat .zero, true) := by
        unfold appG
        rw [if_neg]
        · rfl
        · intro hh
          rw [Bool.or_eq_true, Bool.or_eq_true] at hh
          rcases hh with (hh | hh) | hh
          · simp [Ty.kind, hc.1] at hh
          · have : idxI (fun x => decide (pi = x)) ps < 0 := of_decide_eq_true hh
            omega
          · have : idxI (fun x => decide (pi = x)) ps ≥ xs.length := of_decide_eq_true hh
            omega
      rw [hg, if_pos rfl]
      split at h1
      · rename_i hb
        rw [if_pos hb] at h2
        rw [h2 _ hb]
        exact (Ty.eqb_iff _ _).1 h1
      · rename_i hb
        rw [if_neg hb] at h2
        have := h2 (idxI (fun x => decide (pi = x)) ps).toNat (by rw [getD_set _ _ _ _ _ (by rw [hs.l2]; exact hk), if_pos rfl])
        rw [this, getD_set _ _ _ _ _ (by rw [hs.l1]; exact hk), if_pos rfl]
    · rw [if_neg hc] at h1 h2
      have hg : (appG ps xs (.mk pk pi us)).2 = false := by
        unfold appG
        rw [if_pos]
        simp only [Ty.kind, Ty.id]
        rw [Bool.or_eq_true, Bool.or_eq_true]
        by_cases hk : pk = 2
        · exact .inl (.inr (decide_eq_true (Int.not_le.1 fun q => hc (by rw [Bool.and_eq_true, decide_eq_true_eq, decide_eq_true_eq]; exact ⟨hk, q⟩))))
        · exact .inl (.inl (by simp [hk]))
      rw [hg, if_neg (by simp)]
      split at h1
      · cases h1
      · rename_i hd
        rw [if_neg hd] at h2
        simp at hd
        obtain ⟨⟨e1, e2⟩, e3⟩ := hd
        have := matchL_apply ps xs hn t.args us s (by omega) hs (fun t ht => hw.arg ht) (fun u hu t s => matchT_apply ps xs hn u t s) h1 h2
        rw [this, ← e1, ← e2]
        exact Ty.eta t

/-- Matching what Apply made. -/
structure MRt (ps : List Int) (xs : List Ty) (s : MSt) : Prop where
  agr : Agr s xs
  zero : ∀ i, s.2.getD i false = false → s.1.getD i .zero = .zero

theorem matchL_round (ps : List Int) (xs : List Ty) (hn : ps.length ≤ xs.length) (hW : ∀ x ∈ xs, x.W) : ∀ (us : List Ty) (s : MSt), MOk ps.length s → MRt ps xs s → (∀ t ∈ us.map (mapT (appG ps xs)), t.W) →
    (∀ u ∈ us, ∀ (s : MSt), (mapT (appG ps xs) u).W → MOk ps.length s → MRt ps xs s → (matchT ps (mapT (appG ps xs) u) u s).1 = true ∧ MRt ps xs (matchT ps (mapT (appG ps xs) u) u s).2) →
    (matchL ((us.map (mapT (appG ps xs))).zip (us.map fun u => fun a s => matchT ps a u s)) s).1 = true ∧ MRt ps xs (matchL ((us.map (mapT (appG ps xs))).zip (us.map fun u => fun a s => matchT ps a u s)) s).2
  | [], s, _, h, _, _ => ⟨rfl, h⟩
  | u :: us, s, hs, h, hw, ih => by
    have hw1 := hw _ (by simp : mapT (appG ps xs) u ∈ (u :: us).map (mapT (appG ps xs)))
    obtain ⟨h1, h2⟩ := ih u (List.mem_cons_self ..) s hw1 hs h
    simp only [List.map_cons, List.zip_cons_cons, matchL, h1, if_true]
    exact matchL_round ps xs hn hW us _ (matchT_ok ps u _ s hw1 hs) h2 (fun t ht => hw t (by rw [List.map_cons]; exact List.mem_cons_of_mem _ ht)) fun u hu => ih u (List.mem_cons_of_mem _ hu)

theorem matchT_round (ps : List Int) (xs : List Ty) (hn : ps.length ≤ xs.length) (hW : ∀ x ∈ xs, x.W) : ∀ (p : Ty) (s : MSt), (mapT (appG ps xs) p).W → MOk ps.length s → MRt ps xs s →
    (matchT ps (mapT (appG ps xs) p) p s).1 = true ∧ MRt ps xs (matchT ps (mapT (appG ps xs) p) p s).2
  | .mk pk pi us, s, hw, hs, h => by
    by_cases hc : (decide (pk = 2) && decide (idxI (fun x => decide (pi = x)) ps ≥ 0)) = true
    · have hc' := hc
      rw [Bool.and_eq_true, decide_eq_true_eq, decide_eq_true_eq] at hc
      have hlt := idxI_lt hc.2
      have hk : (idxI (fun x => decide (pi = x)) ps).toNat < ps.length := by omega
      have hg : appG ps xs (.mk pk pi us) = (xs.getD (idxI (fun x => decide (pi = x)) ps).toNat .zero, true) := by
        unfold appG
        rw [if_neg]
        · rfl
        · intro hh
          rw [Bool.or_eq_true, Bool.or_eq_true] at hh
          rcases hh with (hh | hh) | hh
          · simp [Ty.kind, hc.1] at hh
          · have : idxI (fun x => decide (pi = x)) ps < 0 := of_decide_eq_true hh
            omega
          · have : idxI (fun x => decide (pi = x)) ps ≥ xs.length := of_decide_eq_true hh
            omega
      have hmap : mapT (appG ps xs) (.mk pk pi us) = xs.getD (idxI (fun x => decide (pi = x)) ps).toNat .zero := by rw [mapT, hg, if_pos rfl]
      rw [hmap, matchT, if_pos hc']
      split
      · rename_i hb
        exact ⟨(Ty.eqb_iff _ _).2 (h.agr _ hb).symm, h⟩
      · rename_i hb
        refine ⟨rfl, ?_, ?_⟩
        · intro i hi
          simp only [getD_set _ _ _ _ _ (show (idxI (fun x => decide (pi = x)) ps).toNat < s.1.length by rw [hs.l1]; exact hk)]
          rw [getD_set _ _ _ _ _ (by rw [hs.l2]; exact hk)] at hi
          split
          · rename_i e; rw [e]
          · rename_i e; rw [if_neg e] at hi; exact h.agr i hi
        · intro i hi
          simp only [getD_set _ _ _ _ _ (show (idxI (fun x => decide (pi = x)) ps).toNat < s.1.length by rw [hs.l1]; exact hk)]
          rw [getD_set _ _ _ _ _ (by rw [hs.l2]; exact hk)] at hi
          split
          · rename_i e; rw [if_pos e] at hi; cases hi
          · rename_i e; rw [if_neg e] at hi; exact h.zero i hi
    · have hg : (appG ps xs (.mk pk pi us)).2 = false := by
        unfold appG
        rw [if_pos]
        simp only [Ty.kind, Ty.id]
        rw [Bool.or_eq_true, Bool.or_eq_true]
        by_cases hk : pk = 2
        · exact .inl (.inr (decide_eq_true (Int.not_le.1 fun q => hc (by rw [Bool.and_eq_true, decide_eq_true_eq, decide_eq_true_eq]; exact ⟨hk, q⟩))))
        · exact .inl (.inl (by simp [hk]))
      have hmap : mapT (appG ps xs) (.mk pk pi us) = .mk pk pi (us.map (mapT (appG ps xs))) := by rw [mapT, hg, if_neg (by simp)]
      rw [hmap] at hw ⊢
      rw [matchT, if_neg hc, if_neg (by simp [Ty.kind, Ty.id, Ty.args])]
      exact matchL_round ps xs hn hW us s hs h (fun t ht => hw.arg ht) fun u hu s => matchT_round ps xs hn hW u s

theorem mapT_W {g : Ty → Ty × Bool} (hg : ∀ u, (g u).2 = true → (g u).1.W) : ∀ t, t.W → (mapT g t).W
  | .mk k i us, h => by
    rw [mapT]
    split
    · rename_i hb; exact hg _ hb
    · refine .mk (by rw [List.length_map]; exact h.len) fun v hv => ?_
      obtain ⟨u, hu, rfl⟩ := List.mem_map.1 hv
      exact mapT_W hg u (h.arg hu)
theorem app_W {ps : List Int} {xs : List Ty} (hw : ∀ x ∈ xs, x.W) {t : Ty} (ht : t.W) : (mapT (appG ps xs) t).W :=
  mapT_W (fun u hu => by
    unfold appG at hu ⊢
    split at hu
    · cases hu
    · rename_i hc
      rw [if_neg hc]
      simp only
      rw [List.getD_eq_getElem?_getD]
      cases hq : xs[(idxI (fun x => decide (u.id = x)) ps).toNat]? with
      | none => exact .mk (by simp) (by simp)
      | some a => exact hw a (List.mem_of_getElem? hq)) t ht

theorem ins_W {ps : List Int} {v : Int} {t : Ty} (ht : t.W) : (mapT (insG ps v) t).W :=
  mapT_W (fun u hu => by
    unfold insG at hu ⊢
    split at hu
    · cases hu
    · rename_i hc
      rw [if_neg hc]
      exact .mk (by simp) (by simp)) t ht

/-- Match, then Apply. -/
theorem match_apply (ps : List Int) (t p : Ty) (hw : t.W) (h : (matchP ps t p).2 = true) : (matchP ps t p).1.length = ps.length ∧ mapT (appG ps (matchP ps t p).1) p = t := by
  unfold matchP at h ⊢
  split at h
  · rename_i hm
    rw [if_pos hm]
    have hok := matchT_ok ps p t (mS0 ps) hw (mS0_ok ps)
    exact ⟨hok.l1, matchT_apply ps _ hok.l1 p t (mS0 ps) hw (mS0_ok ps) hm fun i _ => rfl⟩
  · cases h
theorem match_none (ps : List Int) (t p : Ty) (h : (matchP ps t p).2 = false) : (matchP ps t p).1 = [] := by
  unfold matchP at h ⊢
  split at h
  · cases h
  · rename_i hm; rw [if_neg hm]
theorem matchP_W (ps : List Int) (t p : Ty) (hw : t.W) : ∀ a ∈ (matchP ps t p).1, a.W := by
  unfold matchP
  split
  · exact (matchT_ok ps p t (mS0 ps) hw (mS0_ok ps)).w
  · simp
/-- Apply, then Match. -/
theorem apply_match (ps : List Int) (xs : List Ty) (p : Ty) (hn : ps.length ≤ xs.length) (hW : ∀ x ∈ xs, x.W) (hp : p.W) :
    (matchP ps (mapT (appG ps xs) p) p).2 = true ∧ (matchP ps (mapT (appG ps xs) p) p).1.length = ps.length ∧
    ∀ i (h : i < (matchP ps (mapT (appG ps xs) p) p).1.length), ((matchP ps (mapT (appG ps xs) p) p).1[i]).kind ≠ 0 → (matchP ps (mapT (appG ps xs) p) p).1[i] = xs.getD i .zero := by
  have hw := app_W (ps := ps) hW hp
  have h0 : MRt ps xs (mS0 ps) := by
    refine ⟨fun i hi => ?_, fun i _ => ?_⟩
    · simp only [mS0, List.getD_eq_getElem?_getD] at hi
      rw [List.getElem?_replicate] at hi
      split at hi <;> cases hi
    · simp only [mS0, List.getD_eq_getElem?_getD]
      rw [List.getElem?_replicate]
      split <;> rfl
  obtain ⟨h1, h2⟩ := matchT_round ps xs hn hW p (mS0 ps) hw (mS0_ok ps) h0
  have hok := matchT_ok ps p _ (mS0 ps) hw (mS0_ok ps)
  simp only [matchP, h1, if_true]
  refine ⟨trivial, hok.l1, fun i hi hne => ?_⟩
  have hget : (matchT ps (mapT (appG ps xs) p) p (mS0 ps)).2.1.getD i .zero = (matchT ps (mapT (appG ps xs) p) p (mS0 ps)).2.1[i] := by
    rw [List.getD_eq_getElem?_getD, List.getElem?_eq_getElem hi, Option.getD_some]
  cases hb : (matchT ps (mapT (appG ps xs) p) p (mS0 ps)).2.2.getD i false with
  | true => rw [← hget]; exact (h2.agr i hb).symm
  | false => rw [← hget, h2.zero i hb] at hne; exact (hne rfl).elim
end Go.Abs
set_option linter.unusedVariables false
namespace Go.Abs
/-! The chapter 'types': bindings, sizes, variables. -/
structure Bd where
  v : Int
  t : Ty
def Bd.enc (b : Bd) : PV := .agg [.int .i64 b.v, .int .i64 b.t.kind, .int .i64 b.t.id, .slice (b.t.args.map Ty.enc) .none]
theorem Bd.enc_len (b : Bd) : b.enc.cells.length = 4 := rfl
theorem Bd.bel (n : Nat) (b : Bd) : Bel n b.enc := .agg _ (by
  intro c hc
  simp at hc
  rcases hc with rfl | rfl | rfl | rfl
  · exact .int _ _
  · exact .int _ _
  · exact .int _ _
  · exact bel_slice_ty _ _)
theorem bel_Bd (n : Nat) (us : List Bd) : Bel n (.slice (us.map Bd.enc) .none) := .slice _ _ (fun e he c hc => by
  obtain ⟨b, _, rfl⟩ := List.mem_map.1 he
  have := Bd.bel n b
  unfold Bd.enc at this hc
  cases this with | agg _ h => exact h c hc) (by simp)
/-- Rules for bindings. -/
theorem BdS : (∀ b : Bd, b.enc.cells = [.int .i64 b.v, .int .i64 b.t.kind, .int .i64 b.t.id, .slice (b.t.args.map Ty.enc) .none]) ∧ (∀ b : Bd, b.enc.isJunk = false) ∧ (∀ b : Bd, b.enc.drop1 = b.enc) ∧ (∀ (b : Bd) (n : Nat), b.enc.fits ⟨true, 4, n⟩ = true) ∧
    (∀ (v : Int) (t : Ty), PV.agg [.int .i64 v, .int .i64 t.kind, .int .i64 t.id, .slice (t.args.map Ty.enc) .none] = (Bd.mk v t).enc) ∧ (∀ (v : Int) (t : Ty), (Bd.mk v t).v = v) ∧ (∀ (v : Int) (t : Ty), (Bd.mk v t).t = t) ∧ (∀ b : Bd, Bd.mk b.v b.t = b) ∧
    (∀ (v k i : Int), PV.agg [.int .i64 v, .int .i64 k, .int .i64 i, .slice [] .none] = (Bd.mk v (Ty.mk k i [])).enc) :=
  ⟨fun _ => rfl, fun _ => rfl, fun _ => rfl, fun _ _ => rfl, fun _ _ => rfl, fun _ _ => rfl, fun _ _ => rfl, fun _ => rfl, fun _ _ _ => rfl⟩

def subG (s : List Bd) (u : Ty) : Ty × Bool :=
  if (!decide (u.kind = 1)) = true then (u, false)
  else if decide (idxI (fun b : Bd => decide (b.v = u.id)) s < 0) = true then (u, false)
  else ((s.getD (idxI (fun b : Bd => decide (b.v = u.id)) s).toNat ⟨0, .mk 0 0 []⟩).t, true)

theorem sub_W {s : List Bd} (hs : ∀ b ∈ s, b.t.W) {t : Ty} (ht : t.W) : (mapT (subG s) t).W :=
  mapT_W (fun u hu => by
    unfold subG at hu ⊢
    split at hu
    · cases hu
    · rename_i h1
      split at hu
      · cases hu
      · rename_i h2
        rw [if_neg h1, if_neg h2]
        simp only
        rw [List.getD_eq_getElem?_getD]
        cases hq : s[(idxI (fun b : Bd => decide (b.v = u.id)) s).toNat]? with
        | none => exact .mk (by simp) (by simp)
        | some a => exact hs a (List.mem_of_getElem? hq)) t ht

/-- Sizes and depths as 'measure' counts them. -/
def measL : List (Int → Int × Int) → Int → Int × Int → Int × Int
  | [], _, s => s
  | f :: fs, L, s => if decide (s.1 > L) = true then s else measL fs L (s.1 + (f (L - s.1)).1, max s.2 (f (L - s.1)).2)
def measT : Ty → Int → Int × Int
  | .mk _ _ us, L => ((measL (us.map fun u L => measT u L) L (1, 0)).1, (measL (us.map fun u L => measT u L) L (1, 0)).2 + 1)
theorem measT_eq (t : Ty) (L : Int) : measT t L = ((measL (t.args.map measT) L (1, 0)).1, (measL (t.args.map measT) L (1, 0)).2 + 1) := by
  cases t; rw [measT]; rfl
theorem measL_bd : ∀ (fs : List (Int → Int × Int)) (L : Int) (s : Int × Int), 0 ≤ L → (∀ f ∈ fs, ∀ M, 0 ≤ M → M < L → 1 ≤ (f M).1 ∧ (f M).1 ≤ M + 1 ∧ 1 ≤ (f M).2 ∧ (f M).2 ≤ M + 1) → 1 ≤ s.1 → s.1 ≤ L + 1 → 0 ≤ s.2 → s.2 ≤ L →
    1 ≤ (measL fs L s).1 ∧ (measL fs L s).1 ≤ L + 1 ∧ 0 ≤ (measL fs L s).2 ∧ (measL fs L s).2 ≤ L
  | [], L, s, hL, _, h1, h2, h3, h4 => ⟨h1, h2, h3, h4⟩
  | f :: fs, L, s, hL, hf, h1, h2, h3, h4 => by
    unfold measL
    split
    · exact ⟨h1, h2, h3, h4⟩
    · rename_i hs
      have hs' : s.1 ≤ L := by have : ¬ s.1 > L := fun q => hs (decide_eq_true q); omega
      obtain ⟨q1, q2, q3, q4⟩ := hf f (List.mem_cons_self ..) (L - s.1) (by omega) (by omega)
      exact measL_bd fs L _ hL (fun g hg => hf g (List.mem_cons_of_mem _ hg)) (by simp only; omega) (by simp only; omega) (by simp only; omega) (by simp only; omega)
theorem measT_bd : ∀ (t : Ty) (L : Int), 0 ≤ L → 1 ≤ (measT t L).1 ∧ (measT t L).1 ≤ L + 1 ∧ 1 ≤ (measT t L).2 ∧ (measT t L).2 ≤ L + 1
  | .mk k i us, L, hL => by
    have := measL_bd (us.map fun u L => measT u L) L (1, 0) hL (fun f hf M h0 _ => by
      obtain ⟨u, hu, rfl⟩ := List.mem_map.1 hf
      exact measT_bd u M h0) (by simp) (by simp; omega) (by simp) (by simp; omega)
    rw [measT]
    simp only
    omega

def nwf (t : Ty) : Bool :=
  if decide (t.kind = 0) || decide (t.kind = 3) || decide (t.kind = 4) || decide (t.kind = 5) || decide (t.kind = 6) then decide (t.id = 0) && decide ((t.args.length : Int) = 0)
  else if decide (t.kind = 1) || decide (t.kind = 2) then decide (t.id ≥ 0) && decide ((t.args.length : Int) = 0)
  else if decide (t.kind = 7) then decide (t.id ≥ 0)
  else if decide (t.kind = 8) then (decide (t.id = 0) || decide (t.id = 1)) && decide ((t.args.length : Int) = 1)
  else if decide (t.kind = 9) then decide (t.id = 0) && decide ((t.args.length : Int) > 0)
  else if decide (t.kind = 10) then decide (t.id ≥ 0) && decide ((t.args.length : Int) = 1)
  else false
def wfT : Ty → Bool
  | .mk k i us => nwf (.mk k i us) && !((us.map fun u => wfT u).any (fun b => !b))
theorem wfT_eq (t : Ty) : wfT t = (nwf t && !(t.args.any fun u => !wfT u)) := by
  cases t; rw [wfT, List.any_map]; rfl
/-- What Validate answers. -/
def valT (t : Ty) : Int := if (decide ((measT t 100).1 > 100) || decide ((measT t 100).2 > 12)) = true then 2 else if (!wfT t) = true then 3 else 0

/-- The free variables, in order of first occurrence. -/
def afvL : List (List Int → List Int) → List Int → List Int
  | [], vs => vs
  | f :: fs, vs => afvL fs (f vs)
def afv : Ty → List Int → List Int
  | .mk k i us, vs => afvL (us.map fun u vs => afv u vs) (if (decide (k = 1) && !vs.any (fun x => decide (i = x))) = true then vs ++ [i] else vs)
theorem afv_eq (t : Ty) (vs : List Int) : afv t vs = afvL (t.args.map afv) (if (decide (t.kind = 1) && !vs.any (fun x => decide (t.id = x))) = true then vs ++ [t.id] else vs) := by
  cases t; rw [afv]; rfl
theorem afv_len : ∀ (t : Ty) (vs : List Int), vs.length ≤ (afv t vs).length ∧ (afv t vs).length ≤ vs.length + t.size
  | .mk k i us, vs => by
    have key : ∀ (us : List Ty), (∀ u ∈ us, ∀ vs : List Int, vs.length ≤ (afv u vs).length ∧ (afv u vs).length ≤ vs.length + u.size) → ∀ vs : List Int, vs.length ≤ (afvL (us.map fun u vs => afv u vs) vs).length ∧ (afvL (us.map fun u vs => afv u vs) vs).length ≤ vs.length + Ty.sizes us := by
      intro us
      induction us with
      | nil => intro _ vs; simp [afvL, Ty.sizes]
      | cons u us ih =>
        intro h vs
        have h1 := h u (List.mem_cons_self ..) vs
        have h2 := ih (fun u hu => h u (List.mem_cons_of_mem _ hu)) (afv u vs)
        simp only [List.map_cons, afvL, Ty.sizes]
        omega
    rw [afv]
    have := key us (fun u hu vs => afv_len u vs) (if (decide (k = 1) && !vs.any (fun x => decide (i = x))) = true then vs ++ [i] else vs)
    have hs : (Ty.mk k i us).size = 1 + Ty.sizes us := by simp [Ty.size]
    rw [hs]
    split at this
    · rename_i hq; rw [if_pos hq]; simp at this ⊢; omega
    · rename_i hq; rw [if_neg hq]; omega
end Go.Abs
namespace Go.Abs
theorem measL_nil (L : Int) (s : Int × Int) : measL [] L s = s := rfl
theorem measL_cons (f : Int → Int × Int) (fs : List (Int → Int × Int)) (L : Int) (s : Int × Int) : measL (f :: fs) L s = if decide (s.1 > L) = true then s else measL fs L (s.1 + (f (L - s.1)).1, max s.2 (f (L - s.1)).2) := rfl
theorem afvL_nil (vs : List Int) : afvL [] vs = vs := rfl
theorem afvL_cons (f : List Int → List Int) (fs : List (List Int → List Int)) (vs : List Int) : afvL (f :: fs) vs = afvL fs (f vs) := rfl
end Go.Abs
set_option linter.unusedVariables false
set_option linter.unusedSimpArgs false
namespace Go.Abs
/-! Reading bindings. -/
def BdD {H : Type} (b : Bd) (d : DataW H) : Prop := ∃ d1, d = .agg [.lit (.int .i64 b.v), d1] ∧ TyD b.t d1
structure BdAt (P : Program) (B T : TypeId) : Prop where
  st : ∃ f0 f1 : Field, P.underlying B = some (.struct #[f0, f1]) ∧ P.underlying f0.type = some (.int .i64) ∧ f1.type = T ∧ f0.offset = 0 ∧ f1.offset = 1 ∧ P.cellsOf f0.type = 1
  c : P.cellsOf B = 4
section
variable {H : Type} {enc : TypeId × Value → H} {P : Program} {W : World} {spare : Nat → Bool} {held : Bool} {B T S : TypeId}
theorem rd_bd (F : TyAt P T S) (G : BdAt P B T) (fuel : Nat) (cs : List Value) (x : DataW H × List MemPlace) (h : DataW.trod enc P W 0 spare held fuel B cs = some x) : ∃ b : Bd, RLl (env0 W).view cs b.enc.cells ∧ BdD b x.1 := by
  obtain ⟨f0, f1, hst, u0, e1, o0, o1, c0⟩ := G.st
  obtain ⟨ds, n, rfl, hx, hlen, hdl, hf⟩ := rd_fields hst h
  rw [G.c] at hlen
  match cs, hlen with
  | [v0, v1, v2, v3], _ =>
  obtain ⟨d0, p0, g0, r0⟩ := hf 0 f0 rfl
  obtain ⟨d1, p1, g1, r1⟩ := hf 1 f1 rfl
  rw [o0, c0] at r0
  rw [o1, e1, F.c] at r1
  obtain ⟨k, q0, rfl, w0, _⟩ := rd_int u0 r0
  obtain ⟨t, q1, w1⟩ := rd_ty F _ _ _ r1
  refine ⟨⟨k, t⟩, ?_, d1, ?_, w1⟩
  · have := RLl.app q0 q1
    rw [Ty.enc_cells] at this
    exact this
  · rw [hx]
    match ds, hdl with
    | [a, b], _ =>
      simp at g0 g1
      rw [g0, g1]
theorem bd_weights (F : TyAt P T S) (G : BdAt P B T) {b : Bd} {d : DataW H} (h : BdD b d) (hw : (d.weights P B).all (· ≤ reachBytes) = true) : b.t.W := by
  obtain ⟨d1, rfl, h1⟩ := h
  obtain ⟨f0, f1, hst, u0, e1, _⟩ := G.st
  simp only [DataW.weights, hst, DataW.weightsEach, List.map_cons, List.map_nil, e1, List.nil_append, List.append_nil] at hw
  exact ty_weights F h1 hw
end
end Go.Abs
set_option linter.unusedVariables false
namespace Go.Abs
theorem strip (r : List (List Char)) : stripLifts liftWords ("cut".toList :: r) = ([], "cut".toList :: r) := by
  simp only [liftWords]
  repeat (rw [stripLifts, if_neg (by decide)])
  rfl
theorem mayEnter_of {P : Program} {r : List (List Char)} (h : behindMainWord (wordsSigns P.initOrder.toList) = "cut".toList :: r) (h1 : P.laysLater = false) (h2 : P.bearsReflect = false) (h3 : P.doorFits [] = true) : P.mayEnter = true := by
  unfold Program.mayEnter
  rw [h]
  simp only [strip, h1, h2, h3]
  rfl
theorem headLifts_of {P : Program} {r : List (List Char)} (h : behindMainWord (wordsSigns P.initOrder.toList) = "cut".toList :: r) : P.headLifts = [] := by
  unfold Program.headLifts
  rw [h, strip]
  rfl
theorem liftsFinal_of {P : Program} {r : List (List Char)} (h : behindMainWord (wordsSigns P.initOrder.toList) = "cut".toList :: r) : P.liftsFinal = false := by
  unfold Program.liftsFinal
  rw [headLifts_of h, h]
  rfl
theorem make_of {P : Program} {r : List (List Char)} (h : behindMainWord (wordsSigns P.initOrder.toList) = "cut".toList :: r) : P.make = some .cut := by
  unfold Program.make
  rw [h]
  rfl
def sg (l : List Nat) : List Char := l.map Char.ofNat
theorem words_cons (c : Char) (r : List Char) (h : (c == Char.ofNat 32) = false) : wordsSigns (c :: r) = match wordsSigns r with | w :: ws => (c :: w) :: ws | [] => [[c]] := by
  rw [wordsSigns]
  · rfl
  · intro e
    subst e
    simp at h
theorem words_word : ∀ (w r : List Char), w.all (fun c => !(c == Char.ofNat 32)) = true → wordsSigns (w ++ Char.ofNat 32 :: r) = w :: wordsSigns r
  | [], r, _ => by rfl
  | c :: w, r, h => by
    simp only [List.all_cons, Bool.and_eq_true, Bool.not_eq_true'] at h
    rw [List.cons_append, words_cons c _ h.1, words_word w r h.2]
/-- The head of a cut: 'harness', a sum, 'cut'. -/
theorem behind_of {P : Program} {a b c r : List Char} (hio : P.initOrder = String.ofList (a ++ Char.ofNat 32 :: (b ++ Char.ofNat 32 :: (c ++ Char.ofNat 32 :: r)))) (ha : a.all (fun c => !(c == Char.ofNat 32)) = true) (hb : b.all (fun c => !(c == Char.ofNat 32)) = true) (hc : c.all (fun c => !(c == Char.ofNat 32)) = true)
    (h : ((a == "harness".toList || a == "ownmain".toList) && isSumSigns b) = true) (hc2 : c = "cut".toList) : behindMainWord (wordsSigns P.initOrder.toList) = "cut".toList :: wordsSigns r := by
  rw [hio, String.toList_ofList, words_word _ _ ha, words_word _ _ hb, words_word _ _ hc]
  simp only [behindMainWord]
  rw [if_pos h, hc2]
end Go.Abs
