/- Part 6 of a proof of the law SolveMatchesReference: Go data as trees, the walks of the functions that the law reaches, the plain laws. -/
import Derived.Test.YtmjoonaejldkhaaGESolveMatchesReference
import GoSem.ClaimJoined
import Derived.ChangeArms
import Derived.Carry
import Derived.SizedLaws
import Derived.JoinedCond
import Derived.Deep.CondSized
import Derived.JoinedOf
import Derived.KernelRfl
set_option linter.unusedVariables false
set_option linter.unusedSimpArgs false
set_option maxRecDepth 4000
namespace Go.Abs
open Go.Proofs

theorem search_8 (ds : List Dc) (sas : List TB) (hl : ds.length ≤ maxLen) (hd : ∀ d ∈ ds, d.R) (hsl : sas.length ≤ maxLen) (hs : ∀ b ∈ sas, b.W) (t : Ty) (tr : Int) (ht : t.W) : PC Try.prog 50 [.slice (ds.map Dc.enc) .none, .slice (sas.map TB.enc) .none, t.enc, vint tr, .int .i64 8] (.tup [(solveT ds sas 8 t tr).1.enc, .bool (solveT ds sas 8 t tr).2]) :=
  search_k ds sas hl hd hsl hs 8 t tr (by omega) ht

theorem showDeclsL : PC Try.prog 102 [] (.slice (showD.map Dc.enc) .none) := by
  refine pc_of (N := 15) Try.func102 rfl rfl (by simp) (by simp) (bel_Dc _ _) ?_
  -- region 0
  repeat (refine awp_seq ?_)
  refine e_eval (by simp only [asq, as0, as1, as2, awanted, aop, LS, SS, SX, HS, mkS_cons, mkS_nil, ↓reduceIte, eq_self', List.map_nil, beq_self_eq_true, Nat.reduceEqDiff, Nat.reduceAdd, Nat.reduceMul, Nat.reduceLT, Nat.reduceLeDiff, Nat.reducePow, Nat.reduceDiv, Nat.reduceMod, Nat.succ_ne_self, Nat.reduceBEq, Nat.reduceBNe, vint, TyS, TyF, TBS, TBF, DcS, DcF, SvS, SvF, PfS, PfF] <;> with_reducible rfl) (by decide) ?_
  -- region 1
  repeat (refine awp_seq ?_)
  refine awp_region ?_
  refine aops_pure (by simp only [acall, awanted, LS, SS, SX, HS, mkS_cons, mkS_nil, ↓reduceIte, eq_self', List.map_nil, beq_self_eq_true, Nat.reduceEqDiff, Nat.reduceAdd, Nat.reduceMul, Nat.reduceLT, Nat.reduceLeDiff, Nat.reducePow, Nat.reduceDiv, Nat.reduceMod, Nat.succ_ne_self, Nat.reduceBEq, Nat.reduceBNe, vint, TyS, TyF, TBS, TBF, DcS, DcF, SvS, SvF, PfS, PfF] <;> with_reducible rfl) (by simp only [acall, awanted, LS, SS, SX, HS, mkS_cons, mkS_nil, ↓reduceIte, eq_self', List.map_nil, beq_self_eq_true, Nat.reduceEqDiff, Nat.reduceAdd, Nat.reduceMul, Nat.reduceLT, Nat.reduceLeDiff, Nat.reducePow, Nat.reduceDiv, Nat.reduceMod, Nat.succ_ne_self, Nat.reduceBEq, Nat.reduceBNe, vint, TyS, TyF, TBS, TBF, DcS, DcF, SvS, SvF, PfS, PfF]) (by decide) Trygo109 (typeParamL 3 _) ?_
  refine e_take 1 (by simp only [asq, as0, as1, as2, awanted, aop, abuildS, LS, SS, SX, HS, mkS_cons, mkS_nil, ↓reduceIte, eq_self', List.map_nil, beq_self_eq_true, Nat.reduceEqDiff, Nat.reduceAdd, Nat.reduceMul, Nat.reduceLT, Nat.reduceLeDiff, Nat.reducePow, Nat.reduceDiv, Nat.reduceMod, Nat.succ_ne_self, Nat.reduceBEq, Nat.reduceBNe, Tryti22, Tryte22, Trytz22, Trytp22, Tryti24, Trytf24, Trytz24, Trytp24, vint, TyS, TyF, TBS, TBF, DcS, DcF, SvS, SvF, PfS, PfF] <;> with_reducible rfl) (by decide) ?_
  refine aops_pure (by simp only [acall, awanted, LS, SS, SX, HS, mkS_cons, mkS_nil, ↓reduceIte, eq_self', List.map_nil, beq_self_eq_true, Nat.reduceEqDiff, Nat.reduceAdd, Nat.reduceMul, Nat.reduceLT, Nat.reduceLeDiff, Nat.reducePow, Nat.reduceDiv, Nat.reduceMod, Nat.succ_ne_self, Nat.reduceBEq, Nat.reduceBNe, vint, TyS, TyF, TBS, TBF, DcS, DcF, SvS, SvF, PfS, PfF] <;> with_reducible rfl) (by simp only [acall, awanted, LS, SS, SX, HS, mkS_cons, mkS_nil, ↓reduceIte, eq_self', List.map_nil, beq_self_eq_true, Nat.reduceEqDiff, Nat.reduceAdd, Nat.reduceMul, Nat.reduceLT, Nat.reduceLeDiff, Nat.reducePow, Nat.reduceDiv, Nat.reduceMod, Nat.succ_ne_self, Nat.reduceBEq, Nat.reduceBNe, vint, TyS, TyF, TBS, TBF, DcS, DcF, SvS, SvF, PfS, PfF]) (by decide) Trygo90 (typL 7 9 [Ty.mk 2 3 []] _) ?_
  refine e_end (by simp only [asq, as0, as1, as2, awanted, aop, astore, splice, LS, SS, SX, HS, mkS_cons, mkS_nil, ↓reduceIte, eq_self', List.map_nil, beq_self_eq_true, Nat.reduceEqDiff, Nat.reduceAdd, Nat.reduceMul, Nat.reduceLT, Nat.reduceLeDiff, Nat.reducePow, Nat.reduceDiv, Nat.reduceMod, Nat.succ_ne_self, Nat.reduceBEq, Nat.reduceBNe, Tryti24, Trytf24, Trytz24, Trytp24, vint, TyS, TyF, TBS, TBF, DcS, DcF, SvS, SvF, PfS, PfF] <;> with_reducible rfl) (by decide) ?_
  -- region 2
  repeat (refine awp_seq ?_)
  refine awp_draw 0 (by kernel_rfl) ?_
  refine d_take (bm := [0, 0, 2, 0, 0, 2, 34, 98, 250, 511, 1023]) 1 (fresh := 0) (by kernel_rfl) (by simp only [dsq, ds0, ds1, ds2, ds3, awanted, hapB, effIds, effSet, nextFresh, ard, freshOk, isUnborn, aop, abuild, splice, LS, SS, SX, HS, mkS_cons, mkS_nil, ↓reduceIte, eq_self', List.map_nil, beq_self_eq_true, Nat.reduceEqDiff, Nat.reduceAdd, Nat.reduceMul, Nat.reduceLT, Nat.reduceLeDiff, Nat.reducePow, Nat.reduceDiv, Nat.reduceMod, Nat.succ_ne_self, Nat.reduceBEq, Nat.reduceBNe, Tryti71, Trytf71, Trytz71, Trytp71, vint, TyS, TyF, TBS, TBF, DcS, DcF, SvS, SvF, PfS, PfF] <;> with_reducible rfl) (by decide) (by decide) ?_
  refine dops_keep (bm := [0, 0, 2, 0, 0, 2, 34, 98, 250, 511, 1023]) ([]) (by kernel_rfl) (by simp only [acall, awanted, LS, SS, SX, HS, mkS_cons, mkS_nil, ↓reduceIte, eq_self', List.map_nil, beq_self_eq_true, Nat.reduceEqDiff, Nat.reduceAdd, Nat.reduceMul, Nat.reduceLT, Nat.reduceLeDiff, Nat.reducePow, Nat.reduceDiv, Nat.reduceMod, Nat.succ_ne_self, Nat.reduceBEq, Nat.reduceBNe, vint, TyS, TyF, TBS, TBF, DcS, DcF, SvS, SvF, PfS, PfF] <;> with_reducible rfl) (by simp only [acall, awanted, LS, SS, SX, HS, mkS_cons, mkS_nil, ↓reduceIte, eq_self', List.map_nil, beq_self_eq_true, Nat.reduceEqDiff, Nat.reduceAdd, Nat.reduceMul, Nat.reduceLT, Nat.reduceLeDiff, Nat.reducePow, Nat.reduceDiv, Nat.reduceMod, Nat.succ_ne_self, Nat.reduceBEq, Nat.reduceBNe, vint, TyS, TyF, TBS, TBF, DcS, DcF, SvS, SvF, PfS, PfF]) (by decide) Trygo92 (fun H' _ => intTypeL H') (by simp only [dsq, ds0, ds1, ds2, ds3, awanted, hapB, effIds, effSet, nextFresh, ard, freshOk, isUnborn, aop, LS, SS, SX, HS, mkS_cons, mkS_nil, ↓reduceIte, eq_self', List.map_nil, beq_self_eq_true, Nat.reduceEqDiff, Nat.reduceAdd, Nat.reduceMul, Nat.reduceLT, Nat.reduceLeDiff, Nat.reducePow, Nat.reduceDiv, Nat.reduceMod, Nat.succ_ne_self, Nat.reduceBEq, Nat.reduceBNe, vint, TyS, TyF, TBS, TBF, DcS, DcF, SvS, SvF, PfS, PfF] <;> first | done | rfl) ?_
  refine d_take (bm := [0, 0, 2, 0, 0, 2, 34, 98, 250, 511, 1023]) 3 (fresh := 0) (by kernel_rfl) (by simp only [dsq, ds0, ds1, ds2, ds3, awanted, hapB, effIds, effSet, nextFresh, ard, freshOk, isUnborn, aop, abuild, splice, abuildS, aload, ajust, LS, SS, SX, HS, mkS_cons, mkS_nil, ↓reduceIte, eq_self', List.map_nil, beq_self_eq_true, Nat.reduceEqDiff, Nat.reduceAdd, Nat.reduceMul, Nat.reduceLT, Nat.reduceLeDiff, Nat.reducePow, Nat.reduceDiv, Nat.reduceMod, Nat.succ_ne_self, Nat.reduceBEq, Nat.reduceBNe, Tryti3, Trytz3, Trytp3, Trytk3, Tryti24, Trytf24, Trytz24, Trytp24, Tryti25, Tryte25, Trytz25, Trytp25, Tryti71, Trytf71, Trytz71, Trytp71, vint, TyS, TyF, TBS, TBF, DcS, DcF, SvS, SvF, PfS, PfF] <;> with_reducible rfl) (by decide) (by decide) ?_
  refine dops_keep (bm := [0, 0, 2, 0, 0, 2, 34, 98, 250, 511, 1023]) ([]) (by kernel_rfl) (by simp only [acall, awanted, LS, SS, SX, HS, mkS_cons, mkS_nil, ↓reduceIte, eq_self', List.map_nil, beq_self_eq_true, Nat.reduceEqDiff, Nat.reduceAdd, Nat.reduceMul, Nat.reduceLT, Nat.reduceLeDiff, Nat.reducePow, Nat.reduceDiv, Nat.reduceMod, Nat.succ_ne_self, Nat.reduceBEq, Nat.reduceBNe, vint, TyS, TyF, TBS, TBF, DcS, DcF, SvS, SvF, PfS, PfF] <;> with_reducible rfl) (by simp only [acall, awanted, LS, SS, SX, HS, mkS_cons, mkS_nil, ↓reduceIte, eq_self', List.map_nil, beq_self_eq_true, Nat.reduceEqDiff, Nat.reduceAdd, Nat.reduceMul, Nat.reduceLT, Nat.reduceLeDiff, Nat.reducePow, Nat.reduceDiv, Nat.reduceMod, Nat.succ_ne_self, Nat.reduceBEq, Nat.reduceBNe, vint, TyS, TyF, TBS, TBF, DcS, DcF, SvS, SvF, PfS, PfF]) (by decide) Trygo109 (fun H' _ => typeParamL 3 H') (by simp only [dsq, ds0, ds1, ds2, ds3, awanted, hapB, effIds, effSet, nextFresh, ard, freshOk, isUnborn, aop, LS, SS, SX, HS, mkS_cons, mkS_nil, ↓reduceIte, eq_self', List.map_nil, beq_self_eq_true, Nat.reduceEqDiff, Nat.reduceAdd, Nat.reduceMul, Nat.reduceLT, Nat.reduceLeDiff, Nat.reducePow, Nat.reduceDiv, Nat.reduceMod, Nat.succ_ne_self, Nat.reduceBEq, Nat.reduceBNe, vint, TyS, TyF, TBS, TBF, DcS, DcF, SvS, SvF, PfS, PfF] <;> first | done | rfl) ?_
  refine d_end (bm := [0, 0, 2, 0, 0, 2, 34, 98, 250, 511, 1023]) (fresh := 0) (by kernel_rfl) (by simp only [dsq, ds0, ds1, ds2, ds3, awanted, hapB, effIds, effSet, nextFresh, ard, freshOk, isUnborn, aop, abuild, splice, abuildS, LS, SS, SX, HS, mkS_cons, mkS_nil, ↓reduceIte, eq_self', List.map_nil, beq_self_eq_true, Nat.reduceEqDiff, Nat.reduceAdd, Nat.reduceMul, Nat.reduceLT, Nat.reduceLeDiff, Nat.reducePow, Nat.reduceDiv, Nat.reduceMod, Nat.succ_ne_self, Nat.reduceBEq, Nat.reduceBNe, Tryti59, Tryte59, Trytz59, Trytp59, Tryti60, Tryte60, Trytz60, Trytp60, Tryti71, Trytf71, Trytz71, Trytp71, Tryti74, Trytf74, Trytz74, Trytp74, vint, TyS, TyF, TBS, TBF, DcS, DcF, SvS, SvF, PfS, PfF] <;> with_reducible rfl) (by decide) ?_
  repeat (refine awp_seq ?_)
  -- leaf 0 ret
  refine awp_ret ⟨.inr rfl, _, rfl, ?_⟩
  rfl

theorem traitsWorkL : PC Try.prog 49 [] (.bool true) := by
  have em : maxLen = 9223372036854775807 := by decide
  have hsol := fun t ht => solve_c showD [] t 0 (by simp [showD]; omega) showD_W (by simp) (by simp) ht
  have s1 := solve_show
  have s2 := solve_wrong
  have hP : PV.agg [.int .i64 7, .int .i64 9, .slice [(Ty.mk 7 9 [Ty.mk 3 0 []]).enc] .none, .int .i64 0, .int .i64 2, .int .i64 (-1), .slice [(Ty.mk 7 9 [Ty.mk 3 0 []]).enc] .none, .slice [(Pf.mk (Ty.mk 7 9 [Ty.mk 3 0 []]) 0 2 (-1) [Ty.mk 3 0 []] [Pf.mk (Ty.mk 3 0 []) 0 1 (-1) [] []]).enc] .none] = (Pf.mk (Ty.mk 7 9 [Ty.mk 7 9 [Ty.mk 3 0 []]]) 0 2 (-1) [Ty.mk 7 9 [Ty.mk 3 0 []]] [Pf.mk (Ty.mk 7 9 [Ty.mk 3 0 []]) 0 2 (-1) [Ty.mk 3 0 []] [Pf.mk (Ty.mk 3 0 []) 0 1 (-1) [] []]]).enc := by rw [Pf.enc_eq]; rfl
  refine pc_of (N := 66) Try.func49 rfl rfl (by simp) (by simp) (.bool _) ?_
  -- region 0
  repeat (refine awp_seq ?_)
  refine e_eval (by simp only [asq, as0, as1, as2, awanted, aop, LS, SS, SX, HS, mkS_cons, mkS_nil, ↓reduceIte, eq_self', List.map_nil, beq_self_eq_true, Nat.reduceEqDiff, Nat.reduceAdd, Nat.reduceMul, Nat.reduceLT, Nat.reduceLeDiff, Nat.reducePow, Nat.reduceDiv, Nat.reduceMod, Nat.succ_ne_self, Nat.reduceBEq, Nat.reduceBNe, vint, TyS, TyF, TBS, TBF, DcS, DcF, SvS, SvF, PfS, PfF, Bool.not_false, Bool.and_true, List.length_cons, List.length_nil, Int.cast_ofNat_Int, Int.reduceLT, Int.reduceLE, Int.natCast_one, List.map_cons, List.map_nil] <;> with_reducible rfl) (by decide) ?_
  -- region 1
  repeat (refine awp_seq ?_)
  refine awp_region ?_
  refine aops_pure (by simp only [acall, awanted, LS, SS, SX, HS, mkS_cons, mkS_nil, ↓reduceIte, eq_self', List.map_nil, beq_self_eq_true, Nat.reduceEqDiff, Nat.reduceAdd, Nat.reduceMul, Nat.reduceLT, Nat.reduceLeDiff, Nat.reducePow, Nat.reduceDiv, Nat.reduceMod, Nat.succ_ne_self, Nat.reduceBEq, Nat.reduceBNe, vint, TyS, TyF, TBS, TBF, DcS, DcF, SvS, SvF, PfS, PfF, Bool.not_false, Bool.and_true, List.length_cons, List.length_nil, Int.cast_ofNat_Int, Int.reduceLT, Int.reduceLE, Int.natCast_one, List.map_cons, List.map_nil] <;> with_reducible rfl) (by simp only [acall, awanted, LS, SS, SX, HS, mkS_cons, mkS_nil, ↓reduceIte, eq_self', List.map_nil, beq_self_eq_true, Nat.reduceEqDiff, Nat.reduceAdd, Nat.reduceMul, Nat.reduceLT, Nat.reduceLeDiff, Nat.reducePow, Nat.reduceDiv, Nat.reduceMod, Nat.succ_ne_self, Nat.reduceBEq, Nat.reduceBNe, vint, TyS, TyF, TBS, TBF, DcS, DcF, SvS, SvF, PfS, PfF, Bool.not_false, Bool.and_true, List.length_cons, List.length_nil, Int.cast_ofNat_Int, Int.reduceLT, Int.reduceLE, Int.natCast_one, List.map_cons, List.map_nil]) (by decide) Trygo92 (intTypeL _) ?_
  refine e_take 1 (by simp only [asq, as0, as1, as2, awanted, aop, abuildS, LS, SS, SX, HS, mkS_cons, mkS_nil, ↓reduceIte, eq_self', List.map_nil, beq_self_eq_true, Nat.reduceEqDiff, Nat.reduceAdd, Nat.reduceMul, Nat.reduceLT, Nat.reduceLeDiff, Nat.reducePow, Nat.reduceDiv, Nat.reduceMod, Nat.succ_ne_self, Nat.reduceBEq, Nat.reduceBNe, Tryti22, Tryte22, Trytz22, Trytp22, Tryti24, Trytf24, Trytz24, Trytp24, vint, TyS, TyF, TBS, TBF, DcS, DcF, SvS, SvF, PfS, PfF, Bool.not_false, Bool.and_true, List.length_cons, List.length_nil, Int.cast_ofNat_Int, Int.reduceLT, Int.reduceLE, Int.natCast_one, List.map_cons, List.map_nil] <;> with_reducible rfl) (by decide) ?_
  refine aops_pure (by simp only [acall, awanted, LS, SS, SX, HS, mkS_cons, mkS_nil, ↓reduceIte, eq_self', List.map_nil, beq_self_eq_true, Nat.reduceEqDiff, Nat.reduceAdd, Nat.reduceMul, Nat.reduceLT, Nat.reduceLeDiff, Nat.reducePow, Nat.reduceDiv, Nat.reduceMod, Nat.succ_ne_self, Nat.reduceBEq, Nat.reduceBNe, vint, TyS, TyF, TBS, TBF, DcS, DcF, SvS, SvF, PfS, PfF, Bool.not_false, Bool.and_true, List.length_cons, List.length_nil, Int.cast_ofNat_Int, Int.reduceLT, Int.reduceLE, Int.natCast_one, List.map_cons, List.map_nil] <;> with_reducible rfl) (by simp only [acall, awanted, LS, SS, SX, HS, mkS_cons, mkS_nil, ↓reduceIte, eq_self', List.map_nil, beq_self_eq_true, Nat.reduceEqDiff, Nat.reduceAdd, Nat.reduceMul, Nat.reduceLT, Nat.reduceLeDiff, Nat.reducePow, Nat.reduceDiv, Nat.reduceMod, Nat.succ_ne_self, Nat.reduceBEq, Nat.reduceBNe, vint, TyS, TyF, TBS, TBF, DcS, DcF, SvS, SvF, PfS, PfF, Bool.not_false, Bool.and_true, List.length_cons, List.length_nil, Int.cast_ofNat_Int, Int.reduceLT, Int.reduceLE, Int.natCast_one, List.map_cons, List.map_nil]) (by decide) Trygo90 (typL 7 9 [Ty.mk 3 0 []] _) ?_
  refine e_take 1 (by simp only [asq, as0, as1, as2, awanted, aop, abuildS, LS, SS, SX, HS, mkS_cons, mkS_nil, ↓reduceIte, eq_self', List.map_nil, beq_self_eq_true, Nat.reduceEqDiff, Nat.reduceAdd, Nat.reduceMul, Nat.reduceLT, Nat.reduceLeDiff, Nat.reducePow, Nat.reduceDiv, Nat.reduceMod, Nat.succ_ne_self, Nat.reduceBEq, Nat.reduceBNe, Tryti22, Tryte22, Trytz22, Trytp22, Tryti24, Trytf24, Trytz24, Trytp24, vint, TyS, TyF, TBS, TBF, DcS, DcF, SvS, SvF, PfS, PfF, Bool.not_false, Bool.and_true, List.length_cons, List.length_nil, Int.cast_ofNat_Int, Int.reduceLT, Int.reduceLE, Int.natCast_one, List.map_cons, List.map_nil] <;> with_reducible rfl) (by decide) ?_
  refine aops_pure (by simp only [acall, awanted, LS, SS, SX, HS, mkS_cons, mkS_nil, ↓reduceIte, eq_self', List.map_nil, beq_self_eq_true, Nat.reduceEqDiff, Nat.reduceAdd, Nat.reduceMul, Nat.reduceLT, Nat.reduceLeDiff, Nat.reducePow, Nat.reduceDiv, Nat.reduceMod, Nat.succ_ne_self, Nat.reduceBEq, Nat.reduceBNe, vint, TyS, TyF, TBS, TBF, DcS, DcF, SvS, SvF, PfS, PfF, Bool.not_false, Bool.and_true, List.length_cons, List.length_nil, Int.cast_ofNat_Int, Int.reduceLT, Int.reduceLE, Int.natCast_one, List.map_cons, List.map_nil] <;> with_reducible rfl) (by simp only [acall, awanted, LS, SS, SX, HS, mkS_cons, mkS_nil, ↓reduceIte, eq_self', List.map_nil, beq_self_eq_true, Nat.reduceEqDiff, Nat.reduceAdd, Nat.reduceMul, Nat.reduceLT, Nat.reduceLeDiff, Nat.reducePow, Nat.reduceDiv, Nat.reduceMod, Nat.succ_ne_self, Nat.reduceBEq, Nat.reduceBNe, vint, TyS, TyF, TBS, TBF, DcS, DcF, SvS, SvF, PfS, PfF, Bool.not_false, Bool.and_true, List.length_cons, List.length_nil, Int.cast_ofNat_Int, Int.reduceLT, Int.reduceLE, Int.natCast_one, List.map_cons, List.map_nil]) (by decide) Trygo90 (typL 7 9 [Ty.mk 7 9 [Ty.mk 3 0 []]] _) ?_
  refine e_end (by simp only [asq, as0, as1, as2, awanted, aop, astore, splice, LS, SS, SX, HS, mkS_cons, mkS_nil, ↓reduceIte, eq_self', List.map_nil, beq_self_eq_true, Nat.reduceEqDiff, Nat.reduceAdd, Nat.reduceMul, Nat.reduceLT, Nat.reduceLeDiff, Nat.reducePow, Nat.reduceDiv, Nat.reduceMod, Nat.succ_ne_self, Nat.reduceBEq, Nat.reduceBNe, Tryti24, Trytf24, Trytz24, Trytp24, vint, TyS, TyF, TBS, TBF, DcS, DcF, SvS, SvF, PfS, PfF, Bool.not_false, Bool.and_true, List.length_cons, List.length_nil, Int.cast_ofNat_Int, Int.reduceLT, Int.reduceLE, Int.natCast_one, List.map_cons, List.map_nil] <;> with_reducible rfl) (by decide) ?_
  -- region 2
  repeat (refine awp_seq ?_)
  refine awp_draw 1 (by kernel_rfl) ?_
  refine dops_keep (bm := [0, 0, 3, 7, 15, 15, 0, 95, 255]) ([]) (by kernel_rfl) (by simp only [acall, awanted, LS, SS, SX, HS, mkS_cons, mkS_nil, ↓reduceIte, eq_self', List.map_nil, beq_self_eq_true, Nat.reduceEqDiff, Nat.reduceAdd, Nat.reduceMul, Nat.reduceLT, Nat.reduceLeDiff, Nat.reducePow, Nat.reduceDiv, Nat.reduceMod, Nat.succ_ne_self, Nat.reduceBEq, Nat.reduceBNe, vint, TyS, TyF, TBS, TBF, DcS, DcF, SvS, SvF, PfS, PfF, Bool.not_false, Bool.and_true, List.length_cons, List.length_nil, Int.cast_ofNat_Int, Int.reduceLT, Int.reduceLE, Int.natCast_one, List.map_cons, List.map_nil, s1] <;> with_reducible rfl) (by simp only [acall, awanted, LS, SS, SX, HS, mkS_cons, mkS_nil, ↓reduceIte, eq_self', List.map_nil, beq_self_eq_true, Nat.reduceEqDiff, Nat.reduceAdd, Nat.reduceMul, Nat.reduceLT, Nat.reduceLeDiff, Nat.reducePow, Nat.reduceDiv, Nat.reduceMod, Nat.succ_ne_self, Nat.reduceBEq, Nat.reduceBNe, vint, TyS, TyF, TBS, TBF, DcS, DcF, SvS, SvF, PfS, PfF, Bool.not_false, Bool.and_true, List.length_cons, List.length_nil, Int.cast_ofNat_Int, Int.reduceLT, Int.reduceLE, Int.natCast_one, List.map_cons, List.map_nil, s1]) (by decide) Trygo102 (fun H' _ => showDeclsL H') (by simp only [dsq, ds0, ds1, ds2, ds3, awanted, hapB, effIds, effSet, nextFresh, ard, freshOk, isUnborn, aop, LS, SS, SX, HS, mkS_cons, mkS_nil, ↓reduceIte, eq_self', List.map_nil, beq_self_eq_true, Nat.reduceEqDiff, Nat.reduceAdd, Nat.reduceMul, Nat.reduceLT, Nat.reduceLeDiff, Nat.reducePow, Nat.reduceDiv, Nat.reduceMod, Nat.succ_ne_self, Nat.reduceBEq, Nat.reduceBNe, vint, TyS, TyF, TBS, TBF, DcS, DcF, SvS, SvF, PfS, PfF, Bool.not_false, Bool.and_true, List.length_cons, List.length_nil, Int.cast_ofNat_Int, Int.reduceLT, Int.reduceLE, Int.natCast_one, List.map_cons, List.map_nil, s1] <;> first | done | rfl) ?_
  refine d_take (bm := [0, 0, 3, 7, 15, 15, 0, 95, 255]) 1 (fresh := (1)) (by kernel_rfl) (by simp only [dsq, ds0, ds1, ds2, ds3, awanted, hapB, effIds, effSet, nextFresh, ard, freshOk, isUnborn, aop, aload, ajust, LS, SS, SX, HS, mkS_cons, mkS_nil, ↓reduceIte, eq_self', List.map_nil, beq_self_eq_true, Nat.reduceEqDiff, Nat.reduceAdd, Nat.reduceMul, Nat.reduceLT, Nat.reduceLeDiff, Nat.reducePow, Nat.reduceDiv, Nat.reduceMod, Nat.succ_ne_self, Nat.reduceBEq, Nat.reduceBNe, Tryti24, Trytf24, Trytz24, Trytp24, vint, TyS, TyF, TBS, TBF, DcS, DcF, SvS, SvF, PfS, PfF, Bool.not_false, Bool.and_true, List.length_cons, List.length_nil, Int.cast_ofNat_Int, Int.reduceLT, Int.reduceLE, Int.natCast_one, List.map_cons, List.map_nil, s1] <;> with_reducible rfl) (by decide) (by decide) ?_
  refine dops_keep (bm := [0, 0, 3, 7, 15, 15, 0, 95, 255]) ([]) (by kernel_rfl) (by simp only [acall, awanted, LS, SS, SX, HS, mkS_cons, mkS_nil, ↓reduceIte, eq_self', List.map_nil, beq_self_eq_true, Nat.reduceEqDiff, Nat.reduceAdd, Nat.reduceMul, Nat.reduceLT, Nat.reduceLeDiff, Nat.reducePow, Nat.reduceDiv, Nat.reduceMod, Nat.succ_ne_self, Nat.reduceBEq, Nat.reduceBNe, vint, TyS, TyF, TBS, TBF, DcS, DcF, SvS, SvF, PfS, PfF, Bool.not_false, Bool.and_true, List.length_cons, List.length_nil, Int.cast_ofNat_Int, Int.reduceLT, Int.reduceLE, Int.natCast_one, List.map_cons, List.map_nil, s1] <;> with_reducible rfl) (by simp only [acall, awanted, LS, SS, SX, HS, mkS_cons, mkS_nil, ↓reduceIte, eq_self', List.map_nil, beq_self_eq_true, Nat.reduceEqDiff, Nat.reduceAdd, Nat.reduceMul, Nat.reduceLT, Nat.reduceLeDiff, Nat.reducePow, Nat.reduceDiv, Nat.reduceMod, Nat.succ_ne_self, Nat.reduceBEq, Nat.reduceBNe, vint, TyS, TyF, TBS, TBF, DcS, DcF, SvS, SvF, PfS, PfF, Bool.not_false, Bool.and_true, List.length_cons, List.length_nil, Int.cast_ofNat_Int, Int.reduceLT, Int.reduceLE, Int.natCast_one, List.map_cons, List.map_nil, s1]) (by decide) Trygo46 (fun H' _ => hsol (Ty.mk 7 9 [Ty.mk 7 9 [Ty.mk 3 0 []]]) (by simp [Ty.W_iff]) H') (by simp only [dsq, ds0, ds1, ds2, ds3, awanted, hapB, effIds, effSet, nextFresh, ard, freshOk, isUnborn, aop, LS, SS, SX, HS, mkS_cons, mkS_nil, ↓reduceIte, eq_self', List.map_nil, beq_self_eq_true, Nat.reduceEqDiff, Nat.reduceAdd, Nat.reduceMul, Nat.reduceLT, Nat.reduceLeDiff, Nat.reducePow, Nat.reduceDiv, Nat.reduceMod, Nat.succ_ne_self, Nat.reduceBEq, Nat.reduceBNe, vint, TyS, TyF, TBS, TBF, DcS, DcF, SvS, SvF, PfS, PfF, Bool.not_false, Bool.and_true, List.length_cons, List.length_nil, Int.cast_ofNat_Int, Int.reduceLT, Int.reduceLE, Int.natCast_one, List.map_cons, List.map_nil, s1] <;> first | done | rfl) ?_
  refine d_end (bm := [0, 0, 3, 7, 15, 15, 0, 95, 255]) (fresh := (1)) (by kernel_rfl) (by simp only [dsq, ds0, ds1, ds2, ds3, awanted, hapB, effIds, effSet, nextFresh, ard, freshOk, isUnborn, aop, ajust, astore, splice, LS, SS, SX, HS, mkS_cons, mkS_nil, ↓reduceIte, eq_self', List.map_nil, beq_self_eq_true, Nat.reduceEqDiff, Nat.reduceAdd, Nat.reduceMul, Nat.reduceLT, Nat.reduceLeDiff, Nat.reducePow, Nat.reduceDiv, Nat.reduceMod, Nat.succ_ne_self, Nat.reduceBEq, Nat.reduceBNe, Tryti63, Trytf63, Trytz63, Trytp63, vint, TyS, TyF, TBS, TBF, DcS, DcF, SvS, SvF, PfS, PfF, Bool.not_false, Bool.and_true, List.length_cons, List.length_nil, Int.cast_ofNat_Int, Int.reduceLT, Int.reduceLE, Int.natCast_one, List.map_cons, List.map_nil, s1] <;> with_reducible rfl) (by decide) ?_
  refine awp_sel [2, 3] (by simp only [LS, SS, SX, HS, mkS_cons, mkS_nil, ↓reduceIte, eq_self', List.map_nil, beq_self_eq_true, Nat.reduceEqDiff, Nat.reduceAdd, Nat.succ_ne_self, vint, TyS, TyF, TBS, TBF, DcS, DcF, SvS, SvF, PfS, PfF, Bool.not_false, Bool.and_true, List.length_cons, List.length_nil, Int.cast_ofNat_Int, Int.reduceLT, Int.reduceLE, Int.natCast_one, List.map_cons, List.map_nil] <;> with_reducible rfl) ?_
  -- region 3
  repeat (refine awp_seq ?_)
  refine awp_region ?_
  refine aops_pure (by simp only [acall, awanted, LS, SS, SX, HS, mkS_cons, mkS_nil, ↓reduceIte, eq_self', List.map_nil, beq_self_eq_true, Nat.reduceEqDiff, Nat.reduceAdd, Nat.reduceMul, Nat.reduceLT, Nat.reduceLeDiff, Nat.reducePow, Nat.reduceDiv, Nat.reduceMod, Nat.succ_ne_self, Nat.reduceBEq, Nat.reduceBNe, vint, TyS, TyF, TBS, TBF, DcS, DcF, SvS, SvF, PfS, PfF, Bool.not_false, Bool.and_true, List.length_cons, List.length_nil, Int.cast_ofNat_Int, Int.reduceLT, Int.reduceLE, Int.natCast_one, List.map_cons, List.map_nil, s2] <;> with_reducible rfl) (by simp only [acall, awanted, LS, SS, SX, HS, mkS_cons, mkS_nil, ↓reduceIte, eq_self', List.map_nil, beq_self_eq_true, Nat.reduceEqDiff, Nat.reduceAdd, Nat.reduceMul, Nat.reduceLT, Nat.reduceLeDiff, Nat.reducePow, Nat.reduceDiv, Nat.reduceMod, Nat.succ_ne_self, Nat.reduceBEq, Nat.reduceBNe, vint, TyS, TyF, TBS, TBF, DcS, DcF, SvS, SvF, PfS, PfF, Bool.not_false, Bool.and_true, List.length_cons, List.length_nil, Int.cast_ofNat_Int, Int.reduceLT, Int.reduceLE, Int.natCast_one, List.map_cons, List.map_nil, s2]) (by decide) Trygo102 (showDeclsL _) ?_
  refine aops_pure (by simp only [acall, awanted, LS, SS, SX, HS, mkS_cons, mkS_nil, ↓reduceIte, eq_self', List.map_nil, beq_self_eq_true, Nat.reduceEqDiff, Nat.reduceAdd, Nat.reduceMul, Nat.reduceLT, Nat.reduceLeDiff, Nat.reducePow, Nat.reduceDiv, Nat.reduceMod, Nat.succ_ne_self, Nat.reduceBEq, Nat.reduceBNe, vint, TyS, TyF, TBS, TBF, DcS, DcF, SvS, SvF, PfS, PfF, Bool.not_false, Bool.and_true, List.length_cons, List.length_nil, Int.cast_ofNat_Int, Int.reduceLT, Int.reduceLE, Int.natCast_one, List.map_cons, List.map_nil, s2] <;> with_reducible rfl) (by simp only [acall, awanted, LS, SS, SX, HS, mkS_cons, mkS_nil, ↓reduceIte, eq_self', List.map_nil, beq_self_eq_true, Nat.reduceEqDiff, Nat.reduceAdd, Nat.reduceMul, Nat.reduceLT, Nat.reduceLeDiff, Nat.reducePow, Nat.reduceDiv, Nat.reduceMod, Nat.succ_ne_self, Nat.reduceBEq, Nat.reduceBNe, vint, TyS, TyF, TBS, TBF, DcS, DcF, SvS, SvF, PfS, PfF, Bool.not_false, Bool.and_true, List.length_cons, List.length_nil, Int.cast_ofNat_Int, Int.reduceLT, Int.reduceLE, Int.natCast_one, List.map_cons, List.map_nil, s2]) (by decide) Trygo90 (typL 4 0 [] _) ?_
  refine e_take 1 (by simp only [asq, as0, as1, as2, awanted, aop, abuildS, LS, SS, SX, HS, mkS_cons, mkS_nil, ↓reduceIte, eq_self', List.map_nil, beq_self_eq_true, Nat.reduceEqDiff, Nat.reduceAdd, Nat.reduceMul, Nat.reduceLT, Nat.reduceLeDiff, Nat.reducePow, Nat.reduceDiv, Nat.reduceMod, Nat.succ_ne_self, Nat.reduceBEq, Nat.reduceBNe, Tryti22, Tryte22, Trytz22, Trytp22, Tryti24, Trytf24, Trytz24, Trytp24, vint, TyS, TyF, TBS, TBF, DcS, DcF, SvS, SvF, PfS, PfF, Bool.not_false, Bool.and_true, List.length_cons, List.length_nil, Int.cast_ofNat_Int, Int.reduceLT, Int.reduceLE, Int.natCast_one, List.map_cons, List.map_nil, s2] <;> with_reducible rfl) (by decide) ?_
  refine aops_pure (by simp only [acall, awanted, LS, SS, SX, HS, mkS_cons, mkS_nil, ↓reduceIte, eq_self', List.map_nil, beq_self_eq_true, Nat.reduceEqDiff, Nat.reduceAdd, Nat.reduceMul, Nat.reduceLT, Nat.reduceLeDiff, Nat.reducePow, Nat.reduceDiv, Nat.reduceMod, Nat.succ_ne_self, Nat.reduceBEq, Nat.reduceBNe, vint, TyS, TyF, TBS, TBF, DcS, DcF, SvS, SvF, PfS, PfF, Bool.not_false, Bool.and_true, List.length_cons, List.length_nil, Int.cast_ofNat_Int, Int.reduceLT, Int.reduceLE, Int.natCast_one, List.map_cons, List.map_nil, s2] <;> with_reducible rfl) (by simp only [acall, awanted, LS, SS, SX, HS, mkS_cons, mkS_nil, ↓reduceIte, eq_self', List.map_nil, beq_self_eq_true, Nat.reduceEqDiff, Nat.reduceAdd, Nat.reduceMul, Nat.reduceLT, Nat.reduceLeDiff, Nat.reducePow, Nat.reduceDiv, Nat.reduceMod, Nat.succ_ne_self, Nat.reduceBEq, Nat.reduceBNe, vint, TyS, TyF, TBS, TBF, DcS, DcF, SvS, SvF, PfS, PfF, Bool.not_false, Bool.and_true, List.length_cons, List.length_nil, Int.cast_ofNat_Int, Int.reduceLT, Int.reduceLE, Int.natCast_one, List.map_cons, List.map_nil, s2]) (by decide) Trygo90 (typL 7 9 [Ty.mk 4 0 []] _) ?_
  refine aops_pure (by simp only [acall, awanted, LS, SS, SX, HS, mkS_cons, mkS_nil, ↓reduceIte, eq_self', List.map_nil, beq_self_eq_true, Nat.reduceEqDiff, Nat.reduceAdd, Nat.reduceMul, Nat.reduceLT, Nat.reduceLeDiff, Nat.reducePow, Nat.reduceDiv, Nat.reduceMod, Nat.succ_ne_self, Nat.reduceBEq, Nat.reduceBNe, vint, TyS, TyF, TBS, TBF, DcS, DcF, SvS, SvF, PfS, PfF, Bool.not_false, Bool.and_true, List.length_cons, List.length_nil, Int.cast_ofNat_Int, Int.reduceLT, Int.reduceLE, Int.natCast_one, List.map_cons, List.map_nil, s2] <;> with_reducible rfl) (by simp only [acall, awanted, LS, SS, SX, HS, mkS_cons, mkS_nil, ↓reduceIte, eq_self', List.map_nil, beq_self_eq_true, Nat.reduceEqDiff, Nat.reduceAdd, Nat.reduceMul, Nat.reduceLT, Nat.reduceLeDiff, Nat.reducePow, Nat.reduceDiv, Nat.reduceMod, Nat.succ_ne_self, Nat.reduceBEq, Nat.reduceBNe, vint, TyS, TyF, TBS, TBF, DcS, DcF, SvS, SvF, PfS, PfF, Bool.not_false, Bool.and_true, List.length_cons, List.length_nil, Int.cast_ofNat_Int, Int.reduceLT, Int.reduceLE, Int.natCast_one, List.map_cons, List.map_nil, s2]) (by decide) Trygo46 (hsol (Ty.mk 7 9 [Ty.mk 4 0 []]) (by simp [Ty.W_iff]) _) ?_
  refine e_end (by simp only [asq, as0, as1, as2, awanted, aop, ajust, astore, splice, LS, SS, SX, HS, mkS_cons, mkS_nil, ↓reduceIte, eq_self', List.map_nil, beq_self_eq_true, Nat.reduceEqDiff, Nat.reduceAdd, Nat.reduceMul, Nat.reduceLT, Nat.reduceLeDiff, Nat.reducePow, Nat.reduceDiv, Nat.reduceMod, Nat.succ_ne_self, Nat.reduceBEq, Nat.reduceBNe, Tryti63, Trytf63, Trytz63, Trytp63, vint, TyS, TyF, TBS, TBF, DcS, DcF, SvS, SvF, PfS, PfF, Bool.not_false, Bool.and_true, List.length_cons, List.length_nil, Int.cast_ofNat_Int, Int.reduceLT, Int.reduceLE, Int.natCast_one, List.map_cons, List.map_nil, s2] <;> with_reducible rfl) (by decide) ?_
  -- region 4
  repeat (refine awp_seq ?_)
  refine awp_drawW 0 (by kernel_rfl) ?_
  refine dops_gstart ?_
  refine gd_take (bm := [0, 1, 3, 7, 15, 31, 63, 127, 255, 511, 1023, 2047, 4095, 8191, 16383, 32767, 65535, 131071, 262143, 524287, 1048575, 2097151, 4194303, 8388607, 16777215, 33554431, 67108863, 134217727, 268435455, 536870911, 1073741823, 2147483647, 4294967295, 8589934591, 17179869183, 34359738367, 68719476735, 137438953471, 137438953471, 549755813887, 1099511627775, 2199023255551]) 37 (fresh := 0) (by kernel_rfl) (by simp only [gdq, gd0, gd1, gd2, gd3, gcond, gop, SG, Op.operands, Call.operands, Array.toList_append, hapB, effIds, effSet, nextFresh, ard, freshOk, isUnborn, aop, aun, ajust, afldAddr, aload, abin, abuiltin, aidxAddr, aidx, LS, SS, SX, HS, mkS_cons, mkS_nil, ↓reduceIte, eq_self', List.map_nil, beq_self_eq_true, Nat.reduceEqDiff, Nat.reduceAdd, Nat.reduceMul, Nat.reduceLT, Nat.reduceLeDiff, Nat.reducePow, Nat.reduceDiv, Nat.reduceMod, Nat.succ_ne_self, Nat.reduceBEq, Nat.reduceBNe, Tryti3, Trytz3, Trytp3, Trytk3, Tryti61, Tryte61, Trytz61, Trytp61, Tryti63, Trytf63, Trytz63, Trytp63, vint, TyS, TyF, TBS, TBF, DcS, DcF, SvS, SvF, PfS, PfF, Bool.not_false, Bool.and_true, List.length_cons, List.length_nil, Int.cast_ofNat_Int, Int.reduceLT, Int.reduceLE, Int.natCast_one, List.map_cons, List.map_nil, show_P, hP, Int.toNat_zero, List.getElem?_cons_zero] <;> with_reducible rfl) (by decide) (by decide) ?_
  refine dops_gkeep (bm := [0, 1, 3, 7, 15, 31, 63, 127, 255, 511, 1023, 2047, 4095, 8191, 16383, 32767, 65535, 131071, 262143, 524287, 1048575, 2097151, 4194303, 8388607, 16777215, 33554431, 67108863, 134217727, 268435455, 536870911, 1073741823, 2147483647, 4294967295, 8589934591, 17179869183, 34359738367, 68719476735, 137438953471, 137438953471, 549755813887, 1099511627775, 2199023255551]) ([]) (by kernel_rfl) (by simp only [acall, gcond, SG, Op.operands, Call.operands, Array.toList_append, LS, SS, SX, HS, mkS_cons, mkS_nil, ↓reduceIte, eq_self', List.map_nil, beq_self_eq_true, Nat.reduceEqDiff, Nat.reduceAdd, Nat.reduceMul, Nat.reduceLT, Nat.reduceLeDiff, Nat.reducePow, Nat.reduceDiv, Nat.reduceMod, Nat.succ_ne_self, Nat.reduceBEq, Nat.reduceBNe, vint, TyS, TyF, TBS, TBF, DcS, DcF, SvS, SvF, PfS, PfF, Bool.not_false, Bool.and_true, List.length_cons, List.length_nil, Int.cast_ofNat_Int, Int.reduceLT, Int.reduceLE, Int.natCast_one, List.map_cons, List.map_nil, show_P, hP, Int.toNat_zero, List.getElem?_cons_zero] <;> with_reducible rfl) (by simp only [acall, gcond, SG, Op.operands, Call.operands, Array.toList_append, LS, SS, SX, HS, mkS_cons, mkS_nil, ↓reduceIte, eq_self', List.map_nil, beq_self_eq_true, Nat.reduceEqDiff, Nat.reduceAdd, Nat.reduceMul, Nat.reduceLT, Nat.reduceLeDiff, Nat.reducePow, Nat.reduceDiv, Nat.reduceMod, Nat.succ_ne_self, Nat.reduceBEq, Nat.reduceBNe, vint, TyS, TyF, TBS, TBF, DcS, DcF, SvS, SvF, PfS, PfF, Bool.not_false, Bool.and_true, List.length_cons, List.length_nil, Int.cast_ofNat_Int, Int.reduceLT, Int.reduceLE, Int.natCast_one, List.map_cons, List.map_nil, show_P, hP, Int.toNat_zero, List.getElem?_cons_zero] <;> with_reducible rfl) (by simp only [acall, gcond, SG, Op.operands, Call.operands, Array.toList_append, LS, SS, SX, HS, mkS_cons, mkS_nil, ↓reduceIte, eq_self', List.map_nil, beq_self_eq_true, Nat.reduceEqDiff, Nat.reduceAdd, Nat.reduceMul, Nat.reduceLT, Nat.reduceLeDiff, Nat.reducePow, Nat.reduceDiv, Nat.reduceMod, Nat.succ_ne_self, Nat.reduceBEq, Nat.reduceBNe, vint, TyS, TyF, TBS, TBF, DcS, DcF, SvS, SvF, PfS, PfF, Bool.not_false, Bool.and_true, List.length_cons, List.length_nil, Int.cast_ofNat_Int, Int.reduceLT, Int.reduceLE, Int.natCast_one, List.map_cons, List.map_nil, show_P, hP, Int.toNat_zero, List.getElem?_cons_zero]) (by decide) Trygo102 (fun hc => fun H' _ => showDeclsL H') (by simp only [gdq, gd0, gd1, gd2, gd3, gcond, gop, SG, Op.operands, Call.operands, Array.toList_append, hapB, effIds, effSet, nextFresh, ard, freshOk, isUnborn, aop, LS, SS, SX, HS, mkS_cons, mkS_nil, ↓reduceIte, eq_self', List.map_nil, beq_self_eq_true, Nat.reduceEqDiff, Nat.reduceAdd, Nat.reduceMul, Nat.reduceLT, Nat.reduceLeDiff, Nat.reducePow, Nat.reduceDiv, Nat.reduceMod, Nat.succ_ne_self, Nat.reduceBEq, Nat.reduceBNe, vint, TyS, TyF, TBS, TBF, DcS, DcF, SvS, SvF, PfS, PfF, Bool.not_false, Bool.and_true, List.length_cons, List.length_nil, Int.cast_ofNat_Int, Int.reduceLT, Int.reduceLE, Int.natCast_one, List.map_cons, List.map_nil, show_P, hP, Int.toNat_zero, List.getElem?_cons_zero] <;> first | done | rfl) ?_
  refine gd_take (bm := [0, 1, 3, 7, 15, 31, 63, 127, 255, 511, 1023, 2047, 4095, 8191, 16383, 32767, 65535, 131071, 262143, 524287, 1048575, 2097151, 4194303, 8388607, 16777215, 33554431, 67108863, 134217727, 268435455, 536870911, 1073741823, 2147483647, 4294967295, 8589934591, 17179869183, 34359738367, 68719476735, 137438953471, 137438953471, 549755813887, 1099511627775, 2199023255551]) 1 (fresh := 0) (by kernel_rfl) (by simp only [gdq, gd0, gd1, gd2, gd3, gcond, gop, SG, Op.operands, Call.operands, Array.toList_append, hapB, effIds, effSet, nextFresh, ard, freshOk, isUnborn, aop, aload, ajust, LS, SS, SX, HS, mkS_cons, mkS_nil, ↓reduceIte, eq_self', List.map_nil, beq_self_eq_true, Nat.reduceEqDiff, Nat.reduceAdd, Nat.reduceMul, Nat.reduceLT, Nat.reduceLeDiff, Nat.reducePow, Nat.reduceDiv, Nat.reduceMod, Nat.succ_ne_self, Nat.reduceBEq, Nat.reduceBNe, Tryti63, Trytf63, Trytz63, Trytp63, vint, TyS, TyF, TBS, TBF, DcS, DcF, SvS, SvF, PfS, PfF, Bool.not_false, Bool.and_true, List.length_cons, List.length_nil, Int.cast_ofNat_Int, Int.reduceLT, Int.reduceLE, Int.natCast_one, List.map_cons, List.map_nil, show_P, hP, Int.toNat_zero, List.getElem?_cons_zero] <;> with_reducible rfl) (by decide) (by decide) ?_
  refine dops_gkeep (bm := [0, 1, 3, 7, 15, 31, 63, 127, 255, 511, 1023, 2047, 4095, 8191, 16383, 32767, 65535, 131071, 262143, 524287, 1048575, 2097151, 4194303, 8388607, 16777215, 33554431, 67108863, 134217727, 268435455, 536870911, 1073741823, 2147483647, 4294967295, 8589934591, 17179869183, 34359738367, 68719476735, 137438953471, 137438953471, 549755813887, 1099511627775, 2199023255551]) ([]) (by kernel_rfl) (by simp only [acall, gcond, SG, Op.operands, Call.operands, Array.toList_append, LS, SS, SX, HS, mkS_cons, mkS_nil, ↓reduceIte, eq_self', List.map_nil, beq_self_eq_true, Nat.reduceEqDiff, Nat.reduceAdd, Nat.reduceMul, Nat.reduceLT, Nat.reduceLeDiff, Nat.reducePow, Nat.reduceDiv, Nat.reduceMod, Nat.succ_ne_self, Nat.reduceBEq, Nat.reduceBNe, vint, TyS, TyF, TBS, TBF, DcS, DcF, SvS, SvF, PfS, PfF, Bool.not_false, Bool.and_true, List.length_cons, List.length_nil, Int.cast_ofNat_Int, Int.reduceLT, Int.reduceLE, Int.natCast_one, List.map_cons, List.map_nil, show_P, hP, Int.toNat_zero, List.getElem?_cons_zero] <;> with_reducible rfl) (by simp only [acall, gcond, SG, Op.operands, Call.operands, Array.toList_append, LS, SS, SX, HS, mkS_cons, mkS_nil, ↓reduceIte, eq_self', List.map_nil, beq_self_eq_true, Nat.reduceEqDiff, Nat.reduceAdd, Nat.reduceMul, Nat.reduceLT, Nat.reduceLeDiff, Nat.reducePow, Nat.reduceDiv, Nat.reduceMod, Nat.succ_ne_self, Nat.reduceBEq, Nat.reduceBNe, vint, TyS, TyF, TBS, TBF, DcS, DcF, SvS, SvF, PfS, PfF, Bool.not_false, Bool.and_true, List.length_cons, List.length_nil, Int.cast_ofNat_Int, Int.reduceLT, Int.reduceLE, Int.natCast_one, List.map_cons, List.map_nil, show_P, hP, Int.toNat_zero, List.getElem?_cons_zero] <;> with_reducible rfl) (by simp only [acall, gcond, SG, Op.operands, Call.operands, Array.toList_append, LS, SS, SX, HS, mkS_cons, mkS_nil, ↓reduceIte, eq_self', List.map_nil, beq_self_eq_true, Nat.reduceEqDiff, Nat.reduceAdd, Nat.reduceMul, Nat.reduceLT, Nat.reduceLeDiff, Nat.reducePow, Nat.reduceDiv, Nat.reduceMod, Nat.succ_ne_self, Nat.reduceBEq, Nat.reduceBNe, vint, TyS, TyF, TBS, TBF, DcS, DcF, SvS, SvF, PfS, PfF, Bool.not_false, Bool.and_true, List.length_cons, List.length_nil, Int.cast_ofNat_Int, Int.reduceLT, Int.reduceLE, Int.natCast_one, List.map_cons, List.map_nil, show_P, hP, Int.toNat_zero, List.getElem?_cons_zero]) (by decide) Trygo48 (fun hc => fun H' _ => check_k showD [] (by simp [showD]; omega) (fun d hd => (showD_W d hd).1) (by simp) (by simp) 4 (Pf.mk (Ty.mk 7 9 [Ty.mk 7 9 [Ty.mk 3 0 []]]) 0 2 (-1) [Ty.mk 7 9 [Ty.mk 3 0 []]] [Pf.mk (Ty.mk 7 9 [Ty.mk 3 0 []]) 0 2 (-1) [Ty.mk 3 0 []] [Pf.mk (Ty.mk 3 0 []) 0 1 (-1) [] []]]) (by simp [Pf.size, pfSizes]) (by simp [Pf.W_iff, Ty.W_iff]) H') (by simp only [gdq, gd0, gd1, gd2, gd3, gcond, gop, SG, Op.operands, Call.operands, Array.toList_append, hapB, effIds, effSet, nextFresh, ard, freshOk, isUnborn, aop, LS, SS, SX, HS, mkS_cons, mkS_nil, ↓reduceIte, eq_self', List.map_nil, beq_self_eq_true, Nat.reduceEqDiff, Nat.reduceAdd, Nat.reduceMul, Nat.reduceLT, Nat.reduceLeDiff, Nat.reducePow, Nat.reduceDiv, Nat.reduceMod, Nat.succ_ne_self, Nat.reduceBEq, Nat.reduceBNe, vint, TyS, TyF, TBS, TBF, DcS, DcF, SvS, SvF, PfS, PfF, Bool.not_false, Bool.and_true, List.length_cons, List.length_nil, Int.cast_ofNat_Int, Int.reduceLT, Int.reduceLE, Int.natCast_one, List.map_cons, List.map_nil, show_P, hP, Int.toNat_zero, List.getElem?_cons_zero] <;> first | done | rfl) ?_
  refine gd_end (bm := [0, 1, 3, 7, 15, 31, 63, 127, 255, 511, 1023, 2047, 4095, 8191, 16383, 32767, 65535, 131071, 262143, 524287, 1048575, 2097151, 4194303, 8388607, 16777215, 33554431, 67108863, 134217727, 268435455, 536870911, 1073741823, 2147483647, 4294967295, 8589934591, 17179869183, 34359738367, 68719476735, 137438953471, 137438953471, 549755813887, 1099511627775, 2199023255551]) (fresh := 0) (by kernel_rfl) (by simp only [gdq, gd0, gd1, gd2, gd3, gcond, gop, SG, Op.operands, Call.operands, Array.toList_append, hapB, effIds, effSet, nextFresh, ard, freshOk, isUnborn, aop, LS, SS, SX, HS, mkS_cons, mkS_nil, ↓reduceIte, eq_self', List.map_nil, beq_self_eq_true, Nat.reduceEqDiff, Nat.reduceAdd, Nat.reduceMul, Nat.reduceLT, Nat.reduceLeDiff, Nat.reducePow, Nat.reduceDiv, Nat.reduceMod, Nat.succ_ne_self, Nat.reduceBEq, Nat.reduceBNe, vint, TyS, TyF, TBS, TBF, DcS, DcF, SvS, SvF, PfS, PfF, Bool.not_false, Bool.and_true, List.length_cons, List.length_nil, Int.cast_ofNat_Int, Int.reduceLT, Int.reduceLE, Int.natCast_one, List.map_cons, List.map_nil, show_P, hP, Int.toNat_zero, List.getElem?_cons_zero] <;> with_reducible rfl) (by decide) (by repeat (first | exact Fin.base _ | with_reducible apply Fin.keep | apply Fin.drop)) ?_
  repeat (refine awp_seq ?_)
  -- leaf 0 ret
  refine awp_ret ⟨.inr rfl, _, rfl, ?_⟩
  simp only [LS, SS, SX, HS, mkS_cons, mkS_nil, ↓reduceIte, eq_self', List.map_nil, beq_self_eq_true, Nat.reduceEqDiff, Nat.reduceAdd, Nat.succ_ne_self, vint, TyS, TyF, TBS, TBF, DcS, DcF, SvS, SvF, PfS, PfF]

theorem law_solveref (ds : List Dc) (sas : List TB) (t : Ty) (tr : Int) (hdR : ∀ d ∈ ds.take (min ds.length 8), d.R) (hsl : sas.length ≤ maxLen) (hs : ∀ b ∈ sas, b.W) (ht : t.W) : PC Try.prog 11 [.slice (ds.map Dc.enc) .none, .slice (sas.map TB.enc) .none, t.enc, vint tr] (.bool true) := by
  have hd0 : ∀ d ∈ ds.take (min ds.length 8), d.B := fun d h => (hdR d h).1
  obtain ⟨k, hk⟩ : ∃ k, k = min ds.length 8 := ⟨_, rfl⟩
  have hm : min (ds.length : Int) 8 = (k : Nat) := by omega
  have gk : ((0 : Int) ≤ (k : Nat) ∧ ((k : Nat) : Int) ≤ ds.length) = True := by simp; omega
  have dcsz : (∀ e ∈ ds.map Dc.enc, e.cells.length = 7) = True := by
    simp only [eq_iff_iff, iff_true]
    intro e he
    obtain ⟨d, _, rfl⟩ := List.mem_map.1 he
    exact d.enc_len
  have htk : (List.map Dc.enc ds).take k = (ds.take k).map Dc.enc := List.map_take.symm
  obtain ⟨es, hes⟩ : ∃ es, es = ds.take k := ⟨_, rfl⟩
  rw [← hes] at htk
  have hl : es.length ≤ maxLen := by
    have em : maxLen = 9223372036854775807 := by decide
    rw [hes, List.length_take]; omega
  have hd : ∀ d ∈ es, d.B := fun d h => hd0 d (by rw [← hk, ← hes]; exact h)
  have hdr : ∀ d ∈ es, d.R := fun d h => hdR d (by rw [← hk, ← hes]; exact h)
  have hpw := solve_W (ds := es) (sas := sas) hd 8 t tr ht
  refine pc_of (N := 57) Try.func11 rfl rfl (by simp) (by simp [Ty.bel, Bel.int, bel_Dc, bel_TB]) (.bool _) ?_
  -- region 0
  repeat (refine awp_seq ?_)
  refine e_eval (by simp only [asq, as0, as1, as2, awanted, aop, LS, SS, SX, HS, mkS_cons, mkS_nil, ↓reduceIte, eq_self', List.map_nil, beq_self_eq_true, Nat.reduceEqDiff, Nat.reduceAdd, Nat.reduceMul, Nat.reduceLT, Nat.reduceLeDiff, Nat.reducePow, Nat.reduceDiv, Nat.reduceMod, Nat.succ_ne_self, Nat.reduceBEq, Nat.reduceBNe, Tryti24, Trytf24, Trytz24, Trytp24, vint, TyS, TyF, TBS, TBF, DcS, DcF, SvS, SvF, PfS, PfF, Option.toArray, List.append_nil, List.nil_append, hm, gk, Int.toNat_natCast, dcsz, htk, List.drop_zero, Bool.not_true, Bool.not_false, reduceCtorEq, and_false, if_false, ite_self] <;> with_reducible rfl) (by decide) ?_
  -- region 1
  repeat (refine awp_seq ?_)
  refine awp_region ?_
  refine aops_pure (by simp only [acall, awanted, LS, SS, SX, HS, mkS_cons, mkS_nil, ↓reduceIte, eq_self', List.map_nil, beq_self_eq_true, Nat.reduceEqDiff, Nat.reduceAdd, Nat.reduceMul, Nat.reduceLT, Nat.reduceLeDiff, Nat.reducePow, Nat.reduceDiv, Nat.reduceMod, Nat.succ_ne_self, Nat.reduceBEq, Nat.reduceBNe, vint, TyS, TyF, TBS, TBF, DcS, DcF, SvS, SvF, PfS, PfF, Option.toArray, List.append_nil, List.nil_append, hm, gk, Int.toNat_natCast, dcsz, htk, List.drop_zero, Bool.not_true, Bool.not_false, reduceCtorEq, and_false, if_false, ite_self] <;> with_reducible rfl) (by simp only [acall, awanted, LS, SS, SX, HS, mkS_cons, mkS_nil, ↓reduceIte, eq_self', List.map_nil, beq_self_eq_true, Nat.reduceEqDiff, Nat.reduceAdd, Nat.reduceMul, Nat.reduceLT, Nat.reduceLeDiff, Nat.reducePow, Nat.reduceDiv, Nat.reduceMod, Nat.succ_ne_self, Nat.reduceBEq, Nat.reduceBNe, vint, TyS, TyF, TBS, TBF, DcS, DcF, SvS, SvF, PfS, PfF, Option.toArray, List.append_nil, List.nil_append, hm, gk, Int.toNat_natCast, dcsz, htk, List.drop_zero, Bool.not_true, Bool.not_false, reduceCtorEq, and_false, if_false, ite_self]) (by decide) Trygo49 (traitsWorkL _) ?_
  refine e_end (by simp only [asq, as0, as1, as2, awanted, aop, aun, ajust, LS, SS, SX, HS, mkS_cons, mkS_nil, ↓reduceIte, eq_self', List.map_nil, beq_self_eq_true, Nat.reduceEqDiff, Nat.reduceAdd, Nat.reduceMul, Nat.reduceLT, Nat.reduceLeDiff, Nat.reducePow, Nat.reduceDiv, Nat.reduceMod, Nat.succ_ne_self, Nat.reduceBEq, Nat.reduceBNe, vint, TyS, TyF, TBS, TBF, DcS, DcF, SvS, SvF, PfS, PfF, Option.toArray, List.append_nil, List.nil_append, hm, gk, Int.toNat_natCast, dcsz, htk, List.drop_zero, Bool.not_true, Bool.not_false, reduceCtorEq, and_false, if_false, ite_self] <;> with_reducible rfl) (by decide) ?_
  repeat (refine awp_seq ?_)
  refine awp_cond_false rfl (by simp only [LS, SS, SX, HS, mkS_cons, mkS_nil, ↓reduceIte, eq_self', List.map_nil, beq_self_eq_true, Nat.reduceEqDiff, Nat.reduceAdd, Nat.succ_ne_self, vint, TyS, TyF, TBS, TBF, DcS, DcF, SvS, SvF, PfS, PfF, Option.toArray, List.append_nil, List.nil_append, hm, gk, Int.toNat_natCast, dcsz, htk, List.drop_zero, Bool.not_true, Bool.not_false, reduceCtorEq, and_false, if_false, ite_self] <;> with_reducible rfl) ?_
  repeat (refine awp_seq ?_)
  refine awp_skip ?_
  -- region 3
  repeat (refine awp_seq ?_)
  refine e_eval (by simp only [asq, as0, as1, as2, awanted, aop, abuiltin, aslice, abndO, abnd, ajust, LS, SS, SX, HS, mkS_cons, mkS_nil, ↓reduceIte, eq_self', List.map_nil, beq_self_eq_true, Nat.reduceEqDiff, Nat.reduceAdd, Nat.reduceMul, Nat.reduceLT, Nat.reduceLeDiff, Nat.reducePow, Nat.reduceDiv, Nat.reduceMod, Nat.succ_ne_self, Nat.reduceBEq, Nat.reduceBNe, Tryti3, Trytz3, Trytp3, Trytk3, Tryti59, Tryte59, Trytz59, Trytp59, Tryti71, Trytf71, Trytz71, Trytp71, vint, TyS, TyF, TBS, TBF, DcS, DcF, SvS, SvF, PfS, PfF, Option.toArray, List.append_nil, List.nil_append, hm, gk, Int.toNat_natCast, dcsz, htk, List.drop_zero, Bool.not_true, Bool.not_false, reduceCtorEq, and_false, if_false, ite_self] <;> with_reducible rfl) (by decide) ?_
  -- region 4
  repeat (refine awp_seq ?_)
  refine e_eval (by simp only [asq, as0, as1, as2, awanted, aop, abuiltin, LS, SS, SX, HS, mkS_cons, mkS_nil, ↓reduceIte, eq_self', List.map_nil, beq_self_eq_true, Nat.reduceEqDiff, Nat.reduceAdd, Nat.reduceMul, Nat.reduceLT, Nat.reduceLeDiff, Nat.reducePow, Nat.reduceDiv, Nat.reduceMod, Nat.succ_ne_self, Nat.reduceBEq, Nat.reduceBNe, Tryti59, Tryte59, Trytz59, Trytp59, Tryti71, Trytf71, Trytz71, Trytp71, vint, TyS, TyF, TBS, TBF, DcS, DcF, SvS, SvF, PfS, PfF, Option.toArray, List.append_nil, List.nil_append, hm, gk, Int.toNat_natCast, dcsz, htk, List.drop_zero, Bool.not_true, Bool.not_false, reduceCtorEq, and_false, if_false, ite_self] <;> with_reducible rfl) (by decide) ?_
  repeat (refine awp_seq ?_)
  refine awp_forS (σ := Unit) (es.length) (fun (s : Unit) => [(0, .slice (es.map Dc.enc) .none), (1, .slice (sas.map TB.enc) .none), (3, vint tr), (6, .optr 0 0), (22, .slice (es.map Dc.enc) .none)]) [0, 1, 3, 6, 22] ([]) (fun (s : Unit) => [.row t.enc.cells]) (fun (i : Nat) (s : Unit) => True) (()) ([]) rfl rfl rfl rfl rfl rfl rfl rfl rfl (by decide) (by decide) (by decide) (fun _ => rfl) (hl) ⟨(by first | rfl | (simp only [LS, SS, SX, HS, mkS_cons, mkS_nil, ↓reduceIte, eq_self', List.map_nil, beq_self_eq_true, Nat.reduceEqDiff, Nat.reduceAdd, Nat.succ_ne_self, vint, TyS, TyF, TBS, TBF, DcS, DcF, SvS, SvF, PfS, PfF, Option.toArray, List.append_nil, List.nil_append, hm, gk, Int.toNat_natCast, dcsz, htk, List.drop_zero, Bool.not_true, Bool.not_false, reduceCtorEq, and_false, if_false, ite_self] <;> first | done | with_reducible rfl)), (by first | rfl | (simp only [LS, SS, SX, HS, mkS_cons, mkS_nil, ↓reduceIte, eq_self', List.map_nil, beq_self_eq_true, Nat.reduceEqDiff, Nat.reduceAdd, Nat.succ_ne_self, vint, TyS, TyF, TBS, TBF, DcS, DcF, SvS, SvF, PfS, PfF, Option.toArray, List.append_nil, List.nil_append, hm, gk, Int.toNat_natCast, dcsz, htk, List.drop_zero, Bool.not_true, Bool.not_false, reduceCtorEq, and_false, if_false, ite_self] <;> first | done | with_reducible rfl)), (by first | rfl | (simp only [LS, SS, SX, HS, mkS_cons, mkS_nil, ↓reduceIte, eq_self', List.map_nil, beq_self_eq_true, Nat.reduceEqDiff, Nat.reduceAdd, Nat.succ_ne_self, vint, TyS, TyF, TBS, TBF, DcS, DcF, SvS, SvF, PfS, PfF, Option.toArray, List.append_nil, List.nil_append, hm, gk, Int.toNat_natCast, dcsz, htk, List.drop_zero, Bool.not_true, Bool.not_false, reduceCtorEq, and_false, if_false, ite_self] <;> first | done | with_reducible rfl)), (by first | rfl | (simp only [LS, SS, SX, HS, mkS_cons, mkS_nil, ↓reduceIte, eq_self', List.map_nil, beq_self_eq_true, Nat.reduceEqDiff, Nat.reduceAdd, Nat.succ_ne_self, vint, TyS, TyF, TBS, TBF, DcS, DcF, SvS, SvF, PfS, PfF, Option.toArray, List.append_nil, List.nil_append, hm, gk, Int.toNat_natCast, dcsz, htk, List.drop_zero, Bool.not_true, Bool.not_false, reduceCtorEq, and_false, if_false, ite_self] <;> first | done | with_reducible rfl)), (by first | rfl | (simp only [LS, SS, SX, HS, mkS_cons, mkS_nil, ↓reduceIte, eq_self', List.map_nil, beq_self_eq_true, Nat.reduceEqDiff, Nat.reduceAdd, Nat.succ_ne_self, vint, TyS, TyF, TBS, TBF, DcS, DcF, SvS, SvF, PfS, PfF, Option.toArray, List.append_nil, List.nil_append, hm, gk, Int.toNat_natCast, dcsz, htk, List.drop_zero, Bool.not_true, Bool.not_false, reduceCtorEq, and_false, if_false, ite_self] <;> first | done | with_reducible rfl)), (by first | rfl | (simp only [LS, SS, SX, HS, mkS_cons, mkS_nil, ↓reduceIte, eq_self', List.map_nil, beq_self_eq_true, Nat.reduceEqDiff, Nat.reduceAdd, Nat.succ_ne_self, vint, TyS, TyF, TBS, TBF, DcS, DcF, SvS, SvF, PfS, PfF, Option.toArray, List.append_nil, List.nil_append, hm, gk, Int.toNat_natCast, dcsz, htk, List.drop_zero, Bool.not_true, Bool.not_false, reduceCtorEq, and_false, if_false, ite_self] <;> first | done | with_reducible rfl)), (by first | rfl | (simp only [LS, SS, SX, HS, mkS_cons, mkS_nil, ↓reduceIte, eq_self', List.map_nil, beq_self_eq_true, Nat.reduceEqDiff, Nat.reduceAdd, Nat.succ_ne_self, vint, TyS, TyF, TBS, TBF, DcS, DcF, SvS, SvF, PfS, PfF, Option.toArray, List.append_nil, List.nil_append, hm, gk, Int.toNat_natCast, dcsz, htk, List.drop_zero, Bool.not_true, Bool.not_false, reduceCtorEq, and_false, if_false, ite_self] <;> first | done | with_reducible rfl)), trivial⟩ (by first | rfl | (simp only [LS, SS, SX, HS, mkS_cons, mkS_nil, ↓reduceIte, eq_self', List.map_nil, beq_self_eq_true, Nat.reduceEqDiff, Nat.reduceAdd, Nat.succ_ne_self, vint, TyS, TyF, TBS, TBF, DcS, DcF, SvS, SvF, PfS, PfF, Option.toArray, List.append_nil, List.nil_append, hm, gk, Int.toNat_natCast, dcsz, htk, List.drop_zero, Bool.not_true, Bool.not_false, reduceCtorEq, and_false, if_false, ite_self] <;> first | done | with_reducible rfl)) (by simp) (fun _ _ _ => by first | exact Nat.zero_le _ | (simp only [List.length_append]; omega)) ?_ ?_ ?_
  · exact fun i s hg => ⟨by simp only [TyS, PfS, DcS, List.nil_append, List.append_nil, List.cons_append]; repeat (first | exact hbel_nil _ | exact trivial | exact obel_row_nil _ | (refine HBel.cons ?_ ?_) | (refine obel_row_cons (by first | exact bel_TB _ _ | exact TB.bel _ _ | exact bel_Dc _ _ | exact Dc.bel _ _ | exact Pf.bel _ _ | exact bel_Pf _ _ | exact Sv.bel _ _ | exact bel_Pf_tok _ (by simp) | exact bel_ints0 _ _ | exact bel_slice_ty _ _ | exact Ty.bel _ _ | exact bel_ty_tok _ (by simp) | exact Bel.int _ _ | exact Bel.bool _ | exact Bel.str _ | exact Bel.nilp | exact Bel.nilfn | exact Bel.optr _ _ (by simp) | exact bel_nil0 _ | exact bel_nil1 _ | exact bel_fn0 _ _ | assumption) ?_)), by repeat (first | exact BelL.nil | refine BelL.cons (by first | exact bel_TB _ _ | exact TB.bel _ _ | exact bel_Dc _ _ | exact Dc.bel _ _ | exact Pf.bel _ _ | exact bel_Pf _ _ | exact Sv.bel _ _ | exact bel_Pf_tok _ (by simp) | exact bel_ints0 _ _ | exact bel_slice_ty _ _ | exact Ty.bel _ _ | exact bel_ty_tok _ (by simp) | exact Bel.int _ _ | exact Bel.bool _ | exact Bel.str _ | exact Bel.nilp | exact Bel.nilfn | exact Bel.optr _ _ (by simp) | exact bel_nil0 _ | exact bel_nil1 _ | exact bel_fn0 _ _ | assumption) ?_)⟩
  · intro i s hi hg
    have g1 := ix_nat hi
    have g2 := get_enc Dc.enc hi
    obtain ⟨d, hde⟩ : ∃ d, es[i] = d := ⟨_, rfl⟩
    rw [hde] at g2
    -- region 6
    repeat (refine awp_seq ?_)
    refine e_eval (by simp only [asq, as0, as1, as2, awanted, aop, aidxAddr, aidx, ajust, aload, astore, splice, LS, SS, SX, HS, mkS_cons, mkS_nil, ↓reduceIte, eq_self', List.map_nil, beq_self_eq_true, Nat.reduceEqDiff, Nat.reduceAdd, Nat.reduceMul, Nat.reduceLT, Nat.reduceLeDiff, Nat.reducePow, Nat.reduceDiv, Nat.reduceMod, Nat.succ_ne_self, Nat.reduceBEq, Nat.reduceBNe, Tryti59, Tryte59, Trytz59, Trytp59, Tryti71, Trytf71, Trytz71, Trytp71, vint, TyS, TyF, TBS, TBF, DcS, DcF, SvS, SvF, PfS, PfF, Option.toArray, List.append_nil, List.nil_append, hm, gk, Int.toNat_natCast, dcsz, htk, List.drop_zero, Bool.not_true, Bool.not_false, reduceCtorEq, and_false, if_false, ite_self, g1, g2] <;> with_reducible rfl) (by decide) ?_
    -- region 7
    repeat (refine awp_seq ?_)
    refine e_eval (by simp only [asq, as0, as1, as2, awanted, aop, afldAddr, ajust, aload, abuiltin, abin, LS, SS, SX, HS, mkS_cons, mkS_nil, ↓reduceIte, eq_self', List.map_nil, beq_self_eq_true, Nat.reduceEqDiff, Nat.reduceAdd, Nat.reduceMul, Nat.reduceLT, Nat.reduceLeDiff, Nat.reducePow, Nat.reduceDiv, Nat.reduceMod, Nat.succ_ne_self, Nat.reduceBEq, Nat.reduceBNe, Tryti3, Trytz3, Trytp3, Trytk3, Tryti60, Tryte60, Trytz60, Trytp60, Tryti71, Trytf71, Trytz71, Trytp71, Tryti74, Trytf74, Trytz74, Trytp74, vint, TyS, TyF, TBS, TBF, DcS, DcF, SvS, SvF, PfS, PfF, Option.toArray, List.append_nil, List.nil_append, hm, gk, Int.toNat_natCast, dcsz, htk, List.drop_zero, Bool.not_true, Bool.not_false, reduceCtorEq, and_false, if_false, ite_self, g1, g2] <;> with_reducible rfl) (by decide) ?_
    repeat (refine awp_seq ?_)
    refine awp_cond rfl (by simp only [LS, SS, SX, HS, mkS_cons, mkS_nil, ↓reduceIte, eq_self', List.map_nil, beq_self_eq_true, Nat.reduceEqDiff, Nat.reduceAdd, Nat.succ_ne_self, vint, TyS, TyF, TBS, TBF, DcS, DcF, SvS, SvF, PfS, PfF, Option.toArray, List.append_nil, List.nil_append, hm, gk, Int.toNat_natCast, dcsz, htk, List.drop_zero, Bool.not_true, Bool.not_false, reduceCtorEq, and_false, if_false, ite_self, g1, g2] <;> with_reducible rfl) (fun b1 => ?_) (fun b1 => ?_)
    · -- if t31
      -- region 8
      repeat (refine awp_seq ?_)
      refine e_eval (by simp only [asq, as0, as1, as2, awanted, aop, LS, SS, SX, HS, mkS_cons, mkS_nil, ↓reduceIte, eq_self', List.map_nil, beq_self_eq_true, Nat.reduceEqDiff, Nat.reduceAdd, Nat.reduceMul, Nat.reduceLT, Nat.reduceLeDiff, Nat.reducePow, Nat.reduceDiv, Nat.reduceMod, Nat.succ_ne_self, Nat.reduceBEq, Nat.reduceBNe, vint, TyS, TyF, TBS, TBF, DcS, DcF, SvS, SvF, PfS, PfF, Option.toArray, List.append_nil, List.nil_append, hm, gk, Int.toNat_natCast, dcsz, htk, List.drop_zero, Bool.not_true, Bool.not_false, reduceCtorEq, and_false, if_false, ite_self, g1, g2] <;> with_reducible rfl) (by decide) ?_
      repeat (refine awp_seq ?_)
      -- leaf 0 ret
      refine awp_ret ⟨.inr rfl, _, rfl, ?_⟩
      rfl
    · -- else t31
      repeat (refine awp_seq ?_)
      refine awp_skip ?_
      -- leaf 1 next0
      exact ⟨⟨rfl, rfl, trivial⟩, (), _, ⟨rfl, rfl, rfl, rfl, rfl, trivial⟩, by simp only [LS, SS, SX, HS, mkS_cons, mkS_nil, ↓reduceIte, eq_self', List.map_nil, beq_self_eq_true, Nat.reduceEqDiff, Nat.reduceAdd, Nat.succ_ne_self, vint, TyS, TyF, TBS, TBF, DcS, DcF, SvS, SvF, PfS, PfF] <;> rfl, trivial⟩
  · intro s hg
    -- region 10
    repeat (refine awp_seq ?_)
    refine awp_region ?_
    refine e_take 4 (by simp only [asq, as0, as1, as2, awanted, aop, aload, ajust, LS, SS, SX, HS, mkS_cons, mkS_nil, ↓reduceIte, eq_self', List.map_nil, beq_self_eq_true, Nat.reduceEqDiff, Nat.reduceAdd, Nat.reduceMul, Nat.reduceLT, Nat.reduceLeDiff, Nat.reducePow, Nat.reduceDiv, Nat.reduceMod, Nat.succ_ne_self, Nat.reduceBEq, Nat.reduceBNe, Tryti24, Trytf24, Trytz24, Trytp24, vint, TyS, TyF, TBS, TBF, DcS, DcF, SvS, SvF, PfS, PfF, Option.toArray, List.append_nil, List.nil_append, hm, gk, Int.toNat_natCast, dcsz, htk, List.drop_zero, Bool.not_true, Bool.not_false, reduceCtorEq, and_false, if_false, ite_self] <;> with_reducible rfl) (by decide) ?_
    refine aops_pure (by simp only [acall, awanted, LS, SS, SX, HS, mkS_cons, mkS_nil, ↓reduceIte, eq_self', List.map_nil, beq_self_eq_true, Nat.reduceEqDiff, Nat.reduceAdd, Nat.reduceMul, Nat.reduceLT, Nat.reduceLeDiff, Nat.reducePow, Nat.reduceDiv, Nat.reduceMod, Nat.succ_ne_self, Nat.reduceBEq, Nat.reduceBNe, vint, TyS, TyF, TBS, TBF, DcS, DcF, SvS, SvF, PfS, PfF, Option.toArray, List.append_nil, List.nil_append, hm, gk, Int.toNat_natCast, dcsz, htk, List.drop_zero, Bool.not_true, Bool.not_false, reduceCtorEq, and_false, if_false, ite_self] <;> with_reducible rfl) (by simp only [acall, awanted, LS, SS, SX, HS, mkS_cons, mkS_nil, ↓reduceIte, eq_self', List.map_nil, beq_self_eq_true, Nat.reduceEqDiff, Nat.reduceAdd, Nat.reduceMul, Nat.reduceLT, Nat.reduceLeDiff, Nat.reducePow, Nat.reduceDiv, Nat.reduceMod, Nat.succ_ne_self, Nat.reduceBEq, Nat.reduceBNe, vint, TyS, TyF, TBS, TBF, DcS, DcF, SvS, SvF, PfS, PfF, Option.toArray, List.append_nil, List.nil_append, hm, gk, Int.toNat_natCast, dcsz, htk, List.drop_zero, Bool.not_true, Bool.not_false, reduceCtorEq, and_false, if_false, ite_self]) (by decide) Trygo46 (solve_c es sas t tr hl hd hsl hs ht _) ?_
    refine e_end (by simp only [asq, as0, as1, as2, awanted, aop, ajust, astore, splice, LS, SS, SX, HS, mkS_cons, mkS_nil, ↓reduceIte, eq_self', List.map_nil, beq_self_eq_true, Nat.reduceEqDiff, Nat.reduceAdd, Nat.reduceMul, Nat.reduceLT, Nat.reduceLeDiff, Nat.reducePow, Nat.reduceDiv, Nat.reduceMod, Nat.succ_ne_self, Nat.reduceBEq, Nat.reduceBNe, Tryti63, Trytf63, Trytz63, Trytp63, vint, TyS, TyF, TBS, TBF, DcS, DcF, SvS, SvF, PfS, PfF, Option.toArray, List.append_nil, List.nil_append, hm, gk, Int.toNat_natCast, dcsz, htk, List.drop_zero, Bool.not_true, Bool.not_false, reduceCtorEq, and_false, if_false, ite_self] <;> with_reducible rfl) (by decide) ?_
    -- region 11
    repeat (refine awp_seq ?_)
    refine awp_region ?_
    refine e_take 4 (by simp only [asq, as0, as1, as2, awanted, aop, aload, ajust, LS, SS, SX, HS, mkS_cons, mkS_nil, ↓reduceIte, eq_self', List.map_nil, beq_self_eq_true, Nat.reduceEqDiff, Nat.reduceAdd, Nat.reduceMul, Nat.reduceLT, Nat.reduceLeDiff, Nat.reducePow, Nat.reduceDiv, Nat.reduceMod, Nat.succ_ne_self, Nat.reduceBEq, Nat.reduceBNe, Tryti24, Trytf24, Trytz24, Trytp24, vint, TyS, TyF, TBS, TBF, DcS, DcF, SvS, SvF, PfS, PfF, Option.toArray, List.append_nil, List.nil_append, hm, gk, Int.toNat_natCast, dcsz, htk, List.drop_zero, Bool.not_true, Bool.not_false, reduceCtorEq, and_false, if_false, ite_self] <;> with_reducible rfl) (by decide) ?_
    refine aops_pure (by simp only [acall, awanted, LS, SS, SX, HS, mkS_cons, mkS_nil, ↓reduceIte, eq_self', List.map_nil, beq_self_eq_true, Nat.reduceEqDiff, Nat.reduceAdd, Nat.reduceMul, Nat.reduceLT, Nat.reduceLeDiff, Nat.reducePow, Nat.reduceDiv, Nat.reduceMod, Nat.succ_ne_self, Nat.reduceBEq, Nat.reduceBNe, vint, TyS, TyF, TBS, TBF, DcS, DcF, SvS, SvF, PfS, PfF, Option.toArray, List.append_nil, List.nil_append, hm, gk, Int.toNat_natCast, dcsz, htk, List.drop_zero, Bool.not_true, Bool.not_false, reduceCtorEq, and_false, if_false, ite_self] <;> with_reducible rfl) (by simp only [acall, awanted, LS, SS, SX, HS, mkS_cons, mkS_nil, ↓reduceIte, eq_self', List.map_nil, beq_self_eq_true, Nat.reduceEqDiff, Nat.reduceAdd, Nat.reduceMul, Nat.reduceLT, Nat.reduceLeDiff, Nat.reducePow, Nat.reduceDiv, Nat.reduceMod, Nat.succ_ne_self, Nat.reduceBEq, Nat.reduceBNe, vint, TyS, TyF, TBS, TBF, DcS, DcF, SvS, SvF, PfS, PfF, Option.toArray, List.append_nil, List.nil_append, hm, gk, Int.toNat_natCast, dcsz, htk, List.drop_zero, Bool.not_true, Bool.not_false, reduceCtorEq, and_false, if_false, ite_self]) (by decide) Trygo50 (search_8 es sas hl hdr hsl hs t tr ht _) ?_
    refine e_end (by simp only [asq, as0, as1, as2, awanted, aop, ajust, astore, splice, LS, SS, SX, HS, mkS_cons, mkS_nil, ↓reduceIte, eq_self', List.map_nil, beq_self_eq_true, Nat.reduceEqDiff, Nat.reduceAdd, Nat.reduceMul, Nat.reduceLT, Nat.reduceLeDiff, Nat.reducePow, Nat.reduceDiv, Nat.reduceMod, Nat.succ_ne_self, Nat.reduceBEq, Nat.reduceBNe, Tryti63, Trytf63, Trytz63, Trytp63, vint, TyS, TyF, TBS, TBF, DcS, DcF, SvS, SvF, PfS, PfF, Option.toArray, List.append_nil, List.nil_append, hm, gk, Int.toNat_natCast, dcsz, htk, List.drop_zero, Bool.not_true, Bool.not_false, reduceCtorEq, and_false, if_false, ite_self] <;> with_reducible rfl) (by decide) ?_
    refine awp_sel [11, 12, 13, 14] (by simp only [LS, SS, SX, HS, mkS_cons, mkS_nil, ↓reduceIte, eq_self', List.map_nil, beq_self_eq_true, Nat.reduceEqDiff, Nat.reduceAdd, Nat.succ_ne_self, vint, TyS, TyF, TBS, TBF, DcS, DcF, SvS, SvF, PfS, PfF, Option.toArray, List.append_nil, List.nil_append, hm, gk, Int.toNat_natCast, dcsz, htk, List.drop_zero, Bool.not_true, Bool.not_false, reduceCtorEq, and_false, if_false, ite_self] <;> with_reducible rfl) ?_
    -- region 12
    repeat (refine awp_seq ?_)
    refine awp_region ?_
    refine aops_gstart ?_
    refine g_take 6 (by simp only [gsq, gs0, gs1, gs2, gcond, gop, SG, Op.operands, Call.operands, Array.toList_append, aop, abin, ajust, aload, LS, SS, SX, HS, mkS_cons, mkS_nil, ↓reduceIte, eq_self', List.map_nil, beq_self_eq_true, Nat.reduceEqDiff, Nat.reduceAdd, Nat.reduceMul, Nat.reduceLT, Nat.reduceLeDiff, Nat.reducePow, Nat.reduceDiv, Nat.reduceMod, Nat.succ_ne_self, Nat.reduceBEq, Nat.reduceBNe, Tryti4, Trytz4, Trytp4, Trytb4, Tryti63, Trytf63, Trytz63, Trytp63, vint, TyS, TyF, TBS, TBF, DcS, DcF, SvS, SvF, PfS, PfF, Option.toArray, List.append_nil, List.nil_append, hm, gk, Int.toNat_natCast, dcsz, htk, List.drop_zero, Bool.not_true, Bool.not_false, reduceCtorEq, and_false, if_false, ite_self] <;> with_reducible rfl) (by decide) ?_
    refine aops_gpure (by simp only [acall, gcond, SG, Op.operands, Call.operands, Array.toList_append, LS, SS, SX, HS, mkS_cons, mkS_nil, ↓reduceIte, eq_self', List.map_nil, beq_self_eq_true, Nat.reduceEqDiff, Nat.reduceAdd, Nat.reduceMul, Nat.reduceLT, Nat.reduceLeDiff, Nat.reducePow, Nat.reduceDiv, Nat.reduceMod, Nat.succ_ne_self, Nat.reduceBEq, Nat.reduceBNe, vint, TyS, TyF, TBS, TBF, DcS, DcF, SvS, SvF, PfS, PfF, Option.toArray, List.append_nil, List.nil_append, hm, gk, Int.toNat_natCast, dcsz, htk, List.drop_zero, Bool.not_true, Bool.not_false, reduceCtorEq, and_false, if_false, ite_self] <;> with_reducible rfl) (by simp only [acall, gcond, SG, Op.operands, Call.operands, Array.toList_append, LS, SS, SX, HS, mkS_cons, mkS_nil, ↓reduceIte, eq_self', List.map_nil, beq_self_eq_true, Nat.reduceEqDiff, Nat.reduceAdd, Nat.reduceMul, Nat.reduceLT, Nat.reduceLeDiff, Nat.reducePow, Nat.reduceDiv, Nat.reduceMod, Nat.succ_ne_self, Nat.reduceBEq, Nat.reduceBNe, vint, TyS, TyF, TBS, TBF, DcS, DcF, SvS, SvF, PfS, PfF, Option.toArray, List.append_nil, List.nil_append, hm, gk, Int.toNat_natCast, dcsz, htk, List.drop_zero, Bool.not_true, Bool.not_false, reduceCtorEq, and_false, if_false, ite_self] <;> with_reducible rfl) (by simp only [acall, gcond, SG, Op.operands, Call.operands, Array.toList_append, LS, SS, SX, HS, mkS_cons, mkS_nil, ↓reduceIte, eq_self', List.map_nil, beq_self_eq_true, Nat.reduceEqDiff, Nat.reduceAdd, Nat.reduceMul, Nat.reduceLT, Nat.reduceLeDiff, Nat.reducePow, Nat.reduceDiv, Nat.reduceMod, Nat.succ_ne_self, Nat.reduceBEq, Nat.reduceBNe, vint, TyS, TyF, TBS, TBF, DcS, DcF, SvS, SvF, PfS, PfF, Option.toArray, List.append_nil, List.nil_append, hm, gk, Int.toNat_natCast, dcsz, htk, List.drop_zero, Bool.not_true, Bool.not_false, reduceCtorEq, and_false, if_false, ite_self]) (by decide) Trygo47 (fun hc => proofs_self _ (solveT es sas 8 t tr).1 (Nat.le_refl _) hpw _) ?_
    refine g_end (by simp only [gsq, gs0, gs1, gs2, gcond, gop, SG, Op.operands, Call.operands, Array.toList_append, aop, LS, SS, SX, HS, mkS_cons, mkS_nil, ↓reduceIte, eq_self', List.map_nil, beq_self_eq_true, Nat.reduceEqDiff, Nat.reduceAdd, Nat.reduceMul, Nat.reduceLT, Nat.reduceLeDiff, Nat.reducePow, Nat.reduceDiv, Nat.reduceMod, Nat.succ_ne_self, Nat.reduceBEq, Nat.reduceBNe, vint, TyS, TyF, TBS, TBF, DcS, DcF, SvS, SvF, PfS, PfF, Option.toArray, List.append_nil, List.nil_append, hm, gk, Int.toNat_natCast, dcsz, htk, List.drop_zero, Bool.not_true, Bool.not_false, reduceCtorEq, and_false, if_false, ite_self] <;> with_reducible rfl) (by decide) (by repeat (first | exact Fin.base _ | with_reducible apply Fin.keep | apply Fin.drop)) ?_
    repeat (refine awp_seq ?_)
    -- leaf 2 ret
    refine awp_ret ⟨.inr rfl, _, rfl, ?_⟩
    simp only [LS, SS, SX, HS, mkS_cons, mkS_nil, ↓reduceIte, eq_self', List.map_nil, beq_self_eq_true, Nat.reduceEqDiff, Nat.reduceAdd, Nat.succ_ne_self, vint, TyS, TyF, TBS, TBF, DcS, DcF, SvS, SvF, PfS, PfF]

end Go.Abs
set_option linter.unusedVariables false
set_option linter.unusedSimpArgs false
namespace Go.Abs

/-! From a reading of the arguments to the trees, and back. -/

/-- A world as it is handed to a call: all that lies in it stays. -/
def env0 (W : World) : Env := { w := W, κ := fun _ => .fixed, ρ := fun _ => 0, tb := fun _ => none, H := [] }
theorem env0_ok (W : World) : (env0 W).Ok := by
  constructor
  · intro id cs h; simp [env0] at h
  · intro id n sz b h; simp [env0] at h
  · intro id id' cs cs' h; simp [env0] at h
  · intro id id' n sz n' sz' b h; simp [env0] at h
theorem env0_cell (W : World) (a : Addr) : (env0 W).view.cell a = W.cell? a := rfl

theorem calls_of_pc {P : Program} {f : FuncId} {args : List PV} {b : Bool} (h : PC P f args (.bool b)) (W : World) (vargs : Array Value) (hr : RL (env0 W).view vargs args) :
    Calls P f vargs W fun e w' => e = .returned (.bool b) ∧ Go.RowKit.Below W.heap.size W w' := by
  refine (h [] (env0 W) vargs (env0_ok W) rfl hr).mono ?_
  rintro e w' ⟨E', v, r, rfl, rfl, hle, hok, hv, rfl, _⟩
  refine ⟨by rw [hv.bool_inv], hle.os, hle.tape, hle.output, hle.size, fun k hk => (hle.other k hk ?_ ?_).2⟩
  · rintro ⟨id, cs, h, _⟩; simp [env0] at h
  · rintro ⟨id, n, sz, h, _⟩; simp [env0] at h

def RLl (V : View) (cs : List Value) (ps : List PV) : Prop := cs.length = ps.length ∧ ∀ i (h : i < ps.length), VRel V (cs.getD i undef) ps[i]

theorem RLl.nil {V : View} : RLl V [] [] := ⟨rfl, fun i h => by cases h⟩
theorem RLl.cons {V : View} {c : Value} {cs : List Value} {p : PV} {ps : List PV} (h : VRel V c p) (hs : RLl V cs ps) : RLl V (c :: cs) (p :: ps) := by
  refine ⟨by simp [hs.1], fun i hi => ?_⟩
  cases i with
  | zero => exact h
  | succ i => exact hs.2 i (by simpa using hi)
theorem RLl.app {V : View} {c1 c2 : List Value} {p1 p2 : List PV} (h1 : RLl V c1 p1) (h2 : RLl V c2 p2) : RLl V (c1 ++ c2) (p1 ++ p2) := by
  refine ⟨by simp [h1.1, h2.1], fun i hi => ?_⟩
  by_cases h : i < p1.length
  · have := h1.2 i h
    simp only [List.getD_eq_getElem?_getD] at this ⊢
    rw [List.getElem?_append_left (by rw [h1.1]; exact h), List.getElem_append_left h]; exact this
  · have := h2.2 (i - p1.length) (by simp at hi; omega)
    simp only [List.getD_eq_getElem?_getD] at this ⊢
    rw [List.getElem?_append_right (by rw [h1.1]; omega), List.getElem_append_right (by omega), h1.1]; exact this
theorem RLl.agg {V : View} {arr : Array Value} {ps : List PV} (h : RLl V arr.toList ps) : VRel V (.agg arr) (.agg ps) := by
  refine .agg _ _ (by have := h.1; simpa using this) fun i hi => ?_
  have := h.2 i hi
  rw [List.getD_eq_getElem?_getD, Array.getElem?_toList] at this
  rw [Array.getD_eq_getD_getElem?]; exact this
theorem RLl.one {V : View} {v : Value} {p : PV} (h : RLl V [v] [p]) : VRel V v p := h.2 0 (by simp)

theorem exists_list {α : Type} {n : Nat} {p : Nat → α → Prop} (h : ∀ i, i < n → ∃ a, p i a) : ∃ xs : List α, xs.length = n ∧ ∀ i (hi : i < xs.length), p i xs[i] := by
  induction n with
  | zero => exact ⟨[], rfl, fun i hi => by cases hi⟩
  | succ n ih =>
    obtain ⟨xs, h1, h2⟩ := ih fun i hi => h i (by omega)
    obtain ⟨a, ha⟩ := h n (by omega)
    refine ⟨xs ++ [a], by simp [h1], fun i hi => ?_⟩
    by_cases hlt : i < xs.length
    · rw [List.getElem_append_left hlt]; exact h2 i hlt
    · rw [List.getElem_append_right (by omega)]
      simp at hi
      obtain rfl : i = n := by omega
      simpa using ha

/-- A list and the data of a slice. -/
def SlD {α : Type} {H : Type} (D : α → DataW H → Prop) (xs : List α) (d : DataW H) : Prop :=
  (xs = [] ∧ d = .nil) ∨ ∃ els sp, d = .slice els sp ∧ xs.length = els.length ∧ ∀ i (h1 : i < xs.length) (h2 : i < els.length), D xs[i] els[i]

section
variable {H : Type} {enc : TypeId × Value → H} {P : Program} {W : World} {spare : Nat → Bool} {held : Bool}

theorem rd_slice {α : Type} (en : α → PV) (D : α → DataW H → Prop) {t e : TypeId} {fuel : Nat} {cs : List Value} {x : DataW H × List MemPlace} (ht : P.underlying t = some (.slice e)) (hsz : ∀ a, (en a).cells.length = P.cellsOf e)
    (h : DataW.trod enc P W 0 spare held fuel t cs = some x) (ih : ∀ n cs' x', n < fuel → DataW.trod enc P W 0 spare held n e cs' = some x' → ∃ a, RLl (env0 W).view cs' (en a).cells ∧ D a x'.1) :
    ∃ (xs : List α) (v : Value), cs = [v] ∧ VRel (env0 W).view v (.slice (xs.map en) .none) ∧ SlD D xs x.1 := by
  rcases DataW.trod_slice ht h with ⟨rfl, rfl⟩ | ⟨a, len, cap, elems, rest, n, rfl, rfl, rfl, hb, hl, hm, hlen, hel, _, _⟩
  · exact ⟨[], _, rfl, .nils .none trivial, .inl ⟨rfl, rfl⟩⟩
  · obtain ⟨ys, hys, hp⟩ := exists_list (α := α × List Value) (n := len) (p := fun i y => W.cells? 0 (a.add (i * P.cellsOf e)) (P.cellsOf e) = some y.2 ∧ RLl (env0 W).view y.2 (en y.1).cells ∧ ∀ h : i < elems.length, D y.1 elems[i].1) (fun i hi => by
      have := hel i hi
      rw [List.getElem?_eq_getElem (by omega)] at this
      obtain ⟨cs', h1, h2⟩ := Option.bind_eq_some_iff.1 this
      obtain ⟨y, h3, h4⟩ := ih n cs' _ (by omega) h2
      exact ⟨(y, cs'), h1, h3, fun _ => h4⟩)
    refine ⟨ys.map (·.1), _, rfl, ?_, .inr ⟨_, _, rfl, by simp [hys, hlen], fun i h1 h2 => ?_⟩⟩
    · have hget : ∀ i (hi : i < ys.length), ys[i]? = some ys[i] := fun i hi => List.getElem?_eq_getElem hi
      refine .slice a len cap (P.cellsOf e) _ .none (fun i j => match ys[i]? with | some y => y.2.getD j undef | none => undef) (by simp [hys]) hl hm ?_ ?_ ?_ trivial
      · intro i hi; simp only [List.getElem_map]; exact hsz _
      · intro i j hi hj
        have hi' : i < ys.length := by omega
        obtain ⟨h1, h2, _⟩ := hp i hi'
        obtain ⟨_, h4, h5⟩ := World.cells?_some h1
        have := h5 j hj
        rw [hget i hi']
        simp only
        rw [env0_cell, ← add_add, this, List.getD_eq_getElem?_getD, List.getElem?_eq_getElem (by omega)]; rfl
      · intro i j hi hj
        have hi' : i < ys.length := by simpa using hi
        simp only [List.getElem_map] at hj ⊢
        rw [hget i hi']
        exact (hp i hi').2.1.2 j hj
    · simp only [List.getElem_map]
      exact (hp i (by simpa using h1)).2.2 _

/-- The field of a structure. -/
theorem rd_fields {t : TypeId} {fs : Array Field} {fuel : Nat} {cs : List Value} {x : DataW H × List MemPlace} (ht : P.underlying t = some (.struct fs)) (h : DataW.trod enc P W 0 spare held fuel t cs = some x) :
    ∃ (ds : List (DataW H)) (n : Nat), fuel = n + 1 ∧ x.1 = .agg ds ∧ cs.length = P.cellsOf t ∧ ds.length = fs.size ∧ ∀ (i : Nat) (f : Field), fs[i]? = some f → ∃ d ps, ds[i]? = some d ∧ DataW.trod enc P W 0 spare held n f.type ((cs.drop f.offset).take (P.cellsOf f.type)) = some (d, ps) := by
  obtain ⟨xs, n, h1, rfl, h3, h4, h5⟩ := DataW.trod_struct ht h
  refine ⟨xs.map (·.1), n, h1, rfl, h3, by simpa using h4, fun i f hf => ?_⟩
  have hi : i < xs.length := by
    rw [h4]
    rcases Nat.lt_or_ge i fs.size with hl | hl
    · exact hl
    · rw [Array.getElem?_eq_none hl] at hf; cases hf
  have := h5 i f hf
  rw [List.getElem?_eq_getElem hi] at this
  exact ⟨xs[i].1, xs[i].2, by simp [hi], this⟩

theorem rd_int {t : TypeId} {k : IntKind} {fuel : Nat} {cs : List Value} {x : DataW H × List MemPlace} (ht : P.underlying t = some (.int k)) (h : DataW.trod enc P W 0 spare held fuel t cs = some x) : ∃ n, RLl (env0 W).view cs [.int k n] ∧ x.1 = .lit (.int k n) ∧ (Lit.int k n).wf = true ∧ cs = [.int k n] := by
  obtain ⟨n, rfl, rfl, h3⟩ := DataW.trod_int ht h
  exact ⟨n, .cons (.int _ _) .nil, rfl, h3, rfl⟩
theorem rd_bool {t : TypeId} {fuel : Nat} {cs : List Value} {x : DataW H × List MemPlace} (ht : P.underlying t = some .bool) (h : DataW.trod enc P W 0 spare held fuel t cs = some x) : ∃ b, RLl (env0 W).view cs [.bool b] ∧ x.1 = .lit (.bool b) := by
  obtain ⟨n, rfl, rfl⟩ := DataW.trod_bool ht h
  exact ⟨n, .cons (.bool _) .nil, rfl⟩
theorem rd_string {t : TypeId} {fuel : Nat} {cs : List Value} {x : DataW H × List MemPlace} (ht : P.underlying t = some .string) (h : DataW.trod enc P W 0 spare held fuel t cs = some x) : ∃ s : List UInt8, RLl (env0 W).view cs [.str s] ∧ x.1 = .lit (.string s) ∧ s.length ≤ maxLen := by
  obtain ⟨s, rfl, rfl, h3⟩ := DataW.trod_string ht h
  exact ⟨s.data.toList, .cons (.str _) .nil, rfl, by simpa using h3⟩
end

/-- The data of a type. -/
inductive TyD {H : Type} : Ty → DataW H → Prop
  | nil (k i : Int) : TyD (.mk k i []) (.agg [.lit (.int .i64 k), .lit (.int .i64 i), .nil])
  | slice (k i : Int) (xs : List Ty) (es sp : List (DataW H)) (hl : xs.length = es.length) (h : ∀ j (h1 : j < xs.length) (h2 : j < es.length), TyD xs[j] es[j]) : TyD (.mk k i xs) (.agg [.lit (.int .i64 k), .lit (.int .i64 i), .slice es sp])
theorem TyD.of {H : Type} {k i : Int} {xs : List Ty} {d : DataW H} (h : SlD TyD xs d) : TyD (.mk k i xs) (.agg [.lit (.int .i64 k), .lit (.int .i64 i), d]) := by
  rcases h with ⟨rfl, rfl⟩ | ⟨es, sp, rfl, h1, h2⟩
  · exact .nil k i
  · exact .slice k i xs es sp h1 h2

/-- The facts on a program's type 'api.Type' that a reading looks at. -/
structure TyAt (P : Program) (T S : TypeId) : Prop where
  st : ∃ f0 f1 f2 : Field, P.underlying T = some (.struct #[f0, f1, f2]) ∧ P.underlying f0.type = some (.int .i64) ∧ P.underlying f1.type = some (.int .i64) ∧ f2.type = S ∧ f0.offset = 0 ∧ f1.offset = 1 ∧ f2.offset = 2 ∧ P.cellsOf f0.type = 1 ∧ P.cellsOf f1.type = 1
  sl : P.underlying S = some (.slice T)
  c : P.cellsOf T = 3
  cs : P.cellsOf S = 1
  by40 : P.bytesOf T = 40

section
variable {H : Type} {enc : TypeId × Value → H} {P : Program} {W : World} {spare : Nat → Bool} {held : Bool} {T S : TypeId}

theorem rd_ty (F : TyAt P T S) : ∀ (fuel : Nat) (cs : List Value) (x : DataW H × List MemPlace), DataW.trod enc P W 0 spare held fuel T cs = some x → ∃ t : Ty, RLl (env0 W).view cs t.enc.cells ∧ TyD t x.1 := by
  intro fuel
  induction fuel using Nat.strongRecOn with
  | _ fuel ih =>
  intro cs x h
  obtain ⟨f0, f1, f2, hst, u0, u1, e2, o0, o1, o2, c0, c1⟩ := F.st
  obtain ⟨ds, n, rfl, hx, hlen, hdl, hf⟩ := rd_fields hst h
  rw [F.c] at hlen
  match cs, hlen with
  | [v0, v1, v2], _ =>
  obtain ⟨d0, p0, g0, r0⟩ := hf 0 f0 rfl
  obtain ⟨d1, p1, g1, r1⟩ := hf 1 f1 rfl
  obtain ⟨d2, p2, g2, r2⟩ := hf 2 f2 rfl
  rw [o0, c0] at r0
  rw [o1, c1] at r1
  rw [o2, e2, F.cs] at r2
  obtain ⟨k, q0, rfl, w0, _⟩ := rd_int u0 r0
  obtain ⟨i, q1, rfl, w1, _⟩ := rd_int u1 r1
  obtain ⟨xs, v, hv, hr, hd⟩ := rd_slice Ty.enc TyD F.sl (fun a => by rw [F.c, Ty.enc_len]) r2 (fun m cs' x' hm h' => ih m (by omega) cs' x' h')
  simp only [List.drop_succ_cons, List.drop_zero, List.take_succ_cons, List.take_zero, List.cons.injEq, and_true] at hv
  subst hv
  refine ⟨.mk k i xs, ?_, ?_⟩
  · rw [Ty.enc_cells]
    exact .cons q0.one (.cons q1.one (.cons hr .nil))
  · rw [hx]
    have : ds = [.lit (.int .i64 k), .lit (.int .i64 i), d2] := by
      match ds, hdl with
      | [a, b, c], _ =>
        simp at g0 g1 g2
        rw [g0, g1, g2]
    rw [this]
    exact .of hd

/-- No list of arguments is longer than the row's own bound bears. -/
theorem ty_weights (F : TyAt P T S) {t : Ty} {d : DataW H} (h : TyD t d) (hw : (d.weights P T).all (· ≤ reachBytes) = true) : t.W := by
  obtain ⟨f0, f1, f2, hst, u0, u1, e2, _⟩ := F.st
  induction h with
  | nil k i => exact .mk (by simp) (by simp)
  | slice k i xs es sp hl h ih =>
    simp only [DataW.weights, hst, DataW.weightsEach, List.map_cons, List.map_nil, e2, F.sl, F.by40, List.nil_append, List.append_nil, List.all_cons, List.all_append, Bool.and_eq_true, decide_eq_true_eq] at hw
    have hb : reachBytes = 140737488351232 := rfl
    refine .mk (by rw [hl]; have := hw.1; omega) fun u hu => ?_
    obtain ⟨j, hj, rfl⟩ := List.mem_iff_getElem.1 hu
    refine ih j hj (by omega) ?_
    have h2 := hw.2.1
    rw [List.all_eq_true] at h2 ⊢
    intro x hx
    refine h2 x ?_
    have hmem : ∀ (l : List (DataW H)) (e : DataW H), e ∈ l → x ∈ e.weights P T → x ∈ DataW.weightsAll P T l := by
      intro l
      induction l with
      | nil => intro e he; cases he
      | cons a l ihl =>
        intro e he hx
        simp only [DataW.weightsAll, List.mem_append]
        rcases List.mem_cons.1 he with rfl | he
        · exact .inl hx
        · exact .inr (ihl e he hx)
    exact hmem es _ (List.getElem_mem _) hx

theorem weights_mem {l : List (DataW H)} {e : TypeId} {d : DataW H} (hd : d ∈ l) (h : (DataW.weightsAll P e l).all (· ≤ reachBytes) = true) : (d.weights P e).all (· ≤ reachBytes) = true := by
  rw [List.all_eq_true] at h ⊢
  intro x hx
  refine h x ?_
  clear h
  induction l with
  | nil => cases hd
  | cons a l ih =>
    simp only [DataW.weightsAll, List.mem_append]
    rcases List.mem_cons.1 hd with rfl | hd
    · exact .inl hx
    · exact .inr (ih hd)

/-- A slice's elements and its length. -/
theorem sl_weights {α : Type} {D : α → DataW H → Prop} {Sl E : TypeId} (hs : P.underlying Sl = some (.slice E)) {xs : List α} {d : DataW H} (h : SlD D xs d) (hw : (d.weights P Sl).all (· ≤ reachBytes) = true) :
    xs.length * P.bytesOf E ≤ reachBytes ∧ ∀ a ∈ xs, ∃ d', D a d' ∧ (d'.weights P E).all (· ≤ reachBytes) = true := by
  rcases h with ⟨rfl, rfl⟩ | ⟨els, sp, rfl, h1, h2⟩
  · simp
  · simp only [DataW.weights, hs, List.all_cons, List.all_append, Bool.and_eq_true, decide_eq_true_eq] at hw
    refine ⟨?_, fun a ha => ?_⟩
    · rw [h1]
      refine Nat.le_trans (Nat.mul_le_mul_right _ (Nat.le_add_right _ _)) hw.1
    · obtain ⟨j, hj, rfl⟩ := List.mem_iff_getElem.1 ha
      exact ⟨_, h2 j hj (by omega), weights_mem (List.getElem_mem _) hw.2.1⟩
end
end Go.Abs
namespace Go.Abs
theorem RLl.rl {V : View} {arr : Array Value} {ps : List PV} (h : RLl V arr.toList ps) : RL V arr ps := by
  refine ⟨by have := h.1; simpa using this, fun i hi => ?_⟩
  have := h.2 i hi
  rw [List.getD_eq_getElem?_getD, Array.getElem?_toList] at this
  rw [Array.getD_eq_getD_getElem?]; exact this
theorem Ty.enc_agg (t : Ty) : PV.agg t.enc.cells = t.enc := by rw [Ty.enc_cells, Ty.enc_eq]
end Go.Abs
set_option linter.unusedVariables false
namespace Go.Abs
/-! The chapter 'types': bindings, sizes, variables. -/
structure Bd where
  v : Int
  t : Ty
def Bd.enc (b : Bd) : PV := .agg [.int .i64 b.v, .int .i64 b.t.kind, .int .i64 b.t.id, .slice (b.t.args.map Ty.enc) .none]
theorem Bd.enc_len (b : Bd) : b.enc.cells.length = 4 := rfl
theorem Bd.bel (n : Nat) (b : Bd) : Bel n b.enc := .agg _ (by
  intro c hc
  simp at hc
  rcases hc with rfl | rfl | rfl | rfl
  · exact .int _ _
  · exact .int _ _
  · exact .int _ _
  · exact bel_slice_ty _ _)
theorem bel_Bd (n : Nat) (us : List Bd) : Bel n (.slice (us.map Bd.enc) .none) := .slice _ _ (fun e he c hc => by
  obtain ⟨b, _, rfl⟩ := List.mem_map.1 he
  have := Bd.bel n b
  unfold Bd.enc at this hc
  cases this with | agg _ h => exact h c hc) (by simp)
/-- Rules for bindings. -/
theorem BdS : (∀ b : Bd, b.enc.cells = [.int .i64 b.v, .int .i64 b.t.kind, .int .i64 b.t.id, .slice (b.t.args.map Ty.enc) .none]) ∧ (∀ b : Bd, b.enc.isJunk = false) ∧ (∀ b : Bd, b.enc.drop1 = b.enc) ∧ (∀ (b : Bd) (n : Nat), b.enc.fits ⟨true, 4, n⟩ = true) ∧
    (∀ (v : Int) (t : Ty), PV.agg [.int .i64 v, .int .i64 t.kind, .int .i64 t.id, .slice (t.args.map Ty.enc) .none] = (Bd.mk v t).enc) ∧ (∀ (v : Int) (t : Ty), (Bd.mk v t).v = v) ∧ (∀ (v : Int) (t : Ty), (Bd.mk v t).t = t) ∧ (∀ b : Bd, Bd.mk b.v b.t = b) ∧
    (∀ (v k i : Int), PV.agg [.int .i64 v, .int .i64 k, .int .i64 i, .slice [] .none] = (Bd.mk v (Ty.mk k i [])).enc) :=
  ⟨fun _ => rfl, fun _ => rfl, fun _ => rfl, fun _ _ => rfl, fun _ _ => rfl, fun _ _ => rfl, fun _ _ => rfl, fun _ => rfl, fun _ _ _ => rfl⟩

def subG (s : List Bd) (u : Ty) : Ty × Bool :=
  if (!decide (u.kind = 1)) = true then (u, false)
  else if decide (idxI (fun b : Bd => decide (b.v = u.id)) s < 0) = true then (u, false)
  else ((s.getD (idxI (fun b : Bd => decide (b.v = u.id)) s).toNat ⟨0, .mk 0 0 []⟩).t, true)

theorem sub_W {s : List Bd} (hs : ∀ b ∈ s, b.t.W) {t : Ty} (ht : t.W) : (mapT (subG s) t).W :=
  mapT_W (fun u hu => by
    unfold subG at hu ⊢
    split at hu
    · cases hu
    · rename_i h1
      split at hu
      · cases hu
      · rename_i h2
        rw [if_neg h1, if_neg h2]
        simp only
        rw [List.getD_eq_getElem?_getD]
        cases hq : s[(idxI (fun b : Bd => decide (b.v = u.id)) s).toNat]? with
        | none => exact .mk (by simp) (by simp)
        | some a => exact hs a (List.mem_of_getElem? hq)) t ht

/-- Sizes and depths as 'measure' counts them. -/
def measL : List (Int → Int × Int) → Int → Int × Int → Int × Int
  | [], _, s => s
  | f :: fs, L, s => if decide (s.1 > L) = true then s else measL fs L (s.1 + (f (L - s.1)).1, max s.2 (f (L - s.1)).2)
def measT : Ty → Int → Int × Int
  | .mk _ _ us, L => ((measL (us.map fun u L => measT u L) L (1, 0)).1, (measL (us.map fun u L => measT u L) L (1, 0)).2 + 1)
theorem measT_eq (t : Ty) (L : Int) : measT t L = ((measL (t.args.map measT) L (1, 0)).1, (measL (t.args.map measT) L (1, 0)).2 + 1) := by
  cases t; rw [measT]; rfl
theorem measL_bd : ∀ (fs : List (Int → Int × Int)) (L : Int) (s : Int × Int), 0 ≤ L → (∀ f ∈ fs, ∀ M, 0 ≤ M → M < L → 1 ≤ (f M).1 ∧ (f M).1 ≤ M + 1 ∧ 1 ≤ (f M).2 ∧ (f M).2 ≤ M + 1) → 1 ≤ s.1 → s.1 ≤ L + 1 → 0 ≤ s.2 → s.2 ≤ L →
    1 ≤ (measL fs L s).1 ∧ (measL fs L s).1 ≤ L + 1 ∧ 0 ≤ (measL fs L s).2 ∧ (measL fs L s).2 ≤ L
  | [], L, s, hL, _, h1, h2, h3, h4 => ⟨h1, h2, h3, h4⟩
  | f :: fs, L, s, hL, hf, h1, h2, h3, h4 => by
    unfold measL
    split
    · exact ⟨h1, h2, h3, h4⟩
    · rename_i hs
      have hs' : s.1 ≤ L := by have : ¬ s.1 > L := fun q => hs (decide_eq_true q); omega
      obtain ⟨q1, q2, q3, q4⟩ := hf f (List.mem_cons_self ..) (L - s.1) (by omega) (by omega)
      exact measL_bd fs L _ hL (fun g hg => hf g (List.mem_cons_of_mem _ hg)) (by simp only; omega) (by simp only; omega) (by simp only; omega) (by simp only; omega)
theorem measT_bd : ∀ (t : Ty) (L : Int), 0 ≤ L → 1 ≤ (measT t L).1 ∧ (measT t L).1 ≤ L + 1 ∧ 1 ≤ (measT t L).2 ∧ (measT t L).2 ≤ L + 1
  | .mk k i us, L, hL => by
    have := measL_bd (us.map fun u L => measT u L) L (1, 0) hL (fun f hf M h0 _ => by
      obtain ⟨u, hu, rfl⟩ := List.mem_map.1 hf
      exact measT_bd u M h0) (by simp) (by simp; omega) (by simp) (by simp; omega)
    rw [measT]
    simp only
    omega

def nwf (t : Ty) : Bool :=
  if decide (t.kind = 0) || decide (t.kind = 3) || decide (t.kind = 4) || decide (t.kind = 5) || decide (t.kind = 6) then decide (t.id = 0) && decide ((t.args.length : Int) = 0)
  else if decide (t.kind = 1) || decide (t.kind = 2) then decide (t.id ≥ 0) && decide ((t.args.length : Int) = 0)
  else if decide (t.kind = 7) then decide (t.id ≥ 0)
  else if decide (t.kind = 8) then (decide (t.id = 0) || decide (t.id = 1)) && decide ((t.args.length : Int) = 1)
  else if decide (t.kind = 9) then decide (t.id = 0) && decide ((t.args.length : Int) > 0)
  else if decide (t.kind = 10) then decide (t.id ≥ 0) && decide ((t.args.length : Int) = 1)
  else false
def wfT : Ty → Bool
  | .mk k i us => nwf (.mk k i us) && !((us.map fun u => wfT u).any (fun b => !b))
theorem wfT_eq (t : Ty) : wfT t = (nwf t && !(t.args.any fun u => !wfT u)) := by
  cases t; rw [wfT, List.any_map]; rfl
/-- What Validate answers. -/
def valT (t : Ty) : Int := if (decide ((measT t 100).1 > 100) || decide ((measT t 100).2 > 12)) = true then 2 else if (!wfT t) = true then 3 else 0

/-- The free variables, in order of first occurrence. -/
def afvL : List (List Int → List Int) → List Int → List Int
  | [], vs => vs
  | f :: fs, vs => afvL fs (f vs)
def afv : Ty → List Int → List Int
  | .mk k i us, vs => afvL (us.map fun u vs => afv u vs) (if (decide (k = 1) && !vs.any (fun x => decide (i = x))) = true then vs ++ [i] else vs)
theorem afv_eq (t : Ty) (vs : List Int) : afv t vs = afvL (t.args.map afv) (if (decide (t.kind = 1) && !vs.any (fun x => decide (t.id = x))) = true then vs ++ [t.id] else vs) := by
  cases t; rw [afv]; rfl
theorem afv_len : ∀ (t : Ty) (vs : List Int), vs.length ≤ (afv t vs).length ∧ (afv t vs).length ≤ vs.length + t.size
  | .mk k i us, vs => by
    have key : ∀ (us : List Ty), (∀ u ∈ us, ∀ vs : List Int, vs.length ≤ (afv u vs).length ∧ (afv u vs).length ≤ vs.length + u.size) → ∀ vs : List Int, vs.length ≤ (afvL (us.map fun u vs => afv u vs) vs).length ∧ (afvL (us.map fun u vs => afv u vs) vs).length ≤ vs.length + Ty.sizes us := by
      intro us
      induction us with
      | nil => intro _ vs; simp [afvL, Ty.sizes]
      | cons u us ih =>
        intro h vs
        have h1 := h u (List.mem_cons_self ..) vs
        have h2 := ih (fun u hu => h u (List.mem_cons_of_mem _ hu)) (afv u vs)
        simp only [List.map_cons, afvL, Ty.sizes]
        omega
    rw [afv]
    have := key us (fun u hu vs => afv_len u vs) (if (decide (k = 1) && !vs.any (fun x => decide (i = x))) = true then vs ++ [i] else vs)
    have hs : (Ty.mk k i us).size = 1 + Ty.sizes us := by simp [Ty.size]
    rw [hs]
    split at this
    · rename_i hq; rw [if_pos hq]; simp at this ⊢; omega
    · rename_i hq; rw [if_neg hq]; omega
end Go.Abs
namespace Go.Abs
theorem measL_nil (L : Int) (s : Int × Int) : measL [] L s = s := rfl
theorem measL_cons (f : Int → Int × Int) (fs : List (Int → Int × Int)) (L : Int) (s : Int × Int) : measL (f :: fs) L s = if decide (s.1 > L) = true then s else measL fs L (s.1 + (f (L - s.1)).1, max s.2 (f (L - s.1)).2) := rfl
theorem afvL_nil (vs : List Int) : afvL [] vs = vs := rfl
theorem afvL_cons (f : List Int → List Int) (fs : List (List Int → List Int)) (vs : List Int) : afvL (f :: fs) vs = afvL fs (f vs) := rfl
end Go.Abs
set_option linter.unusedVariables false
set_option linter.unusedSimpArgs false
namespace Go.Abs
/-! Reading bindings. -/
def BdD {H : Type} (b : Bd) (d : DataW H) : Prop := ∃ d1, d = .agg [.lit (.int .i64 b.v), d1] ∧ TyD b.t d1
structure BdAt (P : Program) (B T : TypeId) : Prop where
  st : ∃ f0 f1 : Field, P.underlying B = some (.struct #[f0, f1]) ∧ P.underlying f0.type = some (.int .i64) ∧ f1.type = T ∧ f0.offset = 0 ∧ f1.offset = 1 ∧ P.cellsOf f0.type = 1
  c : P.cellsOf B = 4
section
variable {H : Type} {enc : TypeId × Value → H} {P : Program} {W : World} {spare : Nat → Bool} {held : Bool} {B T S : TypeId}
theorem rd_bd (F : TyAt P T S) (G : BdAt P B T) (fuel : Nat) (cs : List Value) (x : DataW H × List MemPlace) (h : DataW.trod enc P W 0 spare held fuel B cs = some x) : ∃ b : Bd, RLl (env0 W).view cs b.enc.cells ∧ BdD b x.1 := by
  obtain ⟨f0, f1, hst, u0, e1, o0, o1, c0⟩ := G.st
  obtain ⟨ds, n, rfl, hx, hlen, hdl, hf⟩ := rd_fields hst h
  rw [G.c] at hlen
  match cs, hlen with
  | [v0, v1, v2, v3], _ =>
  obtain ⟨d0, p0, g0, r0⟩ := hf 0 f0 rfl
  obtain ⟨d1, p1, g1, r1⟩ := hf 1 f1 rfl
  rw [o0, c0] at r0
  rw [o1, e1, F.c] at r1
  obtain ⟨k, q0, rfl, w0, _⟩ := rd_int u0 r0
  obtain ⟨t, q1, w1⟩ := rd_ty F _ _ _ r1
  refine ⟨⟨k, t⟩, ?_, d1, ?_, w1⟩
  · have := RLl.app q0 q1
    rw [Ty.enc_cells] at this
    exact this
  · rw [hx]
    match ds, hdl with
    | [a, b], _ =>
      simp at g0 g1
      rw [g0, g1]
theorem bd_weights (F : TyAt P T S) (G : BdAt P B T) {b : Bd} {d : DataW H} (h : BdD b d) (hw : (d.weights P B).all (· ≤ reachBytes) = true) : b.t.W := by
  obtain ⟨d1, rfl, h1⟩ := h
  obtain ⟨f0, f1, hst, u0, e1, _⟩ := G.st
  simp only [DataW.weights, hst, DataW.weightsEach, List.map_cons, List.map_nil, e1, List.nil_append, List.append_nil] at hw
  exact ty_weights F h1 hw
end
end Go.Abs
set_option linter.unusedVariables false
set_option linter.unusedSimpArgs false
set_option maxRecDepth 4000
namespace Go.Abs
open Go.Proofs
theorem tyAt : TyAt Try.prog 24 22 := ⟨⟨_, _, _, Try.underlying24, Try.underlying3, Try.underlying3, rfl, rfl, rfl, rfl, by kernel_rfl, by kernel_rfl⟩, Try.underlying22, by kernel_rfl, by kernel_rfl, by kernel_rfl⟩
theorem rd_Ty {H : Type} {enc : TypeId × Value → H} {W : World} {spare : Nat → Bool} {held : Bool} (fuel : Nat) (cs : List Value) (x : DataW H × List MemPlace) (h : DataW.trod enc Try.prog W 0 spare held fuel 24 cs = some x) : ∃ t : Ty, RLl (env0 W).view cs t.enc.cells ∧ TyD t x.1 := rd_ty tyAt fuel cs x h
def TBD {H : Type} (t : TB) (d : DataW H) : Prop := ∃ d0, d = .agg [d0, .lit (.int .i64 t.tr)] ∧ TyD t.t d0
section
variable {H : Type} {enc : TypeId × Value → H} {W : World} {spare : Nat → Bool} {held : Bool}
theorem rd_TB (fuel : Nat) (cs : List Value) (x : DataW H × List MemPlace) (h : DataW.trod enc Try.prog W 0 spare held fuel 74 cs = some x) : ∃ t : TB, RLl (env0 W).view cs t.enc.cells ∧ TBD t x.1 := by
  obtain ⟨ds, n, rfl, hx, hlen, hdl, hf⟩ := rd_fields Try.underlying74 h
  rw [show Try.prog.cellsOf 74 = 4 from by kernel_rfl] at hlen
  match cs, hlen with
  | [v0, v1, v2, v3], _ =>
  obtain ⟨d0, p0, g0, r0⟩ := hf 0 _ rfl
  have r0 : DataW.trod enc Try.prog W 0 spare held n 24 [v0, v1, v2] = some (d0, p0) := by
    have e : Try.prog.cellsOf 24 = 3 := by kernel_rfl
    have r0 : DataW.trod enc Try.prog W 0 spare held n 24 (List.take (Try.prog.cellsOf 24) (List.drop 0 [v0, v1, v2, v3])) = some (d0, p0) := r0
    rw [e] at r0
    exact r0
  obtain ⟨a0, q0, hd0⟩ := rd_Ty _ _ _ r0
  rw [Ty.enc_cells] at q0
  obtain ⟨d1, p1, g1, r1⟩ := hf 1 _ rfl
  have r1 : DataW.trod enc Try.prog W 0 spare held n 3 [v3] = some (d1, p1) := by
    have e : Try.prog.cellsOf 3 = 1 := by kernel_rfl
    have r1 : DataW.trod enc Try.prog W 0 spare held n 3 (List.take (Try.prog.cellsOf 3) (List.drop 3 [v0, v1, v2, v3])) = some (d1, p1) := r1
    rw [e] at r1
    exact r1
  obtain ⟨a1, q1, rfl, _, _⟩ := rd_int Try.underlying3 r1
  refine ⟨TB.mk a0 a1, ?_, ?_⟩
  · rw [TB.enc_cells]
    exact (RLl.app q0 q1)
  · rw [hx]
    have e : ds = [d0, .lit (.int .i64 a1)] := by
      match ds, hdl with
      | [e0, e1], _ =>
        simp at g0 g1
        rw [g0, g1]
    rw [e]
    exact ⟨_, rfl, hd0⟩
theorem TB_weights {t : TB} {d : DataW H} (h : TBD t d) (hw : (d.weights Try.prog 74).all (· ≤ reachBytes) = true) : t.W := by
  have hb : reachBytes = 140737488351232 := rfl
  have hfl : ∀ (c : DataW H), True := fun _ => trivial
  obtain ⟨d0, rfl, k0⟩ := h
  simp only [DataW.weights, Try.underlying74, DataW.weightsEach, List.map_cons, List.map_nil, List.nil_append, List.append_nil, List.all_append, List.all_cons, List.all_nil, Bool.and_eq_true, Bool.and_true, decide_eq_true_eq] at hw
  have z0 := hw
  exact (ty_weights tyAt k0 z0)
end
def DcD {H : Type} (t : Dc) (d : DataW H) : Prop := ∃ d0 d1 d3 d4, d = .agg [d0, d1, .lit (.int .i64 t.tr), d3, d4] ∧ SlD (fun n d => d = .lit (.int .i64 n)) t.ps d0 ∧ TyD t.t d1 ∧ SlD TBD t.bs d3 ∧ SlD (fun n d => d = .lit (.int .i64 n)) t.ms d4
section
variable {H : Type} {enc : TypeId × Value → H} {W : World} {spare : Nat → Bool} {held : Bool}
theorem rd_Dc (fuel : Nat) (cs : List Value) (x : DataW H × List MemPlace) (h : DataW.trod enc Try.prog W 0 spare held fuel 71 cs = some x) : ∃ t : Dc, RLl (env0 W).view cs t.enc.cells ∧ DcD t x.1 := by
  obtain ⟨ds, n, rfl, hx, hlen, hdl, hf⟩ := rd_fields Try.underlying71 h
  rw [show Try.prog.cellsOf 71 = 7 from by kernel_rfl] at hlen
  match cs, hlen with
  | [v0, v1, v2, v3, v4, v5, v6], _ =>
  obtain ⟨d0, p0, g0, r0⟩ := hf 0 _ rfl
  have r0 : DataW.trod enc Try.prog W 0 spare held n 25 [v0] = some (d0, p0) := by
    have e : Try.prog.cellsOf 25 = 1 := by kernel_rfl
    have r0 : DataW.trod enc Try.prog W 0 spare held n 25 (List.take (Try.prog.cellsOf 25) (List.drop 0 [v0, v1, v2, v3, v4, v5, v6])) = some (d0, p0) := r0
    rw [e] at r0
    exact r0
  obtain ⟨a0, w0, hv0, hr0, hd0⟩ := rd_slice vint (fun n d => d = .lit (.int .i64 n)) Try.underlying25 (by intro a; kernel_rfl) r0 (fun m cs' x' hm h' => by obtain ⟨n, q, e, _, _⟩ := rd_int Try.underlying3 h'; exact ⟨n, q, e⟩)
  obtain rfl : v0 = w0 := by simpa using hv0
  have q0 : RLl (env0 W).view [v0] [_] := .cons hr0 .nil
  obtain ⟨d1, p1, g1, r1⟩ := hf 1 _ rfl
  have r1 : DataW.trod enc Try.prog W 0 spare held n 24 [v1, v2, v3] = some (d1, p1) := by
    have e : Try.prog.cellsOf 24 = 3 := by kernel_rfl
    have r1 : DataW.trod enc Try.prog W 0 spare held n 24 (List.take (Try.prog.cellsOf 24) (List.drop 1 [v0, v1, v2, v3, v4, v5, v6])) = some (d1, p1) := r1
    rw [e] at r1
    exact r1
  obtain ⟨a1, q1, hd1⟩ := rd_Ty _ _ _ r1
  rw [Ty.enc_cells] at q1
  obtain ⟨d2, p2, g2, r2⟩ := hf 2 _ rfl
  have r2 : DataW.trod enc Try.prog W 0 spare held n 3 [v4] = some (d2, p2) := by
    have e : Try.prog.cellsOf 3 = 1 := by kernel_rfl
    have r2 : DataW.trod enc Try.prog W 0 spare held n 3 (List.take (Try.prog.cellsOf 3) (List.drop 4 [v0, v1, v2, v3, v4, v5, v6])) = some (d2, p2) := r2
    rw [e] at r2
    exact r2
  obtain ⟨a2, q2, rfl, _, _⟩ := rd_int Try.underlying3 r2
  obtain ⟨d3, p3, g3, r3⟩ := hf 3 _ rfl
  have r3 : DataW.trod enc Try.prog W 0 spare held n 60 [v5] = some (d3, p3) := by
    have e : Try.prog.cellsOf 60 = 1 := by kernel_rfl
    have r3 : DataW.trod enc Try.prog W 0 spare held n 60 (List.take (Try.prog.cellsOf 60) (List.drop 5 [v0, v1, v2, v3, v4, v5, v6])) = some (d3, p3) := r3
    rw [e] at r3
    exact r3
  obtain ⟨a3, w3, hv3, hr3, hd3⟩ := rd_slice TB.enc TBD Try.underlying60 (by intro a; rw [TB.enc_len]; kernel_rfl) r3 (fun m cs' x' hm h' => rd_TB m cs' x' h')
  obtain rfl : v5 = w3 := by simpa using hv3
  have q3 : RLl (env0 W).view [v5] [_] := .cons hr3 .nil
  obtain ⟨d4, p4, g4, r4⟩ := hf 4 _ rfl
  have r4 : DataW.trod enc Try.prog W 0 spare held n 25 [v6] = some (d4, p4) := by
    have e : Try.prog.cellsOf 25 = 1 := by kernel_rfl
    have r4 : DataW.trod enc Try.prog W 0 spare held n 25 (List.take (Try.prog.cellsOf 25) (List.drop 6 [v0, v1, v2, v3, v4, v5, v6])) = some (d4, p4) := r4
    rw [e] at r4
    exact r4
  obtain ⟨a4, w4, hv4, hr4, hd4⟩ := rd_slice vint (fun n d => d = .lit (.int .i64 n)) Try.underlying25 (by intro a; kernel_rfl) r4 (fun m cs' x' hm h' => by obtain ⟨n, q, e, _, _⟩ := rd_int Try.underlying3 h'; exact ⟨n, q, e⟩)
  obtain rfl : v6 = w4 := by simpa using hv4
  have q4 : RLl (env0 W).view [v6] [_] := .cons hr4 .nil
  refine ⟨Dc.mk a0 a1 a2 a3 a4, ?_, ?_⟩
  · rw [Dc.enc_cells]
    exact (RLl.app q0 (RLl.app q1 (RLl.app q2 (RLl.app q3 q4))))
  · rw [hx]
    have e : ds = [d0, d1, .lit (.int .i64 a2), d3, d4] := by
      match ds, hdl with
      | [e0, e1, e2, e3, e4], _ =>
        simp at g0 g1 g2 g3 g4
        rw [g0, g1, g2, g3, g4]
    rw [e]
    exact ⟨_, _, _, _, rfl, hd0, hd1, hd3, hd4⟩
theorem Dc_weights {t : Dc} {d : DataW H} (h : DcD t d) (hw : (d.weights Try.prog 71).all (· ≤ reachBytes) = true) : t.W := by
  have hb : reachBytes = 140737488351232 := rfl
  have hfl : ∀ (c : DataW H), True := fun _ => trivial
  obtain ⟨d0, d1, d3, d4, rfl, k0, k1, k3, k4⟩ := h
  simp only [DataW.weights, Try.underlying71, DataW.weightsEach, List.map_cons, List.map_nil, List.nil_append, List.append_nil, List.all_append, List.all_cons, List.all_nil, Bool.and_eq_true, Bool.and_true, decide_eq_true_eq] at hw
  obtain ⟨z0, z1, z3, z4⟩ := hw
  have m0 := sl_weights Try.underlying25 k0 z0
  have m3 := sl_weights Try.underlying60 k3 z3
  have m4 := sl_weights Try.underlying25 k4 z4
  exact ⟨(by
      have e : Try.prog.bytesOf 3 = 8 := by kernel_rfl
      have := m0.1; rw [e] at this; omega), (ty_weights tyAt k1 z1), (by
      have e : Try.prog.bytesOf 74 = 48 := by kernel_rfl
      have := m3.1; rw [e] at this; omega), (fun u hu => by
      obtain ⟨e, h1, h2⟩ := m3.2 u hu
      exact TB_weights h1 h2), (by
      have e : Try.prog.bytesOf 3 = 8 := by kernel_rfl
      have := m4.1; rw [e] at this; omega)⟩
end
end Go.Abs
set_option linter.unusedVariables false
namespace Go.Abs
theorem strip (r : List (List Char)) : stripLifts liftWords ("cut".toList :: r) = ([], "cut".toList :: r) := by
  simp only [liftWords]
  repeat (rw [stripLifts, if_neg (by decide)])
  rfl
theorem mayEnter_of {P : Program} {r : List (List Char)} (h : behindMainWord (wordsSigns P.initOrder.toList) = "cut".toList :: r) (h1 : P.laysLater = false) (h2 : P.bearsReflect = false) (h3 : P.doorFits [] = true) : P.mayEnter = true := by
  unfold Program.mayEnter
  rw [h]
  simp only [strip, h1, h2, h3]
  rfl
theorem headLifts_of {P : Program} {r : List (List Char)} (h : behindMainWord (wordsSigns P.initOrder.toList) = "cut".toList :: r) : P.headLifts = [] := by
  unfold Program.headLifts
  rw [h, strip]
  rfl
theorem liftsFinal_of {P : Program} {r : List (List Char)} (h : behindMainWord (wordsSigns P.initOrder.toList) = "cut".toList :: r) : P.liftsFinal = false := by
  unfold Program.liftsFinal
  rw [headLifts_of h, h]
  rfl
theorem make_of {P : Program} {r : List (List Char)} (h : behindMainWord (wordsSigns P.initOrder.toList) = "cut".toList :: r) : P.make = some .cut := by
  unfold Program.make
  rw [h]
  rfl
def sg (l : List Nat) : List Char := l.map Char.ofNat
theorem words_cons (c : Char) (r : List Char) (h : (c == Char.ofNat 32) = false) : wordsSigns (c :: r) = match wordsSigns r with | w :: ws => (c :: w) :: ws | [] => [[c]] := by
  rw [wordsSigns]
  · rfl
  · intro e
    subst e
    simp at h
theorem words_word : ∀ (w r : List Char), w.all (fun c => !(c == Char.ofNat 32)) = true → wordsSigns (w ++ Char.ofNat 32 :: r) = w :: wordsSigns r
  | [], r, _ => by rfl
  | c :: w, r, h => by
    simp only [List.all_cons, Bool.and_eq_true, Bool.not_eq_true'] at h
    rw [List.cons_append, words_cons c _ h.1, words_word w r h.2]
/-- The head of a cut: 'harness', a sum, 'cut'. -/
theorem behind_of {P : Program} {a b c r : List Char} (hio : P.initOrder = String.ofList (a ++ Char.ofNat 32 :: (b ++ Char.ofNat 32 :: (c ++ Char.ofNat 32 :: r)))) (ha : a.all (fun c => !(c == Char.ofNat 32)) = true) (hb : b.all (fun c => !(c == Char.ofNat 32)) = true) (hc : c.all (fun c => !(c == Char.ofNat 32)) = true)
    (h : ((a == "harness".toList || a == "ownmain".toList) && isSumSigns b) = true) (hc2 : c = "cut".toList) : behindMainWord (wordsSigns P.initOrder.toList) = "cut".toList :: wordsSigns r := by
  rw [hio, String.toList_ofList, words_word _ _ ha, words_word _ _ hb, words_word _ _ hc]
  simp only [behindMainWord]
  rw [if_pos h, hc2]
end Go.Abs
